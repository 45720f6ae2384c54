/- slots: the law SlotsStops, walked. -/
import Derived.Test.YtkipejhjpfakpaaSt13
import Derived.Test.YtkipejhjpfakpaaSt16
import Derived.Test.YtkipejhjpfakpaaInS
import Derived.Test.YtkipejhjpfakpaaSv1
import Derived.Test.YtkipejhjpfakpaaOb
namespace Go.Proofs.Ytkipejhjpfakpaa
open Go.RowKit

theorem i64_toNat (x : Int) : (BitVec.ofInt 64 x).toNat = (x % 18446744073709551616).toNat := by
  rw [BitVec.toNat_ofInt]
  rfl

/-- The lowest bits of a number, that may be below nought. -/
theorem and_i64_mask (x : Int) (k : Nat) (hk : k ≤ 62) (M : Int) (hM : M = 2 ^ k - 1) : bits .and .i64 x M = x % 2 ^ k := by
  have hp : (2 : Nat) ^ k ≤ 2 ^ 62 := Nat.pow_le_pow_right (by decide) hk
  have hp1 : 0 < (2 : Nat) ^ k := Nat.pow_pos (by decide)
  have e2 : M = ((2 ^ k - 1 : Nat) : Int) := by rw [hM, Int.ofNat_sub hp1]; simp
  have h2 : (BitVec.ofInt 64 M).toNat = 2 ^ k - 1 := by
    rw [e2, BitVec.ofInt_natCast, BitVec.toNat_ofNat]; exact Nat.mod_eq_of_lt (by omega)
  show IntKind.i64.wrap ((BitVec.ofInt 64 x &&& BitVec.ofInt 64 M).toNat : Int) = _
  rw [BitVec.toNat_and, h2, Nat.and_two_pow_sub_one_eq_mod, i64_toNat]
  have h3 : 0 ≤ x % 18446744073709551616 := Int.emod_nonneg _ (by decide)
  have e5 : ((2 ^ k : Nat) : Int) = 2 ^ k := by simp
  have hpos : (0 : Int) < 2 ^ k := by rw [← e5]; exact Int.ofNat_lt.2 hp1
  have hlt : (2 : Int) ^ k ≤ 4611686018427387904 := by rw [← e5]; exact Int.ofNat_le.2 hp
  have e4 : (((x % 18446744073709551616).toNat % 2 ^ k : Nat) : Int) = x % 2 ^ k := by
    rw [Int.natCast_emod, Int.toNat_of_nonneg h3]
    have hd : (2 : Int) ^ k ∣ 18446744073709551616 := by
      refine ⟨2 ^ (64 - k), ?_⟩
      rw [← Int.pow_add, show k + (64 - k) = 64 by omega]; rfl
    rw [e5, Int.emod_emod_of_dvd _ hd]
  rw [e4]
  have h5 := Int.emod_nonneg x (Int.ne_of_gt hpos)
  have h6 := Int.emod_lt_of_pos x hpos
  exact i64_in (by omega)

theorem and_1023 (x : Int) : bits .and .i64 x 1023 = x % 1024 := and_i64_mask x 10 (by decide) 1023 (by decide)
theorem and_255 (x : Int) : bits .and .i64 x 255 = x % 256 := and_i64_mask x 8 (by decide) 255 (by decide)

/-- The state that has these numbers revoked, and nothing else. -/
def stS (L : List Int) : Stt := { newS with rev := L }
/-- Rising, each below 1024, at most 32. -/
structure Ris (L : List Int) : Prop where
  len : L.length ≤ 32
  lo : ∀ i (h : i < L.length), 0 ≤ L[i] ∧ L[i] ≤ 1023
  up : ∀ i (h : i < L.length) (h0 : 0 < i), L[i - 1] < L[i]
theorem Ris.may {L : List Int} (h : Ris L) : mayP (stS L) := by
  refine ⟨(show numB 0 = true by decide), h.len, (show (-1 : Int) ≤ -1 by decide), (show (-1 : Int) ≤ 1 by decide), ?_, (fun h => by cases h), (fun h => by cases h), (show slotB [] false 0 = true by decide), (show slotB [] false 0 = true by decide)⟩
  intro i hi _
  have := h.lo i hi
  exact ⟨numB_iff.2 (show 0 ≤ L[i] ∧ L[i] ≤ 2147483647 from by omega), fun h0 => h.up i hi h0⟩
theorem Ris.lt {L : List Int} (h : Ris L) {i j : Nat} (hij : i < j) (hj : j < L.length) : L[i] < L[j] := by
  induction j with
  | zero => omega
  | succ j ih =>
    have h1 := h.up (j + 1) hj (by omega)
    by_cases e : i = j
    · subst e; exact h1
    · exact Int.lt_trans (ih (by omega) (by omega)) h1
theorem Ris.ins {L : List Int} (h : Ris L) {k : Nat} {x : Int} (hx : 0 ≤ x ∧ x ≤ 1023) (hk : k ≤ L.length) (hl : L.length < 32) (h1 : ∀ i (h : i < L.length), i < k → L[i] < x) (h2 : ∀ i (h : i < L.length), k ≤ i → x < L[i]) : Ris (insL L k x) := by
  have hlen : (insL L k x).length = L.length + 1 := insL_len hk
  have hget : ∀ i (hi : i < (insL L k x).length), (insL L k x)[i] = if h : i < k then L[i]'(by omega) else if h2 : i = k then x else L[i - 1]'(by omega) := by
    intro i hi
    have hi2 : i < (L.take k ++ x :: L.drop k).length := hi
    show (L.take k ++ x :: L.drop k)[i]'hi2 = _
    rw [List.getElem_append]
    split
    · rename_i h3
      rw [List.length_take] at h3
      rw [dif_pos (by omega), List.getElem_take]
    · rename_i h3
      rw [List.length_take] at h3
      rw [dif_neg (by omega), List.getElem_cons]
      simp only [List.length_take]
      split
      · rename_i h4
        rw [dif_pos (by omega)]
      · rename_i h4
        rw [dif_neg (by omega), List.getElem_drop]
        congr 1
        omega
  refine ⟨by omega, fun i hi => ?_, fun i hi h0 => ?_⟩
  · rw [hget i hi]
    split
    · exact h.lo _ _
    · split
      · exact hx
      · exact h.lo _ _
  · rw [hget i hi, hget (i - 1) (by omega)]
    by_cases a : i < k
    · rw [dif_pos a, dif_pos (by omega)]
      exact h.up i (by omega) h0
    · rw [dif_neg a]
      by_cases b : i = k
      · rw [dif_pos b, dif_pos (by omega)]
        exact h1 _ _ (by omega)
      · rw [dif_neg b, dif_neg (by omega)]
        by_cases c : i - 1 = k
        · rw [dif_pos c]
          exact h2 _ _ (by omega)
        · rw [dif_neg c]
          exact h.up (i - 1) (by omega) (by omega)

theorem revoke_there {L : List Int} (h : Ris L) {x : Int} (hx : 0 ≤ x ∧ x ≤ 1023) (hc : x ∈ L) : revokeS (stS L) x = (stS L, 0) := by
  unfold revokeS
  rw [mayB_of h.may, show numB x = true by rw [numB_iff]; omega]
  rw [Bool.and_self, if_pos rfl, if_pos (show (stS L).rev.contains x = true by simpa [stS] using hc)]
theorem revoke_full {L : List Int} (h : Ris L) {x : Int} (hx : 0 ≤ x ∧ x ≤ 1023) (hc : x ∉ L) (hl : 32 ≤ L.length) : revokeS (stS L) x = (zeroS, 3) := by
  unfold revokeS
  rw [mayB_of h.may, show numB x = true by rw [numB_iff]; omega]
  rw [Bool.and_self, if_pos rfl, if_neg (show ¬ (stS L).rev.contains x = true by simpa [stS] using hc), if_pos (show 32 ≤ (stS L).rev.length from hl)]
theorem revoke_new {L : List Int} (h : Ris L) {x : Int} (hx : 0 ≤ x ∧ x ≤ 1023) (hc : x ∉ L) (hl : L.length < 32) {k : Nat} (hk : k ≤ L.length) (h1 : ∀ i (h : i < L.length), i < k → L[i] < x) (h2 : ∀ i (h : i < L.length), k ≤ i → x < L[i]) : revokeS (stS L) x = (stS (insL L k x), 0) := by
  unfold revokeS
  rw [mayB_of h.may, show numB x = true by rw [numB_iff]; omega]
  rw [Bool.and_self, if_pos rfl, if_neg (show ¬ (stS L).rev.contains x = true by simpa [stS] using hc), if_neg (show ¬ 32 ≤ (stS L).rev.length from by show ¬ 32 ≤ L.length; omega)]
  have := count_of hk h1 h2
  show (({ newS with rev := insL L (L.countP (fun y => decide (y < x))) x } : Stt), (0 : Int)) = _
  rw [this]
  rfl

/-- The beginning of a row of one's own is one. -/
theorem own_take {w : World} {B : Nat} {e : TypeId} {a : Option Addr} {n c k : Nat} {xs : List Value} (h : w.ownsRow B e 1 (.slice a n c) n xs) (hk : k ≤ n) : w.ownsRow B e 1 (.slice a k c) k (xs.take k) := by
  obtain ⟨h1, h2⟩ := h
  refine ⟨by rw [List.length_take]; omega, ?_⟩
  rcases h2 with ⟨h3, h4⟩ | ⟨g, cap, cur, h3, h4, h5, h6, h7, h8, h9⟩
  · simp only [Value.slice.injEq] at h3
    obtain ⟨rfl, -, rfl⟩ := h3
    exact .inl ⟨by rw [show k = 0 by omega], by omega⟩
  · simp only [Value.slice.injEq] at h3
    obtain ⟨rfl, -, rfl⟩ := h3
    refine .inr ⟨g, c, cur, rfl, h4, h5, by omega, h7, h8, ?_⟩
    rw [← h9, List.take_take]
    congr 1
    omega

theorem own_at2 {w : World} {B n j c : Nat} {e : TypeId} {a : Option Addr} {xs : List Value} (h : w.ownsRow B e 1 (.slice a n c) n xs) (hj : j < n) : ∃ g, a = some ⟨g, 0, none⟩ ∧ B ≤ g := by
  rcases id h.2 with ⟨-, h0⟩ | ⟨g, cap, cur, he, hb, _⟩
  · omega
  · simp only [Value.slice.injEq] at he
    obtain ⟨rfl, -, -⟩ := he
    exact ⟨g, rfl, hb⟩

/-- What follows the k-th of a slice, of whatever one-cell values. -/
theorem Sl.midG {w : World} {a : Option Addr} {n c k : Nat} {xs : List Value} (h : Sl w (.slice a n c) xs) (hk : k ≤ xs.length) : Sl w (.slice (if c = k then a else a.map (·.add k)) (xs.length - k) (c - k)) (xs.drop k) := by
  obtain ⟨a', c', h1, h2, h3, h4, h5⟩ := h
  simp only [Value.slice.injEq] at h1
  obtain ⟨rfl, rfl, rfl⟩ := h1
  have hl : (xs.drop k).length = xs.length - k := List.length_drop
  refine ⟨_, c - k, by rw [hl], by rw [hl]; omega, by omega, fun e => ?_, fun x hx j u hu => ?_⟩
  · split at e
    · omega
    · cases a with
      | none => have := h4 rfl; omega
      | some y => cases e
  · have hj : j < xs.length - k := by
      have := (List.getElem?_eq_some_iff.1 hu).1
      rwa [hl] at this
    rw [if_neg (by omega)] at hx
    cases a with
    | none => cases hx
    | some y =>
      simp only [Option.map_some, Option.some.injEq] at hx
      subst hx
      rw [Addr.add_add]
      refine h5 y rfl (k + j) u ?_
      rw [← hu]
      simp

/-- Two steps, of which the second one writes the same block, or one that the first one made. -/
theorem gr_comp {w w1 w2 : World} {r s : Option Nat} {N : Nat} (h1 : w.grownBy w1 r) (h2 : w1.grownBy w2 s) (hs : s = r ∨ s = some N) (hN : w.heap.size ≤ N) : w.grownBy w2 r :=
  ⟨h2.os.trans h1.os, h2.tape.trans h1.tape, h2.output.trans h1.output, Nat.le_trans h1.size h2.size, fun k hk hn => by
    rw [h2.block k (Nat.lt_of_lt_of_le hk h1.size) ?_, h1.block k hk hn]
    rcases hs with rfl | rfl
    · exact hn
    · intro e
      cases e
      omega⟩
theorem arr_off {w w' : World} {g : Nat} {row : Option Nat} {xs : List Value} (h : Arr w g xs) (hg : w.grownBy w' row) (hr : ∀ b, row = some b → b ≠ g) : Arr w' g xs := by
  have := h.lt
  obtain ⟨T, h⟩ := h
  exact ⟨T, by rw [hg.block g this (fun e => hr g e.symm rfl)]; exact h⟩
theorem own_off {w w' : World} {base : Nat} {e : TypeId} {v : Value} {n : Nat} {xs : List Value} {row : Option Nat} (h : w.ownsRow base e 1 v n xs) (hg : w.grownBy w' row) (hr : ∀ b, row = some b → b < base) : w'.ownsRow base e 1 v n xs :=
  h.kept hg (by
    cases hv : v.ownBlock with
    | none => exact .inl rfl
    | some k =>
      right
      intro e
      have := (h.lt k hv).1
      have := hr k e.symm
      omega)
theorem stOwn_off {w w' : World} {base : Nat} {S : Stt} {v : Sv} {row : Option Nat} (h : StOwn base w S v) (hg : w.grownBy w' row) (hr : ∀ b, row = some b → b < base) : StOwn base w' S v := ⟨own_off h.rv hg hr, own_off h.m0 hg hr, own_off h.m1 hg hr⟩
theorem own_sh {w : World} {B n c : Nat} {e : TypeId} {a : Option Addr} {xs : List Value} (h : w.ownsRow B e 1 (.slice a n c) n xs) : (a = none ∧ c = 0 ∧ n = 0) ∨ ∃ g, a = some ⟨g, 0, none⟩ ∧ B ≤ g := by
  rcases h.2 with ⟨h3, h4⟩ | ⟨g', cap', cur, h3, h4, h5, h6, h7, h8, h9⟩
  · simp only [Value.slice.injEq] at h3
    obtain ⟨rfl, rfl, rfl⟩ := h3
    exact .inl ⟨rfl, rfl, rfl⟩
  · simp only [Value.slice.injEq] at h3
    obtain ⟨rfl, -, -⟩ := h3
    exact .inr ⟨g', rfl, h4⟩
theorem sl_one (x : Int) : ∀ u ∈ [Value.int .i64 x], u.oneCell' = true := by
  intro u hu
  simp only [List.mem_singleton] at hu
  subst hu
  rfl





set_option maxHeartbeats 4000000 in
set_option maxRecDepth 100000 in
theorem slotsStops_walk (a : Option Addr) (cap : Nat) (ids : List Int) (w : World) (h : Sl w (.slice a ids.length cap) (ints ids)) :
    Calls Try.prog 7 #[.slice a ids.length cap] w fun e w' => e = .returned (.bool true) ∧ Below w.heap.size w w' := by
  have hs := Lib.hid h
  have hs0 := Lib.hid h
  clear h
  go_enter Try.func7, Try.ntmps7
  go_wp2_with fail
  refine (alive_any _).mono ?_
  rintro e w1 ⟨rfl, hb⟩
  have kb := hb
  clear hb
  by_cases hl : 60 < ids.length
  · have dl : decide ((60 : Int) < (ids.length : Int)) = true := decide_eq_true (by omega)
    go_wp2_with fail
    go_ret
    exact ⟨rfl, kb⟩
  have dl : decide ((60 : Int) < (ids.length : Int)) = false := decide_eq_false (by omega)
  go_wp2_with fail
  refine (new_any _).mono ?_
  rintro e w2 ⟨v2, rfl, o2, hb⟩
  have kb := bel kb hb
  have o2 := Lib.hid o2
  clear hb
  go_upto_region 5 with (first | (refine wpl_storeG rfl _ _ _ rfl _ _ rfl rfl _ (Arr.new _ _ _) (by kernel_rfl) rfl o2.out.ok.one (fun W3 k4 hg hsz => ?_)))
  have hb := below_new hg
  have kb := bel kb hb
  have o2 := Lib.hid (o2.out.ok.below hb)
  have hlt := k4.lt
  obtain ⟨g4, hg4⟩ : ∃ g, w2.heap.size = g := ⟨_, rfl⟩
  rw [hg4] at k4 hlt ⊢
  have hs := Lib.hid (hs.out.below kb)
  obtain ⟨B, hB⟩ : ∃ B, W3.heap.size = B := ⟨_, rfl⟩
  have hwB : w.heap.size ≤ B := by rw [← hB]; exact kb.size
  rw [hB] at hlt
  have hB' : B ≤ W3.heap.size := by omega
  have hwg4 : w.heap.size ≤ g4 := by rw [← hg4]; exact (by assumption : Below w.heap.size w w2).size
  clear hg hsz hb hg4 hB
  obtain ⟨ti, hti, htz0, htz1, htz2⟩ := info_parts info_int
  have ris0 : Ris [] := ⟨by decide, fun i h => absurd h (by simp), fun i h => absurd h (by simp)⟩
  go_wp2_with fail
  go_loopw [6, 5] (fun iv wv wr => ∃ (i : Nat) (L : List Int) (v : Sv), i ≤ ids.length ∧ iv = .int .i64 i ∧ Ris L ∧ wr.ownsRow B 3 1 wv L.length (ints L) ∧ Arr wr g4 ((stS L).cs v) ∧ StOk wr (stS L) v ∧ Below w.heap.size w wr ∧ B ≤ wr.heap.size) (fun iv _ _ => ids.length - (intOf iv).toNat)
  case atStart => exact ⟨0, [], v2, Nat.zero_le _, rfl, ris0, World.ownsRow_nil _ _ _ _, k4, o2.out, kb, hB'⟩
  case round =>
    clear k4 o2 kb ris0
    obtain ⟨i, L, v, hi, rfl, ris, ow, k4, o2, kb, hB'⟩ := hrel
    have o2 := Lib.hid o2
    have ris := Lib.hid ris
    have hs := Lib.hid (hs0.out.below kb)
    obtain ⟨aw, cw, rfl⟩ := own_shape ow
    have ow := Lib.hid ow
    by_cases hin : i < ids.length
    rotate_left
    · have dj : decide ((i : Int) < (ids.length : Int)) = false := decide_eq_false (by omega)
      go_wp2_with fail
      go_ret
      exact ⟨rfl, kb⟩
    obtain ⟨ai, oi, hai, hx0⟩ : ∃ b o, a = some b ∧ Cells wr b (ints ids) ∧ o = 0 := by
      obtain ⟨a', c', h1, h2, h3, h4, h5⟩ := id hs.out
      simp only [Value.slice.injEq] at h1
      obtain ⟨rfl, -, -⟩ := h1
      cases a with
      | none => have := h4 rfl; rw [ints_len] at h2; omega
      | some x => exact ⟨x, 0, rfl, h5 x rfl, rfl⟩
    subst hai
    obtain ⟨hcs, -⟩ := hx0
    have hcell := hcs i (.int .i64 ids[i]) (by simp [ints, List.getElem?_eq_getElem hin])
    have hi0 : (0 : Int) ≤ (i : Int) := by omega
    have hi1 : (i : Int) < (ids.length : Int) := by omega
    obtain ⟨x, hx⟩ : ∃ x, bits .and .i64 ids[i] 1023 = x := ⟨_, rfl⟩
    have hxr : 0 ≤ x ∧ x ≤ 1023 := by
      rw [and_1023] at hx
      have := Int.emod_nonneg ids[i] (show (1024 : Int) ≠ 0 by decide)
      have := Int.emod_lt_of_pos ids[i] (show (0 : Int) < 1024 by decide)
      omega
    obtain ⟨y, hy⟩ : ∃ y, ids[i] = y := ⟨_, rfl⟩
    rw [hy] at hcell hx
    clear hcs hy
    go_wp2_with (first | (refine wpList_load_arr2 rfl _ _ rfl _ rfl (by decide +kernel) _ (by assumption) (by first | (rw [lims_len]; kernel_rfl) | (rw [el_rep]; kernel_rfl) | (rw [el_len]; kernel_rfl) | (rw [byts_len]; kernel_rfl) | (rw [us_len]; kernel_rfl) | (rw [bytn_len]; kernel_rfl) | (rw [ens_len, digs_len]; kernel_rfl) | kernel_rfl) ?_) | fail)
    obtain ⟨⟨R, er⟩, hR⟩ : ∃ p, revokeS (stS L) x = p := ⟨_, rfl⟩
    have hR := Lib.hid hR
    have howlt := Lib.hid ow.out.lt
    refine (revoke_any (stS L) v x _ o2.out).mono ?_
    rw [hR.out]
    rintro e w5 ⟨v8, rfl, o8, hb⟩
    replace o8 := Lib.hid o8
    have k4 := k4.below hb
    have ow := Lib.hid (own_below ow.out hb)
    have kb := bel kb hb
    have hN8 : wr.heap.size ≤ w5.heap.size := hb.size
    replace o2 := Lib.hid (o2.out.below hb)
    clear hb hcell
    simp only at o8 ⊢
    go_upto_region 11 with (first | (refine wpl_storeG rfl _ _ _ rfl _ _ rfl rfl _ (Arr.new _ _ _) (by kernel_rfl) rfl o8.out.ok.one (fun W8 k8 hg hsz => ?_)))
    have hb := below_new hg
    have k4 := k4.below hb
    have ow := Lib.hid (own_below ow.out hb)
    replace o8 := Lib.hid (o8.out.below hb)
    replace o2 := Lib.hid (o2.out.below hb)
    have kb := bel kb hb
    have hB8 : B ≤ W8.heap.size := Nat.le_trans hB' (Nat.le_trans hN8 hb.size)
    obtain ⟨g8, hg8⟩ : ∃ g, w5.heap.size = g := ⟨_, rfl⟩
    rw [hg8] at k8 hN8 ⊢
    clear hg hsz hb hg8
    have hL32 := ris.out.len
    go_upto_block 2 with fail
    go_cut [10] from 24 to 118 (fun kv wc => ∃ k : Nat, k ≤ L.length ∧ kv = .int .i64 k ∧ (∀ j (h : j < L.length), j < k → L[j] < x) ∧ (∀ h : k < L.length, x ≤ L[k]) ∧ wc = W8)
    case first =>
      go_wp2_with fail
      go_loopw [10] (fun kv wc => ∃ k : Nat, k ≤ L.length ∧ kv = .int .i64 k ∧ (∀ j (h : j < L.length), j < k → L[j] < x) ∧ wc = W8) (fun kv _ => L.length - (intOf kv).toNat)
      case atStart => exact ⟨0, Nat.zero_le _, rfl, fun j _ h => absurd h (by omega), rfl⟩
      case round =>
        obtain ⟨k, hk, rfl, hlow, rfl⟩ := hrel
        have hlow := Lib.hid hlow
        by_cases hkn : k < L.length
        · obtain ⟨gw, haw, hgw⟩ := own_at2 ow.out hkn
          subst haw
          have hcx : wr.cell? ⟨gw, k, none⟩ = some (.int .i64 L[k]) := own_cell ow.out (by simp [ints, List.getElem?_eq_getElem hkn])
          obtain ⟨y, hy⟩ : ∃ y, L[k] = y := ⟨_, rfl⟩
          rw [hy] at hcx
          have hy := Lib.hid hy
          have hk0 : (0 : Int) ≤ (k : Int) := by omega
          have hk1 : (k : Int) < (L.length : Int) := by omega
          by_cases hyx : y < x
          · go_wp2_with fail
            exact ⟨⟨k + 1, by omega, by go_num, fun j h hj => by
              by_cases e : j < k
              · exact hlow.out j h e
              · obtain rfl : j = k := by omega
                rw [hy.out]; exact hyx, trivial⟩, by simp [intOf]; omega⟩
          · have dy : decide (y < x) = false := decide_eq_false hyx
            go_wp2_with fail
            go_meet
            case rel => exact ⟨k, hk, rfl, hlow.out, fun h => by rw [hy.out]; omega, rfl⟩
        · have dk : decide ((k : Int) < (L.length : Int)) = false := decide_eq_false (by omega)
          go_wp2_with fail
          go_meet
          case rel => exact ⟨k, hk, rfl, hlow.out, fun h => absurd h hkn, rfl⟩
    case rest =>
      obtain ⟨k, hk, rfl, hlow, hhi, rfl⟩ := hcut
      by_cases hth : ∃ h : k < L.length, L[k] = x
      · obtain ⟨hkn, hkx⟩ := hth
        have hRR := hR.out
        rw [revoke_there ris.out hxr (by rw [← hkx]; exact List.getElem_mem hkn)] at hRR
        obtain ⟨rfl, rfl⟩ := Prod.mk.inj hRR
        obtain ⟨gw, haw, hgw⟩ := own_at2 ow.out hkn
        subst haw
        have hcx : wc.cell? ⟨gw, k, none⟩ = some (.int .i64 x) := own_cell ow.out (by simp [ints, List.getElem?_eq_getElem hkn, hkx])
        have hk0 : (0 : Int) ≤ (k : Int) := by omega
        have hk1 : (k : Int) < (L.length : Int) := by omega
        clear hRR hlow hhi
        have risL := ris
        go_wp2_with fail
        refine (num_any _ _).mono ?_
        rintro e w12 ⟨rfl, hw⟩
        rw [hw]
        clear hw w12
        obtain ⟨vr8, m08, m18⟩ := v8
        obtain ⟨ar, cr, er1⟩ : ∃ a c, vr8 = .slice a L.length c := own_shape o8.out.rv
        subst er1
        have x1 := k8.cell (j := 1) rfl
        go_upto_region 24 with (first | (refine wpList_load_arr2 rfl _ _ rfl _ rfl (by decide +kernel) _ (by assumption) (by first | (rw [lims_len]; kernel_rfl) | (rw [el_rep]; kernel_rfl) | (rw [el_len]; kernel_rfl) | (rw [byts_len]; kernel_rfl) | (rw [us_len]; kernel_rfl) | (rw [bytn_len]; kernel_rfl) | (rw [ens_len, digs_len]; kernel_rfl) | kernel_rfl) ?_) | (refine wpl_storeG rfl _ _ _ rfl _ _ rfl rfl _ k4 (by kernel_rfl) rfl o8.out.ok.one (fun W9 k4 hg hsz => ?_)))
        have kb := below_gr kb hg hwg4 kb.size
        have ow := Lib.hid (own_grown ow.out hg hlt)
        replace o8 := Lib.hid (o8.out.grown hg (by omega))
        have hB8 : B ≤ W9.heap.size := by omega
        clear hg hsz x1 k8
        first | clear hcx | skip
        go_wp2_with fail
        go_loopw [13] (fun jv wq => ∃ j : Nat, j ≤ L.length ∧ jv = .int .i64 j ∧ Below W9.heap.size W9 wq) (fun jv _ => L.length - (intOf jv).toNat)
        case atStart => exact ⟨0, Nat.zero_le _, rfl, Below.refl _ _⟩
        case round =>
          obtain ⟨j, hj, rfl, hbq⟩ := hrel
          by_cases hjn : j < L.length
          · obtain ⟨g1, ha1, hg1⟩ := own_at2 ow.out hjn
            obtain ⟨g2, ha2, hg2⟩ := own_at2 o8.out.rv hjn
            subst ha2
            cases ha1
            have z1 := (k4.below hbq).cell (j := 1) rfl
            have z2 : wr.cell? ⟨gw, j, none⟩ = some (.int .i64 L[j]) := own_cell (own_below ow.out hbq) (by simp [ints, List.getElem?_eq_getElem hjn])
            have z3 : wr.cell? ⟨g2, j, none⟩ = some (.int .i64 L[j]) := own_cell (own_below o8.out.rv hbq) (by simp [ints, stS, List.getElem?_eq_getElem hjn])
            obtain ⟨y, hy⟩ : ∃ y, L[j] = y := ⟨_, rfl⟩
            rw [hy] at z2 z3
            clear hy
            have hj0 : (0 : Int) ≤ (j : Int) := by omega
            have hj1 : (j : Int) < (L.length : Int) := by omega
            go_upto_region 27 with fail
            obtain ⟨wq, rfl⟩ : ∃ wq : World, wq = wr := ⟨_, rfl⟩
            refine Tx.start (fun w' => Below (wq).heap.size (wq) w') 9999 10 rfl (by kernel_rfl) ?_
            have hS_1 : Below (wq).heap.size (wq) (World.drew wq) := (Below.refl _ _).drew
            refine Tx.seg (A := ?_) 0 1023 (by kernel_rfl) (by exact hS_1) [0, 1, 2, 3, 4, 5, 6, 7, 8, 9] (by kernel_rfl) ?_ ?_
            rotate_left
            · intro w' hB
              have y1 : w'.cell? ⟨g4, 1, none⟩ = some (.slice (some ⟨g2, 0, none⟩) L.length cr) := by rw [hB.cell (p := ⟨g4, 1, none⟩) (World.block_lt_of_cell? _ _ z1)]; exact z1
              have y2 : w'.cell? ⟨gw, j, none⟩ = some (.int .i64 y) := by rw [hB.cell (p := ⟨gw, j, none⟩) (World.block_lt_of_cell? _ _ z2)]; exact z2
              have y3 : w'.cell? ⟨g2, j, none⟩ = some (.int .i64 y) := by rw [hB.cell (p := ⟨g2, j, none⟩) (World.block_lt_of_cell? _ _ z3)]; exact z3
              iterate 10 (first | (refine rd_skip rfl rfl ?_; simp only [Act.put, List.setIfInBounds_toArray, List.set_cons_zero, List.set_cons_succ]) | (refine rd_load_arr rfl rfl _ _ rfl _ rfl (by decide +kernel) _ (by assumption) (by first | (rw [lims_len]; kernel_rfl) | (rw [el_rep]; kernel_rfl) | (rw [el_len]; kernel_rfl) | (rw [byts_len]; kernel_rfl) | (rw [us_len]; kernel_rfl) | (rw [bytn_len]; kernel_rfl) | (rw [ens_len, digs_len]; kernel_rfl) | kernel_rfl) ?_; simp only [Act.put, List.setIfInBounds_toArray, List.set_cons_zero, List.set_cons_succ]) | (refine rd_take (v := ?_) rfl rfl ?_ ?_; rotate_left; (focus (go_simp; try (with_reducible rfl))); simp only [Act.put, List.setIfInBounds_toArray, List.set_cons_zero, List.set_cons_succ]) | (refine rd_take (v := ?_) rfl rfl ?_ ?_; rotate_left; (focus (try go_simp); fail)))
              exact rd_nil
            refine Tx.done (by kernel_rfl) ?_
            go_wp2_with fail
            exact ⟨⟨j + 1, by omega, by go_num, bel hbq hS_1⟩, by simp [intOf]; omega⟩
          · have dj : decide ((j : Int) < (L.length : Int)) = false := decide_eq_false (by omega)
            go_wp2_with fail
            exact ⟨⟨i + 1, L, ⟨.slice ar L.length cr, m08, m18⟩, by omega, by go_num, risL.out, own_below ow.out hbq, k4.below hbq, o8.out.ok.below hbq, bel kb hbq, Nat.le_trans hB8 hbq.size⟩, by simp [intOf]; omega⟩
      · have hgt : ∀ j (h : j < L.length), k ≤ j → x < L[j] := fun j h hkj => by
          have hkn : k < L.length := by omega
          have h1 := hhi hkn
          have h2 : L[k] ≠ x := fun e => hth ⟨hkn, e⟩
          by_cases e : k = j
          · subst e; omega
          · have := ris.out.lt (show k < j by omega) h; omega
        have hnot : x ∉ L := fun hm => by
          obtain ⟨j, hj, e⟩ := List.getElem_of_mem hm
          by_cases c : j < k
          · have := hlow j hj c; omega
          · have := hgt j hj (by omega); omega
        replace hgt := Lib.hid hgt
        replace hlow := Lib.hid hlow
        have hcap : L.length ≤ cw := by
          obtain ⟨_, cw', hsh, hcap, -⟩ := id (Sl.of_own ow.out)
          simp only [Value.slice.injEq] at hsh
          rw [ints_len] at hcap
          omega
        by_cases hkn : k < L.length
        · have hck : ¬ cw = k := by omega
          obtain ⟨gw, haw, hgw⟩ := own_at2 ow.out hkn
          subst haw
          have hcx : wc.cell? ⟨gw, k, none⟩ = some (.int .i64 L[k]) := own_cell ow.out (by simp [ints, List.getElem?_eq_getElem hkn])
          have hne : L[k] ≠ x := fun e => hth ⟨hkn, e⟩
          obtain ⟨y, hy⟩ : ∃ y, L[k] = y := ⟨_, rfl⟩
          rw [hy] at hcx hne
          have dy : (y == x) = false := by simpa using hne
          have hk0 : (0 : Int) ≤ (k : Int) := by omega
          have hk1 : (k : Int) < (L.length : Int) := by omega
          clear hhi hth hy hne
          by_cases hful : 32 ≤ L.length
          · skip
            have hRR := hR.out
            rw [revoke_full ris.out hxr hnot hful] at hRR
            obtain ⟨rfl, rfl⟩ := Prod.mk.inj hRR
            have hL3 : L.length = 32 := by omega
            have d32 : ((L.length : Int) == 32) = true := by rw [hL3]; rfl
            clear hRR hL3
            go_wp2_with fail
            refine (num_any _ _).mono ?_
            rintro e w12 ⟨rfl, hw⟩
            rw [hw]
            clear hw w12
            go_wp2_with fail
            exact ⟨⟨i + 1, L, v, by omega, by go_num, ris.out, by first | exact ow.out | (have q := ow.out; rw [hck] at q; exact q), k4, o2.out, kb, hB8⟩, by simp [intOf]; omega⟩
          · skip
            have hRR := hR.out
            rw [revoke_new ris.out hxr hnot (by omega) hk hlow.out hgt.out] at hRR
            obtain ⟨rfl, rfl⟩ := Prod.mk.inj hRR
            have d32 : ((L.length : Int) == 32) = false := by simp; omega
            clear hRR
            obtain ⟨M, hM⟩ : ∃ M, insL L k x = M := ⟨_, rfl⟩
            have risM : Hid (Ris M) := Lib.hid (by rw [← hM]; exact ris.out.ins hxr hk (by omega) hlow.out hgt.out)
            have hMl : Hid (M.length = L.length + 1) := Lib.hid (by rw [← hM]; exact insL_len hk)
            have hM32 := risM.out.len
            rw [hM] at o8 k8
            have hMi : Hid (ints M = (ints L).take k ++ .int .i64 x :: (ints L).drop k) := Lib.hid (by rw [← hM]; exact ints_insL L k x)
            clear hM
            have hg8l := Lib.hid k8.lt
            have hmid := Lib.hid ((Sl.of_own ow.out).midG (k := k) (by rw [ints_len]; exact hk))
            have htk := Lib.hid (own_take ow.out hk)
            rw [ints_len] at hmid
            first | rw [if_neg hck] at hmid | (rw [if_pos hck, show cw - k = 0 by omega] at hmid; rw [hck] at htk)
            first | simp only [Option.map_some, Addr.add_lit, Nat.zero_add] at hmid | skip
            have hk0 : (0 : Int) ≤ (k : Int) := by omega
            have hk1 : (k : Int) ≤ (L.length : Int) := by omega
            have hk2 : (L.length : Int) ≤ (cw : Int) := by omega
            have hk3 : (k : Int) ≤ (cw : Int) := by omega
            have p2 : Hid (0 + ((ints L).drop k).length ≤ maxLen) := Lib.hid (by rw [List.length_drop, ints_len]; unfold maxLen; omega)
            have p3 : Hid ((0 + ((ints L).drop k).length) * 8 ≤ 140737488355328) := Lib.hid (by rw [List.length_drop, ints_len]; omega)
            have one1 : Hid (∀ u ∈ (ints L).drop k, u.oneCell' = true) := Lib.hid (fun u hu => ints_one L u (List.mem_of_mem_drop hu))
            go_wp2_with (at_builtin; refine wpList_append_slb rfl _ _ 22 rfl wc.heap.size 3 Try.underlying22 hti htz0 htz1 htz2 rfl _ 0 [] rfl (World.ownsRow_nil _ _ _ _) _ ((ints L).drop k) rfl hmid.out one1.out p2.out p3.out (Nat.le_refl _) ?_)
            intro v' w' own hg hblk
            have hb := below_nil hg
            obtain ⟨av, cv, rfl⟩ := own_shape own
            have ownr := Lib.hid own
            have k4 := k4.below hb
            have k8 := k8.below hb
            have o8 := Lib.hid (o8.out.below hb)
            have htk := Lib.hid (own_below htk.out hb)
            have kb := bel kb hb
            have hB9 : B ≤ w'.heap.size := Nat.le_trans hB8 hb.size
            have hg8c : g8 < wc.heap.size := hg8l.out
            clear hg hb own hblk hmid one1 p2 p3
            have p2 : Hid (k + [Value.int .i64 x].length ≤ maxLen) := Lib.hid (by simp; unfold maxLen; omega)
            have p3 : Hid ((k + [Value.int .i64 x].length) * 8 ≤ 140737488355328) := Lib.hid (by simp; omega)
            go_wp2_with (at_builtin; refine wpList_append_slb rfl _ _ 22 rfl B 3 Try.underlying22 hti htz0 htz1 htz2 rfl _ k ((ints L).take k) rfl (own_below htk.out (below_alloc _ _)) _ [.int .i64 x] rfl (Sl.new1 _ _ _) (sl_one x) p2.out p3.out (Nat.le_trans hB9 (below_alloc _ _).size) ?_)
            intro v88 w3 own2 hg2 hblk2
            replace own2 : w3.ownsRow B 3 1 v88 (k + 1) ((ints L).take k ++ [.int .i64 x]) := own2
            replace hg2 := (World.grownBy_alloc w' _ _).trans hg2
            have hgr := Lib.hid hg2
            have hrow := Lib.hid howlt.out
            have hwc := hB8
            have ownr := Lib.hid (own_off ownr.out hg2 (fun b hb => Nat.lt_trans (howlt.out b hb).2 (Nat.lt_of_le_of_lt hN8 hg8c)))
            obtain ⟨a88, c88, rfl⟩ := own_shape own2
            have own2 := Lib.hid own2
            have hblk2 := Lib.hid hblk2
            clear hg2 p2 p3
            have p2 : Hid (k + 1 + ((ints L).drop k).length ≤ maxLen) := Lib.hid (by rw [List.length_drop, ints_len]; unfold maxLen; omega)
            have p3 : Hid ((k + 1 + ((ints L).drop k).length) * 8 ≤ 140737488355328) := Lib.hid (by rw [List.length_drop, ints_len]; omega)
            have one1 : Hid (∀ u ∈ (ints L).drop k, u.oneCell' = true) := Lib.hid (fun u hu => ints_one L u (List.mem_of_mem_drop hu))
            have hB10 : B ≤ w3.heap.size := Nat.le_trans hB9 hgr.out.size
            go_wp2_with (at_builtin; (refine wpList_append_slb rfl _ _ 22 rfl B 3 Try.underlying22 hti htz0 htz1 htz2 rfl _ (k + 1) ((ints L).take k ++ [Value.int IntKind.i64 x]) rfl own2.out _ ((ints L).drop k) rfl (Sl.of_own ownr.out) one1.out p2.out p3.out hB10 ?_))
            intro v90 w4 own3 hg3 hblk3
            have hgg := gr_comp hgr.out hg3 hblk2.out (by simp)
            have own3 : w4.ownsRow B 3 1 v90 M.length (ints M) := by
              rw [show k + 1 + ((ints L).length - k) = M.length by rw [ints_len, hMl.out]; omega, ← hMi.out] at own3
              exact own3
            have k4 := arr_off k4 hgg (fun b hb e => by have := (howlt.out b hb).1; omega)
            have k8 := arr_off k8 hgg (fun b hb e => by have := (howlt.out b hb).2; omega)
            have o8 := Lib.hid (stOwn_off o8.out hgg (fun b hb => (howlt.out b hb).2))
            have kb := kb.grown hgg kb.size (fun b hb => Nat.le_trans hwB (howlt.out b hb).1)
            have hB8 : B ≤ w4.heap.size := Nat.le_trans hB9 hgg.size
            obtain ⟨a90, c90, rfl⟩ := own_shape own3
            obtain ⟨gw, haw, hgw⟩ := own_at2 own3 (j := k) (by have := hMl.out; omega)
            subst haw
            have ow := Lib.hid own3
            clear hgg hg3 hblk3 hgr hblk2 own2 ownr own3 p2 p3 one1 htk hB9 hB10 hwc hrow hck hk0 hk1 hk2 hk3
            go_wp2_with fail
            refine (num_any _ _).mono ?_
            rintro e w12 ⟨rfl, hw⟩
            rw [hw]
            clear hw w12
            obtain ⟨vr8, m08, m18⟩ := v8
            obtain ⟨ar, cr, er1⟩ : ∃ a c, vr8 = .slice a M.length c := own_shape o8.out.rv
            subst er1
            have x1 := k8.cell (j := 1) rfl
            go_upto_region 24 with (first | (refine wpList_load_arr2 rfl _ _ rfl _ rfl (by decide +kernel) _ (by assumption) (by first | (rw [lims_len]; kernel_rfl) | (rw [el_rep]; kernel_rfl) | (rw [el_len]; kernel_rfl) | (rw [byts_len]; kernel_rfl) | (rw [us_len]; kernel_rfl) | (rw [bytn_len]; kernel_rfl) | (rw [ens_len, digs_len]; kernel_rfl) | kernel_rfl) ?_) | (refine wpl_storeG rfl _ _ _ rfl _ _ rfl rfl _ k4 (by kernel_rfl) rfl o8.out.ok.one (fun W9 k4 hg hsz => ?_)))
            have kb := below_gr kb hg hwg4 kb.size
            have ow := Lib.hid (own_grown ow.out hg hlt)
            replace o8 := Lib.hid (o8.out.grown hg (by omega))
            have hB8 : B ≤ W9.heap.size := by omega
            clear hg hsz x1 k8
            first | clear hcx | skip
            go_wp2_with fail
            go_loopw [13] (fun jv wq => ∃ j : Nat, j ≤ M.length ∧ jv = .int .i64 j ∧ Below W9.heap.size W9 wq) (fun jv _ => M.length - (intOf jv).toNat)
            case atStart => exact ⟨0, Nat.zero_le _, rfl, Below.refl _ _⟩
            case round =>
              obtain ⟨j, hj, rfl, hbq⟩ := hrel
              by_cases hjn : j < M.length
              · obtain ⟨g1, ha1, hg1⟩ := own_at2 ow.out hjn
                obtain ⟨g2, ha2, hg2⟩ := own_at2 o8.out.rv hjn
                subst ha2
                cases ha1
                have z1 := (k4.below hbq).cell (j := 1) rfl
                have z2 : wr.cell? ⟨gw, j, none⟩ = some (.int .i64 M[j]) := own_cell (own_below ow.out hbq) (by simp [ints, List.getElem?_eq_getElem hjn])
                have z3 : wr.cell? ⟨g2, j, none⟩ = some (.int .i64 M[j]) := own_cell (own_below o8.out.rv hbq) (by simp [ints, stS, List.getElem?_eq_getElem hjn])
                obtain ⟨y, hy⟩ : ∃ y, M[j] = y := ⟨_, rfl⟩
                rw [hy] at z2 z3
                clear hy
                have hj0 : (0 : Int) ≤ (j : Int) := by omega
                have hj1 : (j : Int) < (M.length : Int) := by omega
                go_upto_region 27 with fail
                obtain ⟨wq, rfl⟩ : ∃ wq : World, wq = wr := ⟨_, rfl⟩
                refine Tx.start (fun w' => Below (wq).heap.size (wq) w') 9999 10 rfl (by kernel_rfl) ?_
                have hS_2 : Below (wq).heap.size (wq) (World.drew wq) := (Below.refl _ _).drew
                refine Tx.seg (A := ?_) 0 1023 (by kernel_rfl) (by exact hS_2) [0, 1, 2, 3, 4, 5, 6, 7, 8, 9] (by kernel_rfl) ?_ ?_
                rotate_left
                · intro w' hB
                  have y1 : w'.cell? ⟨g4, 1, none⟩ = some (.slice (some ⟨g2, 0, none⟩) M.length cr) := by rw [hB.cell (p := ⟨g4, 1, none⟩) (World.block_lt_of_cell? _ _ z1)]; exact z1
                  have y2 : w'.cell? ⟨gw, j, none⟩ = some (.int .i64 y) := by rw [hB.cell (p := ⟨gw, j, none⟩) (World.block_lt_of_cell? _ _ z2)]; exact z2
                  have y3 : w'.cell? ⟨g2, j, none⟩ = some (.int .i64 y) := by rw [hB.cell (p := ⟨g2, j, none⟩) (World.block_lt_of_cell? _ _ z3)]; exact z3
                  iterate 10 (first | (refine rd_skip rfl rfl ?_; simp only [Act.put, List.setIfInBounds_toArray, List.set_cons_zero, List.set_cons_succ]) | (refine rd_load_arr rfl rfl _ _ rfl _ rfl (by decide +kernel) _ (by assumption) (by first | (rw [lims_len]; kernel_rfl) | (rw [el_rep]; kernel_rfl) | (rw [el_len]; kernel_rfl) | (rw [byts_len]; kernel_rfl) | (rw [us_len]; kernel_rfl) | (rw [bytn_len]; kernel_rfl) | (rw [ens_len, digs_len]; kernel_rfl) | kernel_rfl) ?_; simp only [Act.put, List.setIfInBounds_toArray, List.set_cons_zero, List.set_cons_succ]) | (refine rd_take (v := ?_) rfl rfl ?_ ?_; rotate_left; (focus (go_simp; try (with_reducible rfl))); simp only [Act.put, List.setIfInBounds_toArray, List.set_cons_zero, List.set_cons_succ]) | (refine rd_take (v := ?_) rfl rfl ?_ ?_; rotate_left; (focus (try go_simp); fail)))
                  exact rd_nil
                refine Tx.done (by kernel_rfl) ?_
                go_wp2_with fail
                exact ⟨⟨j + 1, by omega, by go_num, bel hbq hS_2⟩, by simp [intOf]; omega⟩
              · have dj : decide ((j : Int) < (M.length : Int)) = false := decide_eq_false (by omega)
                go_wp2_with fail
                exact ⟨⟨i + 1, M, ⟨.slice ar M.length cr, m08, m18⟩, by omega, by go_num, risM.out, own_below ow.out hbq, k4.below hbq, o8.out.ok.below hbq, bel kb hbq, Nat.le_trans hB8 hbq.size⟩, by simp [intOf]; omega⟩
        · have dk : decide ((k : Int) < (L.length : Int)) = false := decide_eq_false (by omega)
          clear hhi hth
          by_cases hck : cw = k
          · rcases own_sh ow.out with ⟨rfl, hcw, hL0⟩ | ⟨gw, rfl, hgw⟩
            · have hL1 := List.eq_nil_of_length_eq_zero hL0
              subst hL1
              obtain rfl : k = 0 := by simpa using hk
              subst hcw
              have hRR := hR.out
              rw [revoke_new ris.out hxr hnot (by decide) hk hlow.out hgt.out] at hRR
              obtain ⟨rfl, rfl⟩ := Prod.mk.inj hRR
              obtain ⟨M, hM⟩ : ∃ M, insL [] 0 x = M := ⟨_, rfl⟩
              have risM : Hid (Ris M) := Lib.hid (by rw [← hM]; exact ris.out.ins hxr hk (by decide) hlow.out hgt.out)
              have hMl : Hid (M.length = 1) := Lib.hid (by rw [← hM]; rfl)
              have hM32 := risM.out.len
              have hMi : Hid (ints M = [Value.int .i64 x]) := Lib.hid (by rw [← hM]; rfl)
              rw [hM] at o8 k8
              have p2 : Hid (0 + [Value.int .i64 x].length ≤ maxLen) := Lib.hid (by simp; unfold maxLen; omega)
              have p3 : Hid ((0 + [Value.int .i64 x].length) * 8 ≤ 140737488355328) := Lib.hid (by simp)
              clear hRR hM hck dk hkn hL0 hcap
              go_wp2_with (at_builtin; refine wpList_append_slb rfl _ _ 22 rfl B 3 Try.underlying22 hti htz0 htz1 htz2 rfl _ 0 [] rfl (World.ownsRow_nil _ _ _ _) _ [Value.int IntKind.i64 x] rfl (Sl.new1 _ _ _) (sl_one x) p2.out p3.out (Nat.le_trans hB8 (below_alloc _ _).size) ?_)
              intro v88 w3 own2 hg2 hblk2
              replace own2 : w3.ownsRow B 3 1 v88 1 [Value.int .i64 x] := own2
              replace hg2 := (World.grownBy_alloc wc _ _).trans hg2
              have hgr := Lib.hid hg2
              obtain ⟨a88, c88, rfl⟩ := own_shape own2
              have own2 := Lib.hid own2
              have hblk2 := Lib.hid hblk2
              clear hg2 p2 p3
              have p2 : Hid (1 + ([] : List Value).length ≤ maxLen) := Lib.hid (by decide)
              have p3 : Hid ((1 + ([] : List Value).length) * 8 ≤ 140737488355328) := Lib.hid (by decide)
              have hB10 : B ≤ w3.heap.size := Nat.le_trans hB8 hgr.out.size
              go_wp2_with (at_builtin; refine wpList_append_slb rfl _ _ 22 rfl B 3 Try.underlying22 hti htz0 htz1 htz2 rfl _ 1 [Value.int IntKind.i64 x] rfl own2.out _ [] rfl (Sl.nil _) (fun u hu => absurd hu (by simp)) p2.out p3.out hB10 ?_)
              intro v90 w4 own3 hg3 hblk3
              have hgg := gr_comp hgr.out hg3 hblk2.out (by simp)
              have own3 : w4.ownsRow B 3 1 v90 M.length (ints M) := by
                rw [hMl.out, hMi.out]
                exact own3
              have k4 := arr_off k4 hgg (fun b hb => by simp [Value.ownBlock] at hb)
              have k8 := arr_off k8 hgg (fun b hb => by simp [Value.ownBlock] at hb)
              have o8 := Lib.hid (stOwn_off o8.out hgg (fun b hb => by simp [Value.ownBlock] at hb))
              have kb := kb.grown hgg kb.size (fun b hb => by simp [Value.ownBlock] at hb)
              have hB8 : B ≤ w4.heap.size := Nat.le_trans hB8 hgg.size
              obtain ⟨a90, c90, rfl⟩ := own_shape own3
              obtain ⟨gw, haw, hgw⟩ := own_at2 own3 (j := 0) (by have := hMl.out; omega)
              subst haw
              have ow := Lib.hid own3
              clear hgg hg3 hblk3 hgr hblk2 own2 own3 p2 p3 hB10
              go_wp2_with fail
              refine (num_any _ _).mono ?_
              rintro e w12 ⟨rfl, hw⟩
              rw [hw]
              clear hw w12
              obtain ⟨vr8, m08, m18⟩ := v8
              obtain ⟨ar, cr, er1⟩ : ∃ a c, vr8 = .slice a M.length c := own_shape o8.out.rv
              subst er1
              have x1 := k8.cell (j := 1) rfl
              go_upto_region 24 with (first | (refine wpList_load_arr2 rfl _ _ rfl _ rfl (by decide +kernel) _ (by assumption) (by first | (rw [lims_len]; kernel_rfl) | (rw [el_rep]; kernel_rfl) | (rw [el_len]; kernel_rfl) | (rw [byts_len]; kernel_rfl) | (rw [us_len]; kernel_rfl) | (rw [bytn_len]; kernel_rfl) | (rw [ens_len, digs_len]; kernel_rfl) | kernel_rfl) ?_) | (refine wpl_storeG rfl _ _ _ rfl _ _ rfl rfl _ k4 (by kernel_rfl) rfl o8.out.ok.one (fun W9 k4 hg hsz => ?_)))
              have kb := below_gr kb hg hwg4 kb.size
              have ow := Lib.hid (own_grown ow.out hg hlt)
              replace o8 := Lib.hid (o8.out.grown hg (by omega))
              have hB8 : B ≤ W9.heap.size := by omega
              clear hg hsz x1 k8
              first | clear hcx | skip
              go_wp2_with fail
              go_loopw [13] (fun jv wq => ∃ j : Nat, j ≤ M.length ∧ jv = .int .i64 j ∧ Below W9.heap.size W9 wq) (fun jv _ => M.length - (intOf jv).toNat)
              case atStart => exact ⟨0, Nat.zero_le _, rfl, Below.refl _ _⟩
              case round =>
                obtain ⟨j, hj, rfl, hbq⟩ := hrel
                by_cases hjn : j < M.length
                · obtain ⟨g1, ha1, hg1⟩ := own_at2 ow.out hjn
                  obtain ⟨g2, ha2, hg2⟩ := own_at2 o8.out.rv hjn
                  subst ha2
                  cases ha1
                  have z1 := (k4.below hbq).cell (j := 1) rfl
                  have z2 : wr.cell? ⟨gw, j, none⟩ = some (.int .i64 M[j]) := own_cell (own_below ow.out hbq) (by simp [ints, List.getElem?_eq_getElem hjn])
                  have z3 : wr.cell? ⟨g2, j, none⟩ = some (.int .i64 M[j]) := own_cell (own_below o8.out.rv hbq) (by simp [ints, stS, List.getElem?_eq_getElem hjn])
                  obtain ⟨y, hy⟩ : ∃ y, M[j] = y := ⟨_, rfl⟩
                  rw [hy] at z2 z3
                  clear hy
                  have hj0 : (0 : Int) ≤ (j : Int) := by omega
                  have hj1 : (j : Int) < (M.length : Int) := by omega
                  go_upto_region 27 with fail
                  obtain ⟨wq, rfl⟩ : ∃ wq : World, wq = wr := ⟨_, rfl⟩
                  refine Tx.start (fun w' => Below (wq).heap.size (wq) w') 9999 10 rfl (by kernel_rfl) ?_
                  have hS_3 : Below (wq).heap.size (wq) (World.drew wq) := (Below.refl _ _).drew
                  refine Tx.seg (A := ?_) 0 1023 (by kernel_rfl) (by exact hS_3) [0, 1, 2, 3, 4, 5, 6, 7, 8, 9] (by kernel_rfl) ?_ ?_
                  rotate_left
                  · intro w' hB
                    have y1 : w'.cell? ⟨g4, 1, none⟩ = some (.slice (some ⟨g2, 0, none⟩) M.length cr) := by rw [hB.cell (p := ⟨g4, 1, none⟩) (World.block_lt_of_cell? _ _ z1)]; exact z1
                    have y2 : w'.cell? ⟨gw, j, none⟩ = some (.int .i64 y) := by rw [hB.cell (p := ⟨gw, j, none⟩) (World.block_lt_of_cell? _ _ z2)]; exact z2
                    have y3 : w'.cell? ⟨g2, j, none⟩ = some (.int .i64 y) := by rw [hB.cell (p := ⟨g2, j, none⟩) (World.block_lt_of_cell? _ _ z3)]; exact z3
                    iterate 10 (first | (refine rd_skip rfl rfl ?_; simp only [Act.put, List.setIfInBounds_toArray, List.set_cons_zero, List.set_cons_succ]) | (refine rd_load_arr rfl rfl _ _ rfl _ rfl (by decide +kernel) _ (by assumption) (by first | (rw [lims_len]; kernel_rfl) | (rw [el_rep]; kernel_rfl) | (rw [el_len]; kernel_rfl) | (rw [byts_len]; kernel_rfl) | (rw [us_len]; kernel_rfl) | (rw [bytn_len]; kernel_rfl) | (rw [ens_len, digs_len]; kernel_rfl) | kernel_rfl) ?_; simp only [Act.put, List.setIfInBounds_toArray, List.set_cons_zero, List.set_cons_succ]) | (refine rd_take (v := ?_) rfl rfl ?_ ?_; rotate_left; (focus (go_simp; try (with_reducible rfl))); simp only [Act.put, List.setIfInBounds_toArray, List.set_cons_zero, List.set_cons_succ]) | (refine rd_take (v := ?_) rfl rfl ?_ ?_; rotate_left; (focus (try go_simp); fail)))
                    exact rd_nil
                  refine Tx.done (by kernel_rfl) ?_
                  go_wp2_with fail
                  exact ⟨⟨j + 1, by omega, by go_num, bel hbq hS_3⟩, by simp [intOf]; omega⟩
                · have dj : decide ((j : Int) < (M.length : Int)) = false := decide_eq_false (by omega)
                  go_wp2_with fail
                  exact ⟨⟨i + 1, M, ⟨.slice ar M.length cr, m08, m18⟩, by omega, by go_num, risM.out, own_below ow.out hbq, k4.below hbq, o8.out.ok.below hbq, bel kb hbq, Nat.le_trans hB8 hbq.size⟩, by simp [intOf]; omega⟩
            · skip
              by_cases hful : 32 ≤ L.length
              · skip
                have hRR := hR.out
                rw [revoke_full ris.out hxr hnot hful] at hRR
                obtain ⟨rfl, rfl⟩ := Prod.mk.inj hRR
                have hL3 : L.length = 32 := by omega
                have d32 : ((L.length : Int) == 32) = true := by rw [hL3]; rfl
                clear hRR hL3
                go_wp2_with fail
                refine (num_any _ _).mono ?_
                rintro e w12 ⟨rfl, hw⟩
                rw [hw]
                clear hw w12
                go_wp2_with fail
                exact ⟨⟨i + 1, L, v, by omega, by go_num, ris.out, by first | exact ow.out | (have q := ow.out; rw [hck] at q; exact q), k4, o2.out, kb, hB8⟩, by simp [intOf]; omega⟩
              · skip
                have hRR := hR.out
                rw [revoke_new ris.out hxr hnot (by omega) hk hlow.out hgt.out] at hRR
                obtain ⟨rfl, rfl⟩ := Prod.mk.inj hRR
                have d32 : ((L.length : Int) == 32) = false := by simp; omega
                clear hRR
                obtain ⟨M, hM⟩ : ∃ M, insL L k x = M := ⟨_, rfl⟩
                have risM : Hid (Ris M) := Lib.hid (by rw [← hM]; exact ris.out.ins hxr hk (by omega) hlow.out hgt.out)
                have hMl : Hid (M.length = L.length + 1) := Lib.hid (by rw [← hM]; exact insL_len hk)
                have hM32 := risM.out.len
                rw [hM] at o8 k8
                have hMi : Hid (ints M = (ints L).take k ++ .int .i64 x :: (ints L).drop k) := Lib.hid (by rw [← hM]; exact ints_insL L k x)
                clear hM
                have hg8l := Lib.hid k8.lt
                have hmid := Lib.hid ((Sl.of_own ow.out).midG (k := k) (by rw [ints_len]; exact hk))
                have htk := Lib.hid (own_take ow.out hk)
                rw [ints_len] at hmid
                first | rw [if_neg hck] at hmid | (rw [if_pos hck, show cw - k = 0 by omega] at hmid; rw [hck] at htk)
                first | simp only [Option.map_some, Addr.add_lit, Nat.zero_add] at hmid | skip
                have hk0 : (0 : Int) ≤ (k : Int) := by omega
                have hk1 : (k : Int) ≤ (L.length : Int) := by omega
                have hk2 : (L.length : Int) ≤ (cw : Int) := by omega
                have hk3 : (k : Int) ≤ (cw : Int) := by omega
                have p2 : Hid (0 + ((ints L).drop k).length ≤ maxLen) := Lib.hid (by rw [List.length_drop, ints_len]; unfold maxLen; omega)
                have p3 : Hid ((0 + ((ints L).drop k).length) * 8 ≤ 140737488355328) := Lib.hid (by rw [List.length_drop, ints_len]; omega)
                have one1 : Hid (∀ u ∈ (ints L).drop k, u.oneCell' = true) := Lib.hid (fun u hu => ints_one L u (List.mem_of_mem_drop hu))
                go_wp2_with (at_builtin; refine wpList_append_slb rfl _ _ 22 rfl wc.heap.size 3 Try.underlying22 hti htz0 htz1 htz2 rfl _ 0 [] rfl (World.ownsRow_nil _ _ _ _) _ ((ints L).drop k) rfl hmid.out one1.out p2.out p3.out (Nat.le_refl _) ?_)
                intro v' w' own hg hblk
                have hb := below_nil hg
                obtain ⟨av, cv, rfl⟩ := own_shape own
                have ownr := Lib.hid own
                have k4 := k4.below hb
                have k8 := k8.below hb
                have o8 := Lib.hid (o8.out.below hb)
                have htk := Lib.hid (own_below htk.out hb)
                have kb := bel kb hb
                have hB9 : B ≤ w'.heap.size := Nat.le_trans hB8 hb.size
                have hg8c : g8 < wc.heap.size := hg8l.out
                clear hg hb own hblk hmid one1 p2 p3
                have p2 : Hid (k + [Value.int .i64 x].length ≤ maxLen) := Lib.hid (by simp; unfold maxLen; omega)
                have p3 : Hid ((k + [Value.int .i64 x].length) * 8 ≤ 140737488355328) := Lib.hid (by simp; omega)
                go_wp2_with (at_builtin; refine wpList_append_slb rfl _ _ 22 rfl B 3 Try.underlying22 hti htz0 htz1 htz2 rfl _ k ((ints L).take k) rfl (own_below htk.out (below_alloc _ _)) _ [.int .i64 x] rfl (Sl.new1 _ _ _) (sl_one x) p2.out p3.out (Nat.le_trans hB9 (below_alloc _ _).size) ?_)
                intro v88 w3 own2 hg2 hblk2
                replace own2 : w3.ownsRow B 3 1 v88 (k + 1) ((ints L).take k ++ [.int .i64 x]) := own2
                replace hg2 := (World.grownBy_alloc w' _ _).trans hg2
                have hgr := Lib.hid hg2
                have hrow := Lib.hid howlt.out
                have hwc := hB8
                have ownr := Lib.hid (own_off ownr.out hg2 (fun b hb => Nat.lt_trans (howlt.out b hb).2 (Nat.lt_of_le_of_lt hN8 hg8c)))
                obtain ⟨a88, c88, rfl⟩ := own_shape own2
                have own2 := Lib.hid own2
                have hblk2 := Lib.hid hblk2
                clear hg2 p2 p3
                have p2 : Hid (k + 1 + ((ints L).drop k).length ≤ maxLen) := Lib.hid (by rw [List.length_drop, ints_len]; unfold maxLen; omega)
                have p3 : Hid ((k + 1 + ((ints L).drop k).length) * 8 ≤ 140737488355328) := Lib.hid (by rw [List.length_drop, ints_len]; omega)
                have one1 : Hid (∀ u ∈ (ints L).drop k, u.oneCell' = true) := Lib.hid (fun u hu => ints_one L u (List.mem_of_mem_drop hu))
                have hB10 : B ≤ w3.heap.size := Nat.le_trans hB9 hgr.out.size
                go_wp2_with (at_builtin; (refine wpList_append_slb rfl _ _ 22 rfl B 3 Try.underlying22 hti htz0 htz1 htz2 rfl _ (k + 1) ((ints L).take k ++ [Value.int IntKind.i64 x]) rfl own2.out _ ((ints L).drop k) rfl (Sl.of_own ownr.out) one1.out p2.out p3.out hB10 ?_))
                intro v90 w4 own3 hg3 hblk3
                have hgg := gr_comp hgr.out hg3 hblk2.out (by simp)
                have own3 : w4.ownsRow B 3 1 v90 M.length (ints M) := by
                  rw [show k + 1 + ((ints L).length - k) = M.length by rw [ints_len, hMl.out]; omega, ← hMi.out] at own3
                  exact own3
                have k4 := arr_off k4 hgg (fun b hb e => by have := (howlt.out b hb).1; omega)
                have k8 := arr_off k8 hgg (fun b hb e => by have := (howlt.out b hb).2; omega)
                have o8 := Lib.hid (stOwn_off o8.out hgg (fun b hb => (howlt.out b hb).2))
                have kb := kb.grown hgg kb.size (fun b hb => Nat.le_trans hwB (howlt.out b hb).1)
                have hB8 : B ≤ w4.heap.size := Nat.le_trans hB9 hgg.size
                obtain ⟨a90, c90, rfl⟩ := own_shape own3
                obtain ⟨gw, haw, hgw⟩ := own_at2 own3 (j := k) (by have := hMl.out; omega)
                subst haw
                have ow := Lib.hid own3
                clear hgg hg3 hblk3 hgr hblk2 own2 ownr own3 p2 p3 one1 htk hB9 hB10 hwc hrow hck hk0 hk1 hk2 hk3
                go_wp2_with fail
                refine (num_any _ _).mono ?_
                rintro e w12 ⟨rfl, hw⟩
                rw [hw]
                clear hw w12
                obtain ⟨vr8, m08, m18⟩ := v8
                obtain ⟨ar, cr, er1⟩ : ∃ a c, vr8 = .slice a M.length c := own_shape o8.out.rv
                subst er1
                have x1 := k8.cell (j := 1) rfl
                go_upto_region 24 with (first | (refine wpList_load_arr2 rfl _ _ rfl _ rfl (by decide +kernel) _ (by assumption) (by first | (rw [lims_len]; kernel_rfl) | (rw [el_rep]; kernel_rfl) | (rw [el_len]; kernel_rfl) | (rw [byts_len]; kernel_rfl) | (rw [us_len]; kernel_rfl) | (rw [bytn_len]; kernel_rfl) | (rw [ens_len, digs_len]; kernel_rfl) | kernel_rfl) ?_) | (refine wpl_storeG rfl _ _ _ rfl _ _ rfl rfl _ k4 (by kernel_rfl) rfl o8.out.ok.one (fun W9 k4 hg hsz => ?_)))
                have kb := below_gr kb hg hwg4 kb.size
                have ow := Lib.hid (own_grown ow.out hg hlt)
                replace o8 := Lib.hid (o8.out.grown hg (by omega))
                have hB8 : B ≤ W9.heap.size := by omega
                clear hg hsz x1 k8
                first | clear hcx | skip
                go_wp2_with fail
                go_loopw [13] (fun jv wq => ∃ j : Nat, j ≤ M.length ∧ jv = .int .i64 j ∧ Below W9.heap.size W9 wq) (fun jv _ => M.length - (intOf jv).toNat)
                case atStart => exact ⟨0, Nat.zero_le _, rfl, Below.refl _ _⟩
                case round =>
                  obtain ⟨j, hj, rfl, hbq⟩ := hrel
                  by_cases hjn : j < M.length
                  · obtain ⟨g1, ha1, hg1⟩ := own_at2 ow.out hjn
                    obtain ⟨g2, ha2, hg2⟩ := own_at2 o8.out.rv hjn
                    subst ha2
                    cases ha1
                    have z1 := (k4.below hbq).cell (j := 1) rfl
                    have z2 : wr.cell? ⟨gw, j, none⟩ = some (.int .i64 M[j]) := own_cell (own_below ow.out hbq) (by simp [ints, List.getElem?_eq_getElem hjn])
                    have z3 : wr.cell? ⟨g2, j, none⟩ = some (.int .i64 M[j]) := own_cell (own_below o8.out.rv hbq) (by simp [ints, stS, List.getElem?_eq_getElem hjn])
                    obtain ⟨y, hy⟩ : ∃ y, M[j] = y := ⟨_, rfl⟩
                    rw [hy] at z2 z3
                    clear hy
                    have hj0 : (0 : Int) ≤ (j : Int) := by omega
                    have hj1 : (j : Int) < (M.length : Int) := by omega
                    go_upto_region 27 with fail
                    obtain ⟨wq, rfl⟩ : ∃ wq : World, wq = wr := ⟨_, rfl⟩
                    refine Tx.start (fun w' => Below (wq).heap.size (wq) w') 9999 10 rfl (by kernel_rfl) ?_
                    have hS_4 : Below (wq).heap.size (wq) (World.drew wq) := (Below.refl _ _).drew
                    refine Tx.seg (A := ?_) 0 1023 (by kernel_rfl) (by exact hS_4) [0, 1, 2, 3, 4, 5, 6, 7, 8, 9] (by kernel_rfl) ?_ ?_
                    rotate_left
                    · intro w' hB
                      have y1 : w'.cell? ⟨g4, 1, none⟩ = some (.slice (some ⟨g2, 0, none⟩) M.length cr) := by rw [hB.cell (p := ⟨g4, 1, none⟩) (World.block_lt_of_cell? _ _ z1)]; exact z1
                      have y2 : w'.cell? ⟨gw, j, none⟩ = some (.int .i64 y) := by rw [hB.cell (p := ⟨gw, j, none⟩) (World.block_lt_of_cell? _ _ z2)]; exact z2
                      have y3 : w'.cell? ⟨g2, j, none⟩ = some (.int .i64 y) := by rw [hB.cell (p := ⟨g2, j, none⟩) (World.block_lt_of_cell? _ _ z3)]; exact z3
                      iterate 10 (first | (refine rd_skip rfl rfl ?_; simp only [Act.put, List.setIfInBounds_toArray, List.set_cons_zero, List.set_cons_succ]) | (refine rd_load_arr rfl rfl _ _ rfl _ rfl (by decide +kernel) _ (by assumption) (by first | (rw [lims_len]; kernel_rfl) | (rw [el_rep]; kernel_rfl) | (rw [el_len]; kernel_rfl) | (rw [byts_len]; kernel_rfl) | (rw [us_len]; kernel_rfl) | (rw [bytn_len]; kernel_rfl) | (rw [ens_len, digs_len]; kernel_rfl) | kernel_rfl) ?_; simp only [Act.put, List.setIfInBounds_toArray, List.set_cons_zero, List.set_cons_succ]) | (refine rd_take (v := ?_) rfl rfl ?_ ?_; rotate_left; (focus (go_simp; try (with_reducible rfl))); simp only [Act.put, List.setIfInBounds_toArray, List.set_cons_zero, List.set_cons_succ]) | (refine rd_take (v := ?_) rfl rfl ?_ ?_; rotate_left; (focus (try go_simp); fail)))
                      exact rd_nil
                    refine Tx.done (by kernel_rfl) ?_
                    go_wp2_with fail
                    exact ⟨⟨j + 1, by omega, by go_num, bel hbq hS_4⟩, by simp [intOf]; omega⟩
                  · have dj : decide ((j : Int) < (M.length : Int)) = false := decide_eq_false (by omega)
                    go_wp2_with fail
                    exact ⟨⟨i + 1, M, ⟨.slice ar M.length cr, m08, m18⟩, by omega, by go_num, risM.out, own_below ow.out hbq, k4.below hbq, o8.out.ok.below hbq, bel kb hbq, Nat.le_trans hB8 hbq.size⟩, by simp [intOf]; omega⟩
          · obtain ⟨gw, rfl, hgw⟩ := (own_sh ow.out).resolve_left (fun h => hck (by omega))
            by_cases hful : 32 ≤ L.length
            · skip
              have hRR := hR.out
              rw [revoke_full ris.out hxr hnot hful] at hRR
              obtain ⟨rfl, rfl⟩ := Prod.mk.inj hRR
              have hL3 : L.length = 32 := by omega
              have d32 : ((L.length : Int) == 32) = true := by rw [hL3]; rfl
              clear hRR hL3
              go_wp2_with fail
              refine (num_any _ _).mono ?_
              rintro e w12 ⟨rfl, hw⟩
              rw [hw]
              clear hw w12
              go_wp2_with fail
              exact ⟨⟨i + 1, L, v, by omega, by go_num, ris.out, by first | exact ow.out | (have q := ow.out; rw [hck] at q; exact q), k4, o2.out, kb, hB8⟩, by simp [intOf]; omega⟩
            · skip
              have hRR := hR.out
              rw [revoke_new ris.out hxr hnot (by omega) hk hlow.out hgt.out] at hRR
              obtain ⟨rfl, rfl⟩ := Prod.mk.inj hRR
              have d32 : ((L.length : Int) == 32) = false := by simp; omega
              clear hRR
              obtain ⟨M, hM⟩ : ∃ M, insL L k x = M := ⟨_, rfl⟩
              have risM : Hid (Ris M) := Lib.hid (by rw [← hM]; exact ris.out.ins hxr hk (by omega) hlow.out hgt.out)
              have hMl : Hid (M.length = L.length + 1) := Lib.hid (by rw [← hM]; exact insL_len hk)
              have hM32 := risM.out.len
              rw [hM] at o8 k8
              have hMi : Hid (ints M = (ints L).take k ++ .int .i64 x :: (ints L).drop k) := Lib.hid (by rw [← hM]; exact ints_insL L k x)
              clear hM
              have hg8l := Lib.hid k8.lt
              have hmid := Lib.hid ((Sl.of_own ow.out).midG (k := k) (by rw [ints_len]; exact hk))
              have htk := Lib.hid (own_take ow.out hk)
              rw [ints_len] at hmid
              first | rw [if_neg hck] at hmid | (rw [if_pos hck, show cw - k = 0 by omega] at hmid; rw [hck] at htk)
              first | simp only [Option.map_some, Addr.add_lit, Nat.zero_add] at hmid | skip
              have hk0 : (0 : Int) ≤ (k : Int) := by omega
              have hk1 : (k : Int) ≤ (L.length : Int) := by omega
              have hk2 : (L.length : Int) ≤ (cw : Int) := by omega
              have hk3 : (k : Int) ≤ (cw : Int) := by omega
              have p2 : Hid (0 + ((ints L).drop k).length ≤ maxLen) := Lib.hid (by rw [List.length_drop, ints_len]; unfold maxLen; omega)
              have p3 : Hid ((0 + ((ints L).drop k).length) * 8 ≤ 140737488355328) := Lib.hid (by rw [List.length_drop, ints_len]; omega)
              have one1 : Hid (∀ u ∈ (ints L).drop k, u.oneCell' = true) := Lib.hid (fun u hu => ints_one L u (List.mem_of_mem_drop hu))
              go_wp2_with (at_builtin; refine wpList_append_slb rfl _ _ 22 rfl wc.heap.size 3 Try.underlying22 hti htz0 htz1 htz2 rfl _ 0 [] rfl (World.ownsRow_nil _ _ _ _) _ ((ints L).drop k) rfl hmid.out one1.out p2.out p3.out (Nat.le_refl _) ?_)
              intro v' w' own hg hblk
              have hb := below_nil hg
              obtain ⟨av, cv, rfl⟩ := own_shape own
              have ownr := Lib.hid own
              have k4 := k4.below hb
              have k8 := k8.below hb
              have o8 := Lib.hid (o8.out.below hb)
              have htk := Lib.hid (own_below htk.out hb)
              have kb := bel kb hb
              have hB9 : B ≤ w'.heap.size := Nat.le_trans hB8 hb.size
              have hg8c : g8 < wc.heap.size := hg8l.out
              clear hg hb own hblk hmid one1 p2 p3
              have p2 : Hid (k + [Value.int .i64 x].length ≤ maxLen) := Lib.hid (by simp; unfold maxLen; omega)
              have p3 : Hid ((k + [Value.int .i64 x].length) * 8 ≤ 140737488355328) := Lib.hid (by simp; omega)
              go_wp2_with (at_builtin; refine wpList_append_slb rfl _ _ 22 rfl B 3 Try.underlying22 hti htz0 htz1 htz2 rfl _ k ((ints L).take k) rfl (own_below htk.out (below_alloc _ _)) _ [.int .i64 x] rfl (Sl.new1 _ _ _) (sl_one x) p2.out p3.out (Nat.le_trans hB9 (below_alloc _ _).size) ?_)
              intro v88 w3 own2 hg2 hblk2
              replace own2 : w3.ownsRow B 3 1 v88 (k + 1) ((ints L).take k ++ [.int .i64 x]) := own2
              replace hg2 := (World.grownBy_alloc w' _ _).trans hg2
              have hgr := Lib.hid hg2
              have hrow := Lib.hid howlt.out
              have hwc := hB8
              have ownr := Lib.hid (own_off ownr.out hg2 (fun b hb => Nat.lt_trans (howlt.out b hb).2 (Nat.lt_of_le_of_lt hN8 hg8c)))
              obtain ⟨a88, c88, rfl⟩ := own_shape own2
              have own2 := Lib.hid own2
              have hblk2 := Lib.hid hblk2
              clear hg2 p2 p3
              have p2 : Hid (k + 1 + ((ints L).drop k).length ≤ maxLen) := Lib.hid (by rw [List.length_drop, ints_len]; unfold maxLen; omega)
              have p3 : Hid ((k + 1 + ((ints L).drop k).length) * 8 ≤ 140737488355328) := Lib.hid (by rw [List.length_drop, ints_len]; omega)
              have one1 : Hid (∀ u ∈ (ints L).drop k, u.oneCell' = true) := Lib.hid (fun u hu => ints_one L u (List.mem_of_mem_drop hu))
              have hB10 : B ≤ w3.heap.size := Nat.le_trans hB9 hgr.out.size
              go_wp2_with (at_builtin; (refine wpList_append_slb rfl _ _ 22 rfl B 3 Try.underlying22 hti htz0 htz1 htz2 rfl _ (k + 1) ((ints L).take k ++ [Value.int IntKind.i64 x]) rfl own2.out _ ((ints L).drop k) rfl (Sl.of_own ownr.out) one1.out p2.out p3.out hB10 ?_))
              intro v90 w4 own3 hg3 hblk3
              have hgg := gr_comp hgr.out hg3 hblk2.out (by simp)
              have own3 : w4.ownsRow B 3 1 v90 M.length (ints M) := by
                rw [show k + 1 + ((ints L).length - k) = M.length by rw [ints_len, hMl.out]; omega, ← hMi.out] at own3
                exact own3
              have k4 := arr_off k4 hgg (fun b hb e => by have := (howlt.out b hb).1; omega)
              have k8 := arr_off k8 hgg (fun b hb e => by have := (howlt.out b hb).2; omega)
              have o8 := Lib.hid (stOwn_off o8.out hgg (fun b hb => (howlt.out b hb).2))
              have kb := kb.grown hgg kb.size (fun b hb => Nat.le_trans hwB (howlt.out b hb).1)
              have hB8 : B ≤ w4.heap.size := Nat.le_trans hB9 hgg.size
              obtain ⟨a90, c90, rfl⟩ := own_shape own3
              obtain ⟨gw, haw, hgw⟩ := own_at2 own3 (j := k) (by have := hMl.out; omega)
              subst haw
              have ow := Lib.hid own3
              clear hgg hg3 hblk3 hgr hblk2 own2 ownr own3 p2 p3 one1 htk hB9 hB10 hwc hrow hck hk0 hk1 hk2 hk3
              go_wp2_with fail
              refine (num_any _ _).mono ?_
              rintro e w12 ⟨rfl, hw⟩
              rw [hw]
              clear hw w12
              obtain ⟨vr8, m08, m18⟩ := v8
              obtain ⟨ar, cr, er1⟩ : ∃ a c, vr8 = .slice a M.length c := own_shape o8.out.rv
              subst er1
              have x1 := k8.cell (j := 1) rfl
              go_upto_region 24 with (first | (refine wpList_load_arr2 rfl _ _ rfl _ rfl (by decide +kernel) _ (by assumption) (by first | (rw [lims_len]; kernel_rfl) | (rw [el_rep]; kernel_rfl) | (rw [el_len]; kernel_rfl) | (rw [byts_len]; kernel_rfl) | (rw [us_len]; kernel_rfl) | (rw [bytn_len]; kernel_rfl) | (rw [ens_len, digs_len]; kernel_rfl) | kernel_rfl) ?_) | (refine wpl_storeG rfl _ _ _ rfl _ _ rfl rfl _ k4 (by kernel_rfl) rfl o8.out.ok.one (fun W9 k4 hg hsz => ?_)))
              have kb := below_gr kb hg hwg4 kb.size
              have ow := Lib.hid (own_grown ow.out hg hlt)
              replace o8 := Lib.hid (o8.out.grown hg (by omega))
              have hB8 : B ≤ W9.heap.size := by omega
              clear hg hsz x1 k8
              first | clear hcx | skip
              go_wp2_with fail
              go_loopw [13] (fun jv wq => ∃ j : Nat, j ≤ M.length ∧ jv = .int .i64 j ∧ Below W9.heap.size W9 wq) (fun jv _ => M.length - (intOf jv).toNat)
              case atStart => exact ⟨0, Nat.zero_le _, rfl, Below.refl _ _⟩
              case round =>
                obtain ⟨j, hj, rfl, hbq⟩ := hrel
                by_cases hjn : j < M.length
                · obtain ⟨g1, ha1, hg1⟩ := own_at2 ow.out hjn
                  obtain ⟨g2, ha2, hg2⟩ := own_at2 o8.out.rv hjn
                  subst ha2
                  cases ha1
                  have z1 := (k4.below hbq).cell (j := 1) rfl
                  have z2 : wr.cell? ⟨gw, j, none⟩ = some (.int .i64 M[j]) := own_cell (own_below ow.out hbq) (by simp [ints, List.getElem?_eq_getElem hjn])
                  have z3 : wr.cell? ⟨g2, j, none⟩ = some (.int .i64 M[j]) := own_cell (own_below o8.out.rv hbq) (by simp [ints, stS, List.getElem?_eq_getElem hjn])
                  obtain ⟨y, hy⟩ : ∃ y, M[j] = y := ⟨_, rfl⟩
                  rw [hy] at z2 z3
                  clear hy
                  have hj0 : (0 : Int) ≤ (j : Int) := by omega
                  have hj1 : (j : Int) < (M.length : Int) := by omega
                  go_upto_region 27 with fail
                  obtain ⟨wq, rfl⟩ : ∃ wq : World, wq = wr := ⟨_, rfl⟩
                  refine Tx.start (fun w' => Below (wq).heap.size (wq) w') 9999 10 rfl (by kernel_rfl) ?_
                  have hS_5 : Below (wq).heap.size (wq) (World.drew wq) := (Below.refl _ _).drew
                  refine Tx.seg (A := ?_) 0 1023 (by kernel_rfl) (by exact hS_5) [0, 1, 2, 3, 4, 5, 6, 7, 8, 9] (by kernel_rfl) ?_ ?_
                  rotate_left
                  · intro w' hB
                    have y1 : w'.cell? ⟨g4, 1, none⟩ = some (.slice (some ⟨g2, 0, none⟩) M.length cr) := by rw [hB.cell (p := ⟨g4, 1, none⟩) (World.block_lt_of_cell? _ _ z1)]; exact z1
                    have y2 : w'.cell? ⟨gw, j, none⟩ = some (.int .i64 y) := by rw [hB.cell (p := ⟨gw, j, none⟩) (World.block_lt_of_cell? _ _ z2)]; exact z2
                    have y3 : w'.cell? ⟨g2, j, none⟩ = some (.int .i64 y) := by rw [hB.cell (p := ⟨g2, j, none⟩) (World.block_lt_of_cell? _ _ z3)]; exact z3
                    iterate 10 (first | (refine rd_skip rfl rfl ?_; simp only [Act.put, List.setIfInBounds_toArray, List.set_cons_zero, List.set_cons_succ]) | (refine rd_load_arr rfl rfl _ _ rfl _ rfl (by decide +kernel) _ (by assumption) (by first | (rw [lims_len]; kernel_rfl) | (rw [el_rep]; kernel_rfl) | (rw [el_len]; kernel_rfl) | (rw [byts_len]; kernel_rfl) | (rw [us_len]; kernel_rfl) | (rw [bytn_len]; kernel_rfl) | (rw [ens_len, digs_len]; kernel_rfl) | kernel_rfl) ?_; simp only [Act.put, List.setIfInBounds_toArray, List.set_cons_zero, List.set_cons_succ]) | (refine rd_take (v := ?_) rfl rfl ?_ ?_; rotate_left; (focus (go_simp; try (with_reducible rfl))); simp only [Act.put, List.setIfInBounds_toArray, List.set_cons_zero, List.set_cons_succ]) | (refine rd_take (v := ?_) rfl rfl ?_ ?_; rotate_left; (focus (try go_simp); fail)))
                    exact rd_nil
                  refine Tx.done (by kernel_rfl) ?_
                  go_wp2_with fail
                  exact ⟨⟨j + 1, by omega, by go_num, bel hbq hS_5⟩, by simp [intOf]; omega⟩
                · have dj : decide ((j : Int) < (M.length : Int)) = false := decide_eq_false (by omega)
                  go_wp2_with fail
                  exact ⟨⟨i + 1, M, ⟨.slice ar M.length cr, m08, m18⟩, by omega, by go_num, risM.out, own_below ow.out hbq, k4.below hbq, o8.out.ok.below hbq, bel kb hbq, Nat.le_trans hB8 hbq.size⟩, by simp [intOf]; omega⟩

end Go.Proofs.Ytkipejhjpfakpaa
