import Derived.Test.YtmlmggmnlgcbcaaGreatJb01
import Derived.Test.YtmlmggmnlgcbcaaGreatJb04
import Derived.Test.YtmlmggmnlgcbcaaGreatJb08
import Derived.WalkSpells
import Derived.WalkKit
import Derived.Deep.CutRange
import Derived.Deep.CutBlock
import Derived.RegionTactic
import Derived.ScopeJumps
import Derived.WalkLawsBesides
import Derived.StillTailTactics
import Derived.Deep.LoopGhost
import Derived.Test.YtmlmggmnlgcbcaaGreatJb07

namespace Go.Proofs.YtmlmggmnlgcbcaaGreat
open Go.RowKit
/-- Four bytes as a word. -/
def w4 (b0 b1 b2 b3 : Nat) : Nat := b0 + 256 * b1 + 65536 * b2 + 16777216 * b3
theorem w4_lt {b0 b1 b2 b3 : Nat} (h0 : b0 < 256) (h1 : b1 < 256) (h2 : b2 < 256) (h3 : b3 < 256) : w4 b0 b1 b2 b3 < 4294967296 := by unfold w4; omega
theorem or_add {x y k : Nat} (hx : x < 2 ^ k) : x ||| (2 ^ k * y) = x + 2 ^ k * y := by
  rw [Nat.or_comm, ← Nat.two_pow_add_eq_or_of_lt hx, Nat.add_comm]
theorem word_any {g o n c : Nat} {b0 b1 b2 b3 : Nat} (w : World) (h0 : b0 < 256) (h1 : b1 < 256) (h2 : b2 < 256) (h3 : b3 < 256) (hn : 4 ≤ n)
    (c0 : w.cell? ⟨g, o, none⟩ = some (.int .u8 (b0 : Int))) (c1 : w.cell? ⟨g, o + 1, none⟩ = some (.int .u8 (b1 : Int))) (c2 : w.cell? ⟨g, o + 2, none⟩ = some (.int .u8 (b2 : Int))) (c3 : w.cell? ⟨g, o + 3, none⟩ = some (.int .u8 (b3 : Int))) :
    Calls Tryz.prog 122 #[.slice (some ⟨g, o, none⟩) n c] w fun e w' => e = .returned (.int .u32 ((w4 b0 b1 b2 b3 : Nat) : Int)) ∧ Below w.heap.size w w' := by
  have n0 : 0 < n := by omega
  have m1 : 1 < n := by omega
  have m2 : 2 < n := by omega
  have m3 : 3 < n := by omega
  have n1 : (1 : Int) < (n : Int) := by omega
  have n2 : (2 : Int) < (n : Int) := by omega
  have n3 : (3 : Int) < (n : Int) := by omega
  have e1 : bits .or .u32 (b0 : Int) (IntKind.u32.wrap ((b1 : Int) * 256)) = ((b0 + 256 * b1 : Nat) : Int) := by
    rw [show ((b1 : Int) * 256) = ((2 ^ 8 * b1 : Nat) : Int) by omega, u32_in (by omega), or_u32 (by omega) (by omega), or_add (k := 8) (by omega)]
  have e2 : bits .or .u32 ((b0 + 256 * b1 : Nat) : Int) (IntKind.u32.wrap ((b2 : Int) * 65536)) = ((b0 + 256 * b1 + 65536 * b2 : Nat) : Int) := by
    rw [show ((b2 : Int) * 65536) = ((2 ^ 16 * b2 : Nat) : Int) by omega, u32_in (by omega), or_u32 (by omega) (by omega), or_add (k := 16) (by omega)]
  have e3 : bits .or .u32 ((b0 + 256 * b1 + 65536 * b2 : Nat) : Int) (IntKind.u32.wrap ((b3 : Int) * 16777216)) = ((w4 b0 b1 b2 b3 : Nat) : Int) := by
    rw [show ((b3 : Int) * 16777216) = ((2 ^ 24 * b3 : Nat) : Int) by omega, u32_in (by omega), or_u32 (by omega) (by omega), or_add (k := 24) (by omega)]
    rfl
  have u0 : IntKind.u32.wrap (b0 : Int) = (b0 : Int) := u32_in (by omega)
  have u1 : IntKind.u32.wrap (b1 : Int) = (b1 : Int) := u32_in (by omega)
  have u2 : IntKind.u32.wrap (b2 : Int) = (b2 : Int) := u32_in (by omega)
  have u3 : IntKind.u32.wrap (b3 : Int) = (b3 : Int) := u32_in (by omega)
  obtain ⟨r1, hr1⟩ : ∃ r, b0 + 256 * b1 = r := ⟨_, rfl⟩
  rw [hr1] at e1 e2 e3
  obtain ⟨r2, hr2⟩ : ∃ r, r1 + 65536 * b2 = r := ⟨_, rfl⟩
  rw [hr2] at e2 e3
  obtain ⟨r3, hr3⟩ : ∃ r, w4 b0 b1 b2 b3 = r := ⟨_, rfl⟩
  rw [hr3] at e3 ⊢
  clear hr1 hr2 hr3
  go_enter Tryz.func122, Tryz.ntmps122
  go_upto_region 1 with fail
  refine Tx.start (fun w' => Below (w).heap.size (w) w') 9999 23 rfl (by kernel_rfl) ?_
  have hS_1 : Below (w).heap.size (w) (World.drew w) := (Below.refl _ _).drew
  refine Tx.seg (A := ?_) 0 8388607 (by kernel_rfl) (by exact hS_1) [0, 1, 2, 3, 4, 5, 6, 7, 8, 9, 10, 11, 12, 13, 14, 15, 16, 17, 18, 19, 20, 21, 22] (by kernel_rfl) ?_ ?_
  rotate_left
  · intro w' hB
    have d0 : w'.cell? ⟨g, o, none⟩ = some (.int .u8 (b0 : Int)) := by rw [hB.cell (p := ⟨g, o, none⟩) (World.block_lt_of_cell? _ _ c0)]; exact c0
    have d1 : w'.cell? ⟨g, o + 1, none⟩ = some (.int .u8 (b1 : Int)) := by rw [hB.cell (p := ⟨g, o + 1, none⟩) (World.block_lt_of_cell? _ _ c1)]; exact c1
    have d2 : w'.cell? ⟨g, o + 2, none⟩ = some (.int .u8 (b2 : Int)) := by rw [hB.cell (p := ⟨g, o + 2, none⟩) (World.block_lt_of_cell? _ _ c2)]; exact c2
    have d3 : w'.cell? ⟨g, o + 3, none⟩ = some (.int .u8 (b3 : Int)) := by rw [hB.cell (p := ⟨g, o + 3, none⟩) (World.block_lt_of_cell? _ _ c3)]; exact c3
    iterate 23 (first | (refine rd_skip rfl rfl ?_; simp only [Act.put, List.setIfInBounds_toArray, List.set_cons_zero, List.set_cons_succ]) | (refine rd_load_arr rfl rfl _ _ rfl _ rfl (by decide +kernel) _ (by assumption) (by first | (rw [lims_len]; kernel_rfl) | (rw [el_rep]; kernel_rfl) | (rw [el_len]; kernel_rfl) | (rw [byts_len]; kernel_rfl) | (rw [us_len]; kernel_rfl) | (rw [bytn_len]; kernel_rfl) | (rw [ens_len, digs_len]; kernel_rfl) | kernel_rfl) ?_; simp only [Act.put, List.setIfInBounds_toArray, List.set_cons_zero, List.set_cons_succ]) | (refine rd_take (v := ?_) rfl rfl ?_ ?_; rotate_left; (focus (go_simp; try (with_reducible rfl))); simp only [Act.put, List.setIfInBounds_toArray, List.set_cons_zero, List.set_cons_succ]) | (refine rd_take (v := ?_) rfl rfl ?_ ?_; rotate_left; (focus (try go_simp); fail)))
    exact rd_nil
  refine Tx.done (by kernel_rfl) ?_
  go_wp2_with fail
  go_ret
  exact ⟨rfl, hS_1⟩
/-- The i-th word of a number. -/
def kw (k i : Nat) : Nat := w4 (k / 256 ^ (4 * i) % 256) (k / 256 ^ (4 * i + 1) % 256) (k / 256 ^ (4 * i + 2) % 256) (k / 256 ^ (4 * i + 3) % 256)
theorem kw_lt (k i : Nat) : kw k i < 4294967296 := w4_lt (Nat.mod_lt _ (by decide)) (Nat.mod_lt _ (by decide)) (Nat.mod_lt _ (by decide)) (Nat.mod_lt _ (by decide))
/-- A block's beginning: so many words of the key; the counter; so many words of the nonce. -/
def stK (k : Nat) : Nat → List Nat
  | 0 => [1634760805, 857760878, 2036477234, 1797285236, 0, 0, 0, 0, 0, 0, 0, 0, 0, 0, 0, 0]
  | i + 1 => (stK k i).set (4 + i) (kw k i)
def stN (l : List Nat) (n : Nat) : Nat → List Nat
  | 0 => l
  | i + 1 => (stN l n i).set (13 + i) (kw n i)
def begL (k c n : Nat) : List Nat := stN ((stK k 8).set 12 c) n 3
theorem stK_len (k : Nat) : ∀ i, (stK k i).length = 16
  | 0 => rfl
  | i + 1 => by rw [stK, List.length_set, stK_len k i]
theorem stN_len {l : List Nat} (hl : l.length = 16) (n : Nat) : ∀ i, (stN l n i).length = 16
  | 0 => hl
  | i + 1 => by rw [stN, List.length_set, stN_len hl n i]
theorem stK_32 (k : Nat) : ∀ i, W32 (stK k i)
  | 0 => by intro x hx; simp only [stK, List.mem_cons, List.not_mem_nil, or_false] at hx; omega
  | i + 1 => (stK_32 k i).set _ (kw_lt _ _)
theorem stN_32 {l : List Nat} (hl : W32 l) (n : Nat) : ∀ i, W32 (stN l n i)
  | 0 => hl
  | i + 1 => (stN_32 hl n i).set _ (kw_lt _ _)
theorem begL_len (k c n : Nat) : (begL k c n).length = 16 := stN_len (by rw [List.length_set, stK_len]) n 3
theorem begL_32 (k n : Nat) {c : Nat} (hc : c < 4294967296) : W32 (begL k c n) := stN_32 ((stK_32 k 8).set 12 hc) n 3
/-- So many quarters of a round along the columns, the diagonals; so many double rounds. -/
def colT (l : List Nat) : Nat → List Nat
  | 0 => l
  | i + 1 => qr (colT l i) i (4 + i) (8 + i) (12 + i)
def diaT (l : List Nat) : Nat → List Nat
  | 0 => l
  | i + 1 => qr (diaT l i) i (4 + (i + 1) % 4) (8 + (i + 2) % 4) (12 + (i + 3) % 4)
def dblT (l : List Nat) : Nat → List Nat
  | 0 => l
  | i + 1 => diaT (colT (dblT l i) 4) 4
theorem colT_ok {l : List Nat} (h : l.length = 16 ∧ W32 l) : ∀ i, (colT l i).length = 16 ∧ W32 (colT l i)
  | 0 => h
  | i + 1 => ⟨by rw [colT, qr_len]; exact (colT_ok h i).1, qr_32 (colT_ok h i).2 _ _ _ _⟩
theorem diaT_ok {l : List Nat} (h : l.length = 16 ∧ W32 l) : ∀ i, (diaT l i).length = 16 ∧ W32 (diaT l i)
  | 0 => h
  | i + 1 => ⟨by rw [diaT, qr_len]; exact (diaT_ok h i).1, qr_32 (diaT_ok h i).2 _ _ _ _⟩
theorem dblT_ok {l : List Nat} (h : l.length = 16 ∧ W32 l) : ∀ i, (dblT l i).length = 16 ∧ W32 (dblT l i)
  | 0 => h
  | i + 1 => diaT_ok (colT_ok (dblT_ok h i) 4) 4
/-- A block of the stream, word by word; its j-th byte. -/
def blkL (k c n : Nat) : List Nat := List.zipWith (fun a b => (a + b) % 4294967296) (dblT (begL k c n) 10) (begL k c n)
def blkB (k c n j : Nat) : Nat := (blkL k c n).getD (j / 4) 0 / 256 ^ (j % 4) % 256
/-- The same as a number: so many of its bytes. -/
def blkT (k c n : Nat) : Nat → Nat
  | 0 => 0
  | j + 1 => blkT k c n j + 256 ^ j * blkB k c n j
theorem blkB_lt (k c n j : Nat) : blkB k c n j < 256 := Nat.mod_lt _ (by decide)
theorem blkT_lt (k c n : Nat) : ∀ j, blkT k c n j < 256 ^ j
  | 0 => Nat.zero_lt_one
  | j + 1 => by
    have h1 := blkT_lt k c n j
    have h2 := blkB_lt k c n j
    rw [blkT, Nat.pow_succ]
    have : 256 ^ j * blkB k c n j ≤ 256 ^ j * 255 := Nat.mul_le_mul_left _ (by omega)
    omega
/-- A byte is set behind the ones that are there. -/
theorem bytn_snoc {K m j v : Nat} (hm : m < 256 ^ j) (hv : v < 256) : (bytn K m).set j (.int .u8 (v : Int)) = bytn K (m + 256 ^ j * v) := by
  apply List.ext_getElem?
  intro i
  have hp : 0 < 256 ^ j := Nat.pow_pos (by decide)
  by_cases hi : i < K
  · rw [List.getElem?_set, bytn_get _ _ _ hi]
    by_cases e : j = i
    · subst e
      rw [if_pos rfl, if_pos (by rw [bytn_len]; exact hi), bytn_get _ _ _ hi, Nat.add_mul_div_left _ _ hp, Nat.div_eq_of_lt hm, Nat.zero_add, Nat.mod_eq_of_lt hv]
    · rw [if_neg e, bytn_get _ _ _ hi]
      congr 3
      by_cases h : i < j
      · have e2 : 256 ^ j = 256 ^ i * (256 * 256 ^ (j - i - 1)) := by rw [← Nat.mul_assoc, ← Nat.pow_succ, ← Nat.pow_add, show i + 1 + (j - i - 1) = j by omega]
        rw [e2, Nat.mul_assoc, Nat.add_mul_div_left _ _ (Nat.pow_pos (by decide)), Nat.mul_assoc, Nat.add_mul_mod_self_left]
      · have h3 : 256 ^ (j + 1) ≤ 256 ^ i := Nat.pow_le_pow_right (by decide) (by omega)
        have h4 : 256 ^ j * v ≤ 256 ^ j * 255 := Nat.mul_le_mul_left _ (by omega)
        rw [Nat.pow_succ] at h3
        rw [Nat.div_eq_of_lt (by omega), Nat.div_eq_of_lt (by omega)]
  · rw [List.getElem?_eq_none (by rw [List.length_set, bytn_len]; omega), List.getElem?_eq_none (by rw [bytn_len]; omega)]
end Go.Proofs.YtmlmggmnlgcbcaaGreat


namespace Go.Proofs.YtmlmggmnlgcbcaaGreat
open Go.RowKit
/-- The i-th four bytes of a number in memory. -/
theorem four_of {w : World} {g K k i : Nat} (h : Arr w g (bytn K k)) (hi : 4 * i + 3 < K) :
    w.cell? ⟨g, 4 * i, none⟩ = some (.int .u8 ((k / 256 ^ (4 * i) % 256 : Nat) : Int)) ∧ w.cell? ⟨g, 4 * i + 1, none⟩ = some (.int .u8 ((k / 256 ^ (4 * i + 1) % 256 : Nat) : Int)) ∧
    w.cell? ⟨g, 4 * i + 2, none⟩ = some (.int .u8 ((k / 256 ^ (4 * i + 2) % 256 : Nat) : Int)) ∧ w.cell? ⟨g, 4 * i + 3, none⟩ = some (.int .u8 ((k / 256 ^ (4 * i + 3) % 256 : Nat) : Int)) :=
  ⟨h.cell (bytn_get _ _ _ (by omega)), h.cell (bytn_get _ _ _ (by omega)), h.cell (bytn_get _ _ _ (by omega)), h.cell (bytn_get _ _ _ (by omega))⟩
theorem word_of {w : World} {g K k i n c : Nat} (h : Arr w g (bytn K k)) (hi : 4 * i + 3 < K) (hn : 4 ≤ n) :
    Calls Tryz.prog 122 #[.slice (some ⟨g, 4 * i, none⟩) n c] w fun e w' => e = .returned (.int .u32 ((kw k i : Nat) : Int)) ∧ Below w.heap.size w w' := by
  obtain ⟨c0, c1, c2, c3⟩ := four_of h hi
  exact word_any w (Nat.mod_lt _ (by decide)) (Nat.mod_lt _ (by decide)) (Nat.mod_lt _ (by decide)) (Nat.mod_lt _ (by decide)) hn c0 c1 c2 c3
set_option maxHeartbeats 4000000 in
set_option maxRecDepth 100000 in
theorem cbegin_any (k n c : Nat) (w : World) :
    Calls Tryz.prog 78 #[.agg (bytn 32 k).toArray, .int .u32 (c : Int), .agg (bytn 12 n).toArray] w fun e w' => e = .returned (.agg (ws (begL k c n)).toArray) ∧ Below w.heap.size w w' := by
  go_enter Tryz.func78, Tryz.ntmps78
  go_upto_region 1 with fail
  refine wp_new3 (fun W hsz k3 k5 k6 kb => ?_)
  have k3 : Arr W w.heap.size (bytn 32 k) := k3
  have k5 : Arr W (w.heap.size + 1) (bytn 12 n) := k5
  have k6 : Arr W (w.heap.size + 1 + 1) (List.replicate 16 (.int .u32 0)) := k6
  clear hsz
  go_upto_region 2 with fail
  refine wp_new1 (fun w4 hsz k7 hb => ?_)
  replace k7 : Arr w4 W.heap.size (ws (stK k 0)) := k7
  have h3 := k3.lt
  have h5 := k5.lt
  have h6 := k6.lt
  replace k3 := k3.below hb
  replace k5 := k5.below hb
  replace k6 := k6.below hb
  replace kb := bel kb hb
  obtain ⟨g7, hg7⟩ : ∃ g, W.heap.size = g := ⟨_, rfl⟩
  rw [hg7] at k7 h3 h5 h6 ⊢
  clear hb hsz hg7
  obtain ⟨g3, hg3⟩ : ∃ g, w.heap.size = g := ⟨_, rfl⟩
  rw [hg3] at k3 k5 k6 h3 h5 h6 ⊢
  replace hg3 := Lib.hid hg3
  go_wp2_with fail
  go_loopw [11] (fun iv wr => ∃ i : Nat, i ≤ 8 ∧ iv = .int .i64 i ∧ Arr wr g3 (bytn 32 k) ∧ Arr wr (g3 + 1) (bytn 12 n) ∧ Arr wr (g3 + 1 + 1) (List.replicate 16 (.int .u32 0)) ∧ Arr wr g7 (ws (stK k i)) ∧ Below w.heap.size w wr) (fun iv _ => 8 - (intOf iv).toNat)
  case atStart => exact ⟨0, by omega, rfl, k3, k5, k6, k7, kb⟩
  case round =>
    clear k3 k5 k6 k7 kb
    obtain ⟨i, hi, rfl, k3, k5, k6, k7, kb⟩ := hrel
    have hi0 : (0 : Int) ≤ (i : Int) := by omega
    by_cases hin : i < 8
    · have hi1 : (i : Int) < 8 := by omega
      obtain ⟨j, hj⟩ : ∃ j, 4 * i = j := ⟨_, rfl⟩
      obtain ⟨m, hm⟩ : ∃ m, 4 + i = m := ⟨_, rfl⟩
      have e4 : 4 * (i : Int) = (j : Int) := by omega
      have em : 4 + (i : Int) = (m : Int) := by omega
      have hj0 : (0 : Int) ≤ (j : Int) := by omega
      have hj1 : (j : Int) ≤ 32 := by omega
      have hj2 : ¬ 32 = j := by omega
      have hm0 : (0 : Int) ≤ (m : Int) := by omega
      have hm1 : (m : Int) < 16 := by omega
      replace hj := Lib.hid hj
      replace hm := Lib.hid hm
      go_wp2_with fail
      refine (show Calls Tryz.prog 122 #[.slice (some ⟨g3, j, none⟩) (32 - j) (32 - j)] wr fun e w' => e = .returned (.int .u32 ((kw k i : Nat) : Int)) ∧ Below wr.heap.size wr w' from by rw [← hj.out]; exact word_of k3 (by omega) (by omega)).mono ?_
      rintro e w5 ⟨rfl, hb⟩
      replace k3 := k3.below hb
      replace k5 := k5.below hb
      replace k6 := k6.below hb
      replace k7 := k7.below hb
      replace kb := bel kb hb
      clear hb
      obtain ⟨x, hx⟩ : ∃ x, kw k i = x := ⟨_, rfl⟩
      rw [hx]
      have hset : Hid ((ws (stK k i)).set m (.int .u32 (x : Int)) = ws (stK k (i + 1))) := Lib.hid (by rw [ws_set, ← hx, ← hm.out]; rfl)
      clear hx
      have hlen := Lib.hid (stK_len k i)
      go_wp2_with (refine wpl_cellG rfl _ _ _ rfl g7 m (.int .u32 (x : Int)) rfl rfl _ k7 (by kernel_rfl) (by rw [ws_len, hlen.out]; omega) rfl (fun w6 k7 hg hsz => ?_))
      rw [hset.out] at k7
      have q3 := k3.kept hg (by omega)
      have q5 := k5.kept hg (by omega)
      have q6 := k6.kept hg (by omega)
      have qb := below_gr kb hg (by rw [hg3.out]; omega) kb.size
      go_wp2_with fail
      exact ⟨⟨i + 1, by omega, by go_num, q3, q5, q6, k7, qb⟩, by simp [intOf]; omega⟩
    · obtain rfl : i = 8 := by omega
      have hset : Hid ((ws (stK k 8)).set 12 (.int .u32 (c : Int)) = ws (stN ((stK k 8).set 12 c) n 0)) := Lib.hid (by rw [ws_set]; rfl)
      have hlen := Lib.hid (stK_len k 8)
      go_upto_region 8 with (refine wpl_cellG rfl _ _ _ rfl g7 12 (.int .u32 (c : Int)) rfl rfl _ k7 (by kernel_rfl) (by rw [ws_len, hlen.out]; omega) rfl (fun w6 k7 hg hsz => ?_))
      rw [hset.out] at k7
      replace k3 := k3.kept hg (by omega)
      replace k5 := k5.kept hg (by omega)
      replace k6 := k6.kept hg (by omega)
      replace kb := below_gr kb hg (by rw [hg3.out]; omega) kb.size
      have hl0 : Hid (((stK k 8).set 12 c).length = 16) := Lib.hid (by rw [List.length_set]; exact stK_len k 8)
      obtain ⟨l0, hl⟩ : ∃ l, (stK k 8).set 12 c = l := ⟨_, rfl⟩
      rw [hl] at k7 hl0
      replace hl := Lib.hid hl
      clear hg hsz hset hlen hin hi hi0
      go_wp2_with fail
      go_loopw [24] (fun iv wr => ∃ i : Nat, i ≤ 3 ∧ iv = .int .i64 i ∧ Arr wr (g3 + 1) (bytn 12 n) ∧ Arr wr (g3 + 1 + 1) (List.replicate 16 (.int .u32 0)) ∧ Arr wr g7 (ws (stN l0 n i)) ∧ Below w.heap.size w wr) (fun iv _ => 3 - (intOf iv).toNat)
      case atStart => exact ⟨0, by omega, rfl, k5, k6, k7, kb⟩
      case round =>
        clear k3 k5 k6 k7 kb
        obtain ⟨i, hi, rfl, k5, k6, k7, kb⟩ := hrel
        have hi0 : (0 : Int) ≤ (i : Int) := by omega
        by_cases hin : i < 3
        · have hi1 : (i : Int) < 3 := by omega
          obtain ⟨j, hj⟩ : ∃ j, 4 * i = j := ⟨_, rfl⟩
          obtain ⟨m, hm⟩ : ∃ m, 13 + i = m := ⟨_, rfl⟩
          have e4 : 4 * (i : Int) = (j : Int) := by omega
          have em : 13 + (i : Int) = (m : Int) := by omega
          have hj0 : (0 : Int) ≤ (j : Int) := by omega
          have hj1 : (j : Int) ≤ 12 := by omega
          have hj2 : ¬ 12 = j := by omega
          have hm0 : (0 : Int) ≤ (m : Int) := by omega
          have hm1 : (m : Int) < 16 := by omega
          replace hj := Lib.hid hj
          replace hm := Lib.hid hm
          go_wp2_with fail
          refine (show Calls Tryz.prog 122 #[.slice (some ⟨g3 + 1, j, none⟩) (12 - j) (12 - j)] wr fun e w' => e = .returned (.int .u32 ((kw n i : Nat) : Int)) ∧ Below wr.heap.size wr w' from by rw [← hj.out]; exact word_of k5 (by omega) (by omega)).mono ?_
          rintro e w5 ⟨rfl, hb⟩
          replace k5 := k5.below hb
          replace k6 := k6.below hb
          replace k7 := k7.below hb
          replace kb := bel kb hb
          clear hb
          obtain ⟨x, hx⟩ : ∃ x, kw n i = x := ⟨_, rfl⟩
          rw [hx]
          have hset : Hid ((ws (stN l0 n i)).set m (.int .u32 (x : Int)) = ws (stN l0 n (i + 1))) := Lib.hid (by rw [ws_set, ← hx, ← hm.out]; rfl)
          clear hx
          have hlen := Lib.hid (stN_len hl0.out n i)
          go_wp2_with (refine wpl_cellG rfl _ _ _ rfl g7 m (.int .u32 (x : Int)) rfl rfl _ k7 (by kernel_rfl) (by rw [ws_len, hlen.out]; omega) rfl (fun w6 k7 hg hsz => ?_))
          rw [hset.out] at k7
          have q5 := k5.kept hg (by omega)
          have q6 := k6.kept hg (by omega)
          have qb := below_gr kb hg (by rw [hg3.out]; omega) kb.size
          go_wp2_with fail
          exact ⟨⟨i + 1, by omega, by go_num, q5, q6, k7, qb⟩, by simp [intOf]; omega⟩
        · obtain rfl : i = 3 := by omega
          have hres : Hid (stN l0 n 3 = begL k c n) := Lib.hid (by rw [← hl.out]; rfl)
          rw [hres.out] at k7
          have hlen := Lib.hid (begL_len k c n)
          go_wp2_with (first | (refine wpList_load_arr2 rfl _ _ rfl _ rfl (by decide +kernel) _ k7 (by rw [ws_len, hlen.out]; kernel_rfl) ?_) | (refine wpl_storeG rfl _ _ _ rfl _ (ws (begL k c n)) rfl rfl _ k6 (by rw [ws_len, hlen.out]; kernel_rfl) (by rw [ws_len, hlen.out]; rfl) (ws_one _) (fun w7 k6 hg hsz => ?_)))
          have qb := below_gr kb hg (by rw [hg3.out]; omega) kb.size
          exact bodyPost_ret (results_arr2 Tryz.results78 _ _ _ rfl (by kernel_rfl) _ k6 (by rw [ws_len, hlen.out]; kernel_rfl)) rfl ⟨rfl, qb⟩
end Go.Proofs.YtmlmggmnlgcbcaaGreat


namespace Go.Proofs.YtmlmggmnlgcbcaaGreat
open Go.RowKit
theorem u8_mod (a : Nat) : IntKind.u8.wrap (a : Int) = ((a % 256 : Nat) : Int) := by
  simp [IntKind.wrap, IntKind.bits, IntKind.signed]
theorem zip_get {A B : List Nat} {q : Nat} (ha : q < A.length) (hb : q < B.length) : (List.zipWith (fun a b => (a + b) % 4294967296) A B).getD q 0 = (A.getD q 0 + B.getD q 0) % 4294967296 := by
  rw [List.getD_eq_getElem?_getD, List.getElem?_zipWith]
  simp [ha, hb]
theorem blk_set {k c n j z e : Nat} {f : Int} (hb : blkB k c n j = z / 256 ^ (j % 4) % 256) (he : j % 4 = e) (hf : f = ((z / 256 ^ e : Nat) : Int)) :
    (bytn 64 (blkT k c n j)).set j (.int .u8 (IntKind.u8.wrap f)) = bytn 64 (blkT k c n (j + 1)) := by
  rw [hf, u8_mod, bytn_snoc (blkT_lt k c n j) (Nat.mod_lt _ (by decide)), blkT, hb, he]
theorem below_fresh {w w' : World} {o : Obj} (hg : (w.alloc o).grownBy w' (some w.heap.size)) : Below w.heap.size w w' :=
  below_gr (below_alloc w o) hg (Nat.le_refl _) (by simp)
set_option maxHeartbeats 4000000 in
set_option maxRecDepth 100000 in
theorem cblock_any (k n c : Nat) (hc : c < 4294967296) (w : World) :
    Calls Tryz.prog 49 #[.agg (bytn 32 k).toArray, .int .i64 (c : Int), .agg (bytn 12 n).toArray] w fun e w' => e = .returned (.agg (bytn 64 (blkT k c n 64)).toArray) ∧ Below w.heap.size w w' := by
  have uc := u32_in hc
  go_enter Tryz.func49, Tryz.ntmps49
  go_upto_region 1 with fail
  refine wp_new3 (fun W hsz k3 k5 k6 kb => ?_)
  have k3 : Arr W w.heap.size (bytn 32 k) := k3
  have k5 : Arr W (w.heap.size + 1) (bytn 12 n) := k5
  have k6 : Arr W (w.heap.size + 1 + 1) (bytn 64 0) := k6
  clear hsz
  go_wp2_with (first | (refine wpList_load_arr2 rfl _ _ rfl _ rfl (by decide +kernel) _ k3 (by rw [bytn_len]; kernel_rfl) ?_) | (refine wpList_load_arr2 rfl _ _ rfl _ rfl (by decide +kernel) _ k5 (by rw [bytn_len]; kernel_rfl) ?_))
  refine (cbegin_any k n c _).mono ?_
  rintro e w1 ⟨rfl, hb⟩
  replace k3 := k3.below hb
  replace k5 := k5.below hb
  replace k6 := k6.below hb
  replace kb := bel kb hb
  clear hb
  have hs : Hid ((begL k c n).length = 16 ∧ W32 (begL k c n)) := Lib.hid ⟨begL_len k c n, begL_32 k n hc⟩
  obtain ⟨s, hse⟩ : ∃ s, begL k c n = s := ⟨_, rfl⟩
  rw [hse] at hs ⊢
  replace hse := Lib.hid hse
  go_upto_region 2 with (refine wpl_storeG rfl _ _ _ rfl _ (ws s) rfl rfl _ (Arr.new _ _ _) (by rw [ws_len, hs.out.1]; kernel_rfl) (by rw [ws_len, hs.out.1]; rfl) (ws_one _) (fun w2 k7 hg hsz => ?_))
  have hb := below_fresh hg
  have h37 := k3.lt
  have h57 := k5.lt
  have h67 := k6.lt
  replace k3 := k3.below hb
  replace k5 := k5.below hb
  replace k6 := k6.below hb
  replace kb := bel kb hb
  obtain ⟨g7, hg7⟩ : ∃ g, w1.heap.size = g := ⟨_, rfl⟩
  rw [hg7] at k7 h37 h57 h67 ⊢
  clear hb hsz hg7 hg
  go_upto_region 3 with (first | (refine wpList_load_arr2 rfl _ _ rfl _ rfl (by decide +kernel) _ k7 (by rw [ws_len, hs.out.1]; kernel_rfl) ?_) | (refine wpl_storeG rfl _ _ _ rfl _ (ws s) rfl rfl _ (Arr.new _ _ _) (by rw [ws_len, hs.out.1]; kernel_rfl) (by rw [ws_len, hs.out.1]; rfl) (ws_one _) (fun w3 k8 hg hsz => ?_)))
  have hb := below_fresh hg
  have h78 := k7.lt
  replace k6 := k6.below hb
  replace k7 := k7.below hb
  replace kb := bel kb hb
  obtain ⟨g8, hg8⟩ : ∃ g, w2.heap.size = g := ⟨_, rfl⟩
  rw [hg8] at k8 h78 ⊢
  clear hb hsz hg8 hg k3 k5 h37 h57
  obtain ⟨g6, hg6⟩ : ∃ g, w.heap.size + 1 + 1 = g := ⟨_, rfl⟩
  rw [hg6] at k6 h67 ⊢
  have hw6 : w.heap.size < g6 := by omega
  clear hg6
  go_wp2_with fail
  go_loopw [19] (fun iv wr => ∃ r : Nat, r ≤ 10 ∧ iv = .int .i64 r ∧ Arr wr g6 (bytn 64 0) ∧ Arr wr g7 (ws s) ∧ Arr wr g8 (ws (dblT s r)) ∧ Below w.heap.size w wr) (fun iv _ => 10 - (intOf iv).toNat)
  case atStart => exact ⟨0, by omega, rfl, k6, k7, k8, kb⟩
  case round =>
    clear k6 k7 k8 kb
    obtain ⟨r, hr, rfl, k6, k7, k8, kb⟩ := hrel
    have hr0 : (0 : Int) ≤ (r : Int) := by omega
    by_cases hrn : r < 10
    · have hr1 : (r : Int) < 10 := by omega
      have ok0 := Lib.hid (dblT_ok hs.out r)
      obtain ⟨t, ht⟩ : ∃ t, dblT s r = t := ⟨_, rfl⟩
      rw [ht] at ok0 k8
      replace ht := Lib.hid ht
      go_wp2_with fail
      go_loopw [21] (fun iv wr => ∃ i : Nat, i ≤ 4 ∧ iv = .int .i64 i ∧ Arr wr g6 (bytn 64 0) ∧ Arr wr g7 (ws s) ∧ Arr wr g8 (ws (colT t i)) ∧ Below w.heap.size w wr) (fun iv _ => 4 - (intOf iv).toNat)
      case atStart => exact ⟨0, by omega, rfl, k6, k7, k8, kb⟩
      case round =>
        clear k6 k7 k8 kb
        obtain ⟨i, hi, rfl, k6, k7, k8, kb⟩ := hrel
        have hi0 : (0 : Int) ≤ (i : Int) := by omega
        by_cases hin : i < 4
        · have hi1 : (i : Int) < 4 := by omega
          have ok1 := Lib.hid (colT_ok ok0.out i)
          obtain ⟨b, hb⟩ : ∃ b, 4 + i = b := ⟨_, rfl⟩
          obtain ⟨d, hd⟩ : ∃ d, 8 + i = d := ⟨_, rfl⟩
          obtain ⟨f, hf⟩ : ∃ f, 12 + i = f := ⟨_, rfl⟩
          have eb : 4 + (i : Int) = (b : Int) := by omega
          have ed : 8 + (i : Int) = (d : Int) := by omega
          have ef : 12 + (i : Int) = (f : Int) := by omega
          have hst : Hid (qr (colT t i) i b d f = colT t (i + 1)) := Lib.hid (by rw [← hb, ← hd, ← hf]; rfl)
          have lb : b < 16 := by omega
          have ld : d < 16 := by omega
          have lf : f < 16 := by omega
          replace hb := Lib.hid hb
          replace hd := Lib.hid hd
          replace hf := Lib.hid hf
          go_wp2_with fail
          refine (quarter_any (g := g8) (a := i) (b := b) (c := d) (d := f) _ ok1.out.1 ok1.out.2 (by omega) lb ld lf k8).mono ?_
          rintro e w9 ⟨rfl, k8, hg⟩
          rw [hst.out] at k8
          replace k6 := k6.kept hg (by omega)
          replace k7 := k7.kept hg (by omega)
          replace kb := below_gr kb hg (by omega) kb.size
          go_wp2_with fail
          exact ⟨⟨i + 1, by omega, by go_num, k6, k7, k8, kb⟩, by simp [intOf]; omega⟩
        · have dj : decide ((i : Int) < 4) = false := decide_eq_false (by omega)
          have hie : Hid (i = 4) := Lib.hid (by omega)
          rw [hie.out] at k8
          have ok1 := Lib.hid (colT_ok ok0.out 4)
          obtain ⟨u, hu⟩ : ∃ u, colT t 4 = u := ⟨_, rfl⟩
          rw [hu] at ok1 k8
          replace hu := Lib.hid hu
          clear hi hin hi0
          obtain ⟨ic, hic⟩ : ∃ ic : Int, (i : Int) = ic := ⟨_, rfl⟩
          rw [hic] at dj ⊢
          clear hic
          go_wp2_with fail
          clear dj
          go_loopw [33] (fun iv wr => ∃ i : Nat, i ≤ 4 ∧ iv = .int .i64 i ∧ Arr wr g6 (bytn 64 0) ∧ Arr wr g7 (ws s) ∧ Arr wr g8 (ws (diaT u i)) ∧ Below w.heap.size w wr) (fun iv _ => 4 - (intOf iv).toNat)
          case atStart => exact ⟨0, by omega, rfl, k6, k7, k8, kb⟩
          case round =>
            clear k6 k7 k8 kb
            obtain ⟨i, hi, rfl, k6, k7, k8, kb⟩ := hrel
            by_cases hin : i < 4
            · have hi0 : (0 : Int) ≤ (i : Int) := by omega
              have hi1 : (i : Int) < 4 := by omega
              have ok2 := Lib.hid (diaT_ok ok1.out i)
              obtain ⟨p, hp⟩ : ∃ p, (i + 1) % 4 = p := ⟨_, rfl⟩
              obtain ⟨q, hq⟩ : ∃ q, (i + 2) % 4 = q := ⟨_, rfl⟩
              obtain ⟨x, hx⟩ : ∃ x, (i + 3) % 4 = x := ⟨_, rfl⟩
              have m1 : Int.tmod ((i : Int) + 1) 4 = (p : Int) := by rw [Int.tmod_eq_emod_of_nonneg (by omega)]; omega
              have m2 : Int.tmod ((i : Int) + 2) 4 = (q : Int) := by rw [Int.tmod_eq_emod_of_nonneg (by omega)]; omega
              have m3 : Int.tmod ((i : Int) + 3) 4 = (x : Int) := by rw [Int.tmod_eq_emod_of_nonneg (by omega)]; omega
              have n1 : IntKind.i64.wrap (p : Int) = (p : Int) := i64_in (by omega)
              have n2 : IntKind.i64.wrap (q : Int) = (q : Int) := i64_in (by omega)
              have n3 : IntKind.i64.wrap (x : Int) = (x : Int) := i64_in (by omega)
              obtain ⟨b, hb⟩ : ∃ b, 4 + p = b := ⟨_, rfl⟩
              obtain ⟨d, hd⟩ : ∃ d, 8 + q = d := ⟨_, rfl⟩
              obtain ⟨f, hf⟩ : ∃ f, 12 + x = f := ⟨_, rfl⟩
              have eb : 4 + (p : Int) = (b : Int) := by omega
              have ed : 8 + (q : Int) = (d : Int) := by omega
              have ef : 12 + (x : Int) = (f : Int) := by omega
              have hst : Hid (qr (diaT u i) i b d f = diaT u (i + 1)) := Lib.hid (by rw [← hb, ← hd, ← hf, ← hp, ← hq, ← hx]; rfl)
              have lb : b < 16 := by omega
              have ld : d < 16 := by omega
              have lf : f < 16 := by omega
              replace hb := Lib.hid hb
              replace hd := Lib.hid hd
              replace hf := Lib.hid hf
              replace hp := Lib.hid hp
              replace hq := Lib.hid hq
              replace hx := Lib.hid hx
              go_wp2_with fail
              refine (quarter_any (g := g8) (a := i) (b := b) (c := d) (d := f) _ ok2.out.1 ok2.out.2 (by omega) lb ld lf k8).mono ?_
              rintro e w9 ⟨rfl, k8, hg⟩
              rw [hst.out] at k8
              replace k6 := k6.kept hg (by omega)
              replace k7 := k7.kept hg (by omega)
              replace kb := below_gr kb hg (by omega) kb.size
              go_wp2_with fail
              exact ⟨⟨i + 1, by omega, by go_num, k6, k7, k8, kb⟩, by simp [intOf]; omega⟩
            · have dj : decide ((i : Int) < 4) = false := decide_eq_false (by omega)
              have hie : Hid (i = 4) := Lib.hid (by omega)
              rw [hie.out] at k8
              have hst : Hid (diaT u 4 = dblT s (r + 1)) := Lib.hid (by rw [← hu.out, ← ht.out]; rfl)
              rw [hst.out] at k8
              clear hi hin
              go_wp2_with fail
              exact ⟨⟨r + 1, by omega, by go_num, k6, k7, k8, kb⟩, by simp [intOf]; omega⟩
    · have dj : decide ((r : Int) < 10) = false := decide_eq_false (by omega)
      have hie : Hid (r = 10) := Lib.hid (by omega)
      rw [hie.out] at k8
      clear hr hrn hr0
      obtain ⟨ic, hic⟩ : ∃ ic : Int, (r : Int) = ic := ⟨_, rfl⟩
      rw [hic] at dj ⊢
      clear hic
      go_upto_region 17 with fail
      clear dj
      refine wp_new1 (fun w4 hsz k11 hb => ?_)
      replace k11 : Arr w4 wr.heap.size (bytn 64 0) := k11
      have h6l := k6.lt
      have h7l := k7.lt
      have h8l := k8.lt
      replace k6 := k6.below hb
      replace k7 := k7.below hb
      replace k8 := k8.below hb
      replace kb := bel kb hb
      obtain ⟨g11, hg11⟩ : ∃ g, wr.heap.size = g := ⟨_, rfl⟩
      rw [hg11] at k11 h6l h7l h8l ⊢
      clear hb hsz hg11
      obtain ⟨v, hv⟩ : ∃ v, dblT s 10 = v := ⟨_, rfl⟩
      have hvk := Lib.hid (show v.length = 16 ∧ W32 v by rw [← hv]; exact dblT_ok hs.out 10)
      rw [hv] at k8
      replace hv := Lib.hid hv
      go_wp2_with fail
      go_loopw [52] (fun iv wr => ∃ j : Nat, j ≤ 64 ∧ iv = .int .i64 j ∧ Arr wr g6 (bytn 64 0) ∧ Arr wr g7 (ws s) ∧ Arr wr g8 (ws v) ∧ Arr wr g11 (bytn 64 (blkT k c n j)) ∧ Below w.heap.size w wr) (fun iv _ => 64 - (intOf iv).toNat)
      case atStart => exact ⟨0, by omega, rfl, k6, k7, k8, k11, kb⟩
      case round =>
        clear k6 k7 k8 k11 kb
        obtain ⟨j, hj, rfl, k6, k7, k8, k11, kb⟩ := hrel
        have hj0 : (0 : Int) ≤ (j : Int) := by omega
        by_cases hjn : j < 64
        · have hj1 : (j : Int) < 64 := by omega
          obtain ⟨q, hq⟩ : ∃ q, j / 4 = q := ⟨_, rfl⟩
          have hq1 : q < 16 := by omega
          have fq : Int.tdiv (j : Int) 4 = (q : Int) := by rw [Int.tdiv_eq_ediv_of_nonneg hj0]; omega
          have fw : IntKind.i64.wrap (q : Int) = (q : Int) := i64_in (by omega)
          have hq2 : (0 : Int) ≤ (q : Int) := by omega
          have hq3 : (q : Int) < 16 := by omega
          have hcx := ws_get (l := v) (j := q) (by rw [hvk.out.1]; exact hq1)
          have hcy := ws_get (l := s) (j := q) (by rw [hs.out.1]; exact hq1)
          have lx := hvk.out.2.get q
          have ly := hs.out.2.get q
          obtain ⟨x, hx⟩ : ∃ x, v.getD q 0 = x := ⟨_, rfl⟩
          obtain ⟨y, hy⟩ : ∃ y, s.getD q 0 = y := ⟨_, rfl⟩
          rw [hx] at hcx lx
          rw [hy] at hcy ly
          obtain ⟨z, hz⟩ : ∃ z, (x + y) % 4294967296 = z := ⟨_, rfl⟩
          have fz : IntKind.u32.wrap ((x : Int) + (y : Int)) = (z : Int) := by rw [show ((x : Int) + (y : Int)) = ((x + y : Nat) : Int) by omega, u32_mod, hz]
          have hbl : Hid (blkB k c n j = z / 256 ^ (j % 4) % 256) := Lib.hid (by rw [blkB, blkL, hq, hse.out, hv.out, zip_get (by rw [hvk.out.1]; exact hq1) (by rw [hs.out.1]; exact hq1), hx, hy, hz])
          replace hcx := Lib.hid hcx
          replace hcy := Lib.hid hcy
          have he4 : j % 4 = 0 ∨ j % 4 = 1 ∨ j % 4 = 2 ∨ j % 4 = 3 := by omega
          rcases he4 with he | he | he | he
          · have ft : Int.tmod (j : Int) 4 = 0 := by rw [Int.tmod_eq_emod_of_nonneg hj0]; omega
            replace he := Lib.hid he
            have fs : IntKind.i64.wrap 0 = 0 := by decide
            have hset : Hid ((bytn 64 (blkT k c n j)).set j (.int .u8 (IntKind.u8.wrap (z : Int))) = bytn 64 (blkT k c n (j + 1))) := Lib.hid (blk_set (e := 0) hbl.out he.out (by omega))
            go_upto_region 20 with fail
            obtain ⟨wq, rfl⟩ : ∃ wq : World, wq = wr := ⟨_, rfl⟩
            refine Tx.start (fun w' => Below (wq).heap.size (wq) w') 16 17 rfl (by kernel_rfl) ?_
            have hS_1 : Below (wq).heap.size (wq) (World.drew wq) := (Below.refl _ _).drew
            refine Tx.seg2 (A := ?_) 1 65535 (by kernel_rfl) (by exact hS_1) [0, 1, 2, 3, 4, 5, 6, 7, 8, 9, 10, 11, 12, 13, 14, 15] (by kernel_rfl) ?_ ?_
            rotate_left
            · intro w' hB
              have e1 := (k8.below hB).cell hcx.out
              have e2 := (k7.below hB).cell hcy.out
              iterate 16 (first | (refine rd_skip rfl rfl ?_; simp only [Act.put, List.setIfInBounds_toArray, List.set_cons_zero, List.set_cons_succ]) | (refine rd_load_arr rfl rfl _ _ rfl _ rfl (by decide +kernel) _ (by assumption) (by first | (rw [lims_len]; kernel_rfl) | (rw [el_rep]; kernel_rfl) | (rw [el_len]; kernel_rfl) | (rw [byts_len]; kernel_rfl) | (rw [us_len]; kernel_rfl) | (rw [bytn_len]; kernel_rfl) | (rw [ens_len, digs_len]; kernel_rfl) | kernel_rfl) ?_; simp only [Act.put, List.setIfInBounds_toArray, List.set_cons_zero, List.set_cons_succ]) | (refine rd_take (v := ?_) rfl rfl ?_ ?_; rotate_left; (focus (go_simp; try (with_reducible rfl))); simp only [Act.put, List.setIfInBounds_toArray, List.set_cons_zero, List.set_cons_succ]) | (refine rd_take (v := ?_) rfl rfl ?_ ?_; rotate_left; (focus (try go_simp); fail)))
              exact rd_nil
            refine Tx.bar 131071 rfl (by decide +kernel) (fun K hK => ?_)
            replace k6 := k6.below hS_1
            replace k7 := k7.below hS_1
            replace k8 := k8.below hS_1
            replace k11 := k11.below hS_1
            replace kb := bel kb hS_1
            clear hS_1
            refine step_cellG rfl _ _ _ rfl g11 j (.int .u8 (IntKind.u8.wrap (z : Int))) rfl rfl _ k11 (by kernel_rfl) (by rw [bytn_len]; omega) rfl (fun w5 k11 hg hsz => ?_)
            rw [hset.out] at k11
            replace k6 := k6.kept hg (by omega)
            replace k7 := k7.kept hg (by omega)
            replace k8 := k8.kept hg (by omega)
            replace kb := below_gr kb hg (by omega) kb.size
            refine hK (fun _ => True) 9999 _ _ ?_
            clear hK K
            try simp only [Act.put]
            try simp only [List.setIfInBounds_toArray, List.set_cons_zero, List.set_cons_succ]
            refine Tx.done (by kernel_rfl) ?_
            go_wp2_with fail
            exact ⟨⟨j + 1, by omega, by go_num, k6, k7, k8, k11, kb⟩, by simp [intOf]; omega⟩
          · have ft : Int.tmod (j : Int) 4 = 1 := by rw [Int.tmod_eq_emod_of_nonneg hj0]; omega
            replace he := Lib.hid he
            have fs : IntKind.i64.wrap 8 = 8 := by decide
            have hset : Hid ((bytn 64 (blkT k c n j)).set j (.int .u8 (IntKind.u8.wrap ((z : Int) / 256))) = bytn 64 (blkT k c n (j + 1))) := Lib.hid (blk_set (e := 1) hbl.out he.out (by omega))
            go_upto_region 20 with fail
            obtain ⟨wq, rfl⟩ : ∃ wq : World, wq = wr := ⟨_, rfl⟩
            refine Tx.start (fun w' => Below (wq).heap.size (wq) w') 16 17 rfl (by kernel_rfl) ?_
            have hS_2 : Below (wq).heap.size (wq) (World.drew wq) := (Below.refl _ _).drew
            refine Tx.seg2 (A := ?_) 1 65535 (by kernel_rfl) (by exact hS_2) [0, 1, 2, 3, 4, 5, 6, 7, 8, 9, 10, 11, 12, 13, 14, 15] (by kernel_rfl) ?_ ?_
            rotate_left
            · intro w' hB
              have e1 := (k8.below hB).cell hcx.out
              have e2 := (k7.below hB).cell hcy.out
              iterate 16 (first | (refine rd_skip rfl rfl ?_; simp only [Act.put, List.setIfInBounds_toArray, List.set_cons_zero, List.set_cons_succ]) | (refine rd_load_arr rfl rfl _ _ rfl _ rfl (by decide +kernel) _ (by assumption) (by first | (rw [lims_len]; kernel_rfl) | (rw [el_rep]; kernel_rfl) | (rw [el_len]; kernel_rfl) | (rw [byts_len]; kernel_rfl) | (rw [us_len]; kernel_rfl) | (rw [bytn_len]; kernel_rfl) | (rw [ens_len, digs_len]; kernel_rfl) | kernel_rfl) ?_; simp only [Act.put, List.setIfInBounds_toArray, List.set_cons_zero, List.set_cons_succ]) | (refine rd_take (v := ?_) rfl rfl ?_ ?_; rotate_left; (focus (go_simp; try (with_reducible rfl))); simp only [Act.put, List.setIfInBounds_toArray, List.set_cons_zero, List.set_cons_succ]) | (refine rd_take (v := ?_) rfl rfl ?_ ?_; rotate_left; (focus (try go_simp); fail)))
              exact rd_nil
            refine Tx.bar 131071 rfl (by decide +kernel) (fun K hK => ?_)
            replace k6 := k6.below hS_2
            replace k7 := k7.below hS_2
            replace k8 := k8.below hS_2
            replace k11 := k11.below hS_2
            replace kb := bel kb hS_2
            clear hS_2
            refine step_cellG rfl _ _ _ rfl g11 j (.int .u8 (IntKind.u8.wrap ((z : Int) / 256))) rfl rfl _ k11 (by kernel_rfl) (by rw [bytn_len]; omega) rfl (fun w5 k11 hg hsz => ?_)
            rw [hset.out] at k11
            replace k6 := k6.kept hg (by omega)
            replace k7 := k7.kept hg (by omega)
            replace k8 := k8.kept hg (by omega)
            replace kb := below_gr kb hg (by omega) kb.size
            refine hK (fun _ => True) 9999 _ _ ?_
            clear hK K
            try simp only [Act.put]
            try simp only [List.setIfInBounds_toArray, List.set_cons_zero, List.set_cons_succ]
            refine Tx.done (by kernel_rfl) ?_
            go_wp2_with fail
            exact ⟨⟨j + 1, by omega, by go_num, k6, k7, k8, k11, kb⟩, by simp [intOf]; omega⟩
          · have ft : Int.tmod (j : Int) 4 = 2 := by rw [Int.tmod_eq_emod_of_nonneg hj0]; omega
            replace he := Lib.hid he
            have fs : IntKind.i64.wrap 16 = 16 := by decide
            have hset : Hid ((bytn 64 (blkT k c n j)).set j (.int .u8 (IntKind.u8.wrap ((z : Int) / 65536))) = bytn 64 (blkT k c n (j + 1))) := Lib.hid (blk_set (e := 2) hbl.out he.out (by omega))
            go_upto_region 20 with fail
            obtain ⟨wq, rfl⟩ : ∃ wq : World, wq = wr := ⟨_, rfl⟩
            refine Tx.start (fun w' => Below (wq).heap.size (wq) w') 16 17 rfl (by kernel_rfl) ?_
            have hS_3 : Below (wq).heap.size (wq) (World.drew wq) := (Below.refl _ _).drew
            refine Tx.seg2 (A := ?_) 1 65535 (by kernel_rfl) (by exact hS_3) [0, 1, 2, 3, 4, 5, 6, 7, 8, 9, 10, 11, 12, 13, 14, 15] (by kernel_rfl) ?_ ?_
            rotate_left
            · intro w' hB
              have e1 := (k8.below hB).cell hcx.out
              have e2 := (k7.below hB).cell hcy.out
              iterate 16 (first | (refine rd_skip rfl rfl ?_; simp only [Act.put, List.setIfInBounds_toArray, List.set_cons_zero, List.set_cons_succ]) | (refine rd_load_arr rfl rfl _ _ rfl _ rfl (by decide +kernel) _ (by assumption) (by first | (rw [lims_len]; kernel_rfl) | (rw [el_rep]; kernel_rfl) | (rw [el_len]; kernel_rfl) | (rw [byts_len]; kernel_rfl) | (rw [us_len]; kernel_rfl) | (rw [bytn_len]; kernel_rfl) | (rw [ens_len, digs_len]; kernel_rfl) | kernel_rfl) ?_; simp only [Act.put, List.setIfInBounds_toArray, List.set_cons_zero, List.set_cons_succ]) | (refine rd_take (v := ?_) rfl rfl ?_ ?_; rotate_left; (focus (go_simp; try (with_reducible rfl))); simp only [Act.put, List.setIfInBounds_toArray, List.set_cons_zero, List.set_cons_succ]) | (refine rd_take (v := ?_) rfl rfl ?_ ?_; rotate_left; (focus (try go_simp); fail)))
              exact rd_nil
            refine Tx.bar 131071 rfl (by decide +kernel) (fun K hK => ?_)
            replace k6 := k6.below hS_3
            replace k7 := k7.below hS_3
            replace k8 := k8.below hS_3
            replace k11 := k11.below hS_3
            replace kb := bel kb hS_3
            clear hS_3
            refine step_cellG rfl _ _ _ rfl g11 j (.int .u8 (IntKind.u8.wrap ((z : Int) / 65536))) rfl rfl _ k11 (by kernel_rfl) (by rw [bytn_len]; omega) rfl (fun w5 k11 hg hsz => ?_)
            rw [hset.out] at k11
            replace k6 := k6.kept hg (by omega)
            replace k7 := k7.kept hg (by omega)
            replace k8 := k8.kept hg (by omega)
            replace kb := below_gr kb hg (by omega) kb.size
            refine hK (fun _ => True) 9999 _ _ ?_
            clear hK K
            try simp only [Act.put]
            try simp only [List.setIfInBounds_toArray, List.set_cons_zero, List.set_cons_succ]
            refine Tx.done (by kernel_rfl) ?_
            go_wp2_with fail
            exact ⟨⟨j + 1, by omega, by go_num, k6, k7, k8, k11, kb⟩, by simp [intOf]; omega⟩
          · have ft : Int.tmod (j : Int) 4 = 3 := by rw [Int.tmod_eq_emod_of_nonneg hj0]; omega
            replace he := Lib.hid he
            have fs : IntKind.i64.wrap 24 = 24 := by decide
            have hset : Hid ((bytn 64 (blkT k c n j)).set j (.int .u8 (IntKind.u8.wrap ((z : Int) / 16777216))) = bytn 64 (blkT k c n (j + 1))) := Lib.hid (blk_set (e := 3) hbl.out he.out (by omega))
            go_upto_region 20 with fail
            obtain ⟨wq, rfl⟩ : ∃ wq : World, wq = wr := ⟨_, rfl⟩
            refine Tx.start (fun w' => Below (wq).heap.size (wq) w') 16 17 rfl (by kernel_rfl) ?_
            have hS_4 : Below (wq).heap.size (wq) (World.drew wq) := (Below.refl _ _).drew
            refine Tx.seg2 (A := ?_) 1 65535 (by kernel_rfl) (by exact hS_4) [0, 1, 2, 3, 4, 5, 6, 7, 8, 9, 10, 11, 12, 13, 14, 15] (by kernel_rfl) ?_ ?_
            rotate_left
            · intro w' hB
              have e1 := (k8.below hB).cell hcx.out
              have e2 := (k7.below hB).cell hcy.out
              iterate 16 (first | (refine rd_skip rfl rfl ?_; simp only [Act.put, List.setIfInBounds_toArray, List.set_cons_zero, List.set_cons_succ]) | (refine rd_load_arr rfl rfl _ _ rfl _ rfl (by decide +kernel) _ (by assumption) (by first | (rw [lims_len]; kernel_rfl) | (rw [el_rep]; kernel_rfl) | (rw [el_len]; kernel_rfl) | (rw [byts_len]; kernel_rfl) | (rw [us_len]; kernel_rfl) | (rw [bytn_len]; kernel_rfl) | (rw [ens_len, digs_len]; kernel_rfl) | kernel_rfl) ?_; simp only [Act.put, List.setIfInBounds_toArray, List.set_cons_zero, List.set_cons_succ]) | (refine rd_take (v := ?_) rfl rfl ?_ ?_; rotate_left; (focus (go_simp; try (with_reducible rfl))); simp only [Act.put, List.setIfInBounds_toArray, List.set_cons_zero, List.set_cons_succ]) | (refine rd_take (v := ?_) rfl rfl ?_ ?_; rotate_left; (focus (try go_simp); fail)))
              exact rd_nil
            refine Tx.bar 131071 rfl (by decide +kernel) (fun K hK => ?_)
            replace k6 := k6.below hS_4
            replace k7 := k7.below hS_4
            replace k8 := k8.below hS_4
            replace k11 := k11.below hS_4
            replace kb := bel kb hS_4
            clear hS_4
            refine step_cellG rfl _ _ _ rfl g11 j (.int .u8 (IntKind.u8.wrap ((z : Int) / 16777216))) rfl rfl _ k11 (by kernel_rfl) (by rw [bytn_len]; omega) rfl (fun w5 k11 hg hsz => ?_)
            rw [hset.out] at k11
            replace k6 := k6.kept hg (by omega)
            replace k7 := k7.kept hg (by omega)
            replace k8 := k8.kept hg (by omega)
            replace kb := below_gr kb hg (by omega) kb.size
            refine hK (fun _ => True) 9999 _ _ ?_
            clear hK K
            try simp only [Act.put]
            try simp only [List.setIfInBounds_toArray, List.set_cons_zero, List.set_cons_succ]
            refine Tx.done (by kernel_rfl) ?_
            go_wp2_with fail
            exact ⟨⟨j + 1, by omega, by go_num, k6, k7, k8, k11, kb⟩, by simp [intOf]; omega⟩
        · have dj : decide ((j : Int) < 64) = false := decide_eq_false (by omega)
          have hie : Hid (j = 64) := Lib.hid (by omega)
          rw [hie.out] at k11
          go_wp2_with (first | (refine wpList_load_arr2 rfl _ _ rfl _ rfl (by decide +kernel) _ k11 (by rw [bytn_len]; kernel_rfl) ?_) | (refine wpl_storeG rfl _ _ _ rfl _ (bytn 64 (blkT k c n 64)) rfl rfl _ k6 (by rw [bytn_len]; kernel_rfl) (by rw [bytn_len, bytn_len]) (bytn_one _ _) (fun w7 k6 hg hsz => ?_)))
          have qb := below_gr kb hg (by omega) kb.size
          exact bodyPost_ret (results_arr2 Tryz.results49 _ _ _ rfl (by kernel_rfl) _ k6 (by rw [bytn_len]; kernel_rfl)) rfl ⟨rfl, qb⟩
end Go.Proofs.YtmlmggmnlgcbcaaGreat

