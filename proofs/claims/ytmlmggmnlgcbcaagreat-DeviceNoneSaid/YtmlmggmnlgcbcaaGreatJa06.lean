import Derived.Test.YtmlmggmnlgcbcaaGreatJa05
import Derived.Test.YtmlmggmnlgcbcaaGreatJa03
import Derived.Test.YtmlmggmnlgcbcaaGreatJa01
import Derived.Deep.CutRange
import Derived.Deep.CutBlock
import Derived.StillTailTactics
import Derived.Shelf.Spec.BitsCarry
import Derived.WalkKit
import Derived.Lib.Mul64
import Derived.Laws.Bits64b
import Derived.Deep.QuietTactic
import Derived.BigQuiet
import Derived.Laws.Bits64
import Derived.Test.YtmlmggmnlgcbcaaGreatJa02
import Derived.WalkSpells
import Derived.RegionTactic
import Derived.ScopeJumps
import Derived.WalkLawsBesides
import Derived.ProofKit
import Derived.Deep.LoopGhost
import Derived.Laws.Cover3

namespace Go.Proofs.YtmlmggmnlgcbcaaGreat
open Go.RowKit
/-- A value built of its parts, told. -/
theorem wpList_builta {P : Program} {ops : Array Oper} {rest : List Oper} {o : Oper} {a : Act} {w : World} {Q : Exit → Act → World → Prop} (hg : o.guard = none) (t : TypeId) (parts : Array (Nat × Operand)) (ho : o.op = .build t parts)
    (cells : Array Value) (hc : P.built t (parts.map fun (i, x) => (i, a.eval x)).toList = some cells) (h : wpList P ops Q rest (a.put o.dst (.agg cells)) w) : wpList P ops Q (o :: rest) a w :=
  wpList_build hg t parts ho (by rw [hc]; rfl) (by rw [hc]; exact h)
set_option maxHeartbeats 1000000 in
set_option maxRecDepth 100000 in
theorem constsa_any (w : World) : Calls Tryz.prog 187 #[] w fun e w' => e = .returned (.agg (ws shKa).toArray) ∧ Below w.heap.size w w' := by
  have hl := Lib.hid (show (ws shKa).length = 64 by rw [ws_len]; exact shKa_ok.1)
  obtain ⟨X, hX⟩ : ∃ X, ws shKa = X := ⟨_, rfl⟩
  have h1 := Lib.hid (ws_one shKa)
  rw [hX] at hl h1 ⊢
  replace hX := Lib.hid hX
  go_enter Tryz.func187, Tryz.ntmps187
  go_upto_region 1 with fail
  refine wp_new1 (fun W hsz k0 kb => ?_)
  replace k0 : Arr W w.heap.size (ws (List.replicate 64 0)) := k0
  clear hsz
  go_wp2_with (first | (refine wpList_builta rfl _ _ rfl (ws shKa).toArray (by kernel_rfl) ?_; rw [hX.out]) | (refine wpl_storeG rfl _ _ _ rfl _ X rfl rfl _ k0 (by rw [hl.out]; kernel_rfl) (by rw [hl.out, ws_len]; rfl) h1.out (fun w2 k0 hg hsz => ?_)))
  have qb := below_gr kb hg (by omega) kb.size
  exact bodyPost_ret (results_arr2 Tryz.results187 _ _ _ rfl (by kernel_rfl) _ k0 (by rw [hl.out]; kernel_rfl)) rfl ⟨rfl, qb⟩
set_option maxHeartbeats 1000000 in
set_option maxRecDepth 100000 in
theorem begina_any (w : World) : Calls Tryz.prog 172 #[] w fun e w' => ∃ g, e = .returned (.pointer (some ⟨g, 0, none⟩)) ∧ w.heap.size ≤ g ∧ Arr w' g (stva shIa (List.replicate 64 0) 0 0) ∧ Below w.heap.size w w' := by
  obtain ⟨X, hX⟩ : ∃ X, ws shIa = X := ⟨_, rfl⟩
  obtain ⟨Y, hY⟩ : ∃ X, stva shIa (List.replicate 64 0) 0 0 = X := ⟨_, rfl⟩
  replace hX := Lib.hid hX
  rw [hY]
  replace hY := Lib.hid hY
  go_enter Tryz.func172, Tryz.ntmps172
  go_wp2_with (refine wpList_builta rfl _ _ rfl (ws shIa).toArray (by kernel_rfl) ?_; rw [hX.out])
  refine (constsa_any _).mono ?_
  rintro e w1 ⟨rfl, kb⟩
  rw [← hX.out]
  go_wp2_with (refine wpList_builta rfl _ _ rfl (stva shIa (List.replicate 64 0) 0 0).toArray (by kernel_rfl) ?_; rw [hY.out])
  go_ret
  exact ⟨_, rfl, kb.size, Arr.new _ _ _, bel kb (below_alloc _ _)⟩
set_option maxHeartbeats 2000000 in
set_option maxRecDepth 100000 in
theorem takea_any (g n lg : Nat) (h : List Nat) (bs : List UInt8) (x : UInt8) (w : World) (k0 : Arr w g (stva h bs n lg)) (h0 : h.length = 8 ∧ W32 h) (hb : bs.length = 64) (hn : n < 64) :
    Calls Tryz.prog 173 #[.pointer (some ⟨g, 0, none⟩), .int .u8 (x.toNat : Int)] w fun e w' =>
      e = .returned (.tuple #[]) ∧ Arr w' g (if n = 63 then stva (cmpa h (bs.set n x)) (bs.set n x) 0 lg else stva h (bs.set n x) (n + 1) lg) ∧ w.grownBy w' (some g) := by
  have hcn := stva_n (n := n) (lg := lg) h0.1 hb
  have hcb := stva_b (n := n) (lg := lg) (bs := bs) (j := n) h0.1 (by omega)
  rw [u8s_get bs n (by omega)] at hcb
  have hset := stva_set_b (n := n) (lg := lg) (bs := bs) (j := n) (x := x) h0.1 (by omega)
  have hb2 : (bs.set n x).length = 64 := by rw [List.length_set]; exact hb
  obtain ⟨cs, hcs⟩ : ∃ cs, bs.set n x = cs := ⟨_, rfl⟩
  rw [hcs] at hset hb2 ⊢
  have hcn2 := stva_n (n := n) (lg := lg) h0.1 hb2
  have hset2 := stva_set_n (n := n) (m := n + 1) (lg := lg) h0.1 hb2
  have hcn3 := stva_n (n := n + 1) (lg := lg) h0.1 hb2
  have c1 := fun w k => turna_any (g := g) (n := n + 1) (lg := lg) w k h0 hb2
  have hq := cmpa_ok h0 cs
  have hcn4 := stva_n (n := n + 1) (lg := lg) hq.1 hb2
  have hset4 := stva_set_n (n := n + 1) (m := 0) (lg := lg) hq.1 hb2
  obtain ⟨Y, hY⟩ : ∃ Y, (if n = 63 then stva (cmpa h cs) cs 0 lg else stva h cs (n + 1) lg) = Y := ⟨_, rfl⟩
  rw [hY]
  replace hY := Lib.hid hY
  have hbl : (bs[n]'(by omega)).toNat < 256 := (bs[n]'(by omega)).toNat_lt
  generalize (bs[n]'(by omega)).toNat = y at hcb hbl
  have n16 : (n : Int) < 64 := by omega
  clear hb hcs h0 hq
  replace hcn := Lib.hid hcn
  replace hcb := Lib.hid hcb
  replace hset := Lib.hid hset
  replace hb2 := Lib.hid hb2
  replace hcn2 := Lib.hid hcn2
  replace hset2 := Lib.hid hset2
  replace hcn3 := Lib.hid hcn3
  replace hcn4 := Lib.hid hcn4
  replace hset4 := Lib.hid hset4
  replace c1 := Lib.hid c1
  go_enter Tryz.func173, Tryz.ntmps173
  go_upto_region 0 with fail
  refine Tx.start (fun w' => Below (w).heap.size (w) w') 9 10 rfl (by kernel_rfl) ?_
  have hS_1 : Below (w).heap.size (w) (World.drew w) := (Below.refl _ _).drew
  refine Tx.seg2 (A := ?_) 1 511 (by kernel_rfl) (by exact hS_1) [0, 1, 2, 3, 4, 5, 6, 7, 8] (by kernel_rfl) ?_ ?_
  rotate_left
  · intro w' hB
    have e1 := (k0.below hB).cell hcn.out
    iterate 9 (first | (refine rd_skip rfl rfl ?_; simp only [Act.put, List.setIfInBounds_toArray, List.set_cons_zero, List.set_cons_succ]) | (refine rd_load_arr rfl rfl _ _ rfl _ rfl (by decide +kernel) _ (by assumption) (by first | (rw [lims_len]; kernel_rfl) | (rw [el_rep]; kernel_rfl) | (rw [el_len]; kernel_rfl) | (rw [byts_len]; kernel_rfl) | (rw [us_len]; kernel_rfl) | (rw [bytn_len]; kernel_rfl) | (rw [ens_len, digs_len]; kernel_rfl) | kernel_rfl) ?_; simp only [Act.put, List.setIfInBounds_toArray, List.set_cons_zero, List.set_cons_succ]) | (refine rd_take (v := ?_) rfl rfl ?_ ?_; rotate_left; (focus (go_simp; try (with_reducible rfl))); simp only [Act.put, List.setIfInBounds_toArray, List.set_cons_zero, List.set_cons_succ]))
    exact rd_nil
  have k0' := k0.below hS_1
  have hcel := k0'.cell hcb.out
  have hfro := k0'.frozen (72 + n)
  refine Tx.bar 1023 rfl (by decide +kernel) (fun K hK => ?_)
  go_simp
  refine hK (fun _ => True) 9999 _ _ ?_
  clear hK K
  try simp only [Act.put]
  try simp only [List.setIfInBounds_toArray, List.set_cons_zero, List.set_cons_succ]
  refine Tx.done (by kernel_rfl) ?_
  clear hcel hfro k0'
  have kg := grownBy_drew (gr_cell w g (72 + n) (.int .u8 (x.toNat : Int)))
  have k1 : Arr (w.setCell ⟨g, 72 + n, none⟩ (.int .u8 (x.toNat : Int))).drew g (stva h cs n lg) := by
    have := k0.set (72 + n) (.int .u8 (x.toNat : Int))
    rw [hset.out] at this
    exact this
  generalize (w.setCell ⟨g, 72 + n, none⟩ (.int .u8 (x.toNat : Int))).drew = w2 at *
  have hcel := k1.cell hcn2.out
  have hfro := k1.frozen 136
  go_upto_region 2 with fail
  clear hcel hfro
  have kg := gr_trans kg (gr_cell w2 g 136 (.int .i64 ((n : Int) + 1)))
  have k2 : Arr (w2.setCell ⟨g, 136, none⟩ (.int .i64 ((n : Int) + 1))) g (stva h cs (n + 1) lg) := by
    have := k1.set 136 (.int .i64 ((n + 1 : Nat) : Int))
    rw [hset2.out] at this
    exact this
  generalize w2.setCell ⟨g, 136, none⟩ (.int .i64 ((n : Int) + 1)) = w3 at *
  have hcel := k2.cell hcn3.out
  by_cases h15 : n = 63
  · have c2 := Lib.hid (c1.out w3 k2)
    clear c1
    subst h15
    go_wp2_with fail
    refine c2.out.mono ?_
    rintro e w4 ⟨rfl, k3, hg3⟩
    have kg := gr_trans kg hg3
    clear hg3 hcel
    have hcel := k3.cell hcn4.out
    have hfro := k3.frozen 136
    go_wp2_with fail
    go_end0
    replace k3 := k3.set 136 (.int .i64 ((0 : Nat) : Int))
    rw [hset4.out] at k3
    exact ⟨rfl, by have := hY.out; simp only [if_true] at this; rw [← this]; exact k3, gr_trans kg (gr_cell _ _ _ _)⟩
  · have hne : ((n + 1 : Nat) : Int) ≠ 64 := by omega
    go_wp2_with fail
    go_end0
    exact ⟨rfl, by rw [← hY.out, if_neg h15]; exact k2, kg⟩
/-- The state behind so many blocks of bytes. -/
def shHa (L : List UInt8) : Nat → List Nat
  | 0 => shIa
  | i + 1 => cmpa (shHa L i) ((L.drop (64 * i)).take 64)
theorem shHa_ok (L : List UInt8) : ∀ i, (shHa L i).length = 8 ∧ W32 (shHa L i)
  | 0 => shIa_ok
  | i + 1 => cmpa_ok (shHa_ok L i) _
theorem shHa_app (L M : List UInt8) : ∀ i, 64 * i ≤ L.length → shHa (L ++ M) i = shHa L i
  | 0, _ => rfl
  | i + 1, h => by
    rw [shHa, shHa, shHa_app L M i (by omega), List.drop_append_of_le_length (by omega), List.take_append_of_le_length (by rw [List.length_drop]; omega)]
/-- Block g is the state behind the bytes L. -/
def SSta (w : World) (g lg : Nat) (L : List UInt8) : Prop := ∃ bs, bs.length = 64 ∧ bs.take (L.length % 64) = L.drop (64 * (L.length / 64)) ∧ Arr w g (stva (shHa L (L.length / 64)) bs (L.length % 64) lg)
theorem SSta.below {w w' : World} {g lg : Nat} {L : List UInt8} (h : SSta w g lg L) (hb : Below w.heap.size w w') : SSta w' g lg L := by
  obtain ⟨bs, h1, h2, h3⟩ := h
  exact ⟨bs, h1, h2, h3.below hb⟩
theorem SSta.lt {w : World} {g lg : Nat} {L : List UInt8} (h : SSta w g lg L) : g < w.heap.size := by
  obtain ⟨bs, -, -, h3⟩ := h
  exact h3.lt
theorem SSta.start {w : World} {g : Nat} (h : Arr w g (stva shIa (List.replicate 64 0) 0 0)) : SSta w g 0 [] := ⟨_, by simp, rfl, h⟩
theorem SSta.n {w : World} {g lg : Nat} {L : List UInt8} (h : SSta w g lg L) : w.cell? ⟨g, 136, none⟩ = some (.int .i64 ((L.length % 64 : Nat) : Int)) := by
  obtain ⟨bs, h1, -, h3⟩ := h
  exact h3.cell (stva_n (shHa_ok L _).1 h1)
theorem SSta.l {w : World} {g lg : Nat} {L : List UInt8} (h : SSta w g lg L) : w.cell? ⟨g, 137, none⟩ = some (.int .u64 (lg : Int)) ∧ w.frozen? ⟨g, 137, none⟩ = false := by
  obtain ⟨bs, h1, -, h3⟩ := h
  exact ⟨h3.cell (stva_l (shHa_ok L _).1 h1), h3.frozen _⟩
theorem SSta.set {w : World} {g lg m : Nat} {L : List UInt8} (h : SSta w g lg L) : SSta (w.setCell ⟨g, 137, none⟩ (.int .u64 (m : Int))) g m L := by
  obtain ⟨bs, h1, h2, h3⟩ := h
  refine ⟨bs, h1, h2, ?_⟩
  have := h3.set 137 (.int .u64 (m : Int))
  rwa [stva_set_l (shHa_ok L _).1 h1] at this
theorem takea_st (g lg : Nat) (L : List UInt8) (x : UInt8) (w : World) (k0 : SSta w g lg L) :
    Calls Tryz.prog 173 #[.pointer (some ⟨g, 0, none⟩), .int .u8 (x.toNat : Int)] w fun e w' => e = .returned (.tuple #[]) ∧ SSta w' g lg (L ++ [x]) ∧ w.grownBy w' (some g) := by
  obtain ⟨bs, h1, h2, h3⟩ := k0
  refine (takea_any g (L.length % 64) lg _ bs x w h3 (shHa_ok L _) h1 (Nat.mod_lt _ (by decide))).mono ?_
  rintro e w' ⟨rfl, k1, kg⟩
  refine ⟨rfl, ?_, kg⟩
  have hl : (L ++ [x]).length = L.length + 1 := by simp
  have e2 : (bs.set (L.length % 64) x).take (L.length % 64 + 1) = L.drop (64 * (L.length / 64)) ++ [x] := by
    rw [List.take_succ_eq_append_getElem (by simp; omega), List.take_set_of_le (Nat.le_refl _), h2]; simp
  have e4 : (L ++ [x]).drop (64 * (L.length / 64)) = L.drop (64 * (L.length / 64)) ++ [x] := List.drop_append_of_le_length (by omega)
  by_cases h15 : L.length % 64 = 63
  · rw [if_pos h15] at k1
    have e3 : bs.set (L.length % 64) x = L.drop (64 * (L.length / 64)) ++ [x] := by
      rw [← e2, List.take_of_length_le (by rw [List.length_set]; omega)]
    have hl3 : (L.drop (64 * (L.length / 64)) ++ [x]).length = 64 := by simp; omega
    rw [e3] at k1
    refine ⟨_, hl3, ?_, ?_⟩
    · rw [hl, show (L.length + 1) % 64 = 0 by omega, List.take_zero, show 64 * ((L.length + 1) / 64) = L.length + 1 by omega, List.drop_of_length_le (by omega)]
    · rw [hl, show (L.length + 1) % 64 = 0 by omega, show (L.length + 1) / 64 = L.length / 64 + 1 by omega, shHa, shHa_app _ _ _ (by omega), e4, List.take_of_length_le (by omega)]
      exact k1
  · rw [if_neg h15] at k1
    refine ⟨bs.set (L.length % 64) x, by rw [List.length_set]; exact h1, ?_, ?_⟩
    · rw [hl, show (L.length + 1) % 64 = L.length % 64 + 1 by omega, show (L.length + 1) / 64 = L.length / 64 by omega, e2, e4]
    · rw [hl, show (L.length + 1) % 64 = L.length % 64 + 1 by omega, show (L.length + 1) / 64 = L.length / 64 by omega, shHa_app _ _ _ (by omega)]
      exact k1
end Go.Proofs.YtmlmggmnlgcbcaaGreat


namespace Go.Proofs.YtmlmggmnlgcbcaaGreat
open Go.RowKit Go.Lib
namespace M64
theorem maskN (a : Nat) (ha : a < 18446744073709551616) : bits .and .u64 (a : Int) 4294967295 = ((a % 4294967296 : Nat) : Int) := by
  have h := bits_and_u64_nat a 4294967295 ha (by omega)
  have e : a &&& 4294967295 = a % 4294967296 := Nat.and_two_pow_sub_one_eq_mod a 32
  rw [e] at h
  exact h
theorem divN (a : Nat) : (a : Int) / 4294967296 = ((a / 4294967296 : Nat) : Int) := by omega
theorem mulN (a b : Nat) : (a : Int) * (b : Int) = ((a * b : Nat) : Int) := (Int.natCast_mul a b).symm
theorem addN (a b : Nat) : (a : Int) + (b : Int) = ((a + b : Nat) : Int) := (Int.natCast_add a b).symm
theorem wrapN (a : Nat) (ha : a < 18446744073709551616) : IntKind.u64.wrap (a : Int) = (a : Int) := by rw [IntKind.wrap_u64]; omega
theorem wrapM (a : Nat) : IntKind.u64.wrap (a : Int) = ((a % 18446744073709551616 : Nat) : Int) := by rw [IntKind.wrap_u64]; omega
end M64
set_option maxHeartbeats 1000000 in
theorem mul64 (x y : Nat) (hx : x < 18446744073709551616) (hy : y < 18446744073709551616) (w : World) :
    Calls Tryz.prog 74 #[.int .u64 x, .int .u64 y] w fun e w' => e = .returned (.tuple #[.int .u64 ((x * y / 18446744073709551616 : Nat) : Int), .int .u64 ((x * y % 18446744073709551616 : Nat) : Int)]) ∧ w' = w := by
  obtain ⟨bd, bt, bw, hhi⟩ := Lib.mul64_hi x y hx hy
  have ba := Lib.half_mul_le (a := x / 4294967296) (b := y / 4294967296) (by omega) (by omega)
  have bb := Lib.half_mul_le (a := x / 4294967296) (b := y % 4294967296) (by omega) (by omega)
  have bc := Lib.half_mul_le (a := x % 4294967296) (b := y / 4294967296) (by omega) (by omega)
  have ba' : x / 4294967296 * (y / 4294967296) < 18446744073709551616 := by omega
  have bb' : x / 4294967296 * (y % 4294967296) < 18446744073709551616 := by omega
  have bc' : x % 4294967296 * (y / 4294967296) < 18446744073709551616 := by omega
  have bh1 : x / 4294967296 * (y / 4294967296) + (x / 4294967296 * (y % 4294967296) + x % 4294967296 * (y % 4294967296) / 4294967296) / 4294967296 < 18446744073709551616 := by omega
  have bh : x / 4294967296 * (y / 4294967296) + (x / 4294967296 * (y % 4294967296) + x % 4294967296 * (y % 4294967296) / 4294967296) / 4294967296 + ((x / 4294967296 * (y % 4294967296) + x % 4294967296 * (y % 4294967296) / 4294967296) % 4294967296 + x % 4294967296 * (y / 4294967296)) / 4294967296 < 18446744073709551616 := by omega
  go_enter Tryz.func74, Tryz.ntmps74
  go_wp2
  simp only [M64.maskN x hx, M64.maskN y hy, M64.divN, M64.mulN, M64.addN, M64.wrapN _ bd, M64.wrapN _ bb', M64.wrapN _ bt, M64.maskN _ bt, M64.wrapN _ bc', M64.wrapN _ bw, M64.wrapN _ ba', M64.wrapN _ bh1, M64.wrapN _ bh, M64.wrapM (x * y)]
  rw [hhi]
  go_ret2
  exact ⟨rfl, rfl⟩
/-- Limbs as values. -/
def us (ds : List Nat) : List Value := ds.map fun (x : Nat) => .int .u64 (x : Int)
theorem us_len (ds : List Nat) : (us ds).length = ds.length := by simp [us]
/-- The number of digits. -/
def val (b : Nat) : List Nat → Nat
  | [] => 0
  | d :: ds => d + b * val b ds
theorem digs_lt (b k n : Nat) (hb : 0 < b) : ∀ d ∈ digs b k n, d < b := by
  intro d hd
  simp only [digs, List.mem_map] at hd
  obtain ⟨i, -, rfl⟩ := hd
  exact Nat.mod_lt _ hb
theorem val_lt (b : Nat) (hb : 0 < b) : ∀ (ds : List Nat), (∀ d ∈ ds, d < b) → val b ds < b ^ ds.length
  | [], _ => by simp [val]
  | d :: ds, h => by
    have hd := h d (by simp)
    have ih := val_lt b hb ds (fun x hx => h x (by simp [hx]))
    have := Nat.mul_le_mul_left b ih
    rw [Nat.mul_succ] at this
    rw [val, List.length_cons, Nat.pow_succ, Nat.mul_comm (b ^ ds.length) b]
    omega
end Go.Proofs.YtmlmggmnlgcbcaaGreat


namespace Go.Proofs.YtmlmggmnlgcbcaaGreat
open Go.RowKit
/-- The k lowest bytes of n. -/
def bytn (k n : Nat) : List Value := (digs 256 k n).map fun (x : Nat) => .int .u8 (x : Int)
theorem bytn_len (k n : Nat) : (bytn k n).length = k := by simp [bytn, digs_len]
theorem bytn_get (k n i : Nat) (h : i < k) : (bytn k n)[i]? = some (.int .u8 ((n / 256 ^ i % 256 : Nat) : Int)) := by simp [bytn, digs_get _ _ _ _ h]
theorem bytn_one (k n : Nat) : ∀ v ∈ bytn k n, v.oneCell' = true := by
  intro v hv
  simp only [bytn, List.mem_map] at hv
  obtain ⟨x, -, rfl⟩ := hv
  rfl
theorem bytn_u8s (k a : Nat) : bytn k a = u8s ((digs 256 k a).map UInt8.ofNat) := by
  simp only [bytn, u8s, List.map_map]
  apply List.map_congr_left
  intro x hx
  have := digs_lt 256 k a (by decide) x hx
  simp
  omega
/-- Natural numbers as cells of int. -/
def ens (t : List Nat) : List Value := t.map fun (x : Nat) => .int .i64 (x : Int)
theorem ens_len (t : List Nat) : (ens t).length = t.length := by simp [ens]
/-- All are at most B. -/
def Le (B : Nat) (t : List Nat) : Prop := ∀ m, t.getD m 0 ≤ B
theorem Le.mono {A B : Nat} {t : List Nat} (h : Le A t) (hAB : A ≤ B) : Le B t := fun m => Nat.le_trans (h m) hAB
end Go.Proofs.YtmlmggmnlgcbcaaGreat


namespace Go.Proofs.YtmlmggmnlgcbcaaGreat
open Go.RowKit
/-- Four bytes as a word. -/
def w4 (b0 b1 b2 b3 : Nat) : Nat := b0 + 256 * b1 + 65536 * b2 + 16777216 * b3
/-- A byte is set behind the ones that are there. -/
theorem bytn_snoc {K m j v : Nat} (hm : m < 256 ^ j) (hv : v < 256) : (bytn K m).set j (.int .u8 (v : Int)) = bytn K (m + 256 ^ j * v) := by
  apply List.ext_getElem?
  intro i
  have hp : 0 < 256 ^ j := Nat.pow_pos (by decide)
  by_cases hi : i < K
  · rw [List.getElem?_set, bytn_get _ _ _ hi]
    by_cases e : j = i
    · subst e
      rw [if_pos rfl, if_pos (by rw [bytn_len]; exact hi), bytn_get _ _ _ hi, Nat.add_mul_div_left _ _ hp, Nat.div_eq_of_lt hm, Nat.zero_add, Nat.mod_eq_of_lt hv]
    · rw [if_neg e, bytn_get _ _ _ hi]
      congr 3
      by_cases h : i < j
      · have e2 : 256 ^ j = 256 ^ i * (256 * 256 ^ (j - i - 1)) := by rw [← Nat.mul_assoc, ← Nat.pow_succ, ← Nat.pow_add, show i + 1 + (j - i - 1) = j by omega]
        rw [e2, Nat.mul_assoc, Nat.add_mul_div_left _ _ (Nat.pow_pos (by decide)), Nat.mul_assoc, Nat.add_mul_mod_self_left]
      · have h3 : 256 ^ (j + 1) ≤ 256 ^ i := Nat.pow_le_pow_right (by decide) (by omega)
        have h4 : 256 ^ j * v ≤ 256 ^ j * 255 := Nat.mul_le_mul_left _ (by omega)
        rw [Nat.pow_succ] at h3
        rw [Nat.div_eq_of_lt (by omega), Nat.div_eq_of_lt (by omega)]
  · rw [List.getElem?_eq_none (by rw [List.length_set, bytn_len]; omega), List.getElem?_eq_none (by rw [bytn_len]; omega)]
end Go.Proofs.YtmlmggmnlgcbcaaGreat


namespace Go.Proofs.YtmlmggmnlgcbcaaGreat
open Go.RowKit
theorem u8_mod (a : Nat) : IntKind.u8.wrap (a : Int) = ((a % 256 : Nat) : Int) := by
  simp [IntKind.wrap, IntKind.bits, IntKind.signed]
theorem below_fresh {w w' : World} {o : Obj} (hg : (w.alloc o).grownBy w' (some w.heap.size)) : Below w.heap.size w w' :=
  below_gr (below_alloc w o) hg (Nat.le_refl _) (by simp)
end Go.Proofs.YtmlmggmnlgcbcaaGreat


namespace Go.Proofs.YtmlmggmnlgcbcaaGreat
open Go.RowKit
/-- The eight bytes of a number, the highest first. -/
def be8 (n : Int) : List UInt8 := (List.range 8).map fun i => UInt8.ofNat ((n % 18446744073709551616).toNat / 2 ^ (8 * (7 - i)) % 256)
def be8s (ns : List Int) : List UInt8 := ns.flatMap be8
theorem be8_len (n : Int) : (be8 n).length = 8 := by simp [be8]
theorem wrap_u64_mod (n : Int) : IntKind.u64.wrap n = n % 18446744073709551616 := IntKind.wrap_u64 n
theorem be8_at (n : Int) (k : Nat) (hk : k < 8) : ∃ c : UInt8, (be8 n).take (k + 1) = (be8 n).take k ++ [c] ∧ IntKind.u64.wrap n / 2 ^ (8 * (7 - k)) % 256 = (c.toNat : Int) := by
  have hl : k < (be8 n).length := by rw [be8_len]; exact hk
  refine ⟨(be8 n)[k], ?_, ?_⟩
  · rw [List.take_add_one, List.getElem?_eq_getElem hl]; rfl
  · rw [wrap_u64_mod]
    simp only [be8, List.getElem_map, List.getElem_range]
    have h0 : 0 ≤ n % 18446744073709551616 := by omega
    obtain ⟨m, hm⟩ := Int.eq_ofNat_of_zero_le h0
    rw [hm]
    have e : (UInt8.ofNat ((m : Int).toNat / 2 ^ (8 * (7 - k)) % 256)).toNat = m / 2 ^ (8 * (7 - k)) % 256 := by
      simp
    rw [e]
    simp
theorem be8s_at (ns : List Int) (j : Nat) (h : j < ns.length) : be8s (ns.take (j + 1)) = be8s (ns.take j) ++ be8 ns[j] := by
  unfold be8s
  rw [List.take_add_one, List.getElem?_eq_getElem h, List.flatMap_append]
  simp only [Option.toList, List.flatMap_cons, List.flatMap_nil, List.append_nil]
theorem be8s_len (ns : List Int) : (be8s ns).length = 8 * ns.length := by
  induction ns with
  | nil => rfl
  | cons n ns ih => simp only [be8s, List.flatMap_cons, List.length_append, be8_len, List.length_cons] at *; omega
set_option maxHeartbeats 1000000 in
set_option maxRecDepth 100000 in
theorem packInt_sl (vb : Value) (bs : List UInt8) (an : Option Addr) (cn : Nat) (ns : List Int) (w : World) (hb : Sl w vb (u8s bs)) (hn : Sl w (.slice an ns.length cn) (ns.map (.int .i64)))
    (hr : bs.length + 8 * ns.length ≤ 140737488355328) :
    Calls Tryz.prog 129 #[vb, .slice an ns.length cn] w fun e w' =>
      ∃ v, e = .returned v ∧ w'.ownsRow w.heap.size 5 1 v (bs ++ be8s ns).length (u8s (bs ++ be8s ns)) ∧ Below w.heap.size w w' := by
  obtain ⟨i, hi, hz0, hz1, hz2⟩ := info_parts info_u8
  have hn' := Lib.hid hn
  clear hn
  go_enter Tryz.func129, Tryz.ntmps129
  go_wp2_with fail
  refine (clone_any vb bs w hb (by omega)).mono ?_
  rintro e w1 ⟨v1, rfl, hown, hbel, -⟩
  clear hb
  go_wp2_with fail
  go_loopw [5, 14] (fun v i wr => ∃ j : Nat, j ≤ ns.length ∧ i = .int .i64 j ∧ Below w.heap.size w wr ∧ wr.ownsRow w.heap.size 5 1 v (bs ++ be8s (ns.take j)).length (u8s (bs ++ be8s (ns.take j)))) (fun _ i _ => ns.length - (intOf i).toNat)
  case atStart => exact ⟨0, Nat.zero_le _, rfl, hbel, by simpa [be8s] using hown⟩
  case round =>
    obtain ⟨j, hj, rfl, hbr, hor⟩ := hrel
    clear hbel hown
    by_cases hlt : j < ns.length
    · obtain ⟨b, o, rfl, -, -, hcap, hcs⟩ := (hn'.out.below hbr).at (by simp; omega)
      have hcell := hcs j (.int .i64 ns[j]) (by simp [List.getElem?_eq_getElem hlt])
      clear hcs
      obtain ⟨wo, rfl⟩ : ∃ wo : World, wo = wr := ⟨_, rfl⟩
      have hlen : ns.length ≤ 9223372036854775807 := by omega
      go_wp2_with fail
      go_loopw [5, 9] (fun v kv wr => ∃ k : Nat, k ≤ 8 ∧ kv = .int .i64 (7 - (k : Int)) ∧ Below w.heap.size w wr ∧ wr.ownsRow w.heap.size 5 1 v (bs ++ be8s (ns.take j) ++ (be8 ns[j]).take k).length (u8s (bs ++ be8s (ns.take j) ++ (be8 ns[j]).take k))) (fun _ kv _ => (intOf kv + 1).toNat)
      case atStart => exact ⟨0, Nat.zero_le _, rfl, hbr, by simpa using hor⟩
      case round =>
        obtain ⟨k, hk, rfl, hbi, hoi⟩ := hrel
        clear hbr hor hcell
        by_cases hk8 : k < 8
        · have h1 : (0 : Int) ≤ 7 - (k : Int) := by omega
          obtain ⟨c, hc1, hc2⟩ := be8_at ns[j] k hk8
          have hc2' := Lib.hid hc2
          have hc1' := Lib.hid hc1
          clear hc1 hc2
          have hbig : (bs ++ be8s (ns.take j) ++ (be8 ns[j]).take k).length + 1 ≤ 140737488355328 := by
            simp only [List.length_append, be8s_len, List.length_take, be8_len]; omega
          have hbig' := Lib.hid hbig
          clear hbig
          have hsz : w.heap.size ≤ wr.heap.size := hbi.size
          go_wp2_with (at_builtin; refine wpList_append_own _ rfl _ _ 26 rfl w.heap.size 5 i (.int .u8 0) 1 1 Tryz.underlying26 hi hz0 hz1 hz2 rfl (by decide) _ _ _ rfl (hoi.alloc _) ⟨wr.heap.size, 0, none⟩ 1 1 [_] rfl rfl (cells_new wr _ _) ?c1 ?c2 ?c3 ?c4 ?_)
          case c1 => intro u hu; simp at hu; subst hu; rfl
          case c2 => have := hbig'.out; unfold maxLen; omega
          case c3 => have := hbig'.out; omega
          case c4 => simp; omega
          intro v' w2 hown2 hg2 _
          have hb2 := below_grown1 hbi hoi hsz hg2
          rw [hc2'.out] at hown2
          clear hoi hg2 hbi
          go_wp2
          go_roundw
          case rel =>
            refine ⟨k + 1, by omega, by simp; omega, hb2, ?_⟩
            rw [hc1'.out, ← List.append_assoc]
            simpa [u8s, Nat.add_assoc] using hown2
          case measure => simp [intOf]; omega
        · have hk : k = 8 := by omega
          subst hk
          have hf : (be8 ns[j]).take 8 = be8 ns[j] := List.take_of_length_le (by rw [be8_len]; exact Nat.le_refl _)
          rw [hf] at hoi
          clear hf
          go_wp2
          go_roundw
          case rel => exact ⟨j + 1, by omega, by go_num, hbi, by rw [be8s_at ns j hlt, ← List.append_assoc]; exact hoi⟩
          case measure => simp [intOf]; omega
    · have hj' : j = ns.length := by omega
      subst hj'
      rw [List.take_of_length_le (Nat.le_refl _)] at hor
      go_wp2
      go_ret
      exact ⟨_, rfl, hor, hbr⟩
theorem packInt_any (vb vn : Value) (bs : List UInt8) (ns : List Int) (w : World) (hb : Sl w vb (u8s bs)) (hn : Sl w vn (ns.map (.int .i64)))
    (hr : bs.length + 8 * ns.length ≤ 140737488355328) :
    Calls Tryz.prog 129 #[vb, vn] w fun e w' =>
      ∃ v, e = .returned v ∧ w'.ownsRow w.heap.size 5 1 v (bs ++ be8s ns).length (u8s (bs ++ be8s ns)) ∧ Below w.heap.size w w' := by
  obtain ⟨a, cap, rfl, h⟩ := id hn
  rw [List.length_map] at *
  exact packInt_sl vb bs a cap ns w hb hn hr
end Go.Proofs.YtmlmggmnlgcbcaaGreat


namespace Go.Proofs.YtmlmggmnlgcbcaaGreat
/-- 2^130 - 5. -/
def p13 : Nat := 1361129467683753853853498429727072845819
theorem p13_two : (2 : Nat) ^ 130 = p13 + 5 := by decide
/-- What is above 2^130 comes back five times. -/
def fold13 (n : Nat) : Nat := n % 2 ^ 130 + 5 * (n / 2 ^ 130)
theorem fold13_mod (n : Nat) : fold13 n % p13 = n % p13 := by
  conv => rhs; rw [← Nat.mod_add_div n (2 ^ 130), p13_two]
  unfold fold13
  rw [p13_two, Nat.add_mul, ← Nat.add_assoc, Nat.add_right_comm, Nat.add_mul_mod_self_left]
theorem fold13_lt {n K : Nat} (h : n < 2 ^ 130 * K) : fold13 n < 2 ^ 130 + 5 * K := by
  unfold fold13
  have := (Nat.div_lt_iff_lt_mul (show 0 < 2 ^ 130 by decide)).2 (by rw [Nat.mul_comm]; exact h)
  omega
theorem fold13_256 {n : Nat} (h : n < 2 ^ 256) : fold13 n < 2 ^ 131 := by
  have := fold13_lt (K := 2 ^ 126) (n := n) (by omega)
  omega
/-- A block's number. -/
def blkV (bs : List UInt8) : Nat := val 256 (bs.map fun (x : UInt8) => x.toNat) + 256 ^ bs.length
/-- Behind k blocks. -/
def polyK (r : Nat) (L : List UInt8) : Nat → Nat
  | 0 => 0
  | k + 1 => (polyK r L k + blkV ((L.drop (16 * k)).take 16)) * r % p13
theorem polyK_append (r : Nat) (L M : List UInt8) : ∀ k, 16 * k ≤ L.length → polyK r (L ++ M) k = polyK r L k
  | 0, _ => rfl
  | k + 1, h => by
    rw [polyK, polyK, polyK_append r L M k (by omega), List.drop_append_of_le_length (by omega), List.take_append_of_le_length (by rw [List.length_drop]; omega)]
theorem val_map_lt (bs : List UInt8) : val 256 (bs.map fun (x : UInt8) => x.toNat) < 256 ^ bs.length := by
  have := val_lt 256 (by decide) (bs.map fun (x : UInt8) => x.toNat) (by intro x hx; simp only [List.mem_map] at hx; obtain ⟨y, -, rfl⟩ := hx; exact y.toNat_lt)
  simpa using this
theorem blkV_lt {bs : List UInt8} (h : bs.length ≤ 16) : blkV bs < 2 ^ 129 := by
  have h1 := val_map_lt bs
  have h2 : 256 ^ bs.length ≤ 256 ^ 16 := Nat.pow_le_pow_right (by decide) h
  unfold blkV
  omega
/-- What has been summed up of L. -/
def PolySt (r : Nat) (L : List UInt8) (h : Nat) : Prop := h % p13 = polyK r L (L.length / 16) ∧ h < 2 ^ 131
def rest16 (L : List UInt8) : List UInt8 := L.drop (16 * (L.length / 16))
theorem rest16_len (L : List UInt8) : (rest16 L).length = L.length % 16 := by unfold rest16; rw [List.length_drop]; omega
theorem PolySt.nil (r : Nat) : PolySt r [] 0 := ⟨rfl, by decide⟩
theorem turn_mod {r h k b : Nat} (hk : h % p13 = k) : fold13 ((h + b) * r) % p13 = (k + b) * r % p13 := by
  rw [fold13_mod, ← hk, Nat.mul_mod (h % p13 + b), Nat.add_mod (h % p13), Nat.mod_mod, ← Nat.add_mod, ← Nat.mul_mod]
theorem turn_lt {r h b : Nat} (hh : h < 2 ^ 131) (hb : b < 2 ^ 129) (hr : r < 2 ^ 124) : (h + b) * r < 2 ^ 256 := by
  have h1 : h + b < 2 ^ 132 := by omega
  have := Nat.mul_lt_mul'' h1 hr
  rwa [← Nat.pow_add] at this
theorem PolySt.full {r h : Nat} {L : List UInt8} (hs : PolySt r L h) (hr : r < 2 ^ 124) (x : UInt8) (h15 : L.length % 16 = 15) : PolySt r (L ++ [x]) (fold13 ((h + blkV (rest16 L ++ [x])) * r)) := by
  obtain ⟨h1, h2⟩ := hs
  have hl : (rest16 L ++ [x]).length ≤ 16 := by rw [List.length_append, rest16_len, List.length_singleton]; omega
  refine ⟨?_, fold13_256 (turn_lt h2 (blkV_lt hl) hr)⟩
  rw [turn_mod h1, List.length_append, List.length_singleton, show (L.length + 1) / 16 = L.length / 16 + 1 by omega, polyK, polyK_append r L [x] _ (by omega), List.drop_append_of_le_length (by omega)]
  rw [List.take_of_length_le (by rw [List.length_append, List.length_drop, List.length_singleton]; omega)]
  rfl
/-- The last block, if there is one. -/
def lastH (r h : Nat) (L : List UInt8) : Nat := if L.length % 16 = 0 then h else fold13 ((h + blkV (rest16 L)) * r)
theorem PolySt.last {r h : Nat} {L : List UInt8} (hs : PolySt r L h) (hr : r < 2 ^ 124) : lastH r h L % p13 = polyK r L ((L.length + 15) / 16) ∧ lastH r h L < 2 ^ 131 := by
  obtain ⟨h1, h2⟩ := hs
  unfold lastH
  split
  · rename_i h0
    rw [show (L.length + 15) / 16 = L.length / 16 by omega]
    exact ⟨h1, h2⟩
  · rename_i h0
    have hl : (rest16 L).length ≤ 16 := by rw [rest16_len]; omega
    refine ⟨?_, fold13_256 (turn_lt h2 (blkV_lt hl) hr)⟩
    rw [turn_mod h1, show (L.length + 15) / 16 = L.length / 16 + 1 by omega, polyK]
    rw [List.take_of_length_le (by rw [List.length_drop]; omega)]
    rfl
def rot (ys : List Nat) (j i : Nat) : Nat := if j ≤ i then ys.getD (i - j) 0 else 320 * ys.getD (i + 17 - j) 0
def cS (xs ys : List Nat) (i : Nat) : Nat → Nat
  | 0 => 0
  | j + 1 => cS xs ys i j + xs.getD j 0 * rot ys j i
end Go.Proofs.YtmlmggmnlgcbcaaGreat


namespace Go.Proofs.YtmlmggmnlgcbcaaGreat
open Go.RowKit
/-- A state. -/
def stv (h r : Nat) (bs : List UInt8) (n : Nat) : List Value := lims 4 h ++ (lims 4 r ++ (u8s bs ++ [.int .i64 (n : Int)]))
end Go.Proofs.YtmlmggmnlgcbcaaGreat


namespace Go.Proofs.YtmlmggmnlgcbcaaGreat
open Go.RowKit
/-- Block g is the state behind the bytes L. -/
def PSt (w : World) (g R : Nat) (L : List UInt8) : Prop := ∃ h bs, PolySt R L h ∧ bs.length = 16 ∧ bs.take (L.length % 16) = rest16 L ∧ Arr w g (stv h R bs (L.length % 16))
theorem PSt.below {w w' : World} {g R : Nat} {L : List UInt8} (h : PSt w g R L) (hb : Below w.heap.size w w') : PSt w' g R L := by
  obtain ⟨h, bs, h1, h2, h3, h4⟩ := h
  exact ⟨h, bs, h1, h2, h3, h4.below hb⟩
theorem PSt.lt {w : World} {g R : Nat} {L : List UInt8} (h : PSt w g R L) : g < w.heap.size := by
  obtain ⟨h, bs, -, -, -, h4⟩ := h
  exact h4.lt
theorem PSt.start {w : World} {g R : Nat} (h : Arr w g (stv 0 R (List.replicate 16 0) 0)) : PSt w g R [] := ⟨0, _, PolySt.nil R, by simp, rfl, h⟩
theorem flat_take_succ {ls : List (List UInt8)} {i : Nat} (h : i < ls.length) : (ls.take (i + 1)).flatten = (ls.take i).flatten ++ ls[i] := by
  rw [List.take_succ_eq_append_getElem h, List.flatten_append]; simp
end Go.Proofs.YtmlmggmnlgcbcaaGreat

