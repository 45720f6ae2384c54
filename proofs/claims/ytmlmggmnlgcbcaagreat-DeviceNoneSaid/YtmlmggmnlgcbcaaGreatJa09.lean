import Derived.Test.YtmlmggmnlgcbcaaGreatJa08
import Derived.Lib.MakeNoZero
import Derived.Laws.Externs

namespace Go.Proofs.YtmlmggmnlgcbcaaGreat
open Go.RowKit
set_option maxHeartbeats 1000000 in
theorem bmul_any {x y : Nat} (hx : x < 18446744073709551616) (hy : y < 18446744073709551616) (w : World) :
    Calls Tryz.prog 54 #[.int .u64 (x : Int), .int .u64 (y : Int)] w fun e w' => e = .returned (.tuple #[.int .u64 ((x * y / 18446744073709551616 : Nat) : Int), .int .u64 ((x * y % 18446744073709551616 : Nat) : Int)]) ∧ w' = w := by
  have c1 := Lib.hid (mul64 x y hx hy w)
  obtain ⟨h, hh⟩ : ∃ h, x * y / 18446744073709551616 = h := ⟨_, rfl⟩
  obtain ⟨l, hl⟩ : ∃ h, x * y % 18446744073709551616 = h := ⟨_, rfl⟩
  rw [hh, hl] at c1 ⊢
  clear hh hl hx hy
  go_enter Tryz.func54, Tryz.ntmps54
  go_wp2_with fail
  refine c1.out.mono ?_
  rintro e w' ⟨rfl, rfl⟩
  clear c1
  go_wp2_with fail
  go_ret2
  exact ⟨rfl, rfl⟩
/-- internal/bytealg.MakeNoZero: a new row of whatever bytes. -/
theorem mkz_any (n : Nat) (hn : n ≤ 281474976710656) (w : World) : ∃ cs : List Value, (callFunc 55 #[.int .i64 (n : Int)]).run Tryz.prog w = .ok (.value (.slice (some ⟨w.heap.size, 0, none⟩) n cs.length)) ((w.alloc (.cells cs.toArray 5)).drew.drew) ∧ n ≤ cs.length ∧ (n ≤ maxLen → cs.length ≤ maxLen) := by
  obtain ⟨cs, h1, h2, h3⟩ := Lib.run_makeNoZero (P := Tryz.prog) w #[3] 26 5 Tryz.underlying26 n hn
  refine ⟨cs.toList, ?_, by simpa using h2, by simpa using h3⟩
  rw [run_callFunc_extern (P := Tryz.prog) (f := 55) (fn := Tryz.f55) (by kernel_rfl) (by kernel_rfl) (by kernel_rfl) (by kernel_rfl) (e := Extern.BytealgMakeNoZero.makeNoZero #[3] #[26]) (by kernel_rfl), h1]
  simp
  rfl
/-- copy into a whole array: the world forgotten, the number told. -/
theorem wpl_copyN {P : Program} {w : World} {ops : Array Oper} {rest : List Oper} {o : Oper} {a : Act} {Q : Exit → Act → World → Prop} (hw : Region.wanted o (yielded ops a.tmps) = true) (d s : Operand) (dT sT : TypeId)
    (ho : o.op = .call { callee := .builtin .copy, args := #[d, s], argTypes := #[dT, sT] }) (elem : TypeId) (hu : P.underlying dT = some (.slice elem)) (hsz : (P.info? elem).map (·.size) = some 1)
    (g off dLen dCap : Nat) (hd : a.eval d = .slice (some ⟨g, off, none⟩) dLen dCap) (xs : List Value) (hg : Arr w g xs) (hfit : off + dLen ≤ xs.length) (vs : Value) (hs : a.eval s = vs) (full : List Value) (hsl : Sl w vs full) (h1 : ∀ v ∈ full, v.oneCell' = true)
    (k : Nat) (hk : (full.take dLen).length = k) (ys : List Value) (hys : xs.take off ++ full.take dLen ++ xs.drop (off + k) = ys)
    (h : ∀ W : World, Arr W g ys → w.grownBy W (some g) → W.heap.size = w.heap.size → wpList P ops Q rest (a.put o.dst (.int .i64 (k : Int))) W) : wpList P ops Q (o :: rest) a w := by
  refine wpList_copy_arr hw d s dT sT ho elem hu hsz g off dLen dCap hd xs hg hfit vs hs full hsl h1 ?_
  rw [hk, hys]
  exact h _ (hg.setRow ys) (gr_row w g _) (by simp [World.setRow])
/-- The same at a step of a region that draws its order. -/
theorem step_copyN {P : Program} {w : World} {ops : Array Oper} {o : Oper} {a : Act} {K : Act → World → Prop} {Q : Exit → Act → World → Prop} {E : Prop} (hw : Region.wanted o (yielded ops a.tmps) = true) (d s : Operand) (dT sT : TypeId)
    (ho : o.op = .call { callee := .builtin .copy, args := #[d, s], argTypes := #[dT, sT] }) (elem : TypeId) (hu : P.underlying dT = some (.slice elem)) (hsz : (P.info? elem).map (·.size) = some 1)
    (g off dLen dCap : Nat) (hd : a.eval d = .slice (some ⟨g, off, none⟩) dLen dCap) (xs : List Value) (hg : Arr w g xs) (hfit : off + dLen ≤ xs.length) (vs : Value) (hs : a.eval s = vs) (full : List Value) (hsl : Sl w vs full) (h1 : ∀ v ∈ full, v.oneCell' = true)
    (k : Nat) (hk : (full.take dLen).length = k) (ys : List Value) (hys : xs.take off ++ full.take dLen ++ xs.drop (off + k) = ys)
    (h : ∀ W : World, Arr W g ys → w.grownBy W (some g) → W.heap.size = w.heap.size → K (a.put o.dst (.int .i64 (k : Int))) W) : if Region.wanted o (yielded ops a.tmps) = true then Oper.wp P o a w K Q else E := by
  refine step_copy_arr hw d s dT sT ho elem hu hsz g off dLen dCap hd xs hg hfit vs hs full hsl h1 ?_
  rw [hk, hys]
  exact h _ (hg.setRow ys) (gr_row w g _) (by simp [World.setRow])
theorem u8s_repx (n : Nat) (x : UInt8) : u8s (List.replicate n x) = List.replicate n (.int .u8 (x.toNat : Int)) := by simp [u8s]
theorem rep_copy {n N k m : Nat} {x : UInt8} {pad : List Value} (hk : n + k ≤ N) (hm : (u8s (List.replicate n x) ++ pad).length = m) (hN : N ≤ m) :
    ∃ pad', (u8s (List.replicate n x) ++ pad).take n ++ u8s (List.replicate k x) ++ (u8s (List.replicate n x) ++ pad).drop (n + (u8s (List.replicate k x)).length) = u8s (List.replicate (n + k) x) ++ pad' ∧ (u8s (List.replicate (n + k) x) ++ pad').length = m := by
  refine ⟨(u8s (List.replicate n x) ++ pad).drop (n + (u8s (List.replicate k x)).length), ?_, ?_⟩
  · rw [List.take_append_of_le_length (by simp [u8s]), List.take_of_length_le (by simp [u8s]), ← List.replicate_append_replicate, u8s_append]
  · rw [List.length_append, List.length_drop, hm]
    simp [u8s] at *
    omega
set_option maxHeartbeats 4000000 in
set_option maxRecDepth 100000 in
theorem repeat_any (a : Option Addr) (x : UInt8) (n : Nat) (h0 : 0 < n) (hn : n ≤ 1000000) (w : World) (hs : Sl w (.slice a 1 1) (u8s [x])) :
    Calls Tryz.prog 26 #[.slice a 1 1, .int .i64 (n : Int)] w fun e w' =>
      ∃ g pad, e = .returned (.slice (some ⟨g, 0, none⟩) n n) ∧ w.heap.size ≤ g ∧ Arr w' g (u8s (List.replicate n x) ++ pad) ∧ Below w.heap.size w w' := by
  have cm := Lib.hid (bmul_any (x := 1) (y := n) (by decide) (by omega) w)
  rw [Nat.one_mul, show n / 18446744073709551616 = 0 by omega, show n % 18446744073709551616 = n by omega] at cm
  obtain ⟨cs, hmk, hc1, hc2⟩ := mkz_any n (by omega) w
  have hcm := hc2 (by unfold maxLen; omega)
  have n0 : (0 : Int) < (n : Int) := by omega
  have n1 : (n : Int) ≤ 1000000 := by omega
  have nw : IntKind.u64.wrap (n : Int) = (n : Int) := by rw [wrap_u64_mod]; omega
  have nz : ((n : Int) == 0) = false := by simp; omega
  have nw2 : IntKind.i64.wrap (n : Int) = (n : Int) := i64_in (by omega)
  have hsz1 : (Tryz.prog.info? 5).map (·.size) = some 1 := by kernel_rfl
  replace hsz1 := Lib.hid hsz1
  replace hs := Lib.hid hs
  have hcl := Lib.hid (show n ≤ cs.length from hc1)
  have hcI : (n : Int) ≤ (cs.length : Int) := by omega
  unfold maxLen at hcm
  clear hc1 hc2
  go_enter Tryz.func26, Tryz.ntmps26
  go_wp2_with fail
  refine cm.out.mono ?_
  rintro e w ⟨rfl, rfl⟩
  clear cm
  have hg8 : ∀ {w0 : World} (o : Obj), Below w0.heap.size w0 ((w0.alloc o).drew.drew) := fun o => ((below_alloc _ o).drew).drew
  by_cases h8 : 8192 < n
  · have n8 : (8192 : Int) < (n : Int) := by omega
    go_upto_region 16 with fail
    obtain ⟨c, hc⟩ : ∃ c : Nat, (8192 : Int) = (c : Int) := ⟨8192, rfl⟩
    rw [hc]
    have hc0 : 0 < c := by omega
    clear hc n8 h8
    go_upto_region 17 with fail
    have kb := hg8 (w0 := w) (.cells cs.toArray 5)
    have k9 : Arr ((w.alloc (.cells cs.toArray 5)).drew.drew) w.heap.size cs := Arr.new w cs.toArray 5
    have hsW := Lib.hid (hs.out.below kb)
    generalize (w.alloc (.cells cs.toArray 5)).drew.drew = W at *
    obtain ⟨g, hg⟩ : ∃ g, w.heap.size = g := ⟨_, rfl⟩
    rw [hg] at k9 ⊢
    have hw2 : w.heap.size ≤ g := by omega
    clear hmk hg hs hg8
    go_wp2_with (refine wpl_copyN rfl _ _ 26 26 rfl 5 Tryz.underlying26 hsz1.out g 0 n n rfl _ k9 (by have := hcl.out; omega) _ rfl _ hsW.out (u8s_one [x]) 1 (by rw [List.length_take]; simp [u8s]; omega) (u8s (List.replicate 1 x) ++ cs.drop 1) (by rw [List.take_zero, List.nil_append, List.take_of_length_le (by simp [u8s]; omega)]; rfl) (fun W2 k9 hg hsz => ?_))
    replace kb := below_gr kb hg hw2 kb.size
    have hlen : (u8s (List.replicate 1 x) ++ cs.drop 1).length = cs.length := by
      have := hcl.out
      simp [u8s]
      omega
    go_loopw [10] (fun bv wr => ∃ (b : Nat) (pad : List Value), 1 ≤ b ∧ b ≤ n ∧ bv = .int .i64 b ∧ Arr wr g (u8s (List.replicate b x) ++ pad) ∧ (u8s (List.replicate b x) ++ pad).length = cs.length ∧ Below w.heap.size w wr) (fun bv _ => n - (intOf bv).toNat)
    case atStart => exact ⟨1, _, Nat.le_refl _, h0, rfl, k9, hlen, kb⟩
    case round =>
    clear k9 hlen kb hsW
    obtain ⟨b, pad, hb1, hb2, rfl, k9, hlen, kb⟩ := hrel
    replace hlen := Lib.hid hlen
    have hb0 : (0 : Int) ≤ (b : Int) := by omega
    by_cases hbn : b < n
    · have hbI : (b : Int) < (n : Int) := by omega
      go_upto_region 19 with fail
      have hbn2 := Lib.hid hbn
      have hb22 := Lib.hid hb2
      have hc02 := Lib.hid hc0
      have n12 := Lib.hid n1
      obtain ⟨q, hif, hq⟩ : ∃ q : Nat, (if c < b then (c : Int) else (b : Int)) = (q : Int) ∧ Hid (q = min b c) := ⟨min b c, by split <;> omega, Lib.hid rfl⟩
      replace hif := Lib.hid hif
      clear hbI hbn hb2 hcI
      go_upto_region 20 with fail
      rw [hif.out]
      have hbn := hbn2.out
      have hqb : q ≤ b := by rw [hq.out]; omega
      have hq1 : 1 ≤ q := by rw [hq.out]; have := hc02.out; omega
      have hq0 : (0 : Int) ≤ (q : Int) := by omega
      have hqn : (q : Int) ≤ (n : Int) := by omega
      have hbI : (b : Int) ≤ (n : Int) := by omega
      have hnb : ¬ n = b := by omega
      obtain ⟨k, hk⟩ : ∃ k, min (n - b) q = k := ⟨_, rfl⟩
      have hsq : Hid (∀ w', Arr w' g (u8s (List.replicate b x) ++ pad) → Sl w' (.slice (some ⟨g, 0, none⟩) q n) (u8s (List.replicate q x))) := Lib.hid (fun w' h => by
        have h2 := Sl.of_part (o := 0) (n := q) (cap := n) (cs := u8s (List.replicate q x)) h (by simp [u8s]) (by omega) (by unfold maxLen; omega) (fun j hj => by
          have hj2 : j < q := by simpa [u8s] using hj
          rw [Nat.zero_add, List.getElem?_append_left (by simp [u8s]; omega)]
          simp [u8s, hj2, show j < b by omega])
        exact h2)
      obtain ⟨pad', hp1, hp2⟩ := rep_copy (n := b) (k := k) (N := n) (m := cs.length) (x := x) (pad := pad) (by omega) hlen.out hcl.out
      have hk2 : Hid (((u8s (List.replicate q x)).take (n - b)).length = k) := Lib.hid (by rw [List.length_take]; simp [u8s]; omega)
      have hys : Hid ((u8s (List.replicate b x) ++ pad).take b ++ (u8s (List.replicate q x)).take (n - b) ++ (u8s (List.replicate b x) ++ pad).drop (b + k) = u8s (List.replicate (b + k) x) ++ pad') := Lib.hid (by
        rw [← hp1]
        congr 2
        · rw [u8s_repx, u8s_repx, List.take_replicate, hk]
        · simp [u8s])
      have hbk : b + k ≤ n := by omega
      have hk0 : 1 ≤ k := by omega
      replace hp2 := Lib.hid hp2
      clear hp1 hk
      obtain ⟨wq, rfl⟩ : ∃ wq : World, wq = wr := ⟨_, rfl⟩
      refine Tx.start (fun w' => Below (wq).heap.size (wq) w') 7 10 rfl (by kernel_rfl) ?_
      have hS_1 : Below (wq).heap.size (wq) (World.drew wq) := (Below.refl _ _).drew
      refine Tx.pure (A := ?_) 9 1 (by kernel_rfl) (by exact hS_1) [0] (by kernel_rfl) ?_ ?_
      rotate_left
      · intro w'
        iterate 1 (first | (refine rd_skip rfl rfl ?_; simp only [Act.put, List.setIfInBounds_toArray, List.set_cons_zero, List.set_cons_succ]) | (refine rd_take (v := ?_) rfl rfl ?_ ?_; rotate_left; (focus (go_simp; try (with_reducible rfl))); simp only [Act.put, List.setIfInBounds_toArray, List.set_cons_zero, List.set_cons_succ]))
        exact rd_nil
      refine Tx.seg2 (A := ?_) 3 127 (by kernel_rfl) (by exact hS_1) [1, 2, 3, 4, 5, 6] (by kernel_rfl) ?_ ?_
      rotate_left
      · intro w' hB
        iterate 6 (first | (refine rd_skip rfl rfl ?_; simp only [Act.put, List.setIfInBounds_toArray, List.set_cons_zero, List.set_cons_succ]) | (refine rd_load_arr rfl rfl _ _ rfl _ rfl (by decide +kernel) _ (by assumption) (by first | (rw [lims_len]; kernel_rfl) | (rw [el_rep]; kernel_rfl) | (rw [el_len]; kernel_rfl) | (rw [byts_len]; kernel_rfl) | (rw [us_len]; kernel_rfl) | (rw [bytn_len]; kernel_rfl) | (rw [ens_len, digs_len]; kernel_rfl) | kernel_rfl) ?_; simp only [Act.put, List.setIfInBounds_toArray, List.set_cons_zero, List.set_cons_succ]) | (refine rd_take (v := ?_) rfl rfl ?_ ?_; rotate_left; (focus (go_simp; try (with_reducible rfl))); simp only [Act.put, List.setIfInBounds_toArray, List.set_cons_zero, List.set_cons_succ]))
        exact rd_nil
      refine Tx.bar 255 rfl (by decide +kernel) (fun K hK => ?_)
      replace k9 := k9.below hS_1
      replace kb := bel kb hS_1
      clear hS_1
      refine step_copyN rfl _ _ 26 26 rfl 5 Tryz.underlying26 hsz1.out g b (n - b) (n - b) rfl _ k9 (by rw [hlen.out]; have := hcl.out; omega) _ rfl _ (hsq.out _ k9) (u8s_one _) k hk2.out _ hys.out (fun W3 k9 hg hsz => ?_)
      replace kb := below_gr kb hg hw2 kb.size
      refine hK (fun _ => True) 9999 _ _ ?_
      clear hK K
      try simp only [Act.put]
      try simp only [List.setIfInBounds_toArray, List.set_cons_zero, List.set_cons_succ]
      have fk : IntKind.i64.wrap ((b : Int) + (k : Int)) = ((b + k : Nat) : Int) := by rw [i64_in (by omega)]; omega
      refine Tx.seg2 (A := ?_) 0 1023 (by kernel_rfl) (by exact trivial) [8, 9] (by kernel_rfl) ?_ ?_
      rotate_left
      · intro w' hB
        iterate 2 (first | (refine rd_skip rfl rfl ?_; simp only [Act.put, List.setIfInBounds_toArray, List.set_cons_zero, List.set_cons_succ]) | (refine rd_load_arr rfl rfl _ _ rfl _ rfl (by decide +kernel) _ (by assumption) (by first | (rw [lims_len]; kernel_rfl) | (rw [el_rep]; kernel_rfl) | (rw [el_len]; kernel_rfl) | (rw [byts_len]; kernel_rfl) | (rw [us_len]; kernel_rfl) | (rw [bytn_len]; kernel_rfl) | (rw [ens_len, digs_len]; kernel_rfl) | kernel_rfl) ?_; simp only [Act.put, List.setIfInBounds_toArray, List.set_cons_zero, List.set_cons_succ]) | (refine rd_take (v := ?_) rfl rfl ?_ ?_; rotate_left; (focus (go_simp; try (with_reducible rfl))); simp only [Act.put, List.setIfInBounds_toArray, List.set_cons_zero, List.set_cons_succ]))
        exact rd_nil
      refine Tx.done (by kernel_rfl) ?_
      go_wp2_with fail
      exact ⟨⟨b + k, pad', by omega, hbk, by go_num, k9, hp2.out, kb⟩, by simp [intOf]; omega⟩
    · have hbe : Hid (b = n) := Lib.hid (by omega)
      rw [hbe.out] at k9
      have dj : decide ((b : Int) < (n : Int)) = false := decide_eq_false (by omega)
      go_wp2_with fail
      go_ret
      exact ⟨g, pad, rfl, hw2, k9, kb⟩
  · have n8 : ¬ (8192 : Int) < (n : Int) := by omega
    go_upto_region 16 with fail
    have hc0 : 0 < n := by omega
    go_upto_region 17 with fail
    have kb := hg8 (w0 := w) (.cells cs.toArray 5)
    have k9 : Arr ((w.alloc (.cells cs.toArray 5)).drew.drew) w.heap.size cs := Arr.new w cs.toArray 5
    have hsW := Lib.hid (hs.out.below kb)
    generalize (w.alloc (.cells cs.toArray 5)).drew.drew = W at *
    obtain ⟨g, hg⟩ : ∃ g, w.heap.size = g := ⟨_, rfl⟩
    rw [hg] at k9 ⊢
    have hw2 : w.heap.size ≤ g := by omega
    clear hmk hg hs hg8
    go_wp2_with (refine wpl_copyN rfl _ _ 26 26 rfl 5 Tryz.underlying26 hsz1.out g 0 n n rfl _ k9 (by have := hcl.out; omega) _ rfl _ hsW.out (u8s_one [x]) 1 (by rw [List.length_take]; simp [u8s]; omega) (u8s (List.replicate 1 x) ++ cs.drop 1) (by rw [List.take_zero, List.nil_append, List.take_of_length_le (by simp [u8s]; omega)]; rfl) (fun W2 k9 hg hsz => ?_))
    replace kb := below_gr kb hg hw2 kb.size
    have hlen : (u8s (List.replicate 1 x) ++ cs.drop 1).length = cs.length := by
      have := hcl.out
      simp [u8s]
      omega
    go_loopw [10] (fun bv wr => ∃ (b : Nat) (pad : List Value), 1 ≤ b ∧ b ≤ n ∧ bv = .int .i64 b ∧ Arr wr g (u8s (List.replicate b x) ++ pad) ∧ (u8s (List.replicate b x) ++ pad).length = cs.length ∧ Below w.heap.size w wr) (fun bv _ => n - (intOf bv).toNat)
    case atStart => exact ⟨1, _, Nat.le_refl _, h0, rfl, k9, hlen, kb⟩
    case round =>
    clear k9 hlen kb hsW
    obtain ⟨b, pad, hb1, hb2, rfl, k9, hlen, kb⟩ := hrel
    replace hlen := Lib.hid hlen
    have hb0 : (0 : Int) ≤ (b : Int) := by omega
    by_cases hbn : b < n
    · have hbI : (b : Int) < (n : Int) := by omega
      go_upto_region 19 with fail
      have hbn2 := Lib.hid hbn
      have hb22 := Lib.hid hb2
      have hc02 := Lib.hid hc0
      have n12 := Lib.hid n1
      obtain ⟨q, hif, hq⟩ : ∃ q : Nat, (if n < b then (n : Int) else (b : Int)) = (q : Int) ∧ Hid (q = min b n) := ⟨min b n, by split <;> omega, Lib.hid rfl⟩
      replace hif := Lib.hid hif
      clear hbI hbn hb2 hcI
      go_upto_region 20 with fail
      rw [hif.out]
      have hbn := hbn2.out
      have hqb : q ≤ b := by rw [hq.out]; omega
      have hq1 : 1 ≤ q := by rw [hq.out]; have := hc02.out; omega
      have hq0 : (0 : Int) ≤ (q : Int) := by omega
      have hqn : (q : Int) ≤ (n : Int) := by omega
      have hbI : (b : Int) ≤ (n : Int) := by omega
      have hnb : ¬ n = b := by omega
      obtain ⟨k, hk⟩ : ∃ k, min (n - b) q = k := ⟨_, rfl⟩
      have hsq : Hid (∀ w', Arr w' g (u8s (List.replicate b x) ++ pad) → Sl w' (.slice (some ⟨g, 0, none⟩) q n) (u8s (List.replicate q x))) := Lib.hid (fun w' h => by
        have h2 := Sl.of_part (o := 0) (n := q) (cap := n) (cs := u8s (List.replicate q x)) h (by simp [u8s]) (by omega) (by unfold maxLen; omega) (fun j hj => by
          have hj2 : j < q := by simpa [u8s] using hj
          rw [Nat.zero_add, List.getElem?_append_left (by simp [u8s]; omega)]
          simp [u8s, hj2, show j < b by omega])
        exact h2)
      obtain ⟨pad', hp1, hp2⟩ := rep_copy (n := b) (k := k) (N := n) (m := cs.length) (x := x) (pad := pad) (by omega) hlen.out hcl.out
      have hk2 : Hid (((u8s (List.replicate q x)).take (n - b)).length = k) := Lib.hid (by rw [List.length_take]; simp [u8s]; omega)
      have hys : Hid ((u8s (List.replicate b x) ++ pad).take b ++ (u8s (List.replicate q x)).take (n - b) ++ (u8s (List.replicate b x) ++ pad).drop (b + k) = u8s (List.replicate (b + k) x) ++ pad') := Lib.hid (by
        rw [← hp1]
        congr 2
        · rw [u8s_repx, u8s_repx, List.take_replicate, hk]
        · simp [u8s])
      have hbk : b + k ≤ n := by omega
      have hk0 : 1 ≤ k := by omega
      replace hp2 := Lib.hid hp2
      clear hp1 hk
      obtain ⟨wq, rfl⟩ : ∃ wq : World, wq = wr := ⟨_, rfl⟩
      refine Tx.start (fun w' => Below (wq).heap.size (wq) w') 7 10 rfl (by kernel_rfl) ?_
      have hS_2 : Below (wq).heap.size (wq) (World.drew wq) := (Below.refl _ _).drew
      refine Tx.pure (A := ?_) 9 1 (by kernel_rfl) (by exact hS_2) [0] (by kernel_rfl) ?_ ?_
      rotate_left
      · intro w'
        iterate 1 (first | (refine rd_skip rfl rfl ?_; simp only [Act.put, List.setIfInBounds_toArray, List.set_cons_zero, List.set_cons_succ]) | (refine rd_take (v := ?_) rfl rfl ?_ ?_; rotate_left; (focus (go_simp; try (with_reducible rfl))); simp only [Act.put, List.setIfInBounds_toArray, List.set_cons_zero, List.set_cons_succ]))
        exact rd_nil
      refine Tx.seg2 (A := ?_) 3 127 (by kernel_rfl) (by exact hS_2) [1, 2, 3, 4, 5, 6] (by kernel_rfl) ?_ ?_
      rotate_left
      · intro w' hB
        iterate 6 (first | (refine rd_skip rfl rfl ?_; simp only [Act.put, List.setIfInBounds_toArray, List.set_cons_zero, List.set_cons_succ]) | (refine rd_load_arr rfl rfl _ _ rfl _ rfl (by decide +kernel) _ (by assumption) (by first | (rw [lims_len]; kernel_rfl) | (rw [el_rep]; kernel_rfl) | (rw [el_len]; kernel_rfl) | (rw [byts_len]; kernel_rfl) | (rw [us_len]; kernel_rfl) | (rw [bytn_len]; kernel_rfl) | (rw [ens_len, digs_len]; kernel_rfl) | kernel_rfl) ?_; simp only [Act.put, List.setIfInBounds_toArray, List.set_cons_zero, List.set_cons_succ]) | (refine rd_take (v := ?_) rfl rfl ?_ ?_; rotate_left; (focus (go_simp; try (with_reducible rfl))); simp only [Act.put, List.setIfInBounds_toArray, List.set_cons_zero, List.set_cons_succ]))
        exact rd_nil
      refine Tx.bar 255 rfl (by decide +kernel) (fun K hK => ?_)
      replace k9 := k9.below hS_2
      replace kb := bel kb hS_2
      clear hS_2
      refine step_copyN rfl _ _ 26 26 rfl 5 Tryz.underlying26 hsz1.out g b (n - b) (n - b) rfl _ k9 (by rw [hlen.out]; have := hcl.out; omega) _ rfl _ (hsq.out _ k9) (u8s_one _) k hk2.out _ hys.out (fun W3 k9 hg hsz => ?_)
      replace kb := below_gr kb hg hw2 kb.size
      refine hK (fun _ => True) 9999 _ _ ?_
      clear hK K
      try simp only [Act.put]
      try simp only [List.setIfInBounds_toArray, List.set_cons_zero, List.set_cons_succ]
      have fk : IntKind.i64.wrap ((b : Int) + (k : Int)) = ((b + k : Nat) : Int) := by rw [i64_in (by omega)]; omega
      refine Tx.seg2 (A := ?_) 0 1023 (by kernel_rfl) (by exact trivial) [8, 9] (by kernel_rfl) ?_ ?_
      rotate_left
      · intro w' hB
        iterate 2 (first | (refine rd_skip rfl rfl ?_; simp only [Act.put, List.setIfInBounds_toArray, List.set_cons_zero, List.set_cons_succ]) | (refine rd_load_arr rfl rfl _ _ rfl _ rfl (by decide +kernel) _ (by assumption) (by first | (rw [lims_len]; kernel_rfl) | (rw [el_rep]; kernel_rfl) | (rw [el_len]; kernel_rfl) | (rw [byts_len]; kernel_rfl) | (rw [us_len]; kernel_rfl) | (rw [bytn_len]; kernel_rfl) | (rw [ens_len, digs_len]; kernel_rfl) | kernel_rfl) ?_; simp only [Act.put, List.setIfInBounds_toArray, List.set_cons_zero, List.set_cons_succ]) | (refine rd_take (v := ?_) rfl rfl ?_ ?_; rotate_left; (focus (go_simp; try (with_reducible rfl))); simp only [Act.put, List.setIfInBounds_toArray, List.set_cons_zero, List.set_cons_succ]))
        exact rd_nil
      refine Tx.done (by kernel_rfl) ?_
      go_wp2_with fail
      exact ⟨⟨b + k, pad', by omega, hbk, by go_num, k9, hp2.out, kb⟩, by simp [intOf]; omega⟩
    · have hbe : Hid (b = n) := Lib.hid (by omega)
      rw [hbe.out] at k9
      have dj : decide ((b : Int) < (n : Int)) = false := decide_eq_false (by omega)
      go_wp2_with fail
      go_ret
      exact ⟨g, pad, rfl, hw2, k9, kb⟩
set_option maxHeartbeats 1000000 in
theorem repeat_zero (v : Value) (x : UInt8) (w : World) :
    Calls Tryz.prog 26 #[v, .int .i64 0] w fun e w' =>
      ∃ g pad, e = .returned (.slice (some ⟨g, 0, none⟩) 0 0) ∧ w.heap.size ≤ g ∧ Arr w' g (u8s (List.replicate 0 x) ++ pad) ∧ Below w.heap.size w w' := by
  go_enter Tryz.func26, Tryz.ntmps26
  go_wp2_with fail
  go_ret
  exact ⟨_, [], rfl, Nat.le_refl _, Arr.new _ _ _, below_alloc _ _⟩
theorem repeat_all (a : Option Addr) (x : UInt8) (n : Nat) (hn : n ≤ 1000000) (w : World) (hs : Sl w (.slice a 1 1) (u8s [x])) :
    Calls Tryz.prog 26 #[.slice a 1 1, .int .i64 (n : Int)] w fun e w' =>
      ∃ g pad, e = .returned (.slice (some ⟨g, 0, none⟩) n n) ∧ w.heap.size ≤ g ∧ Arr w' g (u8s (List.replicate n x) ++ pad) ∧ Below w.heap.size w w' := by
  by_cases h : n = 0
  · subst h
    exact repeat_zero _ _ _
  · exact repeat_any a x n (by omega) hn w hs
end Go.Proofs.YtmlmggmnlgcbcaaGreat

