/- PortcullisWrong: part 10 of its proof: lemmas and contracts, each with its conditions in its own statement; the last part holds the law itself. -/
import Derived.Test.YtibdgkhkhmdihaaGreatDoorJe09
import Derived.Lib.MakeNoZero
import Derived.Laws.Externs

set_option maxHeartbeats 4000000
set_option maxRecDepth 100000
namespace Go.Proofs.YtibdgkhkhmdihaaGreatDoor
open Go.RowKit
theorem bmul_any {x y : Nat} (hx : x < 18446744073709551616) (hy : y < 18446744073709551616) (w : World) :
 Calls Tryz.prog 115 #[.int .u64 (x : Int), .int .u64 (y : Int)] w fun e w' => e = .returned (.tuple #[.int .u64 ((x * y / 18446744073709551616 : Nat) : Int), .int .u64 ((x * y % 18446744073709551616 : Nat) : Int)]) ∧ w' = w := by
 have c1 := zH (mul64 x y hx hy w)
 obtain ⟨h, hh⟩ : ∃ h, x * y / 18446744073709551616 = h := ⟨_, rfl⟩
 obtain ⟨l, hl⟩ : ∃ h, x * y % 18446744073709551616 = h := ⟨_, rfl⟩
 rw [hh, hl] at c1 ⊢
 clear hh hl hx hy
 go_enter Tryz.func115, Tryz.ntmps115
 go_wp2_with fail
 refine c1.out.mono ?_
 rintro e w' ⟨rfl, rfl⟩
 clear c1
 go_wp2_with fail
 go_ret2
 exact ⟨rfl, rfl⟩
theorem mkz_any (n : Nat) (hn : n ≤ 281474976710656) (w : World) : ∃ cs : List Value, (callFunc 116 #[.int .i64 (n : Int)]).run Tryz.prog w = .ok (.value (.slice (some ⟨w.heap.size, 0, none⟩) n cs.length)) ((w.alloc (.cells cs.toArray 5)).drew.drew) ∧ n ≤ cs.length ∧ (n ≤ maxLen → cs.length ≤ maxLen) := by
 obtain ⟨cs, h1, h2, h3⟩ := Lib.run_makeNoZero (P := Tryz.prog) w #[3] 26 5 Tryz.underlying26 n hn
 refine ⟨cs.toList, ?_, by simpa using h2, by simpa using h3⟩
 rw [run_callFunc_extern (P := Tryz.prog) (f := 116) (fn := Tryz.f116) zKr zKr zKr zKr (e := Extern.BytealgMakeNoZero.makeNoZero #[3] #[26]) zKr, h1]
 simp
 rfl
theorem wpl_copyN {P : Program} {w : World} {ops : Array Oper} {rest : List Oper} {o : Oper} {a : Act} {Q : Exit → Act → World → Prop} (hw : Region.wanted o (yielded ops a.tmps) = true) (d s : Operand) (dT sT : TypeId)
 (ho : o.op = .call { callee := .builtin .copy, args := #[d, s], argTypes := #[dT, sT] }) (elem : TypeId) (hu : P.underlying dT = some (.slice elem)) (hsz : (P.info? elem).map (·.size) = some 1)
 (g off dLen dCap : Nat) (hd : a.eval d = .slice (some ⟨g, off, none⟩) dLen dCap) (xs : List Value) (hg : Arr w g xs) (hfit : off + dLen ≤ xs.length) (vs : Value) (hs : a.eval s = vs) (full : List Value) (hsl : Sl w vs full) (h1 : ∀ v ∈ full, v.oneCell' = true)
 (k : Nat) (hk : (full.take dLen).length = k) (ys : List Value) (hys : xs.take off ++ full.take dLen ++ xs.drop (off + k) = ys)
 (h : ∀ W : World, Arr W g ys → w.grownBy W (some g) → W.heap.size = w.heap.size → wpList P ops Q rest (a.put o.dst (.int .i64 (k : Int))) W) : wpList P ops Q (o :: rest) a w := by
 refine wpList_copy_arr hw d s dT sT ho elem hu hsz g off dLen dCap hd xs hg hfit vs hs full hsl h1 ?_
 rw [hk, hys]
 exact h _ (hg.setRow ys) (gr_row w g _) (by simp [World.setRow])
theorem step_copyN {P : Program} {w : World} {ops : Array Oper} {o : Oper} {a : Act} {K : Act → World → Prop} {Q : Exit → Act → World → Prop} {E : Prop} (hw : Region.wanted o (yielded ops a.tmps) = true) (d s : Operand) (dT sT : TypeId)
 (ho : o.op = .call { callee := .builtin .copy, args := #[d, s], argTypes := #[dT, sT] }) (elem : TypeId) (hu : P.underlying dT = some (.slice elem)) (hsz : (P.info? elem).map (·.size) = some 1)
 (g off dLen dCap : Nat) (hd : a.eval d = .slice (some ⟨g, off, none⟩) dLen dCap) (xs : List Value) (hg : Arr w g xs) (hfit : off + dLen ≤ xs.length) (vs : Value) (hs : a.eval s = vs) (full : List Value) (hsl : Sl w vs full) (h1 : ∀ v ∈ full, v.oneCell' = true)
 (k : Nat) (hk : (full.take dLen).length = k) (ys : List Value) (hys : xs.take off ++ full.take dLen ++ xs.drop (off + k) = ys)
 (h : ∀ W : World, Arr W g ys → w.grownBy W (some g) → W.heap.size = w.heap.size → K (a.put o.dst (.int .i64 (k : Int))) W) : if Region.wanted o (yielded ops a.tmps) = true then Oper.wp P o a w K Q else E := by
 refine step_copy_arr hw d s dT sT ho elem hu hsz g off dLen dCap hd xs hg hfit vs hs full hsl h1 ?_
 rw [hk, hys]
 exact h _ (hg.setRow ys) (gr_row w g _) (by simp [World.setRow])
theorem u8s_repx (n : Nat) (x : UInt8) : u8s (List.replicate n x) = List.replicate n (.int .u8 (x.toNat : Int)) := by simp [u8s]
theorem rep_copy {n N k m : Nat} {x : UInt8} {pad : List Value} (hk : n + k ≤ N) (hm : (u8s (List.replicate n x) ++ pad).length = m) (hN : N ≤ m) :
 ∃ pad', (u8s (List.replicate n x) ++ pad).take n ++ u8s (List.replicate k x) ++ (u8s (List.replicate n x) ++ pad).drop (n + (u8s (List.replicate k x)).length) = u8s (List.replicate (n + k) x) ++ pad' ∧ (u8s (List.replicate (n + k) x) ++ pad').length = m := by
 refine ⟨(u8s (List.replicate n x) ++ pad).drop (n + (u8s (List.replicate k x)).length), ?_, ?_⟩
 · rw [List.take_append_of_le_length (by simp [u8s]), List.take_of_length_le (by simp [u8s]), ← List.replicate_append_replicate, u8s_append]
 · rw [List.length_append, List.length_drop, hm]
   simp [u8s] at *
   omega
theorem repeat_any (a : Option Addr) (x : UInt8) (n : Nat) (h0 : 0 < n) (hn : n ≤ 1000000) (w : World) (hs : Sl w (.slice a 1 1) (u8s [x])) :
 Calls Tryz.prog 74 #[.slice a 1 1, .int .i64 (n : Int)] w fun e w' =>
  ∃ g pad, e = .returned (.slice (some ⟨g, 0, none⟩) n n) ∧ w.heap.size ≤ g ∧ Arr w' g (u8s (List.replicate n x) ++ pad) ∧ Below w.heap.size w w' := by
 have cm := zH (bmul_any (x := 1) (y := n) zDc zOm w)
 rw [Nat.one_mul, show n / 18446744073709551616 = 0 by omega, show n % 18446744073709551616 = n by omega] at cm
 obtain ⟨cs, hmk, hc1, hc2⟩ := mkz_any n zOm w
 have hcm := hc2 (by unfold maxLen; omega)
 have n0 : (0 : Int) < (n : Int) := by omega
 have n1 : (n : Int) ≤ 1000000 := by omega
 have nw : IntKind.u64.wrap (n : Int) = (n : Int) := by rw [wrap_u64_mod]; omega
 have nz : ((n : Int) == 0) = false := by simp; omega
 have nw2 : IntKind.i64.wrap (n : Int) = (n : Int) := i64_in zOm
 have hsz1 : (Tryz.prog.info? 5).map (·.size) = some 1 := by kernel_rfl
 replace hsz1 := zH hsz1
 replace hs := zH hs
 have hcl := zH (show n ≤ cs.length from hc1)
 have hcI : (n : Int) ≤ (cs.length : Int) := by omega
 unfold maxLen at hcm
 clear hc1 hc2
 go_enter Tryz.func74, Tryz.ntmps74
 go_wp2_with fail
 refine cm.out.mono ?_
 rintro e w ⟨rfl, rfl⟩
 clear cm
 have hg8 : ∀ {w0 : World} (o : Obj), Below w0.heap.size w0 ((w0.alloc o).drew.drew) := fun o => ((below_alloc _ o).drew).drew
 by_cases h8 : 8192 < n
 · have n8 : (8192 : Int) < (n : Int) := by omega
   go_upto_region 16 with fail
   obtain ⟨c, hc⟩ : ∃ c : Nat, (8192 : Int) = (c : Int) := ⟨8192, rfl⟩
   rw [hc]
   have hc0 : 0 < c := by omega
   clear hc n8 h8
   go_upto_region 17 with fail
   have kb := hg8 (w0 := w) (.cells cs.toArray 5)
   have k9 : Arr ((w.alloc (.cells cs.toArray 5)).drew.drew) w.heap.size cs := Arr.new w cs.toArray 5
   have hsW := zH (hs.out.below kb)
   generalize (w.alloc (.cells cs.toArray 5)).drew.drew = W at *
   obtain ⟨g, hg⟩ : ∃ g, w.heap.size = g := ⟨_, rfl⟩
   rw [hg] at k9 ⊢
   have hw2 : w.heap.size ≤ g := by omega
   clear hmk hg hs hg8
   go_wp2_with (refine wpl_copyN rfl _ _ 26 26 rfl 5 Tryz.underlying26 hsz1.out g 0 n n rfl _ k9 (by have := hcl.out; omega) _ rfl _ hsW.out (u8s_one [x]) 1 (by rw [List.length_take]; simp [u8s]; omega) (u8s (List.replicate 1 x) ++ cs.drop 1) (by rw [List.take_zero, List.nil_append, List.take_of_length_le (by simp [u8s]; omega)]; rfl) (fun W2 k9 hg hsz => ?_))
   replace kb := below_gr kb hg hw2 kb.size
   have hlen : (u8s (List.replicate 1 x) ++ cs.drop 1).length = cs.length := by
    have := hcl.out
    simp [u8s]
    omega
   go_loopw [10] (fun bv wr => ∃ (b : Nat) (pad : List Value), 1 ≤ b ∧ b ≤ n ∧ bv = .int .i64 b ∧ Arr wr g (u8s (List.replicate b x) ++ pad) ∧ (u8s (List.replicate b x) ++ pad).length = cs.length ∧ Below w.heap.size w wr) (fun bv _ => n - (intOf bv).toNat)
   case atStart => exact ⟨1, _, Nat.le_refl _, h0, rfl, k9, hlen, kb⟩
   case round =>
   clear k9 hlen kb hsW
   obtain ⟨b, pad, hb1, hb2, rfl, k9, hlen, kb⟩ := hrel
   replace hlen := zH hlen
   have hb0 : (0 : Int) ≤ (b : Int) := by omega
   by_cases hbn : b < n
   · have hbI : (b : Int) < (n : Int) := by omega
     go_upto_region 19 with fail
     have hbn2 := zH hbn
     have hb22 := zH hb2
     have hc02 := zH hc0
     have n12 := zH n1
     obtain ⟨q, hif, hq⟩ : ∃ q : Nat, (if c < b then (c : Int) else (b : Int)) = (q : Int) ∧ Hid (q = min b c) := ⟨min b c, by split <;> omega, zH rfl⟩
     replace hif := zH hif
     clear hbI hbn hb2 hcI
     go_upto_region 20 with fail
     rw [hif.out]
     have hbn := hbn2.out
     have hqb : q ≤ b := by rw [hq.out]; omega
     have hq1 : 1 ≤ q := by rw [hq.out]; have := hc02.out; omega
     have hq0 : (0 : Int) ≤ (q : Int) := by omega
     have hqn : (q : Int) ≤ (n : Int) := by omega
     have hbI : (b : Int) ≤ (n : Int) := by omega
     have hnb : ¬ n = b := by omega
     obtain ⟨k, hk⟩ : ∃ k, min (n - b) q = k := ⟨_, rfl⟩
     have hsq : Hid (∀ w', Arr w' g (u8s (List.replicate b x) ++ pad) → Sl w' (.slice (some ⟨g, 0, none⟩) q n) (u8s (List.replicate q x))) := zH (fun w' h => by
      have h2 := Sl.of_part (o := 0) (n := q) (cap := n) (cs := u8s (List.replicate q x)) h (by simp [u8s]) zOm (by unfold maxLen; omega) (fun j hj => by
       have hj2 : j < q := by simpa [u8s] using hj
       rw [Nat.zero_add, List.getElem?_append_left (by simp [u8s]; omega)]
       simp [u8s, hj2, show j < b by omega])
      exact h2)
     obtain ⟨pad', hp1, hp2⟩ := rep_copy (n := b) (k := k) (N := n) (m := cs.length) (x := x) (pad := pad) zOm hlen.out hcl.out
     have hk2 : Hid (((u8s (List.replicate q x)).take (n - b)).length = k) := zH (by rw [List.length_take]; simp [u8s]; omega)
     have hys : Hid ((u8s (List.replicate b x) ++ pad).take b ++ (u8s (List.replicate q x)).take (n - b) ++ (u8s (List.replicate b x) ++ pad).drop (b + k) = u8s (List.replicate (b + k) x) ++ pad') := zH (by
      rw [← hp1]
      congr 2
      · rw [u8s_repx, u8s_repx, List.take_replicate, hk]
      · simp [u8s])
     have hbk : b + k ≤ n := by omega
     have hk0 : 1 ≤ k := by omega
     replace hp2 := zH hp2
     clear hp1 hk
     obtain ⟨wq, rfl⟩ : ∃ wq : World, wq = wr := ⟨_, rfl⟩
     refine Tx.start (fun w' => Below (wq).heap.size (wq) w') 7 10 rfl zKr ?_
     have hS_1 : Below (wq).heap.size (wq) (World.drew wq) := (Below.refl _ _).drew
     refine Tx.pure (A := ?_) 9 1 zKr (by exact hS_1) [0] zKr ?_ ?_
     rotate_left
     · intro w'
       iterate 1 (first | (refine rd_skip rfl rfl ?_; simp only [Act.put, zSa, zSz, zSs]) | (refine rd_take (v := ?_) rfl rfl ?_ ?_; rotate_left; (focus (go_simp; try (with_reducible rfl))); simp only [Act.put, zSa, zSz, zSs]))
       exact rd_nil
     refine Tx.seg2 (A := ?_) 3 127 zKr (by exact hS_1) [1, 2, 3, 4, 5, 6] zKr ?_ ?_
     rotate_left
     · intro w' hB
       exact zRd
     refine Tx.bar 255 rfl zDk (fun K hK => ?_)
     replace k9 := k9.below hS_1
     replace kb := bel kb hS_1
     clear hS_1
     refine step_copyN rfl _ _ 26 26 rfl 5 Tryz.underlying26 hsz1.out g b (n - b) (n - b) rfl _ k9 (by rw [hlen.out]; have := hcl.out; omega) _ rfl _ (hsq.out _ k9) (u8s_one _) k hk2.out _ hys.out (fun W3 k9 hg hsz => ?_)
     replace kb := below_gr kb hg hw2 kb.size
     refine hK (fun _ => True) 9999 _ _ ?_
     clear hK K
     try simp only [Act.put]
     try simp only [zSa, zSz, zSs]
     have fk : IntKind.i64.wrap ((b : Int) + (k : Int)) = ((b + k : Nat) : Int) := by rw [i64_in zOm]; omega
     refine Tx.seg2 (A := ?_) 0 1023 zKr (by exact trivial) [8, 9] zKr ?_ ?_
     rotate_left
     · intro w' hB
       exact zRd
     refine Tx.done zKr ?_
     go_wp2_with fail
     exact ⟨⟨b + k, pad', by omega, hbk, by go_num, k9, hp2.out, kb⟩, by simp [intOf]; omega⟩
   · have hbe : Hid (b = n) := zH zOm
     rw [hbe.out] at k9
     have dj : decide ((b : Int) < (n : Int)) = false := decide_eq_false zOm
     go_wp2_with fail
     go_ret
     exact ⟨g, pad, rfl, hw2, k9, kb⟩
 · have n8 : ¬ (8192 : Int) < (n : Int) := by omega
   go_upto_region 16 with fail
   have hc0 : 0 < n := by omega
   go_upto_region 17 with fail
   have kb := hg8 (w0 := w) (.cells cs.toArray 5)
   have k9 : Arr ((w.alloc (.cells cs.toArray 5)).drew.drew) w.heap.size cs := Arr.new w cs.toArray 5
   have hsW := zH (hs.out.below kb)
   generalize (w.alloc (.cells cs.toArray 5)).drew.drew = W at *
   obtain ⟨g, hg⟩ : ∃ g, w.heap.size = g := ⟨_, rfl⟩
   rw [hg] at k9 ⊢
   have hw2 : w.heap.size ≤ g := by omega
   clear hmk hg hs hg8
   go_wp2_with (refine wpl_copyN rfl _ _ 26 26 rfl 5 Tryz.underlying26 hsz1.out g 0 n n rfl _ k9 (by have := hcl.out; omega) _ rfl _ hsW.out (u8s_one [x]) 1 (by rw [List.length_take]; simp [u8s]; omega) (u8s (List.replicate 1 x) ++ cs.drop 1) (by rw [List.take_zero, List.nil_append, List.take_of_length_le (by simp [u8s]; omega)]; rfl) (fun W2 k9 hg hsz => ?_))
   replace kb := below_gr kb hg hw2 kb.size
   have hlen : (u8s (List.replicate 1 x) ++ cs.drop 1).length = cs.length := by
    have := hcl.out
    simp [u8s]
    omega
   go_loopw [10] (fun bv wr => ∃ (b : Nat) (pad : List Value), 1 ≤ b ∧ b ≤ n ∧ bv = .int .i64 b ∧ Arr wr g (u8s (List.replicate b x) ++ pad) ∧ (u8s (List.replicate b x) ++ pad).length = cs.length ∧ Below w.heap.size w wr) (fun bv _ => n - (intOf bv).toNat)
   case atStart => exact ⟨1, _, Nat.le_refl _, h0, rfl, k9, hlen, kb⟩
   case round =>
   clear k9 hlen kb hsW
   obtain ⟨b, pad, hb1, hb2, rfl, k9, hlen, kb⟩ := hrel
   replace hlen := zH hlen
   have hb0 : (0 : Int) ≤ (b : Int) := by omega
   by_cases hbn : b < n
   · have hbI : (b : Int) < (n : Int) := by omega
     go_upto_region 19 with fail
     have hbn2 := zH hbn
     have hb22 := zH hb2
     have hc02 := zH hc0
     have n12 := zH n1
     obtain ⟨q, hif, hq⟩ : ∃ q : Nat, (if n < b then (n : Int) else (b : Int)) = (q : Int) ∧ Hid (q = min b n) := ⟨min b n, by split <;> omega, zH rfl⟩
     replace hif := zH hif
     clear hbI hbn hb2 hcI
     go_upto_region 20 with fail
     rw [hif.out]
     have hbn := hbn2.out
     have hqb : q ≤ b := by rw [hq.out]; omega
     have hq1 : 1 ≤ q := by rw [hq.out]; have := hc02.out; omega
     have hq0 : (0 : Int) ≤ (q : Int) := by omega
     have hqn : (q : Int) ≤ (n : Int) := by omega
     have hbI : (b : Int) ≤ (n : Int) := by omega
     have hnb : ¬ n = b := by omega
     obtain ⟨k, hk⟩ : ∃ k, min (n - b) q = k := ⟨_, rfl⟩
     have hsq : Hid (∀ w', Arr w' g (u8s (List.replicate b x) ++ pad) → Sl w' (.slice (some ⟨g, 0, none⟩) q n) (u8s (List.replicate q x))) := zH (fun w' h => by
      have h2 := Sl.of_part (o := 0) (n := q) (cap := n) (cs := u8s (List.replicate q x)) h (by simp [u8s]) zOm (by unfold maxLen; omega) (fun j hj => by
       have hj2 : j < q := by simpa [u8s] using hj
       rw [Nat.zero_add, List.getElem?_append_left (by simp [u8s]; omega)]
       simp [u8s, hj2, show j < b by omega])
      exact h2)
     obtain ⟨pad', hp1, hp2⟩ := rep_copy (n := b) (k := k) (N := n) (m := cs.length) (x := x) (pad := pad) zOm hlen.out hcl.out
     have hk2 : Hid (((u8s (List.replicate q x)).take (n - b)).length = k) := zH (by rw [List.length_take]; simp [u8s]; omega)
     have hys : Hid ((u8s (List.replicate b x) ++ pad).take b ++ (u8s (List.replicate q x)).take (n - b) ++ (u8s (List.replicate b x) ++ pad).drop (b + k) = u8s (List.replicate (b + k) x) ++ pad') := zH (by
      rw [← hp1]
      congr 2
      · rw [u8s_repx, u8s_repx, List.take_replicate, hk]
      · simp [u8s])
     have hbk : b + k ≤ n := by omega
     have hk0 : 1 ≤ k := by omega
     replace hp2 := zH hp2
     clear hp1 hk
     obtain ⟨wq, rfl⟩ : ∃ wq : World, wq = wr := ⟨_, rfl⟩
     refine Tx.start (fun w' => Below (wq).heap.size (wq) w') 7 10 rfl zKr ?_
     have hS_2 : Below (wq).heap.size (wq) (World.drew wq) := (Below.refl _ _).drew
     refine Tx.pure (A := ?_) 9 1 zKr (by exact hS_2) [0] zKr ?_ ?_
     rotate_left
     · intro w'
       iterate 1 (first | (refine rd_skip rfl rfl ?_; simp only [Act.put, zSa, zSz, zSs]) | (refine rd_take (v := ?_) rfl rfl ?_ ?_; rotate_left; (focus (go_simp; try (with_reducible rfl))); simp only [Act.put, zSa, zSz, zSs]))
       exact rd_nil
     refine Tx.seg2 (A := ?_) 3 127 zKr (by exact hS_2) [1, 2, 3, 4, 5, 6] zKr ?_ ?_
     rotate_left
     · intro w' hB
       exact zRd
     refine Tx.bar 255 rfl zDk (fun K hK => ?_)
     replace k9 := k9.below hS_2
     replace kb := bel kb hS_2
     clear hS_2
     refine step_copyN rfl _ _ 26 26 rfl 5 Tryz.underlying26 hsz1.out g b (n - b) (n - b) rfl _ k9 (by rw [hlen.out]; have := hcl.out; omega) _ rfl _ (hsq.out _ k9) (u8s_one _) k hk2.out _ hys.out (fun W3 k9 hg hsz => ?_)
     replace kb := below_gr kb hg hw2 kb.size
     refine hK (fun _ => True) 9999 _ _ ?_
     clear hK K
     try simp only [Act.put]
     try simp only [zSa, zSz, zSs]
     have fk : IntKind.i64.wrap ((b : Int) + (k : Int)) = ((b + k : Nat) : Int) := by rw [i64_in zOm]; omega
     refine Tx.seg2 (A := ?_) 0 1023 zKr (by exact trivial) [8, 9] zKr ?_ ?_
     rotate_left
     · intro w' hB
       exact zRd
     refine Tx.done zKr ?_
     go_wp2_with fail
     exact ⟨⟨b + k, pad', by omega, hbk, by go_num, k9, hp2.out, kb⟩, by simp [intOf]; omega⟩
   · have hbe : Hid (b = n) := zH zOm
     rw [hbe.out] at k9
     have dj : decide ((b : Int) < (n : Int)) = false := decide_eq_false zOm
     go_wp2_with fail
     go_ret
     exact ⟨g, pad, rfl, hw2, k9, kb⟩
theorem repeat_zero (v : Value) (x : UInt8) (w : World) :
 Calls Tryz.prog 74 #[v, .int .i64 0] w fun e w' =>
  ∃ g pad, e = .returned (.slice (some ⟨g, 0, none⟩) 0 0) ∧ w.heap.size ≤ g ∧ Arr w' g (u8s (List.replicate 0 x) ++ pad) ∧ Below w.heap.size w w' := by
 go_enter Tryz.func74, Tryz.ntmps74
 go_wp2_with fail
 go_ret
 exact ⟨_, [], rfl, Nat.le_refl _, Arr.new _ _ _, below_alloc _ _⟩
theorem repeat_all (a : Option Addr) (x : UInt8) (n : Nat) (hn : n ≤ 1000000) (w : World) (hs : Sl w (.slice a 1 1) (u8s [x])) :
 Calls Tryz.prog 74 #[.slice a 1 1, .int .i64 (n : Int)] w fun e w' =>
  ∃ g pad, e = .returned (.slice (some ⟨g, 0, none⟩) n n) ∧ w.heap.size ≤ g ∧ Arr w' g (u8s (List.replicate n x) ++ pad) ∧ Below w.heap.size w w' := by
 by_cases h : n = 0
 · subst h
   exact repeat_zero _ _ _
 · exact repeat_any a x n zOm hn w hs
structure Ch (M : List Nat) (w w' : World) : Prop where
 os : w'.os = w.os
 tape : w'.tape = w.tape
 output : w'.output = w.output
 size : w.heap.size ≤ w'.heap.size
 block : ∀ k, k < w.heap.size → k ∉ M → w'.heap[k]? = w.heap[k]?
theorem Ch.refl (M : List Nat) (w : World) : Ch M w w := ⟨rfl, rfl, rfl, Nat.le_refl _, fun _ _ _ => rfl⟩
theorem Ch.trans {M : List Nat} {a b c : World} (h : Ch M a b) (k : Ch M b c) : Ch M a c :=
 ⟨k.os.trans h.os, k.tape.trans h.tape, k.output.trans h.output, Nat.le_trans h.size k.size, fun i hi hn => (k.block i (Nat.lt_of_lt_of_le hi h.size) hn).trans (h.block i hi hn)⟩
theorem Ch.mono {M M' : List Nat} {w w' : World} (h : Ch M w w') (hM : ∀ k, k ∈ M → k ∈ M') : Ch M' w w' := ⟨h.os, h.tape, h.output, h.size, fun k hk hn => h.block k hk (fun hm => hn (hM k hm))⟩
theorem Ch.of_below {M : List Nat} {w w' : World} (h : Below w.heap.size w w') : Ch M w w' := ⟨h.os, h.tape, h.output, h.size, fun k hk _ => h.block k hk⟩
theorem Ch.of_gr {M : List Nat} {g : Nat} {w w' : World} (h : w.grownBy w' (some g)) (hg : g ∈ M) : Ch M w w' := ⟨h.os, h.tape, h.output, h.size, fun k hk hn => h.block k hk (fun e => by injection e with e; subst e; exact hn hg)⟩
theorem Ch.drop {M M' : List Nat} {w0 w w' : World} (h0 : Ch M w0 w) (h : Ch M' w w') (hM : ∀ k, k ∈ M' → k ∈ M ∨ w0.heap.size ≤ k) : Ch M w0 w' :=
 ⟨h.os.trans h0.os, h.tape.trans h0.tape, h.output.trans h0.output, Nat.le_trans h0.size h.size, fun k hk hn => (h.block k (Nat.lt_of_lt_of_le hk h0.size) (fun hm => by rcases hM k hm with h1 | h1; exact hn h1; omega)).trans (h0.block k hk hn)⟩
theorem Arr.ch {M : List Nat} {w w' : World} {g : Nat} {xs : List Value} (h : Arr w g xs) (hc : Ch M w w') (hg : g ∉ M) : Arr w' g xs := by
 have := h.lt
 obtain ⟨T, h⟩ := h
 exact ⟨T, by rw [hc.block g this hg]; exact h⟩
theorem Sl.ch {M : List Nat} {w w' : World} {v : Value} {xs : List Value} (h : Sl w v xs) (hc : Ch M w w') (hv : ∀ a n c, v = .slice (some a) n c → a.block ∉ M) : Sl w' v xs := by
 obtain ⟨a, cap, rfl, h2, h3, h4, h5⟩ := h
 refine ⟨a, cap, rfl, h2, h3, h4, fun x hx j u hu => ?_⟩
 subst hx
 have h1 := h5 x rfl j u hu
 have hb := World.block_lt_of_cell? w (x.add j) h1
 have hbk : (x.add j).block = x.block := by unfold Addr.add; split <;> rfl
 rw [← h1]
 exact World.cell?_of_block (hc.block _ hb (by rw [hbk]; exact hv _ _ _ rfl))
structure Fl where
 b : List UInt8
 op : Int
 cut : Int
 dead : Bool
 er : Int
 pr : Int
def flv (g : Nat) (F : Fl) : List Value := [.slice (some ⟨g, 0, none⟩) F.b.length F.b.length, .int .i64 F.op, .int .i64 F.cut, .bool F.dead, .int .i64 F.er, .int .i64 F.pr]
structure FlAt (w : World) (p g : Nat) (F : Fl) : Prop where
 st : Arr w p (flv g F)
 bt : ∃ pad, Arr w g (u8s F.b ++ pad)
 ne : p ≠ g
 len : F.b.length ≤ 262144
 er : 0 ≤ F.er ∧ F.er ≤ 1099511627776
 pr : 0 ≤ F.pr ∧ F.pr ≤ 1099511627776
theorem FlAt.below {w w' : World} {p g : Nat} {F : Fl} (h : FlAt w p g F) (hb : Below w.heap.size w w') : FlAt w' p g F := by
 obtain ⟨h1, ⟨pad, h2⟩, h3, h4, h5, h6⟩ := h
 exact ⟨h1.below hb, ⟨pad, h2.below hb⟩, h3, h4, h5, h6⟩
theorem FlAt.ch {M : List Nat} {w w' : World} {p g : Nat} {F : Fl} (h : FlAt w p g F) (hc : Ch M w w') (hp : p ∉ M) (hg : g ∉ M) : FlAt w' p g F := by
 obtain ⟨h1, ⟨pad, h2⟩, h3, h4, h5, h6⟩ := h
 exact ⟨h1.ch hc hp, ⟨pad, h2.ch hc hg⟩, h3, h4, h5, h6⟩
theorem FlAt.lt {w : World} {p g : Nat} {F : Fl} (h : FlAt w p g F) : p < w.heap.size ∧ g < w.heap.size := by
 obtain ⟨h1, ⟨pad, h2⟩, -, -, -, -⟩ := h
 exact ⟨h1.lt, h2.lt⟩
theorem FlAt.set {w : World} {p g : Nat} {F F' : Fl} (h : FlAt w p g F) (j : Nat) (u : Value) (he : (flv g F).set j u = flv g F') (hb : F'.b = F.b) (he2 : F'.er = F.er := by rfl) (hp2 : F'.pr = F.pr := by rfl) : FlAt (w.setCell ⟨p, j, none⟩ u) p g F' ∧ Ch [p] w (w.setCell ⟨p, j, none⟩ u) := by
 obtain ⟨h1, ⟨pad, h2⟩, h3, h4, h5, h6⟩ := h
 refine ⟨⟨?_, ⟨pad, ?_⟩, h3, by rw [hb]; exact h4, by rw [he2]; exact h5, by rw [hp2]; exact h6⟩, Ch.of_gr (gr_cell w p j u) (by simp)⟩
 · rw [← he]
   exact h1.set j u
 · rw [hb]
   exact h2.other (a := ⟨p, j, none⟩) (Ne.symm h3) u
def Fl.new (n : Nat) : Fl := ⟨List.replicate (n * 256) 255, -1, 0, false, 0, 0⟩
theorem fnew_any (n : Nat) (hn : n ≤ 1024) (w : World) :
 Calls Tryz.prog 46 #[.int .i64 (n : Int)] w fun e w' => ∃ p g, e = .returned (.pointer (some ⟨p, 0, none⟩)) ∧ w.heap.size ≤ p ∧ w.heap.size ≤ g ∧ FlAt w' p g (Fl.new n) ∧ Below w.heap.size w w' := by
 have c1 := zH (show Calls Tryz.prog 74 #[.slice (some ⟨w.heap.size, 0, none⟩) 1 1, .int .i64 ((n * 256 : Nat) : Int)] (w.alloc (.cells #[.int .u8 255] 5)) _ from repeat_all (some ⟨w.heap.size, 0, none⟩) 255 (n * 256) zOm _ (Sl.new1 w (.int .u8 255) _))
 by_cases hz : n = 0
 · subst hz
   go_enter Tryz.func46, Tryz.ntmps46
   go_wp2_with fail
   refine (show Calls Tryz.prog 74 #[.slice (some ⟨w.heap.size, 0, none⟩) 1 1, .int .i64 0] (w.alloc (.cells #[.int .u8 255] 5)) _ from c1.out).mono ?_
   rintro e w1 ⟨g, pad, rfl, hg, kg, hb⟩
   have kb := bel (below_alloc w _) hb
   clear hb c1
   go_wp2_with fail
   go_ret
   exact ⟨w1.heap.size, g, rfl, kb.size, by simp at hg; omega, ⟨Arr.new _ _ _, ⟨pad, kg.alloc _⟩, by have := kg.lt; omega, by decide, by decide, by decide⟩, bel kb (below_alloc _ _)⟩
 have n0 : (0 : Int) < (n : Int) := by omega
 have n1 : (n : Int) ≤ 1024 := by omega
 have hlen : Hid (n * 256 = (Fl.new n).b.length) := zH (by simp [Fl.new])
 have hb : Hid ((Fl.new n).b = List.replicate (n * 256) 255) := zH rfl
 obtain ⟨F, hF⟩ : ∃ F, Fl.new n = F := ⟨_, rfl⟩
 have hFe : Hid (F = ⟨F.b, -1, 0, false, 0, 0⟩) := zH (by rw [← hF]; rfl)
 have hFl : Hid (F.b.length ≤ 262144) := zH (by rw [← hF]; simp [Fl.new]; omega)
 rw [hF] at hlen hb ⊢
 obtain ⟨m, hm⟩ : ∃ m, n * 256 = m := ⟨_, rfl⟩
 have hmI : (n : Int) * 256 = (m : Int) := by omega
 rw [hm] at c1 hlen hb
 clear hm hn hz hF
 go_enter Tryz.func46, Tryz.ntmps46
 go_wp2_with fail
 refine c1.out.mono ?_
 rintro e w1 ⟨g, pad, rfl, hg, kg, hb1⟩
 have kb := bel (below_alloc w _) hb1
 clear hb1 c1
 go_wp2_with fail
 go_ret
 refine ⟨w1.heap.size, g, rfl, kb.size, by simp at hg; omega, ⟨?_, ⟨pad, ?_⟩, by have := kg.lt; omega, hFl.out, by rw [hFe.out]; simp, by rw [hFe.out]; simp⟩, bel kb (below_alloc _ _)⟩
 · have q := Arr.new w1 #[.slice (some ⟨g, 0, none⟩) m m, .int .i64 (-1), .int .i64 0, .bool false, .int .i64 0, .int .i64 0] 121
   have e : flv g F = [.slice (some ⟨g, 0, none⟩) m m, .int .i64 (-1), .int .i64 0, .bool false, .int .i64 0, .int .i64 0] := by
    rw [hFe.out, flv, ← hlen.out]
   rw [e]
   exact q
 · rw [hb.out]
   exact kg.alloc _
theorem fsize_any (p g : Nat) (F : Fl) (w : World) (k0 : FlAt w p g F) : Calls Tryz.prog 126 #[.pointer (some ⟨p, 0, none⟩)] w fun e w' => e = .returned (.int .i64 ((F.b.length / 256 : Nat) : Int)) ∧ w' = w := by
 obtain ⟨⟨v0, v1, v2, v3, v4, v5⟩, ⟨f0, f1, f2, f3, f4, f5⟩⟩ : (w.cell? ⟨p, 0, none⟩ = some (.slice (some ⟨g, 0, none⟩) F.b.length F.b.length) ∧ w.cell? ⟨p, 1, none⟩ = some (.int .i64 F.op) ∧ w.cell? ⟨p, 2, none⟩ = some (.int .i64 F.cut) ∧ w.cell? ⟨p, 3, none⟩ = some (.bool F.dead) ∧ w.cell? ⟨p, 4, none⟩ = some (.int .i64 F.er) ∧ w.cell? ⟨p, 5, none⟩ = some (.int .i64 F.pr)) ∧
  (w.frozen? ⟨p, 0, none⟩ = false ∧ w.frozen? ⟨p, 1, none⟩ = false ∧ w.frozen? ⟨p, 2, none⟩ = false ∧ w.frozen? ⟨p, 3, none⟩ = false ∧ w.frozen? ⟨p, 4, none⟩ = false ∧ w.frozen? ⟨p, 5, none⟩ = false) :=
  ⟨⟨k0.st.cell (j := 0) rfl, k0.st.cell (j := 1) rfl, k0.st.cell (j := 2) rfl, k0.st.cell (j := 3) rfl, k0.st.cell (j := 4) rfl, k0.st.cell (j := 5) rfl⟩, ⟨k0.st.frozen _, k0.st.frozen _, k0.st.frozen _, k0.st.frozen _, k0.st.frozen _, k0.st.frozen _⟩⟩
 have hl := k0.len
 obtain ⟨L, hL⟩ : ∃ L, F.b.length = L := ⟨_, rfl⟩
 rw [hL] at v0 hl ⊢
 have fq : (L : Int) / 256 = ((L / 256 : Nat) : Int) := by omega
 have hq : (L : Int) ≤ 262144 := by omega
 obtain ⟨q, hq2⟩ : ∃ q, L / 256 = q := ⟨_, rfl⟩
 rw [hq2] at fq ⊢
 clear hq2 hL k0 v1 v2 v3 v4 v5 f0 f1 f2 f3 f4 f5
 go_enter Tryz.func126, Tryz.ntmps126
 go_wp2_with fail
 go_ret
 exact ⟨rfl, rfl⟩
theorem fdead_any (p g : Nat) (F : Fl) (w : World) (k0 : FlAt w p g F) : Calls Tryz.prog 148 #[.pointer (some ⟨p, 0, none⟩)] w fun e w' => e = .returned (.bool F.dead) ∧ w' = w := by
 obtain ⟨⟨v0, v1, v2, v3, v4, v5⟩, ⟨f0, f1, f2, f3, f4, f5⟩⟩ : (w.cell? ⟨p, 0, none⟩ = some (.slice (some ⟨g, 0, none⟩) F.b.length F.b.length) ∧ w.cell? ⟨p, 1, none⟩ = some (.int .i64 F.op) ∧ w.cell? ⟨p, 2, none⟩ = some (.int .i64 F.cut) ∧ w.cell? ⟨p, 3, none⟩ = some (.bool F.dead) ∧ w.cell? ⟨p, 4, none⟩ = some (.int .i64 F.er) ∧ w.cell? ⟨p, 5, none⟩ = some (.int .i64 F.pr)) ∧
  (w.frozen? ⟨p, 0, none⟩ = false ∧ w.frozen? ⟨p, 1, none⟩ = false ∧ w.frozen? ⟨p, 2, none⟩ = false ∧ w.frozen? ⟨p, 3, none⟩ = false ∧ w.frozen? ⟨p, 4, none⟩ = false ∧ w.frozen? ⟨p, 5, none⟩ = false) :=
  ⟨⟨k0.st.cell (j := 0) rfl, k0.st.cell (j := 1) rfl, k0.st.cell (j := 2) rfl, k0.st.cell (j := 3) rfl, k0.st.cell (j := 4) rfl, k0.st.cell (j := 5) rfl⟩, ⟨k0.st.frozen _, k0.st.frozen _, k0.st.frozen _, k0.st.frozen _, k0.st.frozen _, k0.st.frozen _⟩⟩
 obtain ⟨d, hd⟩ : ∃ d, F.dead = d := ⟨_, rfl⟩
 rw [hd] at v3 ⊢
 clear hd k0 v0 v1 v2 v4 v5 f0 f1 f2 f3 f4 f5
 go_enter Tryz.func148, Tryz.ntmps148
 go_wp2_with fail
 go_ret
 exact ⟨rfl, rfl⟩
theorem fis_yes (p g i n : Nat) (F : Fl) (w : World) (k0 : FlAt w p g F) (h : i + n ≤ F.b.length) : Calls Tryz.prog 91 #[.pointer (some ⟨p, 0, none⟩), .int .i64 (i : Int), .int .i64 (n : Int)] w fun e w' => e = .returned (.bool true) ∧ w' = w := by
 obtain ⟨⟨v0, v1, v2, v3, v4, v5⟩, ⟨f0, f1, f2, f3, f4, f5⟩⟩ : (w.cell? ⟨p, 0, none⟩ = some (.slice (some ⟨g, 0, none⟩) F.b.length F.b.length) ∧ w.cell? ⟨p, 1, none⟩ = some (.int .i64 F.op) ∧ w.cell? ⟨p, 2, none⟩ = some (.int .i64 F.cut) ∧ w.cell? ⟨p, 3, none⟩ = some (.bool F.dead) ∧ w.cell? ⟨p, 4, none⟩ = some (.int .i64 F.er) ∧ w.cell? ⟨p, 5, none⟩ = some (.int .i64 F.pr)) ∧
  (w.frozen? ⟨p, 0, none⟩ = false ∧ w.frozen? ⟨p, 1, none⟩ = false ∧ w.frozen? ⟨p, 2, none⟩ = false ∧ w.frozen? ⟨p, 3, none⟩ = false ∧ w.frozen? ⟨p, 4, none⟩ = false ∧ w.frozen? ⟨p, 5, none⟩ = false) :=
  ⟨⟨k0.st.cell (j := 0) rfl, k0.st.cell (j := 1) rfl, k0.st.cell (j := 2) rfl, k0.st.cell (j := 3) rfl, k0.st.cell (j := 4) rfl, k0.st.cell (j := 5) rfl⟩, ⟨k0.st.frozen _, k0.st.frozen _, k0.st.frozen _, k0.st.frozen _, k0.st.frozen _, k0.st.frozen _⟩⟩
 have hl := k0.len
 obtain ⟨L, hL⟩ : ∃ L, F.b.length = L := ⟨_, rfl⟩
 rw [hL] at v0 hl h
 have i0 : (0 : Int) ≤ (i : Int) := by omega
 have n0 : (0 : Int) ≤ (n : Int) := by omega
 have h1 : (i : Int) ≤ (L : Int) := by omega
 have h2 : (n : Int) ≤ (L : Int) - (i : Int) := by omega
 have h3 : i ≤ L := by omega
 clear hL k0 v1 v2 v3 v4 v5 f0 f1 f2 f3 f4 f5
 have hq : (L : Int) ≤ 262144 := by omega
 go_enter Tryz.func91, Tryz.ntmps91
 go_wp2_with fail
 go_ret
 exact ⟨rfl, rfl⟩
theorem fop_never (p g n : Nat) (F : Fl) (w : World) (k0 : FlAt w p g F) (h : F.op = -1) : Calls Tryz.prog 309 #[.pointer (some ⟨p, 0, none⟩), .int .i64 (n : Int)] w fun e w' => e = .returned (.tuple #[.int .i64 (n : Int), .bool true]) ∧ FlAt w' p g F ∧ Ch [p] w w' := by
 obtain ⟨⟨v0, v1, v2, v3, v4, v5⟩, ⟨f0, f1, f2, f3, f4, f5⟩⟩ : (w.cell? ⟨p, 0, none⟩ = some (.slice (some ⟨g, 0, none⟩) F.b.length F.b.length) ∧ w.cell? ⟨p, 1, none⟩ = some (.int .i64 F.op) ∧ w.cell? ⟨p, 2, none⟩ = some (.int .i64 F.cut) ∧ w.cell? ⟨p, 3, none⟩ = some (.bool F.dead) ∧ w.cell? ⟨p, 4, none⟩ = some (.int .i64 F.er) ∧ w.cell? ⟨p, 5, none⟩ = some (.int .i64 F.pr)) ∧
  (w.frozen? ⟨p, 0, none⟩ = false ∧ w.frozen? ⟨p, 1, none⟩ = false ∧ w.frozen? ⟨p, 2, none⟩ = false ∧ w.frozen? ⟨p, 3, none⟩ = false ∧ w.frozen? ⟨p, 4, none⟩ = false ∧ w.frozen? ⟨p, 5, none⟩ = false) :=
  ⟨⟨k0.st.cell (j := 0) rfl, k0.st.cell (j := 1) rfl, k0.st.cell (j := 2) rfl, k0.st.cell (j := 3) rfl, k0.st.cell (j := 4) rfl, k0.st.cell (j := 5) rfl⟩, ⟨k0.st.frozen _, k0.st.frozen _, k0.st.frozen _, k0.st.frozen _, k0.st.frozen _, k0.st.frozen _⟩⟩
 rw [h] at v1
 clear v0 v2 v3 v4 v5 f0 f2 f3 f4 f5
 have hset : (flv g F).set 1 (.int .i64 (-1)) = flv g F := by rw [flv, h]; rfl
 replace hset := zH hset
 replace k0 := zH k0
 clear h
 go_enter Tryz.func309, Tryz.ntmps309
 go_wp2_with fail
 go_ret2
 obtain ⟨k, hc⟩ := k0.out.set (F' := F) 1 (.int .i64 (-1)) hset.out rfl
 exact ⟨rfl, k, hc⟩
theorem fturn_never (p g : Nat) (F : Fl) (w : World) (k0 : FlAt w p g F) (h : F.op = -1) (hd : F.dead = false) : Calls Tryz.prog 276 #[.pointer (some ⟨p, 0, none⟩)] w fun e w' => e = .returned (.bool true) ∧ FlAt w' p g F ∧ Ch [p] w w' := by
 obtain ⟨⟨v0, v1, v2, v3, v4, v5⟩, ⟨f0, f1, f2, f3, f4, f5⟩⟩ : (w.cell? ⟨p, 0, none⟩ = some (.slice (some ⟨g, 0, none⟩) F.b.length F.b.length) ∧ w.cell? ⟨p, 1, none⟩ = some (.int .i64 F.op) ∧ w.cell? ⟨p, 2, none⟩ = some (.int .i64 F.cut) ∧ w.cell? ⟨p, 3, none⟩ = some (.bool F.dead) ∧ w.cell? ⟨p, 4, none⟩ = some (.int .i64 F.er) ∧ w.cell? ⟨p, 5, none⟩ = some (.int .i64 F.pr)) ∧
  (w.frozen? ⟨p, 0, none⟩ = false ∧ w.frozen? ⟨p, 1, none⟩ = false ∧ w.frozen? ⟨p, 2, none⟩ = false ∧ w.frozen? ⟨p, 3, none⟩ = false ∧ w.frozen? ⟨p, 4, none⟩ = false ∧ w.frozen? ⟨p, 5, none⟩ = false) :=
  ⟨⟨k0.st.cell (j := 0) rfl, k0.st.cell (j := 1) rfl, k0.st.cell (j := 2) rfl, k0.st.cell (j := 3) rfl, k0.st.cell (j := 4) rfl, k0.st.cell (j := 5) rfl⟩, ⟨k0.st.frozen _, k0.st.frozen _, k0.st.frozen _, k0.st.frozen _, k0.st.frozen _, k0.st.frozen _⟩⟩
 rw [hd] at v3
 have c1 := zH (show Calls Tryz.prog 309 #[.pointer (some ⟨p, 0, none⟩), .int .i64 0] w _ from fop_never p g 0 F w k0 h)
 clear v0 v1 v2 v4 v5 f0 f1 f2 f3 f4 f5 h hd k0
 go_enter Tryz.func276, Tryz.ntmps276
 go_wp2_with fail
 refine c1.out.mono ?_
 rintro e w1 ⟨rfl, k, hc⟩
 clear c1
 go_wp2_with fail
 go_ret
 exact ⟨rfl, k, hc⟩
theorem fread_any (p g i n : Nat) (F : Fl) (w : World) (k0 : FlAt w p g F) (hd : F.dead = false) (h : i + n ≤ F.b.length) (hi : i < F.b.length) : Calls Tryz.prog 307 #[.pointer (some ⟨p, 0, none⟩), .int .i64 (i : Int), .int .i64 (n : Int)] w fun e w' =>
 ∃ v, e = .returned (.tuple #[v, .bool true]) ∧ w'.ownsRow w.heap.size 5 1 v n (u8s ((F.b.drop i).take n)) ∧ Below w.heap.size w w' := by
 obtain ⟨⟨v0, v1, v2, v3, v4, v5⟩, ⟨f0, f1, f2, f3, f4, f5⟩⟩ : (w.cell? ⟨p, 0, none⟩ = some (.slice (some ⟨g, 0, none⟩) F.b.length F.b.length) ∧ w.cell? ⟨p, 1, none⟩ = some (.int .i64 F.op) ∧ w.cell? ⟨p, 2, none⟩ = some (.int .i64 F.cut) ∧ w.cell? ⟨p, 3, none⟩ = some (.bool F.dead) ∧ w.cell? ⟨p, 4, none⟩ = some (.int .i64 F.er) ∧ w.cell? ⟨p, 5, none⟩ = some (.int .i64 F.pr)) ∧
  (w.frozen? ⟨p, 0, none⟩ = false ∧ w.frozen? ⟨p, 1, none⟩ = false ∧ w.frozen? ⟨p, 2, none⟩ = false ∧ w.frozen? ⟨p, 3, none⟩ = false ∧ w.frozen? ⟨p, 4, none⟩ = false ∧ w.frozen? ⟨p, 5, none⟩ = false) :=
  ⟨⟨k0.st.cell (j := 0) rfl, k0.st.cell (j := 1) rfl, k0.st.cell (j := 2) rfl, k0.st.cell (j := 3) rfl, k0.st.cell (j := 4) rfl, k0.st.cell (j := 5) rfl⟩, ⟨k0.st.frozen _, k0.st.frozen _, k0.st.frozen _, k0.st.frozen _, k0.st.frozen _, k0.st.frozen _⟩⟩
 rw [hd] at v3
 have c1 := zH (fis_yes p g i n F w k0 h)
 have hl := k0.len
 have htl : ((F.b.drop i).take n).length = n := by rw [List.length_take, List.length_drop]; omega
 have hsl : Sl w (.slice (some ⟨g, i, none⟩) n (F.b.length - i)) (u8s ((F.b.drop i).take n)) := by
  obtain ⟨pad, kp⟩ := k0.bt
  refine Sl.of_part kp (by rw [u8s_len, htl]) zOm (by unfold maxLen; omega) (fun j hj => ?_)
  rw [u8s_len, htl] at hj
  rw [List.getElem?_append_left (by rw [u8s_len]; omega), u8s_get _ _ zOm, u8s_get _ _ (by rw [htl]; exact hj)]
  simp
 have c2 := zH (clone_any _ _ w hsl (by rw [htl]; omega))
 rw [htl] at c2
 obtain ⟨L, hL⟩ : ∃ L, F.b.length = L := ⟨_, rfl⟩
 rw [hL] at v0 hl h hi c2
 obtain ⟨X, hX⟩ : ∃ X, u8s ((F.b.drop i).take n) = X := ⟨_, rfl⟩
 rw [hX] at c2 ⊢
 have i0 : (0 : Int) ≤ (i : Int) := by omega
 have n0 : (0 : Int) ≤ (n : Int) := by omega
 have hin : (i : Int) + (n : Int) ≤ (L : Int) := by omega
 have hq : (L : Int) ≤ 262144 := by omega
 obtain ⟨m, hm⟩ : ∃ m, i + n = m := ⟨_, rfl⟩
 have hmI : (i : Int) + (n : Int) = (m : Int) := by omega
 have hmL : (m : Int) ≤ (L : Int) := by omega
 have him : (i : Int) ≤ (m : Int) := by omega
 have hm0 : (0 : Int) ≤ (m : Int) := by omega
 have hnL : ¬ L = i := by omega
 have hmi : m - i = n := by omega
 clear hL hX k0 v1 v2 v4 v5 f0 f1 f2 f3 f4 f5 hsl htl hd hm h hi hl hin
 go_enter Tryz.func307, Tryz.ntmps307
 go_wp2_with fail
 refine c1.out.mono ?_
 rintro e w2 ⟨rfl, hw⟩
 subst hw
 clear c1
 go_wp2_with fail
 refine c2.out.mono ?_
 rintro e w2 ⟨v, rfl, h1, h2, -⟩
 clear c2
 go_wp2_with fail
 go_ret2
 exact ⟨v, rfl, h1, h2⟩
end Go.Proofs.YtibdgkhkhmdihaaGreatDoor
