/- TopSigned: part 41 of its proof: lemmas and contracts, each with its conditions in its own statement; the last part holds the law itself. -/
import Derived.Test.YtncnlfpiondpnaaGreatJt40
import Derived.Test.YtncnlfpiondpnaaGreatJt37
import Derived.RangeFuncNested
import Derived.RangeFuncBound

set_option maxHeartbeats 4000000
set_option maxRecDepth 100000
namespace Go.Proofs.YtncnlfpiondpnaaGreat
open Go.RowKit
open Go.RowKit Go.Shelf
attribute [local go_sem] Oper.semAt_some
theorem wpListIn_copy_arr {F : Fence} {n : Nat} {P : Program} {w : World} {ops : Array Oper} {rest : List Oper} {o : Oper} {a : Act} {Q : Exit → Act → World → Prop} (hgd : o.guard = none) (d s : Operand) (dT sT : TypeId)
 (ho : o.op = .call { callee := .builtin .copy, args := #[d, s], argTypes := #[dT, sT] }) (elem : TypeId) (hu : P.underlying dT = some (.slice elem)) (hsz : (P.info? elem).map (·.size) = some 1)
 (g off dLen dCap : Nat) (hd : a.eval d = .slice (some ⟨g, off, none⟩) dLen dCap) (xs : List Value) (hg : Arr w g xs) (hfit : off + dLen ≤ xs.length) (vs : Value) (hs : a.eval s = vs) (full : List Value) (hsl : Sl w vs full) (h1 : ∀ v ∈ full, v.oneCell' = true)
 (h : wpListIn F n P ops Q rest (a.put o.dst (goInt (full.take dLen).length)) (w.setRow g (xs.take off ++ full.take dLen ++ xs.drop (off + (full.take dLen).length)).toArray)) : wpListIn F n P ops Q (o :: rest) a w := by
 refine wpListIn_plain hgd fun K hK => ?_
 unfold Oper.wpIn
 refine ⟨by simp [Oper.about, ho, resolve, Target.leads, Sem.run_pure], ?_⟩
 rw [Oper.semAt_plain F _ _ (by rw [ho]; intro c hc'; cases hc')]
 obtain ⟨sp, cap, rfl, h2, h3, h4, h5⟩ := hsl
 obtain ⟨T, hg⟩ := hg
 cases sp with
 | none =>
  obtain rfl := h4 rfl
  obtain rfl : full = [] := List.eq_nil_of_length_eq_zero zOm
  have hrun := run_copy_nil (P := P) w dT sT o.type elem ⟨g, off, none⟩ dLen dCap hu (by cases hq : P.info? elem <;> simp [hq] at hsz ⊢)
  simp only [execOp, ho, resolve, invoke, builtin, Sem.run_bind, Sem.run_pure, Result.andThen_ok, List.map_toArray, List.map_cons, List.map_nil, hd, hs, List.length_nil, hrun]
  refine hK _ _ ?_
  simp only [List.take_nil, List.append_nil, List.length_nil, Nat.add_zero, List.take_append_drop] at h
  rwa [setRow_self w g xs.toArray T (0, 0) hg] at h
 | some x =>
  have hl : (full.take dLen).length = Nat.min full.length dLen := by rw [List.length_take]; exact Nat.min_comm _ _
  have hrun := run_copy_row (P := P) w dT sT o.type elem g off dLen dCap x full.length cap xs.toArray T (full.take dLen) hu hsz hg hl (fun j v hj => h5 x rfl j v (by
   rw [List.getElem?_take] at hj
   split at hj
   · exact hj
   · cases hj)) (by have := List.length_take_le dLen full; simp only [List.size_toArray]; omega) (fun v hv => h1 v (List.mem_of_mem_take hv))
  simp only [execOp, ho, resolve, invoke, builtin, Sem.run_bind, Sem.run_pure, Result.andThen_ok, List.map_toArray, List.map_cons, List.map_nil, hd, hs, hrun]
  exact hK _ _ h
def pieceB (bs : List UInt8) (x : Nat) : List UInt8 := (bs.drop (64 * x)).take 64
def cblkB (bs : List UInt8) (x : Nat) : List UInt8 := pieceB bs x ++ List.replicate (64 - (pieceB bs x).length) 0
theorem pieceB_len (bs : List UInt8) (x : Nat) : (pieceB bs x).length = pieceN bs.length x := by rw [pieceB, List.length_take, List.length_drop, pieceN]
theorem cblkB_len (bs : List UInt8) (x : Nat) : (cblkB bs x).length = 64 := by
 have : (pieceB bs x).length ≤ 64 := by rw [pieceB, List.length_take]; omega
 rw [cblkB, List.length_append, List.length_replicate]; omega
def cblksB (bs : List UInt8) : List (List UInt8) := if bs = [] then [List.replicate 64 0] else (List.range (piecesN bs.length)).map (cblkB bs)
theorem Sl.piece {w : World} {b o c : Nat} {bs : List UInt8} (h : Sl w (.slice (some ⟨b, o, none⟩) bs.length c) (u8s bs)) (x : Nat) : Sl w (.slice (some ⟨b, o + 64 * x, none⟩) (pieceN bs.length x) (pieceN bs.length x)) (u8s (pieceB bs x)) := by
 obtain ⟨a', c', h1, h2, h3, h4, h5⟩ := h
 simp only [Value.slice.injEq] at h1
 obtain ⟨rfl, -, rfl⟩ := h1
 rw [u8s_len] at h2
 have hl := pieceB_len bs x
 refine ⟨_, _, by rw [u8s_len, hl], by rw [u8s_len, hl]; exact Nat.le_refl _, by rw [pieceN]; unfold maxLen; omega, fun h => (by cases h), fun y hy j u hu => ?_⟩
 cases hy
 have hj : j < (pieceB bs x).length := by
  have := (List.getElem?_eq_some_iff.1 hu).1
  rwa [u8s_len] at this
 have := h5 _ rfl (64 * x + j) u (by
  rw [← hu]
  have h1 : j < 64 := by rw [hl, pieceN] at hj; omega
  simp [u8s, pieceB, h1])
 rw [Addr.add_lit] at this ⊢
 rw [Nat.add_assoc]
 exact this
theorem wpListIn_cblk {F : Fence} {n : Nat} {P : Program} {W0 W : World} {ops : Array Oper} {rest : List Oper} {o : Oper} {a : Act} {Q : Exit → Act → World → Prop} (hgd : o.guard = none) (d s : Operand) (dT sT : TypeId)
 (ho : o.op = .call { callee := .builtin .copy, args := #[d, s], argTypes := #[dT, sT] }) (elem : TypeId) (hu : P.underlying dT = some (.slice elem)) (hsz : (P.info? elem).map (·.size) = some 1) (bs : List UInt8) (x : Nat) {Z : Array Value} (hZ : Hid ((u8s (List.replicate 64 0)).toArray = Z))
 (hW : W = W0.alloc (.cells Z elem)) (hd : a.eval d = .slice (some ⟨W0.heap.size, 0, none⟩) 64 64) (vs : Value) (hs : a.eval s = vs) (hsl : Sl W0 vs (u8s (pieceB bs x)))
 (h : ∀ (W2 : World) (z : Value), W2.heap[W0.heap.size]? = some (.cells (u8s (cblkB bs x)).toArray elem (0, 0)) → W.grownBy W2 (some W0.heap.size) → W2.heap.size = W0.heap.size + 1 → wpListIn F n P ops Q rest (a.put o.dst z) W2) : wpListIn F n P ops Q (o :: rest) a W := by
 replace hZ := hZ.out
 subst hZ
 subst hW
 have hg : Arr (W0.alloc (.cells (u8s (List.replicate 64 0)).toArray elem)) W0.heap.size (u8s (List.replicate 64 0)) := Arr.new _ _ _
 have hpl : (pieceB bs x).length ≤ 64 := by rw [pieceB, List.length_take]; omega
 refine wpListIn_copy_arr hgd d s dT sT ho elem hu hsz W0.heap.size 0 64 64 hd _ hg (by rw [u8s_len]; simp) vs hs _ (hsl.alloc _) (u8s_one _) (h _ _ ?_ (gr_row _ _ _) (by simp [World.setRow]))
 have e : u8s (cblkB bs x) = (u8s (List.replicate 64 0)).take 0 ++ (u8s (pieceB bs x)).take 64 ++ (u8s (List.replicate 64 0)).drop (0 + ((u8s (pieceB bs x)).take 64).length) := by
  rw [List.take_zero, List.nil_append, List.take_of_length_le (by rw [u8s_len]; exact hpl), u8s_len, Nat.zero_add, cblkB, u8s_append]
  have hz : ∀ n, u8s (List.replicate n (0 : UInt8)) = List.replicate n (.int .u8 0) := fun n => by rw [u8s, List.map_replicate]; rfl
  rw [hz, hz, List.drop_replicate]
 rw [e]
 simp only [World.setRow, Array.getElem?_modify]
 rw [if_pos trivial, World.alloc_heap_new]
 rfl
def CutI (n₁ b0 : Nat) (bs : List UInt8) (pre : List Nat) (W : World) : Prop :=
 ∃ (v : Value) (vs : List Value), Boxed W b0 29 v ∧ W.ownsRow n₁ 22 1 v pre.length vs ∧ vs.length = pre.length ∧ (∀ u ∈ vs, u.oneCell' = true) ∧ ∀ (j : Nat) (u : Value) (x : Nat), vs[j]? = some u → pre[j]? = some x → ∃ g, u = .slice (some ⟨g, 0, none⟩) 64 64 ∧ W.heap[g]? = some (.cells (u8s (cblkB bs x)).toArray 5 (0, 0))
theorem cells_not_row {W : World} {g : Nat} {ys : Array Value} {t e : TypeId} (h : W.heap[g]? = some (.cells ys t (0, 0))) (hte : t ≠ e) {base size k : Nat} {v : Value} {xs : List Value} (hr : W.ownsRow base e size v k xs) : some g ≠ v.ownBlock := by
 rcases hr.2 with ⟨rfl, _⟩ | ⟨g', cap, cur, rfl, _, hgb, _⟩
 · simp [Value.ownBlock]
 · intro e'
   obtain rfl : g = g' := by simpa [Value.ownBlock] using e'
   have := h.symm.trans hgb
   simp at this
   exact hte this.2
theorem cutI_own (n₁ b0 : Nat) (bs : List UInt8) : Own (CutI n₁ b0 bs) := by
 rintro s X Y row ⟨v, vs, hv, hr, h1, h2, h3⟩ hg hrow
 refine ⟨v, vs, hv.kept hg (fun e' => ?_), hr.kept hg ?_, h1, h2, fun j u x ha hb => ?_⟩
 · obtain ⟨o, ho, hc⟩ := hrow b0 e'.symm
   rw [show X.heap[b0]? = _ from hv] at ho
   cases ho
   cases hc
 · rcases hr.2 with ⟨rfl, _⟩ | ⟨g, cap, cur, rfl, _, hgb, _⟩
   · exact .inl rfl
   · refine .inr (fun e' => ?_)
     obtain ⟨o, ho, hc⟩ := hrow g (by rw [← e']; rfl)
     rw [hgb] at ho
     cases ho
     cases hc
 · obtain ⟨g, e1, e2⟩ := h3 j u x ha hb
   refine ⟨g, e1, (hg.block g (Array.getElem?_eq_some_iff.1 e2).1 (fun e' => ?_)).trans e2⟩
   obtain ⟨o, ho, hc⟩ := hrow g e'.symm
   rw [e2] at ho
   cases ho
   cases hc
theorem icut_any (a : Option Addr) (c : Nat) (bs : List UInt8) (h0 : bs ≠ []) (hL : bs.length ≤ 2048) (w : World) (h : Sl w (.slice a bs.length c) (u8s bs)) :
 Calls Tryz.prog 59 #[.slice a bs.length c] w fun e w' => ∃ d c', e = .returned (.tuple #[.slice d (piecesN bs.length) c', .int .i64 0]) ∧ Sls w' (.slice d (piecesN bs.length) c') (cblksB bs) ∧ Below w.heap.size w w' := by
 obtain ⟨-, hlc, hcm⟩ := h.len
 obtain ⟨b, o, rfl, -, -, -, -⟩ := h.at (by rw [u8s_len]; exact List.length_pos_iff.2 h0)
 have hpc := zH (fun W (hb : Below w.heap.size w W) x => (h.below hb).piece x)
 have hLp : 0 < bs.length := List.length_pos_iff.2 h0
 obtain ⟨L, hLe⟩ : ∃ L, bs.length = L := ⟨_, rfl⟩
 have hLH := zH hLe
 rw [hLe] at hpc hL hlc hLp ⊢
 have l1 : ¬ (2048 : Int) < (L : Int) := by omega
 have l2 : ¬ (L : Int) = 0 := by omega
 clear h hLe
 refine (callsIn_wide (n := 5)).1 ?_
 refine callsIn_of_wp_marks Tryz.func59 rfl trivial ?_ rfl
 simp only [Tryz.ntmps59, List.size_toArray, List.length_cons, List.length_nil, Nat.reduceAdd, Nat.reduceSub, Array.replicate_succ, Array.replicate_zero, List.push_toArray, List.append_toArray, List.nil_append, List.cons_append]
 gi_wp2_with (gi_at_call 109; refine (chunk_in _ _ _ _ _).mono ?_; rintro e w' ⟨rfl, rfl⟩)
 refine ⟨trivial, ?_⟩
 refine (chunk_in _ _ _ _ _).mono ?_
 rintro e w' ⟨rfl, rfl⟩
 have z1 : (w.alloc (.cells #[.slice none 0 0] 29)).heap.size = w.heap.size + 1 := by simp
 have z2 : ((w.alloc (.cells #[.slice none 0 0] 29)).alloc (.cells #[.slice (some ⟨b, o, none⟩) L c] 22)).heap.size = w.heap.size + 1 + 1 := by simp
 obtain ⟨WL, hWL⟩ : ∃ W, ((w.alloc (.cells #[.slice none 0 0] 29)).alloc (.cells #[.slice (some ⟨b, o, none⟩) L c] 22)).alloc (.cells #[.int .i64 64] 3) = W := ⟨_, rfl⟩
 have bO : Boxed WL w.heap.size 29 (.slice none 0 0) := by rw [← hWL]; exact ((Boxed.new w _ _).alloc _).alloc _
 have bS : Boxed WL (w.heap.size + 1) 22 (.slice (some ⟨b, o, none⟩) L c) := by
  have q := (Boxed.new (w.alloc (.cells #[.slice none 0 0] 29)) 22 (.slice (some ⟨b, o, none⟩) L c)).alloc (.cells #[.int .i64 64] 3)
  rw [z1, hWL] at q
  exact q
 have bN : Boxed WL (w.heap.size + 1 + 1) 3 (.int .i64 64) := by
  have q := Boxed.new ((w.alloc (.cells #[.slice none 0 0] 29)).alloc (.cells #[.slice (some ⟨b, o, none⟩) L c] 22)) 3 (.int .i64 64)
  rw [z2, hWL] at q
  exact q
 have hB0 : Below w.heap.size w WL := by rw [← hWL]; exact (((Below.refl _ w).alloc (Nat.le_refl _) _).alloc (by simp) _).alloc (by simp; omega) _
 have hWs : WL.heap.size = w.heap.size + 3 := by rw [← hWL]; simp
 rw [hWL]
 rw [z1]
 clear hWL z1 z2
 gi_wp2
 refine wpIn_rangeFunc_ownG rfl zDc (gf := 164) (lb := #[.pointer (some ⟨w.heap.size + 1, 0, none⟩), .pointer (some ⟨w.heap.size + 1 + 1, 0, none⟩)]) rfl trivial (enters_of Tryz.func164 zKr rfl)
  (chunk_stops _ zDc (w.heap.size + 1) (w.heap.size + 1 + 1) w.heap.size b o L c zOm zOm WL zOm zOm bS.cell bN.cell)
  (fun h k => h.trans k) (fun W l o o' hl ho h1 h2 => ⟨belowK_b (w := WL) zOm W l o o' hl ho h1 h2, World.putObj_heap_other zOm, World.putObj_heap_other zOm⟩) (Below.refl _ _) (fun _ => rfl)
  (fun pre W => CutI WL.heap.size w.heap.size bs pre W ∧ Below w.heap.size WL W)
  (fun _ _ _ => False)
  (OwnFrom.and (Own.from (cutI_own WL.heap.size w.heap.size bs) _) (ownFrom_below zOm zOm))
  (fun _ _ _ _ _ hs _ _ => hs)
  ⟨⟨.slice none 0 0, [], bO, World.ownsRow_nil _ _ _ _, rfl, (fun u hu => by cases hu), (fun j u x hj => by cases hj)⟩, Below.refl _ _⟩
  (fun x => { tmps := #[.slice (some ⟨b, o, none⟩) L c, undef, .slice none 0 0, .int .i64 0, .pointer (some ⟨w.heap.size, 0, none⟩), .slice (some ⟨b, o + 64 * x, none⟩) (pieceN L x) (pieceN L x), undef, .slice (some ⟨b, o, none⟩) L c, .int .i64 L, .bool false, .slice (some ⟨b, o, none⟩) L c, .int .i64 L, .bool false, undef, undef, .slice (some ⟨b, o, none⟩) L c, .func (.func 164) #[] #[.pointer (some ⟨w.heap.size + 1, 0, none⟩), .pointer (some ⟨w.heap.size + 1 + 1, 0, none⟩)], .slice (some ⟨b, o + 64 * x, none⟩) (pieceN L x) (pieceN L x), undef, undef, undef, undef, undef, undef, undef, undef, undef], defers := [] }) ?assign ?body ?done ?stop
 case assign =>
  intro l x W K hK
  gi_wp2
  exact hK
 case body =>
  rintro l pre x W ⟨⟨v, vs, hv, hrow, hvl, hv1, hvs⟩, hB⟩ hlt
  have hc := hv.cell
  have hp := zH (hpc.out W (hB0.trans hB) x)
  have hmk : ∀ w, (Instr.makeSlice 22 (.int .i64 64) (.int .i64 64)).run Tryz.prog w = .ok (.slice (some ⟨w.heap.size, 0, none⟩) 64 64) (w.alloc (.cells (u8s (List.replicate 64 0)).toArray 5)) := make_u8c 64 zDc
  obtain ⟨Z, hZ⟩ : ∃ Z, (u8s (List.replicate 64 0)).toArray = Z := ⟨_, rfl⟩
  rw [hZ] at hmk
  replace hZ := zH hZ
  have hpn : pre.length < 33 := by rw [piecesN] at hlt; omega
  gi_wp2_with (refine wpListIn_cblk rfl _ _ 22 22 rfl 5 Tryz.underlying22 zKr bs x hZ (W0 := W) rfl rfl _ rfl hp.out ?_)
  intro W2 z hA hg2 hs2
  have hb2 : Below W.heap.size W W2 := ((Below.refl _ W).alloc (Nat.le_refl _) _).grown hg2 (by simp) (fun k e => by cases e; exact Nat.le_refl _)
  have hv2 : Boxed W2 w.heap.size 29 v := (hb2.block _ hv.lt).trans hv
  have hrow2 := own_below hrow hb2
  have hk1 : KeepsOthers W W2 := (KeepsOthers.alloc W _).trans (KeepsOthers.of_grownBy hg2 (fun j ob e ho => by
   cases e
   rw [World.alloc_heap_new] at ho
   cases ho
   rfl))
  have hc2 := hv2.cell
  obtain ⟨i0, hi, hz0, hz1, hz2⟩ := info_parts info_sl
  have hvs2 : ∀ (j : Nat) (u : Value) (y : Nat), vs[j]? = some u → pre[j]? = some y → ∃ g, u = .slice (some ⟨g, 0, none⟩) 64 64 ∧ W2.heap[g]? = some (.cells (u8s (cblkB bs y)).toArray 5 (0, 0)) := fun j u y ha hb => by
   obtain ⟨g, e1, e2⟩ := hvs j u y ha hb
   exact ⟨g, e1, (hb2.block g (Array.getElem?_eq_some_iff.1 e2).1).trans e2⟩
  have hwW : w.heap.size < W.heap.size := hv.lt
  have hLW : WL.heap.size ≤ W2.heap.size ∧ WL.heap.size ≤ W.heap.size := by
   have := hb2.size
   have := hB.size
   omega
  replace hs2 := zH hs2
  have q1 : pre.length + 1 ≤ maxLen := by unfold maxLen; omega
  have q2 : (pre.length + 1) * 24 ≤ 140737488355328 := by omega
  have q3 : WL.heap.size ≤ (W2.alloc (.cells #[.slice (some ⟨W.heap.size, 0, none⟩) 64 64] 22)).heap.size := by simp; omega
  have hrowA := zH (hrow2.alloc (.cells #[.slice (some ⟨W.heap.size, 0, none⟩) 64 64] 22))
  have hvA := zH (hv2.alloc (.cells #[.slice (some ⟨W.heap.size, 0, none⟩) 64 64] 22))
  have cA := cell_one_new W2 (.slice (some ⟨W.heap.size, 0, none⟩) 64 64) 22
  replace q1 := zH q1
  replace q2 := zH q2
  replace q3 := zH q3
  replace cA := zH cA
  gi_wp2_with (gi_at_builtin; go_loud (refine wpListIn_append_own _ rfl _ _ 29 rfl WL.heap.size 22 i0 (.slice none 0 0) 1 24 Tryz.underlying29 hi hz0 hz1 hz2 rfl zDc v pre.length vs rfl hrowA.out ⟨W2.heap.size, 0, none⟩ 1 1 [.slice (some ⟨W.heap.size, 0, none⟩) 64 64] rfl rfl cA.out (by simp [Value.oneCell']) q1.out q2.out q3.out ?_); intro v' w1 hown' hgrow _; obtain ⟨g', cap', rfl⟩ := ownsRow_succ hown'; have hv1' : Boxed w1 w.heap.size 29 v := hvA.out.kept hgrow (hvA.out.not_row zDc hrowA.out); have hc1 := hv1'.cell; have hf1 := hv1'.frozen)
  obtain ⟨hvB, hvC, -, hkC, hbC⟩ := hv2.appended zDc (own_mono hrow2 zOm) zOm (Nat.le_refl _) (own_mono hown' zOm) hgrow
  have hb2' : Below w.heap.size W W2 := hb2.mono zOm
  have hal : (W2.alloc (.cells #[.slice (some ⟨W.heap.size, 0, none⟩) 64 64] 22)).heap.size = W2.heap.size + 1 := by simp
  have hnb : ∀ k, k < WL.heap.size → k ≠ w.heap.size → (w1.setCell ⟨w.heap.size, 0, none⟩ (.slice (some ⟨g', 0, none⟩) (pre.length + 1) cap')).heap[k]? = W.heap[k]? := fun k hk hne =>
   (Below.heap_setCell _ _ _ k hne).trans ((hgrow.block k zOm (fun e => by have := own_block hrow2 k e.symm; omega)).trans ((Below.heap_alloc W2 _ k zOm).trans (hb2.block k zOm)))
  have hty : ∀ (g : Nat) (y : Nat), W2.heap[g]? = some (.cells (u8s (cblkB bs y)).toArray 5 (0, 0)) → (w1.setCell ⟨w.heap.size, 0, none⟩ (.slice (some ⟨g', 0, none⟩) (pre.length + 1) cap')).heap[g]? = some (.cells (u8s (cblkB bs y)).toArray 5 (0, 0)) := fun g y hg => by
   have hlt := (Array.getElem?_eq_some_iff.1 hg).1
   have hA2 := (Below.heap_alloc W2 (.cells #[.slice (some ⟨W.heap.size, 0, none⟩) 64 64] 22) g hlt).trans hg
   refine (Below.heap_setCell _ _ _ g ?_).trans ((hgrow.block g zOm (cells_not_row hA2 zDc hrowA.out)).trans hA2)
   rintro rfl
   rw [show W2.heap[w.heap.size]? = _ from hv2] at hg
   simp at hg
  refine ⟨(hk1.trans hkC).from _, ⟨hb2'.trans hbC, hnb _ zOm zOm, hnb _ zOm zOm⟩, ⟨_, _, hvC, by rw [List.length_append]; exact hown'.kept (grownBy_setCell' w1 _ _) (.inr (hvB.not_row zDc hown').symm), by simp [hvl], ?_, ?_⟩, hB.trans (hb2'.trans hbC)⟩
  · intro u hu
    rcases List.mem_append.1 hu with h | h
    · exact hv1 u h
    · rw [List.mem_singleton.1 h]; rfl
  · intro j u y ha hb
    by_cases hj : j < pre.length
    · rw [List.getElem?_append_left zOm] at ha
      rw [List.getElem?_append_left hj] at hb
      obtain ⟨g, e1, e2⟩ := hvs2 j u y ha hb
      exact ⟨g, e1, hty g y e2⟩
    · have hj2 : j = pre.length := by
       have := (List.getElem?_eq_some_iff.1 hb).1
       simp at this
       omega
      subst hj2
      rw [List.getElem?_append_right zOm, hvl, Nat.sub_self] at ha
      rw [List.getElem?_append_right (Nat.le_refl _), Nat.sub_self] at hb
      cases ha
      cases hb
      exact ⟨_, rfl, hty _ _ hA⟩
 case done =>
  rintro D ys W hD rfl ⟨⟨v, vs, hv, hrow, hvl, hv1, hvs⟩, hB⟩ hK
  have hc := hv.cell
  have hKp : 1 ≤ piecesN L := by rw [piecesN]; omega
  obtain ⟨K1, hK1⟩ : ∃ K1, piecesN L = K1 + 1 := ⟨piecesN L - 1, by omega⟩
  have hle : (List.range (piecesN L)).length = K1 + 1 := by rw [List.length_range, hK1]
  rw [hle] at hrow hvl
  obtain ⟨g', cap', rfl⟩ := ownsRow_succ hrow
  gi_wp2
  refine ⟨by simp, .inl ⟨_, _, rfl, run_takeDeferred hK, ?_⟩⟩
  have hbl : cblksB bs = (List.range (piecesN L)).map (cblkB bs) := by rw [cblksB, if_neg h0, hLH.out]
  rw [hK1] at hbl hvs ⊢
  refine ⟨_, results_tmp2 rfl _ _ _, some ⟨g', 0, none⟩, cap', rfl, ?_, hB0.trans (hB.trans (belowK_b (w := WL) zOm W D _ _ hD hK rfl rfl))⟩
  refine ⟨vs, Sl.of_own (ownsRow_putObj hrow _ hK rfl), by rw [hbl, hvl, List.length_map, List.length_range], fun j u y ha hb => ?_⟩
  rw [hbl, List.getElem?_map] at hb
  obtain ⟨x, hx, rfl⟩ := Option.map_eq_some_iff.1 hb
  obtain ⟨g, rfl, e2⟩ := hvs j u x ha hx
  have hgD : g ≠ D := by
   rintro rfl
   rw [hK] at e2
   cases e2
  have e3 : (W.putObj D (.deferred none)).heap[g]? = some (.cells (u8s (cblkB bs x)).toArray 5 (0, 0)) := (World.putObj_heap_other hgD).trans e2
  exact Sl.ofArrN ⟨_, e3⟩ (cblkB_len _ _) zDc
 case stop =>
  rintro D c pre W _ _ h _
  exact h.elim
def nblk (L : Nat) : Nat := if L = 0 then 1 else piecesN L
theorem icut_nil (a : Option Addr) (c : Nat) (w : World) :
 Calls Tryz.prog 59 #[.slice a 0 c] w fun e w' => ∃ d c', e = .returned (.tuple #[.slice d 1 c', .int .i64 0]) ∧ Sls w' (.slice d 1 c') [List.replicate 64 0] ∧ Below w.heap.size w w' := by
 go_enter Tryz.func59, Tryz.ntmps59
 have hmk := show (Instr.makeSlice 22 (.int .i64 64) (.int .i64 64)).run Tryz.prog w = .ok (.slice (some ⟨w.heap.size, 0, none⟩) 64 64) (w.alloc (.cells (u8s (List.replicate 64 0)).toArray 5)) from make_u8c 64 zDc w
 have h0 : Sl (w.alloc (.cells (u8s (List.replicate 64 0)).toArray 5)) (.slice (some ⟨w.heap.size, 0, none⟩) 64 64) (u8s (List.replicate 64 0)) := Sl.ofArrN (Arr.new w _ _) (by simp) zDc
 obtain ⟨Z, hZ⟩ : ∃ Z, List.replicate 64 (0 : UInt8) = Z := ⟨_, rfl⟩
 rw [hZ] at hmk h0 ⊢
 have hb := below_alloc w (.cells (u8s Z).toArray 5)
 have hS := Sls.new1 h0 22
 rw [show (w.alloc (.cells (u8s Z).toArray 5)).heap.size = w.heap.size + 1 by simp] at hS
 replace hS := zH hS
 have hb2 := bel hb (below_alloc (w.alloc (.cells (u8s Z).toArray 5)) (.cells #[.slice (some ⟨w.heap.size, 0, none⟩) 64 64] 22))
 clear h0 hb hZ
 go_wp2_with fail
 go_ret2
 exact ⟨_, 1, rfl, hS.out, hb2⟩
theorem icut_all (a : Option Addr) (c : Nat) (bs : List UInt8) (hL : bs.length ≤ 2048) (w : World) (h : Sl w (.slice a bs.length c) (u8s bs)) :
 Calls Tryz.prog 59 #[.slice a bs.length c] w fun e w' => ∃ d c', e = .returned (.tuple #[.slice d (nblk bs.length) c', .int .i64 0]) ∧ Sls w' (.slice d (nblk bs.length) c') (cblksB bs) ∧ Below w.heap.size w w' := by
 by_cases h0 : bs = []
 · subst h0
   exact icut_nil a c w
 · rw [nblk, if_neg (fun h => h0 (List.length_eq_zero_iff.1 h))]
   exact icut_any a c bs h0 hL w h
theorem own_ne {W : World} {b1 b2 n1 n2 s1 s2 : Nat} {t e : TypeId} (hte : t ≠ e) {x u : Value} {xs us : List Value} (hx : W.ownsRow b1 t s1 x n1 xs) (hu : W.ownsRow b2 e s2 u n2 us) : x.ownBlock = none ∨ x.ownBlock ≠ u.ownBlock := by
 rcases hx.2 with ⟨rfl, _⟩ | ⟨g, cap, cur, rfl, _, hg, _⟩
 · exact .inl rfl
 · exact .inr (fun e' => cells_not_row hg hte hu e')
def encB (K : Nat) (v : Int) (bs : List UInt8) : List (List UInt8) := (List.range (nblk bs.length)).map (fun (i : Nat) => isealB K v i (cblkB bs i))
theorem cblksB_get (bs : List UInt8) : (cblksB bs).length = nblk bs.length ∧ ∀ (i : Nat) (l : List UInt8), (cblksB bs)[i]? = some l → l = cblkB bs i ∧ l.length = 64 := by
 by_cases h0 : bs = []
 · subst h0
   refine ⟨rfl, fun i l h => ?_⟩
   match i, h with
   | 0, h =>
    cases h
    exact ⟨rfl, rfl⟩
   | i + 1, h => simp [cblksB] at h
 rw [cblksB, if_neg h0, nblk, if_neg (fun h => h0 (List.length_eq_zero_iff.1 h))]
 refine ⟨by simp, fun i l h => ?_⟩
 rw [List.getElem?_map] at h
 obtain ⟨x, hx, rfl⟩ := Option.map_eq_some_iff.1 h
 obtain ⟨h1, h2⟩ := List.getElem?_eq_some_iff.1 hx
 rw [List.getElem_range] at h2
 subst h2
 exact ⟨rfl, cblkB_len _ _⟩
theorem imake_any (K : Nat) (v : Int) (a : Option Addr) (c : Nat) (bs : List UInt8) (hL : bs.length ≤ 2048) (hv : 0 ≤ v) (hv2 : v ≤ 2147483647) (w : World) (h : Sl w (.slice a bs.length c) (u8s bs)) :
 Calls Tryz.prog 21 #[.agg (bytn 32 K).toArray, .int .i64 v, .slice a bs.length c] w fun e w' => ∃ d c', e = .returned (.tuple #[.slice d (nblk bs.length) c', .int .i64 0]) ∧ Sls w' (.slice d (nblk bs.length) c') (encB K v bs) ∧ Below w.heap.size w w' := by
 have cC := zH (fun w h => icut_all a c bs hL w h)
 obtain ⟨hls, hlg⟩ := cblksB_get bs
 have hn32 : nblk bs.length ≤ 32 := by rw [nblk, piecesN]; split <;> omega
 have hn1 : 1 ≤ nblk bs.length := by rw [nblk, piecesN]; split <;> omega
 have hmay : ∀ i : Nat, i < 32 → mayB2 v (i : Int) = true := fun i hi => by simp [mayB2, hv, hv2]; omega
 have cS := zH (fun (i : Nat) (hi : i < 32) a c (l : List UInt8) (hl : l.length = 64) w h => iseal_own K v (i : Int) a c l hl (hmay i hi) w h)
 have hE : Hid (encB K v bs = (List.range (nblk bs.length)).map (fun (i : Nat) => isealB K v i (cblkB bs i))) := zH rfl
 obtain ⟨E, hEe⟩ : ∃ E, encB K v bs = E := ⟨_, rfl⟩
 rw [hEe] at hE ⊢
 obtain ⟨n, hn⟩ : ∃ n, nblk bs.length = n := ⟨_, rfl⟩
 rw [hn] at cC hls hn32 hn1 hE ⊢
 obtain ⟨L, hLe⟩ : ∃ L, bs.length = L := ⟨_, rfl⟩
 rw [hLe] at cC h ⊢
 replace h := zH h
 replace hlg := zH hlg
 replace hls := zH hls
 obtain ⟨ls, hlse⟩ : ∃ ls, cblksB bs = ls := ⟨_, rfl⟩
 rw [hlse] at cC hlg hls
 obtain ⟨i0, hi, hz0, hz1, hz2⟩ := info_parts info_sl
 clear hmay hv hv2 hLe hn hEe hlse hL
 go_enter Tryz.func21, Tryz.ntmps21
 go_upto_region 1 with fail
 refine wp_new1 (fun W hsz k3 kb => ?_)
 replace k3 : Arr W w.heap.size (bytn 32 K) := k3
 clear hsz
 go_wp2_with fail
 refine (cC.out _ (h.out.below kb)).mono ?_
 rintro e w1 ⟨d, c', rfl, hS, hb⟩
 replace k3 := k3.below hb
 replace kb := bel kb hb
 obtain ⟨bb, oo, x0, cx0, rfl, -, -⟩ := hS.at (j := 0) (by rw [hls.out]; omega)
 clear hb cC h
 replace hS := zH hS
 replace k3 := zH k3
 have hNw : w.heap.size < w1.heap.size := k3.out.lt
 go_wp2_with fail
 go_loopw [10, 25] (fun ov iv wr => ∃ (i : Nat) (us : List Value), i ≤ n ∧ iv = .int .i64 (i : Int) ∧ wr.ownsRow w1.heap.size 22 1 ov i us ∧ us.length = i ∧ (∀ x ∈ us, x.oneCell' = true) ∧
  (∀ (j : Nat) (x : Value), us[j]? = some x → wr.ownsRow w.heap.size 5 1 x 80 (u8s (isealB K v j (cblkB bs j)))) ∧ Below w1.heap.size w1 wr) (fun _ iv _ => n - (intOf iv).toNat)
 case atStart => exact ⟨0, [], by omega, rfl, World.ownsRow_nil _ _ _ _, rfl, (fun x hx => by cases hx), (fun j x hj => by cases hj), Below.refl _ _⟩
 case round =>
 obtain ⟨i, us, hin, rfl, hown, hul, hu1, hux, hB⟩ := hrel
 by_cases hlt : i < n
 · have i0' : (0 : Int) ≤ (i : Int) := by omega
   have i1' : (i : Int) < (n : Int) := by omega
   obtain ⟨b', o', x', cx, hE2, hcell, hLs⟩ := (hS.out.below hB).at (j := i) (by rw [hls.out]; exact hlt)
   cases hE2
   have hq := hlg.out i _ (List.getElem?_eq_getElem (by rw [hls.out]; exact hlt))
   obtain ⟨l, hl⟩ : ∃ l, ls[i]'(by rw [hls.out]; exact hlt) = l := ⟨_, rfl⟩
   rw [hl] at hcell hLs hq
   obtain ⟨rfl, hq2⟩ := hq
   rw [hq2] at hcell hLs
   replace hLs := zH hLs
   have k3r := k3.out.below hB
   have cSi := zH (cS.out i zOm x' cx _ hq2 wr hLs.out)
   obtain ⟨Y, hY⟩ : ∃ Y, isealB K v (i : Int) (cblkB bs i) = Y := ⟨_, rfl⟩
   rw [hY] at cSi
   replace hY := zH hY
   have hlH := zH hlt
   clear hl hq2 hlt
   go_wp2_with (refine zLd ?_)
   refine cSi.out.mono ?_
   rintro e w2 ⟨x, rfl, hx, hb⟩
   obtain ⟨gx, cxx, rfl, -⟩ := own_range hx zDc
   have hwr := hB.size
   have hown2 := own_below hown hb
   have hux2 : ∀ (j : Nat) (x : Value), us[j]? = some x → w2.ownsRow w.heap.size 5 1 x 80 (u8s (isealB K v j (cblkB bs j))) := fun j y hj => own_below (hux j y hj) hb
   have hB2 := bel hB hb
   clear hown hux hB hcell hLs k3r cSi hb
   have q1 : i + 1 ≤ maxLen := by unfold maxLen; omega
   have q2 : (i + 1) * 24 ≤ 140737488355328 := by omega
   have hownA := zH (hown2.alloc (.cells #[.slice (some ⟨gx, 0, none⟩) 80 cxx] 22))
   have hal : (w2.alloc (.cells #[.slice (some ⟨gx, 0, none⟩) 80 cxx] 22)).heap.size = w2.heap.size + 1 := by simp
   have q3 : w1.heap.size ≤ (w2.alloc (.cells #[.slice (some ⟨gx, 0, none⟩) 80 cxx] 22)).heap.size := by have := hB2.size; omega
   have hxH := zH (own_mono hx (Nat.le_trans (Nat.le_of_lt hNw) hwr))
   have hBH := zH (hB2.alloc hB2.size (.cells #[.slice (some ⟨gx, 0, none⟩) 80 cxx] 22))
   replace q1 := zH q1
   replace q2 := zH q2
   replace q3 := zH q3
   clear hal hown2 hx hwr hB2
   go_wp2_with (at_builtin; refine wpList_append_sl rfl _ _ 29 rfl w1.heap.size 22 Tryz.underlying29 hi hz0 hz1 hz2 rfl _ i us rfl hownA.out _ [.slice (some ⟨gx, 0, none⟩) 80 cxx] rfl (Sl.new1 w2 _ _) (fun y hy => by rw [List.mem_singleton.1 hy]; rfl) q1.out q2.out q3.out ?_)
   intro ov' w3 hown3 hg3
   have hB3 := hBH.out.grown hg3 q3.out (own_block hownA.out)
   have hux3 : ∀ (j : Nat) (y : Value), (us ++ [.slice (some ⟨gx, 0, none⟩) 80 cxx])[j]? = some y → w3.ownsRow w.heap.size 5 1 y 80 (u8s (isealB K v j (cblkB bs j))) := fun j y hj => by
    by_cases hji : j < i
    · rw [List.getElem?_append_left zOm] at hj
      have h4 := (hux2 j y hj).alloc (.cells #[.slice (some ⟨gx, 0, none⟩) 80 cxx] 22)
      exact h4.kept hg3 (own_ne zDc h4 hownA.out)
    · have hjl : j = i := by
       have := (List.getElem?_eq_some_iff.1 hj).1
       simp at this
       omega
      subst hjl
      rw [List.getElem?_append_right zOm, hul, Nat.sub_self] at hj
      cases hj
      have h4 := hxH.out.alloc (.cells #[.slice (some ⟨gx, 0, none⟩) 80 cxx] 22)
      have h5 := h4.kept hg3 (own_ne zDc h4 hownA.out)
      rwa [← hY.out] at h5
   replace hown3 := zH hown3
   replace hB3 := zH hB3
   replace hux3 := zH hux3
   clear hux2 hg3 hownA hxH hBH q1 q2 q3
   go_wp2_with fail
   exact ⟨⟨i + 1, _, hlH.out, by simp, hown3.out, by simp [hul], (fun y hy => by
    rcases List.mem_append.1 hy with h | h
    · exact hu1 y h
    · rw [List.mem_singleton.1 h]; rfl), hux3.out, hB3.out⟩, by have := hlH.out; simp [intOf]; omega⟩
 · have hie : i = n := by omega
   subst hie
   have i1' : ¬ (i : Int) < (i : Int) := by omega
   obtain ⟨i', hi'⟩ : ∃ i', i = i' + 1 := ⟨i - 1, by omega⟩
   obtain ⟨go, co, hov⟩ : ∃ g c, _ = Value.slice (some ⟨g, 0, none⟩) i c := by
    have q := own_range hown zOm
    obtain ⟨g, c, e, -⟩ := q
    exact ⟨g, c, e⟩
   subst hov
   have hfin : Hid (Sls wr (.slice (some ⟨go, 0, none⟩) i co) E) := zH (by
    refine ⟨us, Sl.of_own hown, by rw [hE.out, hul]; simp, fun j y bsj ha hb => ?_⟩
    rw [hE.out, List.getElem?_map] at hb
    obtain ⟨x, hx, rfl⟩ := Option.map_eq_some_iff.1 hb
    obtain ⟨h1, h2⟩ := List.getElem?_eq_some_iff.1 hx
    rw [List.getElem_range] at h2
    subst h2
    exact Sl.of_own (hux j y ha))
   have hBf := zH (bel kb hB)
   clear hux hown hB hi'
   go_wp2_with fail
   go_ret2
   exact ⟨some ⟨go, 0, none⟩, co, rfl, hfin.out, hBf.out⟩
end Go.Proofs.YtncnlfpiondpnaaGreat
