/- TopSigned: part 12 of its proof: lemmas and contracts, each with its conditions in its own statement; the last part holds the law itself. -/
import Derived.Laws.CopyRow
import Derived.BigFrame
import Derived.Test.YtncnlfpiondpnaaGreatJt10
import Derived.Deep.MidRow
import Derived.Test.YtncnlfpiondpnaaGreatJt03
import Derived.WalkSpells
import Derived.WalkKit
import Derived.Deep.CutRange
import Derived.Deep.CutBlock
import Derived.RegionTactic
import Derived.ScopeJumps
import Derived.WalkLawsBesides
import Derived.StillTailTactics
import Derived.ProofKit

set_option maxHeartbeats 4000000
set_option maxRecDepth 100000
namespace Go.Proofs.YtncnlfpiondpnaaGreat
open Go.RowKit
theorem u32_toNat {a : Nat} (ha : a < 4294967296) : (BitVec.ofInt 32 (a : Int)).toNat = a := by
 rw [BitVec.ofInt_natCast, BitVec.toNat_ofNat]
 exact Nat.mod_eq_of_lt ha
theorem u32_in {a : Nat} (ha : a < 4294967296) : IntKind.u32.wrap (a : Int) = (a : Int) := by
 simp [IntKind.wrap, IntKind.bits, IntKind.signed]
 omega
theorem u32_mod (a : Nat) : IntKind.u32.wrap (a : Int) = ((a % 4294967296 : Nat) : Int) := by
 simp [IntKind.wrap, IntKind.bits, IntKind.signed]
theorem xor_u32 {a b : Nat} (ha : a < 4294967296) (hb : b < 4294967296) : bits .xor .u32 (a : Int) (b : Int) = ((a ^^^ b : Nat) : Int) := by
 show IntKind.u32.wrap ((BitVec.ofInt 32 (a : Int) ^^^ BitVec.ofInt 32 (b : Int)).toNat : Int) = _
 rw [BitVec.toNat_xor, u32_toNat ha, u32_toNat hb]
 exact u32_in (Nat.xor_lt_two_pow (n := 32) ha hb)
theorem or_u32 {a b : Nat} (ha : a < 4294967296) (hb : b < 4294967296) : bits .or .u32 (a : Int) (b : Int) = ((a ||| b : Nat) : Int) := by
 show IntKind.u32.wrap ((BitVec.ofInt 32 (a : Int) ||| BitVec.ofInt 32 (b : Int)).toNat : Int) = _
 rw [BitVec.toNat_or, u32_toNat ha, u32_toNat hb]
 exact u32_in (Nat.or_lt_two_pow (n := 32) ha hb)
theorem and_u32 {a b : Nat} (ha : a < 4294967296) (hb : b < 4294967296) : bits .and .u32 (a : Int) (b : Int) = ((a &&& b : Nat) : Int) := by
 show IntKind.u32.wrap ((BitVec.ofInt 32 (a : Int) &&& BitVec.ofInt 32 (b : Int)).toNat : Int) = _
 rw [BitVec.toNat_and, u32_toNat ha, u32_toNat hb]
 exact u32_in (Nat.lt_of_le_of_lt Nat.and_le_left ha)
def ws (l : List Nat) : List Value := l.map fun (x : Nat) => .int .u32 (x : Int)
theorem ws_len (l : List Nat) : (ws l).length = l.length := by simp [ws]
theorem ws_one (l : List Nat) : ∀ v ∈ ws l, v.oneCell' = true := by
 intro v hv
 simp only [ws, List.mem_map] at hv
 obtain ⟨x, -, rfl⟩ := hv
 rfl
theorem ws_get {l : List Nat} {j : Nat} (h : j < l.length) : (ws l)[j]? = some (.int .u32 ((l.getD j 0 : Nat) : Int)) := by
 simp [ws, h]
theorem ws_set (l : List Nat) (j x : Nat) : (ws l).set j (.int .u32 (x : Int)) = ws (l.set j x) := by
 simp [ws, List.map_set]
def W32 (l : List Nat) : Prop := ∀ x ∈ l, x < 4294967296
theorem W32.get {l : List Nat} (h : W32 l) (j : Nat) : l.getD j 0 < 4294967296 := by
 rw [List.getD_eq_getElem?_getD]
 cases e : l[j]? with
 | none => decide
 | some x => exact h x (List.mem_of_getElem? e)
theorem W32.set {l : List Nat} (h : W32 l) (j : Nat) {x : Nat} (hx : x < 4294967296) : W32 (l.set j x) := by
 intro y hy
 rcases List.mem_or_eq_of_mem_set hy with h1 | rfl
 · exact h y h1
 · exact hx
def rl (x k : Nat) : Nat := (x * 2 ^ k % 4294967296) ||| (x / 2 ^ (32 - k))
theorem rl_lt {x : Nat} (hx : x < 4294967296) (k : Nat) : rl x k < 4294967296 :=
 Nat.or_lt_two_pow (n := 32) (Nat.mod_lt _ zDc) (Nat.lt_of_le_of_lt (Nat.div_le_self _ _) hx)
theorem xor_lt {x y : Nat} (hx : x < 4294967296) (hy : y < 4294967296) : x ^^^ y < 4294967296 := Nat.xor_lt_two_pow (n := 32) hx hy
def qa (l : List Nat) (a b : Nat) : List Nat := l.set a ((l.getD a 0 + l.getD b 0) % 4294967296)
def qx (l : List Nat) (d a k : Nat) : List Nat := l.set d (rl (l.getD d 0 ^^^ l.getD a 0) k)
def qr (l : List Nat) (a b c d : Nat) : List Nat := qx (qa (qx (qa (qx (qa (qx (qa l a b) d a 16) c d) b c 12) a b) d a 8) c d) b c 7
theorem qa_len (l : List Nat) (a b : Nat) : (qa l a b).length = l.length := by simp [qa]
theorem qx_len (l : List Nat) (d a k : Nat) : (qx l d a k).length = l.length := by simp [qx]
theorem qr_len (l : List Nat) (a b c d : Nat) : (qr l a b c d).length = l.length := by simp only [qr, qa_len, qx_len]
theorem qa_32 {l : List Nat} (h : W32 l) (a b : Nat) : W32 (qa l a b) := h.set a (Nat.mod_lt _ zDc)
theorem qx_32 {l : List Nat} (h : W32 l) (d a k : Nat) : W32 (qx l d a k) := h.set d (rl_lt (xor_lt (h.get d) (h.get a)) k)
theorem qr_32 {l : List Nat} (h : W32 l) (a b c d : Nat) : W32 (qr l a b c d) := qx_32 (qa_32 (qx_32 (qa_32 (qx_32 (qa_32 (qx_32 (qa_32 h _ _) _ _ _) _ _) _ _ _) _ _) _ _ _) _ _) _ _ _
theorem run_append_new {P : Program} {w : World} (t ty e : TypeId) {i : TypeInfo} {z : Value} {bytes : Nat} (ht : P.underlying t = some (.slice e)) (hi : P.info? e = some i) (hz : i.zero = some z)
 (hsize : i.size = 1) (hby : i.bytes = bytes) (hzs : z.cells.size = 1) {a : Option Addr} {n cap : Nat} {xs : List Value} (hs : Sl w (.slice a n cap) xs) {vx : Value} {news : List Value} (hx : Sl w vx news)
 (hcap : cap < xs.length + news.length) (h1 : ∀ u ∈ news, u.oneCell' = true) (h63 : n + news.length ≤ maxLen) (hbytes : (n + news.length) * bytes ≤ 140737488355328) :
 ∃ v' w', (Builtin.append_ #[t, t] ty #[.slice a n cap, vx]).run P w = .ok v' w' ∧ w'.ownsRow w.heap.size e 1 v' (n + news.length) (xs ++ news) ∧ Below w.heap.size w w' := by
 obtain ⟨a', cap', e1, h2, h3, h4, h5⟩ := hs
 simp only [Value.slice.injEq] at e1
 obtain ⟨rfl, rfl, rfl⟩ := e1
 cases a with
 | none =>
  obtain rfl := h4 rfl
  obtain rfl : xs = [] := List.eq_nil_of_length_eq_zero zOm
  obtain ⟨v', w', r1, r2, r3⟩ := run_append_sl (P := P) (w := w) (base := w.heap.size) t ty e ht hi hz hsize hby hzs (World.ownsRow_nil w w.heap.size e 1) hx h1 (by simpa using h63) (by simpa using hbytes) (Nat.le_refl _)
  exact ⟨v', w', r1, by simpa using r2, (Below.refl _ _).grown r3 (Nat.le_refl _) (fun k hk => by cases hk)⟩
 | some b =>
  obtain ⟨a2, cap2, rfl, g2, g3, g4, g5⟩ := hx
  cases a2 with
  | none =>
   obtain rfl := g4 rfl
   omega
  | some x =>
   subst hby
   have h6 : ((xs.length + news.length : Nat) : Int) ≤ 9223372036854775807 := by simp only [maxLen] at h63; omega
   have hr := run_append_grow (P := P) (w := w) t ty e i z ht hi hz b xs.length cap xs (by rw [hsize, Nat.mul_one]) (h5 b rfl) x news.length cap2 news (by rw [hsize, Nat.mul_one]) (g5 x rfl) hcap h6 (growslice_fits hcap hbytes)
   refine ⟨_, _, hr, ?_, ((Below.refl _ _).drew).alloc (Nat.le_refl _) _⟩
   refine ⟨by simp, .inr ⟨w.heap.size, _, _, rfl, Nat.le_refl _, heap_alloc_new w.drew _, grownCap_ge _ _ _ _, grownCap_le_maxLen _ _ _ _ h63, ?_, ?_⟩⟩
   · have := grownCap_ge w (xs.length + news.length) cap e
     simp only [Array.size_append, List.size_toArray, size_zeroCells, hzs, Nat.mul_one]
     omega
   · rw [Nat.mul_one]
     simp only [Array.toList_append, List.append_assoc]
     rw [← List.append_assoc, List.take_append_of_le_length (by simp), List.take_of_length_le (by simp)]
theorem wpList_copy_arr {P : Program} {w : World} {ops : Array Oper} {rest : List Oper} {o : Oper} {a : Act} {Q : Exit → Act → World → Prop} (hw : Region.wanted o (yielded ops a.tmps) = true) (d s : Operand) (dT sT : TypeId)
 (ho : o.op = .call { callee := .builtin .copy, args := #[d, s], argTypes := #[dT, sT] }) (elem : TypeId) (hu : P.underlying dT = some (.slice elem)) (hsz : (P.info? elem).map (·.size) = some 1)
 (g off dLen dCap : Nat) (hd : a.eval d = .slice (some ⟨g, off, none⟩) dLen dCap) (xs : List Value) (hg : Arr w g xs) (hfit : off + dLen ≤ xs.length) (vs : Value) (hs : a.eval s = vs) (full : List Value) (hsl : Sl w vs full) (h1 : ∀ v ∈ full, v.oneCell' = true)
 (h : wpList P ops Q rest (a.put o.dst (goInt (full.take dLen).length)) (w.setRow g (xs.take off ++ full.take dLen ++ xs.drop (off + (full.take dLen).length)).toArray)) : wpList P ops Q (o :: rest) a w := by
 refine wpList_step fun K hK => ?_
 rw [if_pos hw]
 obtain ⟨sp, cap, rfl, h2, h3, h4, h5⟩ := hsl
 obtain ⟨T, hg⟩ := hg
 cases sp with
 | none =>
  obtain rfl := h4 rfl
  obtain rfl : full = [] := List.eq_nil_of_length_eq_zero zOm
  have hrun := run_copy_nil (P := P) w dT sT o.type elem ⟨g, off, none⟩ dLen dCap hu (by cases hq : P.info? elem <;> simp [hq] at hsz ⊢)
  unfold Oper.wp
  simp only [execOp, ho, resolve, invoke, builtin, Sem.run_bind, Sem.run_pure, Result.andThen_ok, List.map_toArray, List.map_cons, List.map_nil, hd, hs, List.length_nil, hrun]
  refine hK _ _ ?_
  simp only [List.take_nil, List.append_nil, List.length_nil, Nat.add_zero, List.take_append_drop] at h
  rwa [setRow_self w g xs.toArray T (0, 0) hg] at h
 | some x =>
  have hl : (full.take dLen).length = Nat.min full.length dLen := by rw [List.length_take]; exact Nat.min_comm _ _
  have hrun := run_copy_row (P := P) w dT sT o.type elem g off dLen dCap x full.length cap xs.toArray T (full.take dLen) hu hsz hg hl (fun j v hj => h5 x rfl j v (by
   rw [List.getElem?_take] at hj
   split at hj
   · exact hj
   · cases hj)) (by have := List.length_take_le dLen full; simp only [List.size_toArray]; omega) (fun v hv => h1 v (List.mem_of_mem_take hv))
  unfold Oper.wp
  simp only [execOp, ho, resolve, invoke, builtin, Sem.run_bind, Sem.run_pure, Result.andThen_ok, List.map_toArray, List.map_cons, List.map_nil, hd, hs, hrun]
  exact hK _ _ h
theorem wpList_append_new {P : Program} {w : World} {ops : Array Oper} {rest : List Oper} {o : Oper} {a : Act} {Q : Exit → Act → World → Prop} (hgd : o.guard = none) (s x : Operand) (t : TypeId)
 (ho : o.op = .call { callee := .builtin .append, args := #[s, x], argTypes := #[t, t] })
 (e : TypeId) {i : TypeInfo} {z : Value} {bytes : Nat} (ht : P.underlying t = some (.slice e)) (hi : P.info? e = some i) (hz : i.zero = some z)
 (hsize : i.size = 1) (hby : i.bytes = bytes) (hzs : z.cells.size = 1) {d : Option Addr} {n cap : Nat} {xs : List Value} (hse : a.eval s = .slice d n cap) (hs : Sl w (.slice d n cap) xs) {vx : Value} {news : List Value} (hx : a.eval x = vx) (hsl : Sl w vx news)
 (hcap : cap < xs.length + news.length) (h1 : ∀ u ∈ news, u.oneCell' = true) (h63 : n + news.length ≤ maxLen) (hbytes : (n + news.length) * bytes ≤ 140737488355328)
 (h : ∀ v' w', w'.ownsRow w.heap.size e 1 v' (n + news.length) (xs ++ news) → Below w.heap.size w w' → wpList P ops Q rest (a.put o.dst v') w') : wpList P ops Q (o :: rest) a w := by
 refine wpList_plain hgd fun K hK => ?_
 obtain ⟨v', w', hr, h2, h3⟩ := run_append_new (P := P) t o.type e ht hi hz hsize hby hzs hs hsl hcap h1 h63 hbytes
 unfold Oper.wp execOp
 simp only [ho, resolve, invoke, builtin, Sem.run_bind, Sem.run_pure, Result.andThen_ok, List.map_toArray, List.map_cons, List.map_nil, hse, hx, hr]
 exact hK _ _ (h v' w' h2 h3)
section
variable {P : Program}
theorem Arr.range {w : World} {g : Nat} {xs : List Value} (h : Arr w g xs) {o : Nat} {cs : List Value} (hcs : ∀ j, j < cs.length → xs[o + j]? = cs[j]?) : w.rangeAt g o cs := by
 intro j v hv
 have hj : j < cs.length := (List.getElem?_eq_some_iff.1 hv).1
 exact h.cell (by rw [hcs j hj, hv])
theorem aggT_row {ty : TypeId} (h : aggT P ty = true) : ∃ d, P.underlying ty = some d ∧ d.isRow = true := by
 obtain ⟨d, h1, h2⟩ := aggT_spec h
 exact ⟨d, h1, by cases d <;> first | rfl | cases h2⟩
theorem rd_load_mid {l : List Oper} {w : World} {i : Nat} {is : List Nat} {a A : Act} {o : Oper} (hi : l[i]? = some o) (hw : Region.wanted o (yielded l.toArray a.tmps) = true) (ty : TypeId) (x : Operand) (ho : o.op = .load ty x)
 (g off : Nat) (hx : a.eval x = .pointer (some ⟨g, off, none⟩)) (ha : aggT P ty = true) (cs : List Value) (hg : w.rangeAt g off cs) (hz : (P.info? ty).map (·.size) = some cs.length)
 (h : rd P l w is (a.put o.dst (.agg cs.toArray)) A) : rd P l w (i :: is) a A := by
 obtain ⟨d, hu, hd⟩ := aggT_row ha
 refine rd_take hi hw ?_ h
 unfold execOp
 simp only [ho, hx, Instr.loadAt, Instr.sureAddr, Sem.run_bind, Sem.run_pure, Result.andThen_ok, run_loadVar_mid w g off ty cs d hg hu hd hz]
theorem wpList_load_mid2 {ops : Array Oper} {rest : List Oper} {o : Oper} {a : Act} {w : World} {Q : Exit → Act → World → Prop} (hw : Region.wanted o (yielded ops a.tmps) = true) (ty : TypeId) (x : Operand) (ho : o.op = .load ty x)
 (g off : Nat) (hx : a.eval x = .pointer (some ⟨g, off, none⟩)) (ha : aggT P ty = true) (cs : List Value) (hg : w.rangeAt g off cs) (hi : (P.info? ty).map (·.size) = some cs.length)
 (h : wpList P ops Q rest (a.put o.dst (.agg cs.toArray)) w) : wpList P ops Q (o :: rest) a w := by
 obtain ⟨d, hu, hd⟩ := aggT_row ha
 refine wpList_step fun K hK => ?_
 rw [if_pos hw]
 exact wp_load_mid ty x ho g off hx cs d hg hu hd hi (hK _ _ h)
def putAt (o : Nat) (cs xs : List Value) : List Value := xs.take o ++ (cs ++ xs.drop (o + cs.length))
theorem putAt_nil (o : Nat) (xs : List Value) : putAt o [] xs = xs := by simp [putAt]
theorem putAt_cons {o : Nat} {c : Value} {cs xs : List Value} (h : o + (c :: cs).length ≤ xs.length) : putAt (o + 1) cs (xs.set o c) = putAt o (c :: cs) xs := by
 simp only [List.length_cons] at h
 have e : (xs.set o c).drop (o + 1 + cs.length) = xs.drop (o + 1 + cs.length) := by rw [List.drop_set_of_lt zOm]
 have e2 : (xs.set o c).take (o + 1) = xs.take o ++ [c] := by
  rw [List.take_succ_eq_append_getElem (by simp; omega), List.take_set_of_le (Nat.le_refl _)]; simp
 rw [putAt, putAt, e, e2, List.length_cons, show o + (cs.length + 1) = o + 1 + cs.length by omega, List.append_assoc]
 rfl
theorem Arr.setCells {g : Nat} : ∀ (cs : List Value) (o : Nat) {w : World} {xs : List Value}, Arr w g xs → o + cs.length ≤ xs.length → Arr (w.setCells g o cs) g (putAt o cs xs)
 | [], o, w, xs, h, _ => by rw [putAt_nil]; exact h
 | c :: cs, o, w, xs, h, hl => by
  rw [World.setCells, ← putAt_cons hl]
  exact Arr.setCells cs (o + 1) (h.set o c) (by simp at hl ⊢; omega)
theorem Arr.there {w : World} {g : Nat} {xs : List Value} (h : Arr w g xs) {o n : Nat} (hn : o + n ≤ xs.length) : w.there g o n := fun j hj =>
 ⟨by rw [h.cell (List.getElem?_eq_getElem (by omega : o + j < xs.length))]; rfl, h.frozen _⟩
theorem setCells_heap {g k : Nat} (hk : k ≠ g) : ∀ (cs : List Value) (o : Nat) (w : World), (w.setCells g o cs).heap[k]? = w.heap[k]?
 | [], _, _ => rfl
 | c :: cs, o, w => by
  rw [World.setCells, setCells_heap hk cs (o + 1)]
  exact heap_setCell_other w ⟨g, o, none⟩ k c hk
theorem setCells_below {n g : Nat} (hg : n ≤ g) {w0 : World} : ∀ (cs : List Value) (o : Nat) (w : World), Below n w0 w → Below n w0 (w.setCells g o cs)
 | [], _, _, h => h
 | _ :: cs, o, _, h => setCells_below hg cs (o + 1) _ (h.setCell (p := ⟨g, o, none⟩) hg _)
theorem gr_trans {a b c : World} {row : Option Nat} (h : a.grownBy b row) (k : b.grownBy c row) : a.grownBy c row :=
 ⟨k.os.trans h.os, k.tape.trans h.tape, k.output.trans h.output, Nat.le_trans h.size k.size, fun i hi hn => by rw [k.block i (Nat.lt_of_lt_of_le hi h.size) hn, h.block i hi hn]⟩
theorem gr_cell (w : World) (g o : Nat) (u : Value) : w.grownBy (w.setCell ⟨g, o, none⟩ u) (some g) :=
 ⟨rfl, rfl, rfl, by simp [World.setCell], fun k _ hn => Below.heap_setCell _ _ _ _ (by simpa using hn)⟩
theorem gr_cells {g : Nat} : ∀ (cs : List Value) (o : Nat) (w : World), w.grownBy (w.setCells g o cs) (some g)
 | [], _, _ => World.grownBy.refl _ _
 | c :: cs, o, w => gr_trans (gr_cell w g o c) (gr_cells cs (o + 1) _)
theorem gr_below {w w' : World} {row : Option Nat} (h : Below w.heap.size w w') : w.grownBy w' row := ⟨h.os, h.tape, h.output, h.size, fun k hk _ => h.block k hk⟩
theorem below_gr {n : Nat} {w0 w w' : World} {g : Nat} (h : Below n w0 w) (hg : w.grownBy w' (some g)) (hn : n ≤ g) (hs : n ≤ w.heap.size) : Below n w0 w' :=
 h.grown hg hs (fun k hk => by cases hk; exact hn)
theorem wpl_store_mid {w : World} {ops : Array Oper} {rest : List Oper} {o : Oper} {a : Act} {Q : Exit → Act → World → Prop} (hgd : o.guard = none) (ty : TypeId) (x y : Operand) (ho : o.op = .store ty x y)
 (g off : Nat) (cs : List Value) (hx : a.eval x = .pointer (some ⟨g, off, none⟩)) (hy : a.eval y = .agg cs.toArray) (xs : List Value) (hg : Arr w g xs) (hi : (P.info? ty).map (·.size) = some cs.length)
 (hfit : off + cs.length ≤ xs.length) (h1 : ∀ v ∈ cs, v.oneCell' = true)
 (h : ∀ W, Arr W g (putAt off cs xs) → (∀ k zs, k ≠ g → Arr w k zs → Arr W k zs) → (∀ n w0, n ≤ g → Below n w0 w → Below n w0 W) → (w.grownBy W (some g)) → wpList P ops Q rest (a.put o.dst undef) W) : wpList P ops Q (o :: rest) a w := by
 refine wpList_store_mid hgd ty x y ho g off cs.toArray hx hy (by simpa using hg.there hfit) (by simpa using hi) (all_oneCell_toArray h1) ?_
 refine h _ (Arr.setCells _ _ hg (by simpa using hfit)) (fun k zs hk ha => ?_) (fun n w0 hn hb => setCells_below hn _ _ _ hb) (gr_cells _ _ _)
 obtain ⟨T, ha⟩ := ha
 exact ⟨T, by rw [setCells_heap hk]; exact ha⟩
theorem step_copy_arr {w : World} {ops : Array Oper} {o : Oper} {a : Act} {K : Act → World → Prop} {Q : Exit → Act → World → Prop} {E : Prop} (hw : Region.wanted o (yielded ops a.tmps) = true) (d s : Operand) (dT sT : TypeId)
 (ho : o.op = .call { callee := .builtin .copy, args := #[d, s], argTypes := #[dT, sT] }) (elem : TypeId) (hu : P.underlying dT = some (.slice elem)) (hsz : (P.info? elem).map (·.size) = some 1)
 (g off dLen dCap : Nat) (hd : a.eval d = .slice (some ⟨g, off, none⟩) dLen dCap) (xs : List Value) (hg : Arr w g xs) (hfit : off + dLen ≤ xs.length) (vs : Value) (hs : a.eval s = vs) (full : List Value) (hsl : Sl w vs full) (h1 : ∀ v ∈ full, v.oneCell' = true)
 (h : K (a.put o.dst (goInt (full.take dLen).length)) (w.setRow g (xs.take off ++ full.take dLen ++ xs.drop (off + (full.take dLen).length)).toArray)) : if Region.wanted o (yielded ops a.tmps) = true then Oper.wp P o a w K Q else E := by
 rw [if_pos hw]
 obtain ⟨sp, cap, rfl, h2, h3, h4, h5⟩ := hsl
 obtain ⟨T, hg⟩ := hg
 cases sp with
 | none =>
  obtain rfl := h4 rfl
  obtain rfl : full = [] := List.eq_nil_of_length_eq_zero zOm
  have hrun := run_copy_nil (P := P) w dT sT o.type elem ⟨g, off, none⟩ dLen dCap hu (by cases hq : P.info? elem <;> simp [hq] at hsz ⊢)
  unfold Oper.wp
  simp only [execOp, ho, resolve, invoke, builtin, Sem.run_bind, Sem.run_pure, Result.andThen_ok, List.map_toArray, List.map_cons, List.map_nil, hd, hs, List.length_nil, hrun]
  simp only [List.take_nil, List.append_nil, List.length_nil, Nat.add_zero, List.take_append_drop] at h
  rwa [setRow_self w g xs.toArray T (0, 0) hg] at h
 | some x =>
  have hl : (full.take dLen).length = Nat.min full.length dLen := by rw [List.length_take]; exact Nat.min_comm _ _
  have hrun := run_copy_row (P := P) w dT sT o.type elem g off dLen dCap x full.length cap xs.toArray T (full.take dLen) hu hsz hg hl (fun j v hj => h5 x rfl j v (by
   rw [List.getElem?_take] at hj
   split at hj
   · exact hj
   · cases hj)) (by have := List.length_take_le dLen full; simp only [List.size_toArray]; omega) (fun v hv => h1 v (List.mem_of_mem_take hv))
  unfold Oper.wp
  simp only [execOp, ho, resolve, invoke, builtin, Sem.run_bind, Sem.run_pure, Result.andThen_ok, List.map_toArray, List.map_cons, List.map_nil, hd, hs, hrun]
  exact h
end
theorem Sl.of_part {w : World} {g o n cap : Nat} {xs cs : List Value} (h : Arr w g xs) (hn : cs.length = n) (hc : n ≤ cap) (hm : cap ≤ maxLen) (hcs : ∀ j, j < cs.length → xs[o + j]? = cs[j]?) : Sl w (.slice (some ⟨g, o, none⟩) n cap) cs := by
 refine ⟨_, cap, by rw [hn], by omega, hm, fun h => (by cases h), fun x hx => ?_⟩
 cases hx
 intro j u hu
 rw [Addr.add_lit]
 have hj : j < cs.length := (List.getElem?_eq_some_iff.1 hu).1
 exact h.cell (by rw [hcs j hj, hu])
theorem gr_row (w : World) (g : Nat) (ys : Array Value) : w.grownBy (w.setRow g ys) (some g) :=
 ⟨rfl, rfl, rfl, by simp [World.setRow], fun k _ hn => by
  simp only [World.setRow, Array.getElem?_modify]
  rw [if_neg (by intro e; exact hn (by rw [e]))]⟩
theorem Sl.keptN {w w' : World} {g : Nat} {v : Value} {xs : List Value} (h : Sl w v xs) (hg : w.grownBy w' (some g)) (hv : ∀ a n c, v = .slice (some a) n c → a.block ≠ g) : Sl w' v xs := by
 obtain ⟨a, cap, rfl, h2, h3, h4, h5⟩ := h
 refine ⟨a, cap, rfl, h2, h3, h4, fun x hx j u hu => ?_⟩
 subst hx
 have h1 := h5 x rfl j u hu
 have hb := World.block_lt_of_cell? w (x.add j) h1
 have hs : (x.add j).spot = none := World.cell?_spot h1
 have hbk : (x.add j).block = x.block := by unfold Addr.add; split <;> rfl
 have e : (x.add j) = ⟨x.block, (x.add j).off, none⟩ := by rw [← hbk, ← hs]
 rw [e] at h1 ⊢
 exact hg.cell h1 (by intro q; cases q; exact hv _ _ _ rfl rfl)
theorem own_keptN {w w' : World} {g base : Nat} {e : TypeId} {size : Nat} {v : Value} {n : Nat} {xs : List Value} (h : w.ownsRow base e size v n xs) (hg : w.grownBy w' (some g)) (hne : v.ownBlock ≠ some g) : w'.ownsRow base e size v n xs :=
 h.kept hg (.inr hne)
section
variable {P : Program} {Q : Exit → Act → World → Prop}
theorem wpl_storeG {w : World} {ops : Array Oper} {rest : List Oper} {o : Oper} {a : Act} (hgd : o.guard = none) (ty : TypeId) (x y : Operand) (ho : o.op = .store ty x y)
 (g : Nat) (ys : List Value) (hx : a.eval x = .pointer (some ⟨g, 0, none⟩)) (hy : a.eval y = .agg ys.toArray) (xs : List Value) (hg : Arr w g xs) (hi : (P.info? ty).map (·.size) = some ys.length)
 (hold : xs.length = ys.length) (h1 : ∀ v ∈ ys, v.oneCell' = true)
 (h : ∀ W, Arr W g ys → w.grownBy W (some g) → W.heap.size = w.heap.size → wpList P ops Q rest (a.put o.dst undef) W) : wpList P ops Q (o :: rest) a w :=
 wpList_store_arr hgd ty x y ho g ys hx hy xs hg hi hold h1 (h _ (hg.setRow ys) (gr_row w g _) (by simp [World.setRow]))
theorem code_cellG {C : Code} {a : Act} {w : World} {g j : Nat} {xs : List Value} {u : Value} (hg : Arr w g xs)
 (h : ∀ W, Arr W g (xs.set j u) → w.grownBy W (some g) → W.heap.size = w.heap.size → Code.wp P C Q a W) : Code.wp P C Q a (w.setCell ⟨g, j, none⟩ u) :=
 h _ (hg.set j u) (gr_cell w g j u) (by simp [World.setCell])
theorem wpl_storeMG {w : World} {ops : Array Oper} {rest : List Oper} {o : Oper} {a : Act} (hgd : o.guard = none) (ty : TypeId) (x y : Operand) (ho : o.op = .store ty x y)
 (g off : Nat) (cs : List Value) (hx : a.eval x = .pointer (some ⟨g, off, none⟩)) (hy : a.eval y = .agg cs.toArray) (xs : List Value) (hg : Arr w g xs) (hi : (P.info? ty).map (·.size) = some cs.length)
 (hfit : off + cs.length ≤ xs.length) (h1 : ∀ v ∈ cs, v.oneCell' = true)
 (h : ∀ W, Arr W g (putAt off cs xs) → w.grownBy W (some g) → wpList P ops Q rest (a.put o.dst undef) W) : wpList P ops Q (o :: rest) a w :=
 wpl_store_mid hgd ty x y ho g off cs hx hy xs hg hi hfit h1 (fun W h1 _ _ h4 => h W h1 h4)
theorem one_cells {v : Value} (h : v.oneCell' = true) : v.cells = #[v] := by
 cases v <;> first | rfl | simp [Value.oneCell'] at h
theorem run_store_one {w : World} {ty : TypeId} {g j : Nat} {xs : List Value} {u : Value} (hg : Arr w g xs) (hj : j < xs.length) (hi : (P.info? ty).map (·.size) = some 1) (hu : u.oneCell' = true) :
 (Instr.storeAt ty (.pointer (some ⟨g, j, none⟩)) u).run P w = .ok () (w.setCell ⟨g, j, none⟩ u) := by
 have hc := hg.cell (List.getElem?_eq_getElem hj)
 have hf := hg.frozen j
 cases hq : P.info? ty with
 | none => simp [hq] at hi
 | some i =>
  have hs : i.size = 1 := by simpa [hq] using hi
  simp [Instr.storeAt, Instr.sureAddr, storeVar, one_cells hu, sizeOf, typeInfo, hq, hs, storeCells, run_store P _ _ u _ hu, Addr.add_zero', hc, hf, Result.andThen]
theorem wpl_cellG {w : World} {ops : Array Oper} {rest : List Oper} {o : Oper} {a : Act} (hgd : o.guard = none) (ty : TypeId) (x y : Operand) (ho : o.op = .store ty x y)
 (g j : Nat) (u : Value) (hx : a.eval x = .pointer (some ⟨g, j, none⟩)) (hy : a.eval y = u) (xs : List Value) (hg : Arr w g xs) (hi : (P.info? ty).map (·.size) = some 1) (hj : j < xs.length) (hu : u.oneCell' = true)
 (h : ∀ W, Arr W g (xs.set j u) → w.grownBy W (some g) → W.heap.size = w.heap.size → wpList P ops Q rest (a.put o.dst undef) W) : wpList P ops Q (o :: rest) a w := by
 refine wpList_plain hgd fun K hK => ?_
 unfold Oper.wp execOp
 simp only [ho, hx, hy, Sem.run_bind, Sem.run_pure, Result.andThen_ok, run_store_one hg hj hi hu]
 exact hK _ _ (h _ (hg.set j u) (gr_cell w g j u) (by simp [World.setCell]))
theorem step_cellG {l : List Oper} {o : Oper} {a : Act} {w : World} {K : Act → World → Prop} {E : Prop} (hw : Region.wanted o (yielded l.toArray a.tmps) = true) (ty : TypeId) (x y : Operand) (ho : o.op = .store ty x y)
 (g j : Nat) (u : Value) (hx : a.eval x = .pointer (some ⟨g, j, none⟩)) (hy : a.eval y = u) (xs : List Value) (hg : Arr w g xs) (hi : (P.info? ty).map (·.size) = some 1) (hj : j < xs.length) (hu : u.oneCell' = true)
 (h : ∀ W, Arr W g (xs.set j u) → w.grownBy W (some g) → W.heap.size = w.heap.size → K (a.put o.dst undef) W) : if Region.wanted o (yielded l.toArray a.tmps) = true then Oper.wp P o a w K Q else E := by
 rw [if_pos hw]
 unfold Oper.wp execOp
 simp only [ho, hx, hy, Sem.run_bind, Sem.run_pure, Result.andThen_ok, run_store_one hg hj hi hu]
 exact h _ (hg.set j u) (gr_cell w g j u) (by simp [World.setCell])
theorem step_storeG {l : List Oper} {o : Oper} {a : Act} {w : World} {K : Act → World → Prop} {E : Prop} (hgd : o.guard = none) (ty : TypeId) (x y : Operand) (ho : o.op = .store ty x y)
 (g : Nat) (ys : List Value) (hx : a.eval x = .pointer (some ⟨g, 0, none⟩)) (hy : a.eval y = .agg ys.toArray) (xs : List Value) (hg : Arr w g xs) (hi : (P.info? ty).map (·.size) = some ys.length)
 (hold : xs.length = ys.length) (h1 : ∀ v ∈ ys, v.oneCell' = true) (h : ∀ W, Arr W g ys → w.grownBy W (some g) → W.heap.size = w.heap.size → K (a.put o.dst undef) W) :
 if Region.wanted o (yielded l.toArray a.tmps) = true then Oper.wp P o a w K Q else E :=
 step_store_arr hgd ty x y ho g ys hx hy xs hg hi hold h1 (h _ (hg.setRow ys) (gr_row w g _) (by simp [World.setRow]))
end
theorem below_of_gr {n : Nat} {w0 w w' : World} {g : Nat} (h : Below n w0 w) (hg : w.grownBy w' (some g)) (hn : n ≤ g) (hs : n ≤ w.heap.size) : Below n w0 w' := below_gr h hg hn hs
theorem rotra_7 {x r : Nat} (hx : x < 4294967296) (hr : rl x 25 = r) (w : World) :
 Calls Tryz.prog 163 #[.int .u32 (x : Int), .int .i64 (-7)] w fun e w' => e = .returned (.int .u32 (r : Int)) ∧ Below w.heap.size w w' := by
 have h0 : bits .and .u64 (IntKind.u64.wrap (-7)) 31 = 25 := by decide
 have h2 : bits .or .u32 ((x : Int) * 33554432 % 4294967296) ((x : Int) / 128) = ((rl x 25 : Nat) : Int) := by
  have := or_u32 (a := x * 33554432 % 4294967296) (b := x / 128) (Nat.mod_lt _ zDc) (Nat.lt_of_le_of_lt (Nat.div_le_self _ _) hx)
  rw [show ((x : Int) * 33554432 % 4294967296) = ((x * 33554432 % 4294967296 : Nat) : Int) by omega, show ((x : Int) / 128) = ((x / 128 : Nat) : Int) by omega]
  exact this
 rw [hr] at h2
 clear hr
 go_enter Tryz.func163, Tryz.ntmps163
 go_wp2_with fail
 go_ret
 exact ⟨rfl, Below.refl _ _⟩
theorem rotra_18 {x r : Nat} (hx : x < 4294967296) (hr : rl x 14 = r) (w : World) :
 Calls Tryz.prog 163 #[.int .u32 (x : Int), .int .i64 (-18)] w fun e w' => e = .returned (.int .u32 (r : Int)) ∧ Below w.heap.size w w' := by
 have h0 : bits .and .u64 (IntKind.u64.wrap (-18)) 31 = 14 := by decide
 have h2 : bits .or .u32 ((x : Int) * 16384 % 4294967296) ((x : Int) / 262144) = ((rl x 14 : Nat) : Int) := by
  have := or_u32 (a := x * 16384 % 4294967296) (b := x / 262144) (Nat.mod_lt _ zDc) (Nat.lt_of_le_of_lt (Nat.div_le_self _ _) hx)
  rw [show ((x : Int) * 16384 % 4294967296) = ((x * 16384 % 4294967296 : Nat) : Int) by omega, show ((x : Int) / 262144) = ((x / 262144 : Nat) : Int) by omega]
  exact this
 rw [hr] at h2
 clear hr
 go_enter Tryz.func163, Tryz.ntmps163
 go_wp2_with fail
 go_ret
 exact ⟨rfl, Below.refl _ _⟩
theorem rotra_17 {x r : Nat} (hx : x < 4294967296) (hr : rl x 15 = r) (w : World) :
 Calls Tryz.prog 163 #[.int .u32 (x : Int), .int .i64 (-17)] w fun e w' => e = .returned (.int .u32 (r : Int)) ∧ Below w.heap.size w w' := by
 have h0 : bits .and .u64 (IntKind.u64.wrap (-17)) 31 = 15 := by decide
 have h2 : bits .or .u32 ((x : Int) * 32768 % 4294967296) ((x : Int) / 131072) = ((rl x 15 : Nat) : Int) := by
  have := or_u32 (a := x * 32768 % 4294967296) (b := x / 131072) (Nat.mod_lt _ zDc) (Nat.lt_of_le_of_lt (Nat.div_le_self _ _) hx)
  rw [show ((x : Int) * 32768 % 4294967296) = ((x * 32768 % 4294967296 : Nat) : Int) by omega, show ((x : Int) / 131072) = ((x / 131072 : Nat) : Int) by omega]
  exact this
 rw [hr] at h2
 clear hr
 go_enter Tryz.func163, Tryz.ntmps163
 go_wp2_with fail
 go_ret
 exact ⟨rfl, Below.refl _ _⟩
theorem rotra_19 {x r : Nat} (hx : x < 4294967296) (hr : rl x 13 = r) (w : World) :
 Calls Tryz.prog 163 #[.int .u32 (x : Int), .int .i64 (-19)] w fun e w' => e = .returned (.int .u32 (r : Int)) ∧ Below w.heap.size w w' := by
 have h0 : bits .and .u64 (IntKind.u64.wrap (-19)) 31 = 13 := by decide
 have h2 : bits .or .u32 ((x : Int) * 8192 % 4294967296) ((x : Int) / 524288) = ((rl x 13 : Nat) : Int) := by
  have := or_u32 (a := x * 8192 % 4294967296) (b := x / 524288) (Nat.mod_lt _ zDc) (Nat.lt_of_le_of_lt (Nat.div_le_self _ _) hx)
  rw [show ((x : Int) * 8192 % 4294967296) = ((x * 8192 % 4294967296 : Nat) : Int) by omega, show ((x : Int) / 524288) = ((x / 524288 : Nat) : Int) by omega]
  exact this
 rw [hr] at h2
 clear hr
 go_enter Tryz.func163, Tryz.ntmps163
 go_wp2_with fail
 go_ret
 exact ⟨rfl, Below.refl _ _⟩
theorem rotra_6 {x r : Nat} (hx : x < 4294967296) (hr : rl x 26 = r) (w : World) :
 Calls Tryz.prog 163 #[.int .u32 (x : Int), .int .i64 (-6)] w fun e w' => e = .returned (.int .u32 (r : Int)) ∧ Below w.heap.size w w' := by
 have h0 : bits .and .u64 (IntKind.u64.wrap (-6)) 31 = 26 := by decide
 have h2 : bits .or .u32 ((x : Int) * 67108864 % 4294967296) ((x : Int) / 64) = ((rl x 26 : Nat) : Int) := by
  have := or_u32 (a := x * 67108864 % 4294967296) (b := x / 64) (Nat.mod_lt _ zDc) (Nat.lt_of_le_of_lt (Nat.div_le_self _ _) hx)
  rw [show ((x : Int) * 67108864 % 4294967296) = ((x * 67108864 % 4294967296 : Nat) : Int) by omega, show ((x : Int) / 64) = ((x / 64 : Nat) : Int) by omega]
  exact this
 rw [hr] at h2
 clear hr
 go_enter Tryz.func163, Tryz.ntmps163
 go_wp2_with fail
 go_ret
 exact ⟨rfl, Below.refl _ _⟩
theorem rotra_11 {x r : Nat} (hx : x < 4294967296) (hr : rl x 21 = r) (w : World) :
 Calls Tryz.prog 163 #[.int .u32 (x : Int), .int .i64 (-11)] w fun e w' => e = .returned (.int .u32 (r : Int)) ∧ Below w.heap.size w w' := by
 have h0 : bits .and .u64 (IntKind.u64.wrap (-11)) 31 = 21 := by decide
 have h2 : bits .or .u32 ((x : Int) * 2097152 % 4294967296) ((x : Int) / 2048) = ((rl x 21 : Nat) : Int) := by
  have := or_u32 (a := x * 2097152 % 4294967296) (b := x / 2048) (Nat.mod_lt _ zDc) (Nat.lt_of_le_of_lt (Nat.div_le_self _ _) hx)
  rw [show ((x : Int) * 2097152 % 4294967296) = ((x * 2097152 % 4294967296 : Nat) : Int) by omega, show ((x : Int) / 2048) = ((x / 2048 : Nat) : Int) by omega]
  exact this
 rw [hr] at h2
 clear hr
 go_enter Tryz.func163, Tryz.ntmps163
 go_wp2_with fail
 go_ret
 exact ⟨rfl, Below.refl _ _⟩
theorem rotra_25 {x r : Nat} (hx : x < 4294967296) (hr : rl x 7 = r) (w : World) :
 Calls Tryz.prog 163 #[.int .u32 (x : Int), .int .i64 (-25)] w fun e w' => e = .returned (.int .u32 (r : Int)) ∧ Below w.heap.size w w' := by
 have h0 : bits .and .u64 (IntKind.u64.wrap (-25)) 31 = 7 := by decide
 have h2 : bits .or .u32 ((x : Int) * 128 % 4294967296) ((x : Int) / 33554432) = ((rl x 7 : Nat) : Int) := by
  have := or_u32 (a := x * 128 % 4294967296) (b := x / 33554432) (Nat.mod_lt _ zDc) (Nat.lt_of_le_of_lt (Nat.div_le_self _ _) hx)
  rw [show ((x : Int) * 128 % 4294967296) = ((x * 128 % 4294967296 : Nat) : Int) by omega, show ((x : Int) / 33554432) = ((x / 33554432 : Nat) : Int) by omega]
  exact this
 rw [hr] at h2
 clear hr
 go_enter Tryz.func163, Tryz.ntmps163
 go_wp2_with fail
 go_ret
 exact ⟨rfl, Below.refl _ _⟩
theorem rotra_2 {x r : Nat} (hx : x < 4294967296) (hr : rl x 30 = r) (w : World) :
 Calls Tryz.prog 163 #[.int .u32 (x : Int), .int .i64 (-2)] w fun e w' => e = .returned (.int .u32 (r : Int)) ∧ Below w.heap.size w w' := by
 have h0 : bits .and .u64 (IntKind.u64.wrap (-2)) 31 = 30 := by decide
 have h2 : bits .or .u32 ((x : Int) * 1073741824 % 4294967296) ((x : Int) / 4) = ((rl x 30 : Nat) : Int) := by
  have := or_u32 (a := x * 1073741824 % 4294967296) (b := x / 4) (Nat.mod_lt _ zDc) (Nat.lt_of_le_of_lt (Nat.div_le_self _ _) hx)
  rw [show ((x : Int) * 1073741824 % 4294967296) = ((x * 1073741824 % 4294967296 : Nat) : Int) by omega, show ((x : Int) / 4) = ((x / 4 : Nat) : Int) by omega]
  exact this
 rw [hr] at h2
 clear hr
 go_enter Tryz.func163, Tryz.ntmps163
 go_wp2_with fail
 go_ret
 exact ⟨rfl, Below.refl _ _⟩
theorem rotra_13 {x r : Nat} (hx : x < 4294967296) (hr : rl x 19 = r) (w : World) :
 Calls Tryz.prog 163 #[.int .u32 (x : Int), .int .i64 (-13)] w fun e w' => e = .returned (.int .u32 (r : Int)) ∧ Below w.heap.size w w' := by
 have h0 : bits .and .u64 (IntKind.u64.wrap (-13)) 31 = 19 := by decide
 have h2 : bits .or .u32 ((x : Int) * 524288 % 4294967296) ((x : Int) / 8192) = ((rl x 19 : Nat) : Int) := by
  have := or_u32 (a := x * 524288 % 4294967296) (b := x / 8192) (Nat.mod_lt _ zDc) (Nat.lt_of_le_of_lt (Nat.div_le_self _ _) hx)
  rw [show ((x : Int) * 524288 % 4294967296) = ((x * 524288 % 4294967296 : Nat) : Int) by omega, show ((x : Int) / 8192) = ((x / 8192 : Nat) : Int) by omega]
  exact this
 rw [hr] at h2
 clear hr
 go_enter Tryz.func163, Tryz.ntmps163
 go_wp2_with fail
 go_ret
 exact ⟨rfl, Below.refl _ _⟩
theorem rotra_22 {x r : Nat} (hx : x < 4294967296) (hr : rl x 10 = r) (w : World) :
 Calls Tryz.prog 163 #[.int .u32 (x : Int), .int .i64 (-22)] w fun e w' => e = .returned (.int .u32 (r : Int)) ∧ Below w.heap.size w w' := by
 have h0 : bits .and .u64 (IntKind.u64.wrap (-22)) 31 = 10 := by decide
 have h2 : bits .or .u32 ((x : Int) * 1024 % 4294967296) ((x : Int) / 4194304) = ((rl x 10 : Nat) : Int) := by
  have := or_u32 (a := x * 1024 % 4294967296) (b := x / 4194304) (Nat.mod_lt _ zDc) (Nat.lt_of_le_of_lt (Nat.div_le_self _ _) hx)
  rw [show ((x : Int) * 1024 % 4294967296) = ((x * 1024 % 4294967296 : Nat) : Int) by omega, show ((x : Int) / 4194304) = ((x / 4194304 : Nat) : Int) by omega]
  exact this
 rw [hr] at h2
 clear hr
 go_enter Tryz.func163, Tryz.ntmps163
 go_wp2_with fail
 go_ret
 exact ⟨rfl, Below.refl _ _⟩
end Go.Proofs.YtncnlfpiondpnaaGreat
