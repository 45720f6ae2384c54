/- A block that is a struct: arrays in its middle; a block that is there already and is written. -/
import Derived.Test.YtkipejhjpfakpaaTy
import Derived.Test.YtkipejhjpfakpaaAp
import Derived.Deep.MidRow
namespace Go.Proofs.Ytkipejhjpfakpaa
open Go.RowKit

section
variable {P : Program}

theorem Arr.range {w : World} {g : Nat} {xs : List Value} (h : Arr w g xs) {o : Nat} {cs : List Value} (hcs : ∀ j, j < cs.length → xs[o + j]? = cs[j]?) : w.rangeAt g o cs := by
  intro j v hv
  have hj : j < cs.length := (List.getElem?_eq_some_iff.1 hv).1
  exact h.cell (by rw [hcs j hj, hv])

theorem aggT_row {ty : TypeId} (h : aggT P ty = true) : ∃ d, P.underlying ty = some d ∧ d.isRow = true := by
  obtain ⟨d, h1, h2⟩ := aggT_spec h
  exact ⟨d, h1, by cases d <;> first | rfl | cases h2⟩

theorem rd_load_mid {l : List Oper} {w : World} {i : Nat} {is : List Nat} {a A : Act} {o : Oper} (hi : l[i]? = some o) (hw : Region.wanted o (yielded l.toArray a.tmps) = true) (ty : TypeId) (x : Operand) (ho : o.op = .load ty x)
    (g off : Nat) (hx : a.eval x = .pointer (some ⟨g, off, none⟩)) (ha : aggT P ty = true) (cs : List Value) (hg : w.rangeAt g off cs) (hz : (P.info? ty).map (·.size) = some cs.length)
    (h : rd P l w is (a.put o.dst (.agg cs.toArray)) A) : rd P l w (i :: is) a A := by
  obtain ⟨d, hu, hd⟩ := aggT_row ha
  refine rd_take hi hw ?_ h
  unfold execOp
  simp only [ho, hx, Instr.loadAt, Instr.sureAddr, Sem.run_bind, Sem.run_pure, Result.andThen_ok, run_loadVar_mid w g off ty cs d hg hu hd hz]

theorem wpList_load_mid2 {ops : Array Oper} {rest : List Oper} {o : Oper} {a : Act} {w : World} {Q : Exit → Act → World → Prop} (hw : Region.wanted o (yielded ops a.tmps) = true) (ty : TypeId) (x : Operand) (ho : o.op = .load ty x)
    (g off : Nat) (hx : a.eval x = .pointer (some ⟨g, off, none⟩)) (ha : aggT P ty = true) (cs : List Value) (hg : w.rangeAt g off cs) (hi : (P.info? ty).map (·.size) = some cs.length)
    (h : wpList P ops Q rest (a.put o.dst (.agg cs.toArray)) w) : wpList P ops Q (o :: rest) a w := by
  obtain ⟨d, hu, hd⟩ := aggT_row ha
  refine wpList_step fun K hK => ?_
  rw [if_pos hw]
  exact wp_load_mid ty x ho g off hx cs d hg hu hd hi (hK _ _ h)

/-- A part replaced. -/
def putAt (o : Nat) (cs xs : List Value) : List Value := xs.take o ++ (cs ++ xs.drop (o + cs.length))

theorem putAt_len {o : Nat} {cs xs : List Value} (h : o + cs.length ≤ xs.length) : (putAt o cs xs).length = xs.length := by
  simp only [putAt, List.length_append, List.length_take, List.length_drop]; omega
theorem putAt_nil (o : Nat) (xs : List Value) : putAt o [] xs = xs := by simp [putAt]
theorem putAt_cons {o : Nat} {c : Value} {cs xs : List Value} (h : o + (c :: cs).length ≤ xs.length) : putAt (o + 1) cs (xs.set o c) = putAt o (c :: cs) xs := by
  simp only [List.length_cons] at h
  have e : (xs.set o c).drop (o + 1 + cs.length) = xs.drop (o + 1 + cs.length) := by rw [List.drop_set_of_lt (by omega)]
  have e2 : (xs.set o c).take (o + 1) = xs.take o ++ [c] := by
    rw [List.take_succ_eq_append_getElem (by simp; omega), List.take_set_of_le (Nat.le_refl _)]; simp
  rw [putAt, putAt, e, e2, List.length_cons, show o + (cs.length + 1) = o + 1 + cs.length by omega, List.append_assoc]
  rfl

theorem Arr.setCells {g : Nat} : ∀ (cs : List Value) (o : Nat) {w : World} {xs : List Value}, Arr w g xs → o + cs.length ≤ xs.length → Arr (w.setCells g o cs) g (putAt o cs xs)
  | [], o, w, xs, h, _ => by rw [putAt_nil]; exact h
  | c :: cs, o, w, xs, h, hl => by
    rw [World.setCells, ← putAt_cons hl]
    exact Arr.setCells cs (o + 1) (h.set o c) (by simp at hl ⊢; omega)

theorem Arr.there {w : World} {g : Nat} {xs : List Value} (h : Arr w g xs) {o n : Nat} (hn : o + n ≤ xs.length) : w.there g o n := fun j hj =>
  ⟨by rw [h.cell (List.getElem?_eq_getElem (by omega : o + j < xs.length))]; rfl, h.frozen _⟩

theorem setCells_heap {g k : Nat} (hk : k ≠ g) : ∀ (cs : List Value) (o : Nat) (w : World), (w.setCells g o cs).heap[k]? = w.heap[k]?
  | [], _, _ => rfl
  | c :: cs, o, w => by
    rw [World.setCells, setCells_heap hk cs (o + 1)]
    exact heap_setCell_other w ⟨g, o, none⟩ k c hk
theorem setCells_below {n g : Nat} (hg : n ≤ g) {w0 : World} : ∀ (cs : List Value) (o : Nat) (w : World), Below n w0 w → Below n w0 (w.setCells g o cs)
  | [], _, _, h => h
  | _ :: cs, o, _, h => setCells_below hg cs (o + 1) _ (h.setCell (p := ⟨g, o, none⟩) hg _)
theorem gr_trans {a b c : World} {row : Option Nat} (h : a.grownBy b row) (k : b.grownBy c row) : a.grownBy c row :=
  ⟨k.os.trans h.os, k.tape.trans h.tape, k.output.trans h.output, Nat.le_trans h.size k.size, fun i hi hn => by rw [k.block i (Nat.lt_of_lt_of_le hi h.size) hn, h.block i hi hn]⟩
theorem gr_cell (w : World) (g o : Nat) (u : Value) : w.grownBy (w.setCell ⟨g, o, none⟩ u) (some g) :=
  ⟨rfl, rfl, rfl, by simp [World.setCell], fun k _ hn => Below.heap_setCell _ _ _ _ (by simpa using hn)⟩
theorem gr_cells {g : Nat} : ∀ (cs : List Value) (o : Nat) (w : World), w.grownBy (w.setCells g o cs) (some g)
  | [], _, _ => World.grownBy.refl _ _
  | c :: cs, o, w => gr_trans (gr_cell w g o c) (gr_cells cs (o + 1) _)
theorem gr_below {w w' : World} {row : Option Nat} (h : Below w.heap.size w w') : w.grownBy w' row := ⟨h.os, h.tape, h.output, h.size, fun k hk _ => h.block k hk⟩
theorem below_gr {n : Nat} {w0 w w' : World} {g : Nat} (h : Below n w0 w) (hg : w.grownBy w' (some g)) (hn : n ≤ g) (hs : n ≤ w.heap.size) : Below n w0 w' :=
  h.grown hg hs (fun k hk => by cases hk; exact hn)
theorem gr_drew (w : World) (row : Option Nat) : w.grownBy w.drew row := ⟨rfl, rfl, rfl, Nat.le_refl _, fun _ _ _ => rfl⟩

/-- A part of a block stored: the world forgotten. -/
theorem wpl_store_mid {w : World} {ops : Array Oper} {rest : List Oper} {o : Oper} {a : Act} {Q : Exit → Act → World → Prop} (hgd : o.guard = none) (ty : TypeId) (x y : Operand) (ho : o.op = .store ty x y)
    (g off : Nat) (cs : List Value) (hx : a.eval x = .pointer (some ⟨g, off, none⟩)) (hy : a.eval y = .agg cs.toArray) (xs : List Value) (hg : Arr w g xs) (hi : (P.info? ty).map (·.size) = some cs.length)
    (hfit : off + cs.length ≤ xs.length) (h1 : ∀ v ∈ cs, v.oneCell' = true)
    (h : ∀ W, Arr W g (putAt off cs xs) → (∀ k zs, k ≠ g → Arr w k zs → Arr W k zs) → (∀ n w0, n ≤ g → Below n w0 w → Below n w0 W) → (w.grownBy W (some g)) → wpList P ops Q rest (a.put o.dst undef) W) : wpList P ops Q (o :: rest) a w := by
  refine wpList_store_mid hgd ty x y ho g off cs.toArray hx hy (by simpa using hg.there hfit) (by simpa using hi) (all_oneCell_toArray h1) ?_
  refine h _ (Arr.setCells _ _ hg (by simpa using hfit)) (fun k zs hk ha => ?_) (fun n w0 hn hb => setCells_below hn _ _ _ hb) (gr_cells _ _ _)
  obtain ⟨T, ha⟩ := ha
  exact ⟨T, by rw [setCells_heap hk]; exact ha⟩

/-- copy into a whole array, at a step of a region that draws its order. -/
theorem step_copy_arr {w : World} {ops : Array Oper} {o : Oper} {a : Act} {K : Act → World → Prop} {Q : Exit → Act → World → Prop} {E : Prop} (hw : Region.wanted o (yielded ops a.tmps) = true) (d s : Operand) (dT sT : TypeId)
    (ho : o.op = .call { callee := .builtin .copy, args := #[d, s], argTypes := #[dT, sT] }) (elem : TypeId) (hu : P.underlying dT = some (.slice elem)) (hsz : (P.info? elem).map (·.size) = some 1)
    (g off dLen dCap : Nat) (hd : a.eval d = .slice (some ⟨g, off, none⟩) dLen dCap) (xs : List Value) (hg : Arr w g xs) (hfit : off + dLen ≤ xs.length) (vs : Value) (hs : a.eval s = vs) (full : List Value) (hsl : Sl w vs full) (h1 : ∀ v ∈ full, v.oneCell' = true)
    (h : K (a.put o.dst (goInt (full.take dLen).length)) (w.setRow g (xs.take off ++ full.take dLen ++ xs.drop (off + (full.take dLen).length)).toArray)) : if Region.wanted o (yielded ops a.tmps) = true then Oper.wp P o a w K Q else E := by
  rw [if_pos hw]
  obtain ⟨sp, cap, rfl, h2, h3, h4, h5⟩ := hsl
  obtain ⟨T, hg⟩ := hg
  cases sp with
  | none =>
    obtain rfl := h4 rfl
    obtain rfl : full = [] := List.eq_nil_of_length_eq_zero (by omega)
    have hrun := run_copy_nil (P := P) w dT sT o.type elem ⟨g, off, none⟩ dLen dCap hu (by cases hq : P.info? elem <;> simp [hq] at hsz ⊢)
    unfold Oper.wp
    simp only [execOp, ho, resolve, invoke, builtin, Sem.run_bind, Sem.run_pure, Result.andThen_ok, List.map_toArray, List.map_cons, List.map_nil, hd, hs, List.length_nil, hrun]
    simp only [List.take_nil, List.append_nil, List.length_nil, Nat.add_zero, List.take_append_drop] at h
    rwa [setRow_self w g xs.toArray T (0, 0) hg] at h
  | some x =>
    have hl : (full.take dLen).length = Nat.min full.length dLen := by rw [List.length_take]; exact Nat.min_comm _ _
    have hrun := run_copy_row (P := P) w dT sT o.type elem g off dLen dCap x full.length cap xs.toArray T (full.take dLen) hu hsz hg hl (fun j v hj => h5 x rfl j v (by
      rw [List.getElem?_take] at hj
      split at hj
      · exact hj
      · cases hj)) (by have := List.length_take_le dLen full; simp only [List.size_toArray]; omega) (fun v hv => h1 v (List.mem_of_mem_take hv))
    unfold Oper.wp
    simp only [execOp, ho, resolve, invoke, builtin, Sem.run_bind, Sem.run_pure, Result.andThen_ok, List.map_toArray, List.map_cons, List.map_nil, hd, hs, hrun]
    exact h
end

/-- A part of an array, as a slice. -/
theorem Sl.of_part {w : World} {g o n cap : Nat} {xs cs : List Value} (h : Arr w g xs) (hn : cs.length = n) (hc : n ≤ cap) (hm : cap ≤ maxLen) (hcs : ∀ j, j < cs.length → xs[o + j]? = cs[j]?) : Sl w (.slice (some ⟨g, o, none⟩) n cap) cs := by
  refine ⟨_, cap, by rw [hn], by omega, hm, fun h => (by cases h), fun x hx => ?_⟩
  cases hx
  intro j u hu
  rw [Addr.add_lit]
  have hj : j < cs.length := (List.getElem?_eq_some_iff.1 hu).1
  exact h.cell (by rw [hcs j hj, hu])

end Go.Proofs.Ytkipejhjpfakpaa
