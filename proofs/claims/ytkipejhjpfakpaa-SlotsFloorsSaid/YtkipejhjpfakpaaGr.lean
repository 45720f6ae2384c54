/- What a store turns, in the words of 'grownBy'; small laws on memory of one's own. -/
import Derived.Test.YtkipejhjpfakpaaMd
namespace Go.Proofs.Ytkipejhjpfakpaa
open Go.RowKit

theorem gr_row (w : World) (g : Nat) (ys : Array Value) : w.grownBy (w.setRow g ys) (some g) :=
  ⟨rfl, rfl, rfl, by simp [World.setRow], fun k _ hn => by
    simp only [World.setRow, Array.getElem?_modify]
    rw [if_neg (by intro e; exact hn (by rw [e]))]⟩

theorem Sl.keptN {w w' : World} {g : Nat} {v : Value} {xs : List Value} (h : Sl w v xs) (hg : w.grownBy w' (some g)) (hv : ∀ a n c, v = .slice (some a) n c → a.block ≠ g) : Sl w' v xs := by
  obtain ⟨a, cap, rfl, h2, h3, h4, h5⟩ := h
  refine ⟨a, cap, rfl, h2, h3, h4, fun x hx j u hu => ?_⟩
  subst hx
  have h1 := h5 x rfl j u hu
  have hb := World.block_lt_of_cell? w (x.add j) h1
  have hs : (x.add j).spot = none := World.cell?_spot h1
  have hbk : (x.add j).block = x.block := by unfold Addr.add; split <;> rfl
  have e : (x.add j) = ⟨x.block, (x.add j).off, none⟩ := by rw [← hbk, ← hs]
  rw [e] at h1 ⊢
  exact hg.cell h1 (by intro q; cases q; exact hv _ _ _ rfl rfl)

theorem own_keptN {w w' : World} {g base : Nat} {e : TypeId} {size : Nat} {v : Value} {n : Nat} {xs : List Value} (h : w.ownsRow base e size v n xs) (hg : w.grownBy w' (some g)) (hne : v.ownBlock ≠ some g) : w'.ownsRow base e size v n xs :=
  h.kept hg (.inr hne)

theorem setCells_size {g : Nat} : ∀ (cs : List Value) (o : Nat) (w : World), (w.setCells g o cs).heap.size = w.heap.size
  | [], _, _ => rfl
  | c :: cs, o, w => by rw [World.setCells, setCells_size cs (o + 1)]; simp [World.setCell]

section
variable {P : Program} {Q : Exit → Act → World → Prop}

theorem wpl_storeG {w : World} {ops : Array Oper} {rest : List Oper} {o : Oper} {a : Act} (hgd : o.guard = none) (ty : TypeId) (x y : Operand) (ho : o.op = .store ty x y)
    (g : Nat) (ys : List Value) (hx : a.eval x = .pointer (some ⟨g, 0, none⟩)) (hy : a.eval y = .agg ys.toArray) (xs : List Value) (hg : Arr w g xs) (hi : (P.info? ty).map (·.size) = some ys.length)
    (hold : xs.length = ys.length) (h1 : ∀ v ∈ ys, v.oneCell' = true)
    (h : ∀ W, Arr W g ys → w.grownBy W (some g) → W.heap.size = w.heap.size → wpList P ops Q rest (a.put o.dst undef) W) : wpList P ops Q (o :: rest) a w :=
  wpList_store_arr hgd ty x y ho g ys hx hy xs hg hi hold h1 (h _ (hg.setRow ys) (gr_row w g _) (by simp [World.setRow]))

theorem code_cellG {C : Code} {a : Act} {w : World} {g j : Nat} {xs : List Value} {u : Value} (hg : Arr w g xs)
    (h : ∀ W, Arr W g (xs.set j u) → w.grownBy W (some g) → W.heap.size = w.heap.size → Code.wp P C Q a W) : Code.wp P C Q a (w.setCell ⟨g, j, none⟩ u) :=
  h _ (hg.set j u) (gr_cell w g j u) (by simp [World.setCell])

theorem calls_cellG {f : FuncId} {args : Array Value} {R : Ending → World → Prop} {w : World} {g j : Nat} {xs : List Value} {u : Value} (hg : Arr w g xs)
    (h : ∀ W, Arr W g (xs.set j u) → w.grownBy W (some g) → W.heap.size = w.heap.size → Calls P f args W R) : Calls P f args (w.setCell ⟨g, j, none⟩ u) R :=
  h _ (hg.set j u) (gr_cell w g j u) (by simp [World.setCell])

/-- A store of several cells into the middle of an array. -/
theorem wpl_storeMG {w : World} {ops : Array Oper} {rest : List Oper} {o : Oper} {a : Act} (hgd : o.guard = none) (ty : TypeId) (x y : Operand) (ho : o.op = .store ty x y)
    (g off : Nat) (cs : List Value) (hx : a.eval x = .pointer (some ⟨g, off, none⟩)) (hy : a.eval y = .agg cs.toArray) (xs : List Value) (hg : Arr w g xs) (hi : (P.info? ty).map (·.size) = some cs.length)
    (hfit : off + cs.length ≤ xs.length) (h1 : ∀ v ∈ cs, v.oneCell' = true)
    (h : ∀ W, Arr W g (putAt off cs xs) → w.grownBy W (some g) → wpList P ops Q rest (a.put o.dst undef) W) : wpList P ops Q (o :: rest) a w :=
  wpl_store_mid hgd ty x y ho g off cs hx hy xs hg hi hfit h1 (fun W h1 _ _ h4 => h W h1 h4)

theorem one_cells {v : Value} (h : v.oneCell' = true) : v.cells = #[v] := by
  cases v <;> first | rfl | simp [Value.oneCell'] at h

theorem run_store_one {w : World} {ty : TypeId} {g j : Nat} {xs : List Value} {u : Value} (hg : Arr w g xs) (hj : j < xs.length) (hi : (P.info? ty).map (·.size) = some 1) (hu : u.oneCell' = true) :
    (Instr.storeAt ty (.pointer (some ⟨g, j, none⟩)) u).run P w = .ok () (w.setCell ⟨g, j, none⟩ u) := by
  have hc := hg.cell (List.getElem?_eq_getElem hj)
  have hf := hg.frozen j
  cases hq : P.info? ty with
  | none => simp [hq] at hi
  | some i =>
    have hs : i.size = 1 := by simpa [hq] using hi
    simp [Instr.storeAt, Instr.sureAddr, storeVar, one_cells hu, sizeOf, typeInfo, hq, hs, storeCells, run_store P _ _ u _ hu, Addr.add_zero', hc, hf, Result.andThen]

/-- One cell of an array stored: in a plain region. -/
theorem wpl_cellG {w : World} {ops : Array Oper} {rest : List Oper} {o : Oper} {a : Act} (hgd : o.guard = none) (ty : TypeId) (x y : Operand) (ho : o.op = .store ty x y)
    (g j : Nat) (u : Value) (hx : a.eval x = .pointer (some ⟨g, j, none⟩)) (hy : a.eval y = u) (xs : List Value) (hg : Arr w g xs) (hi : (P.info? ty).map (·.size) = some 1) (hj : j < xs.length) (hu : u.oneCell' = true)
    (h : ∀ W, Arr W g (xs.set j u) → w.grownBy W (some g) → W.heap.size = w.heap.size → wpList P ops Q rest (a.put o.dst undef) W) : wpList P ops Q (o :: rest) a w := by
  refine wpList_plain hgd fun K hK => ?_
  unfold Oper.wp execOp
  simp only [ho, hx, hy, Sem.run_bind, Sem.run_pure, Result.andThen_ok, run_store_one hg hj hi hu]
  exact hK _ _ (h _ (hg.set j u) (gr_cell w g j u) (by simp [World.setCell]))

/-- The same at a step of a region that draws its order. -/
theorem step_cellG {l : List Oper} {o : Oper} {a : Act} {w : World} {K : Act → World → Prop} {E : Prop} (hw : Region.wanted o (yielded l.toArray a.tmps) = true) (ty : TypeId) (x y : Operand) (ho : o.op = .store ty x y)
    (g j : Nat) (u : Value) (hx : a.eval x = .pointer (some ⟨g, j, none⟩)) (hy : a.eval y = u) (xs : List Value) (hg : Arr w g xs) (hi : (P.info? ty).map (·.size) = some 1) (hj : j < xs.length) (hu : u.oneCell' = true)
    (h : ∀ W, Arr W g (xs.set j u) → w.grownBy W (some g) → W.heap.size = w.heap.size → K (a.put o.dst undef) W) : if Region.wanted o (yielded l.toArray a.tmps) = true then Oper.wp P o a w K Q else E := by
  rw [if_pos hw]
  unfold Oper.wp execOp
  simp only [ho, hx, hy, Sem.run_bind, Sem.run_pure, Result.andThen_ok, run_store_one hg hj hi hu]
  exact h _ (hg.set j u) (gr_cell w g j u) (by simp [World.setCell])
theorem step_storeG {l : List Oper} {o : Oper} {a : Act} {w : World} {K : Act → World → Prop} {E : Prop} (hgd : o.guard = none) (ty : TypeId) (x y : Operand) (ho : o.op = .store ty x y)
    (g : Nat) (ys : List Value) (hx : a.eval x = .pointer (some ⟨g, 0, none⟩)) (hy : a.eval y = .agg ys.toArray) (xs : List Value) (hg : Arr w g xs) (hi : (P.info? ty).map (·.size) = some ys.length)
    (hold : xs.length = ys.length) (h1 : ∀ v ∈ ys, v.oneCell' = true) (h : ∀ W, Arr W g ys → w.grownBy W (some g) → W.heap.size = w.heap.size → K (a.put o.dst undef) W) :
    if Region.wanted o (yielded l.toArray a.tmps) = true then Oper.wp P o a w K Q else E :=
  step_store_arr hgd ty x y ho g ys hx hy xs hg hi hold h1 (h _ (hg.setRow ys) (gr_row w g _) (by simp [World.setRow]))
theorem step_storeMG {l : List Oper} {o : Oper} {a : Act} {w : World} {K : Act → World → Prop} {E : Prop} (hw : Region.wanted o (yielded l.toArray a.tmps) = true) (ty : TypeId) (x y : Operand) (ho : o.op = .store ty x y)
    (g off : Nat) (cs : List Value) (hx : a.eval x = .pointer (some ⟨g, off, none⟩)) (hy : a.eval y = .agg cs.toArray) (xs : List Value) (hg : Arr w g xs) (hi : (P.info? ty).map (·.size) = some cs.length)
    (hfit : off + cs.length ≤ xs.length) (h1 : ∀ v ∈ cs, v.oneCell' = true)
    (h : ∀ W, Arr W g (putAt off cs xs) → w.grownBy W (some g) → W.heap.size = w.heap.size → K (a.put o.dst undef) W) : if Region.wanted o (yielded l.toArray a.tmps) = true then Oper.wp P o a w K Q else E := by
  rw [if_pos hw]
  refine wp_store_mid ty x y ho g off cs.toArray hx hy (by simpa using hg.there hfit) (by simpa using hi) (all_oneCell_toArray h1) ?_
  exact h _ (Arr.setCells _ _ hg (by simpa using hfit)) (gr_cells _ _ _) (setCells_size _ _ _)
end

/-- A call that writes one block of those that were there, and what lies behind n. -/
theorem below_of_gr {n : Nat} {w0 w w' : World} {g : Nat} (h : Below n w0 w) (hg : w.grownBy w' (some g)) (hn : n ≤ g) (hs : n ≤ w.heap.size) : Below n w0 w' := below_gr h hg hn hs

end Go.Proofs.Ytkipejhjpfakpaa
