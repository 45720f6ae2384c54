/- Arrays that lie in memory, whole. -/
import Derived.Test.YtpjkhedodlnloaaMem
import Derived.Test.YtpjkhedodlnloaaDg
import Derived.Laws.ResultCell
namespace Go.Proofs.Ytpjkhedodlnloaa
open Go.RowKit

theorem i64_in {n : Int} (h : -9223372036854775808 ≤ n ∧ n ≤ 9223372036854775807) : IntKind.i64.wrap n = n := by
  simp [IntKind.wrap, IntKind.bits, IntKind.signed]
  split <;> omega

/-- Block g is an array of its own: xs. -/
def Arr (w : World) (g : Nat) (xs : List Value) : Prop := ∃ T, w.heap[g]? = some (.cells xs.toArray T (0, 0))

theorem Arr.lt {w : World} {g : Nat} {xs : List Value} (h : Arr w g xs) : g < w.heap.size := by
  obtain ⟨T, h⟩ := h
  exact (Array.getElem?_eq_some_iff.1 h).1

theorem Arr.cell {w : World} {g j : Nat} {xs : List Value} {u : Value} (h : Arr w g xs) (hj : xs[j]? = some u) : w.cell? ⟨g, j, none⟩ = some u := by
  obtain ⟨T, h⟩ := h
  rw [cell_of_row w g j _ T _ h]
  simpa using hj

theorem Arr.frozen {w : World} {g : Nat} {xs : List Value} (h : Arr w g xs) (j : Nat) : w.frozen? ⟨g, j, none⟩ = false := by
  obtain ⟨T, h⟩ := h
  simp [World.frozen?, h]

theorem Arr.set {w : World} {g : Nat} {xs : List Value} (h : Arr w g xs) (j : Nat) (u : Value) : Arr (w.setCell ⟨g, j, none⟩ u) g (xs.set j u) := by
  obtain ⟨T, h⟩ := h
  refine ⟨T, ?_⟩
  rw [heap_setCell_same w g j _ T u h]
  simp

theorem Arr.other {w : World} {g : Nat} {xs : List Value} (h : Arr w g xs) {a : Addr} (ha : g ≠ a.block) (u : Value) : Arr (w.setCell a u) g xs := by
  obtain ⟨T, h⟩ := h
  exact ⟨T, by rw [heap_setCell_other w a g u ha]; exact h⟩

theorem Arr.alloc {w : World} {g : Nat} {xs : List Value} (h : Arr w g xs) (o : Obj) : Arr (w.alloc o) g xs := by
  have := h.lt
  obtain ⟨T, h⟩ := h
  exact ⟨T, by rw [Below.heap_alloc w o g this]; exact h⟩

theorem Arr.new (w : World) (xs : Array Value) (T : TypeId) : Arr (w.alloc (.cells xs T)) w.heap.size xs.toList := ⟨T, by rw [heap_alloc_new]⟩

theorem Arr.below {w w' : World} {g : Nat} {xs : List Value} (h : Arr w g xs) (hb : Below w.heap.size w w') : Arr w' g xs := by
  have := h.lt
  obtain ⟨T, h⟩ := h
  exact ⟨T, by rw [hb.block g this]; exact h⟩

theorem grownBy_drew {w w' : World} {row : Option Nat} (h : w.grownBy w' row) : w.grownBy w'.drew row := ⟨h.os, h.tape, h.output, h.size, h.block⟩

theorem Arr.kept {w w' : World} {g k : Nat} {xs : List Value} (h : Arr w g xs) (hg : w.grownBy w' (some k)) (hk : k ≠ g) : Arr w' g xs := by
  have := h.lt
  obtain ⟨T, h⟩ := h
  exact ⟨T, by rw [hg.block g this (by simp only [ne_eq, Option.some.injEq]; omega)]; exact h⟩

theorem Arr.grown {w : World} {g : Nat} {xs : List Value} (_ : Arr w g xs) (j : Nat) (u : Value) : w.grownBy (w.setCell ⟨g, j, none⟩ u) (some g) :=
  ⟨rfl, rfl, rfl, by simp [World.setCell], fun k _ hn => Below.heap_setCell _ _ _ _ (by simpa using hn)⟩

theorem Arr.setRow {w : World} {g : Nat} {xs : List Value} (h : Arr w g xs) (ys : List Value) : Arr (w.setRow g ys.toArray) g ys := by
  obtain ⟨T, h⟩ := h
  exact ⟨T, setRow_heap w g _ _ T _ h⟩

theorem Arr.row_other {w : World} {g k : Nat} {xs : List Value} (h : Arr w g xs) (hk : g ≠ k) (ys : Array Value) : Arr (w.setRow k ys) g xs := by
  obtain ⟨T, h⟩ := h
  refine ⟨T, ?_⟩
  rw [← h]
  simp [World.setRow, Array.getElem?_modify, Ne.symm hk]

theorem below_setRow {n : Nat} {w w' : World} {g : Nat} (h : Below n w w') (hg : n ≤ g) (ys : Array Value) : Below n w (w'.setRow g ys) := by
  refine h.trans ⟨rfl, rfl, rfl, by simp [World.setRow], fun k hk => ?_⟩
  simp only [World.setRow, Array.getElem?_modify]
  rw [if_neg (by omega)]

section
variable {P : Program}

theorem results_arr_tmp {fn : Func} {p u : Tmp} {ty : TypeId} (h : fn.results = #[.cell p ty, .tmp u]) (tmps : Array Value) (w : World) (g : Nat) (d : TypeDesc)
    (hp : tmps.getD p undef = .pointer (some ⟨g, 0, none⟩)) (hu : P.underlying ty = some d) (hd : (match d with | .struct _ | .array _ _ => true | _ => false) = true) (xs : List Value) (hg : Arr w g xs) (hi : (P.info? ty).map (·.size) = some xs.length)
    (v : Value) (hv : tmps.getD u undef = v) : (results fn tmps).run P w = .ok (.tuple #[.agg xs.toArray, v]) w := by
  obtain ⟨T, hg⟩ := hg
  rw [results_cell_tmp h, hp, hv]
  simp [asAddr, run_loadVar_row w g T ty _ (0, 0) d hg hu hd (by simpa using hi)]

theorem wpList_load_arr {ops : Array Oper} {rest : List Oper} {o : Oper} {a : Act} {w : World} {Q : Exit → Act → World → Prop} (hgd : o.guard = none) (ty : TypeId) (x : Operand) (ho : o.op = .load ty x)
    (g : Nat) (hx : a.eval x = .pointer (some ⟨g, 0, none⟩)) (d : TypeDesc) (hu : P.underlying ty = some d) (hd : (match d with | .struct _ | .array _ _ => true | _ => false) = true) (xs : List Value) (hg : Arr w g xs) (hi : (P.info? ty).map (·.size) = some xs.length)
    (h : wpList P ops Q rest (a.put o.dst (.agg xs.toArray)) w) : wpList P ops Q (o :: rest) a w := by
  obtain ⟨T, hg⟩ := hg
  exact wpList_load_row hgd ty x ho g hx T _ (0, 0) d hg hu hd (by simpa using hi) h

theorem wpList_store_arr {ops : Array Oper} {rest : List Oper} {o : Oper} {a : Act} {w : World} {Q : Exit → Act → World → Prop} (hgd : o.guard = none) (ty : TypeId) (x y : Operand) (ho : o.op = .store ty x y)
    (g : Nat) (ys : List Value) (hx : a.eval x = .pointer (some ⟨g, 0, none⟩)) (hy : a.eval y = .agg ys.toArray) (xs : List Value) (hg : Arr w g xs) (hi : (P.info? ty).map (·.size) = some ys.length)
    (hold : xs.length = ys.length) (h1 : ∀ v ∈ ys, v.oneCell' = true)
    (h : wpList P ops Q rest (a.put o.dst undef) (w.setRow g ys.toArray)) : wpList P ops Q (o :: rest) a w := by
  obtain ⟨T, hg⟩ := hg
  exact wpList_store_row hgd ty x y ho g _ hx hy T _ hg (by simpa using hi) (by simpa using hold) (by simpa [Array.all_eq_true_iff_forall_mem] using h1) h

theorem results_arr {fn : Func} {p : Tmp} {ty : TypeId} (h : fn.results = #[.cell p ty]) (tmps : Array Value) (w : World) (g : Nat) (d : TypeDesc)
    (hp : tmps.getD p undef = .pointer (some ⟨g, 0, none⟩)) (hu : P.underlying ty = some d) (hd : (match d with | .struct _ | .array _ _ => true | _ => false) = true) (xs : List Value) (hg : Arr w g xs) (hi : (P.info? ty).map (·.size) = some xs.length) :
    (results fn tmps).run P w = .ok (.agg xs.toArray) w := by
  obtain ⟨T, hg⟩ := hg
  exact results_cell_row h tmps w g T _ (0, 0) d hp hg hu hd (by simpa using hi)

theorem wp_new1 {c : Code} {Q : Exit → Act → World → Prop} {a : Act} {w : World} {A : Array Value} {TA : TypeId}
    (h : ∀ W, W.heap.size = w.heap.size + 1 → Arr W w.heap.size A.toList → Below w.heap.size w W → Code.wp P c Q a W) :
    Code.wp P c Q a (w.alloc (.cells A TA)) :=
  h _ (by simp) (Arr.new _ _ _) (below_alloc _ _)

theorem wp_new2 {c : Code} {Q : Exit → Act → World → Prop} {a : Act} {w : World} {A B : Array Value} {TA TB : TypeId}
    (h : ∀ W, W.heap.size = w.heap.size + 2 → Arr W w.heap.size A.toList → Arr W (w.heap.size + 1) B.toList → Below w.heap.size w W → Code.wp P c Q a W) :
    Code.wp P c Q a ((w.alloc (.cells A TA)).alloc (.cells B TB)) :=
  h _ (by simp) ((Arr.new _ _ _).alloc _) (by have := Arr.new (w.alloc (.cells A TA)) B TB; simpa using this) ((below_alloc _ _).alloc (by simp) _)

theorem wp_new3 {c : Code} {Q : Exit → Act → World → Prop} {a : Act} {w : World} {A B C : Array Value} {TA TB TC : TypeId}
    (h : ∀ W, W.heap.size = w.heap.size + 3 → Arr W w.heap.size A.toList → Arr W (w.heap.size + 1) B.toList → Arr W (w.heap.size + 1 + 1) C.toList → Below w.heap.size w W → Code.wp P c Q a W) :
    Code.wp P c Q a (((w.alloc (.cells A TA)).alloc (.cells B TB)).alloc (.cells C TC)) :=
  h _ (by simp) (((Arr.new _ _ _).alloc _).alloc _) (by have := (Arr.new (w.alloc (.cells A TA)) B TB).alloc (.cells C TC); simpa using this)
    (by have := Arr.new ((w.alloc (.cells A TA)).alloc (.cells B TB)) C TC; simpa using this) (((below_alloc _ _).alloc (by simp) _).alloc (by simp; omega) _)

theorem wp_new4 {c : Code} {Q : Exit → Act → World → Prop} {a : Act} {w : World} {A B C D : Array Value} {TA TB TC TD : TypeId}
    (h : ∀ W, W.heap.size = w.heap.size + 4 → Arr W w.heap.size A.toList → Arr W (w.heap.size + 1) B.toList → Arr W (w.heap.size + 1 + 1) C.toList → Arr W (w.heap.size + 1 + 1 + 1) D.toList → Below w.heap.size w W → Code.wp P c Q a W) :
    Code.wp P c Q a ((((w.alloc (.cells A TA)).alloc (.cells B TB)).alloc (.cells C TC)).alloc (.cells D TD)) :=
  h _ (by simp) ((((Arr.new _ _ _).alloc _).alloc _).alloc _) (by have := ((Arr.new (w.alloc (.cells A TA)) B TB).alloc (.cells C TC)).alloc (.cells D TD); simpa using this)
    (by have := (Arr.new ((w.alloc (.cells A TA)).alloc (.cells B TB)) C TC).alloc (.cells D TD); simpa using this)
    (by have := Arr.new (((w.alloc (.cells A TA)).alloc (.cells B TB)).alloc (.cells C TC)) D TD; simpa using this) ((((below_alloc _ _).alloc (by simp) _).alloc (by simp; omega) _).alloc (by simp; omega) _)

/-- One element of an array that is no variable. -/
theorem run_index_arr (w : World) (ty e : TypeId) (len : Nat) (d : TypeDesc) (i : TypeInfo) (hu : P.underlying ty = some (.array len e)) (he : P.underlying e = some d) (hd : (match d with | .struct _ | .array _ _ => true | _ => false) = false) (hi : P.info? e = some i) (hsz : i.size = 1)
    (xs : List Value) (k : Nat) (v : Value) (hk : k < len) (hv : xs[k]? = some v) : (Instr.index ty (.agg xs.toArray) (.int .i64 (k : Int))).run P w = .ok v w := by
  unfold Instr.index
  have hagg : (isAgg e).run P w = .ok false w := by
    unfold isAgg
    rw [Sem.run_bind, run_underlying he w]
    cases d <;> simp_all
  simp [asIntOf, Sem.run_bind, run_underlying hu w, hk, sizeOf, typeInfo, hi, hsz, Go.part, hagg, hv]

end
end Go.Proofs.Ytpjkhedodlnloaa
