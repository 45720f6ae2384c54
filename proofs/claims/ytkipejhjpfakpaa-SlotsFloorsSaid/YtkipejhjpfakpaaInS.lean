/- A state that comes in; two booleans that come in. -/
import Derived.Test.YtkipejhjpfakpaaSt1
import Derived.Test.YtkipejhjpfakpaaIn
import Derived.OpenShut
namespace Go.Proofs.Ytkipejhjpfakpaa
open Go.RowKit Go.ChangeShapes Go.WideShapes

/-- A field of a struct that comes in. -/
theorem fld {H : Type} {enc : TypeId × Value → H} {P : Program} {w : World} {m : Nat} {cs : List Value} {fs : Array Field} {xs : List (DataW H × List MemPlace)}
    (hel : ∀ (i : Nat) (f : Field), fs[i]? = some f → DataW.trod enc P w 0 (fun _ => true) true m f.type ((cs.drop f.offset).take (P.cellsOf f.type)) = xs[i]?)
    (i : Nat) (f : Field) (t o n : Nat) (h : fs[i]? = some f) (h1 : f.type = t) (h2 : f.offset = o) (h3 : P.cellsOf t = n) (hi : i < xs.length) : DataW.trod enc P w 0 (fun _ => true) true m t ((cs.drop o).take n) = some xs[i] := by
  subst h1 h2 h3
  rw [hel i f h, List.getElem?_eq_getElem hi]

section
variable {H : Type} {enc : TypeId × Value → H} {P : Program} {w : World}

theorem inC_bytes {t e : TypeId} {fuel : Nat} {c : Value} {x : DataW H × List MemPlace} (ht : P.underlying t = some (.slice e)) (he : P.underlying e = some (.int .u8)) (hc : P.cellsOf e = 1)
    (h : DataW.trod enc P w 0 (fun _ => true) true fuel t [c] = some x) : ∃ bs : List UInt8, Sl w c (u8s bs) := by
  rcases open_ints ht he hc h with ⟨hcs, _⟩ | ⟨y, l, cap, zs, hcs, -⟩
  · simp only [List.cons.injEq, and_true] at hcs
    subst hcs
    exact ⟨[], Sl.nil w⟩
  · simp only [List.cons.injEq, and_true] at hcs
    subst hcs
    obtain ⟨bs, h1, h2⟩ := in_bytes (a := some y) (len := l) (cap := cap) (d := x.1) (p := x.2) ht he hc ⟨fuel, h⟩
    rw [← h1] at h2
    exact ⟨bs, h2⟩
theorem inC_ints {t e : TypeId} {fuel : Nat} {c : Value} {x : DataW H × List MemPlace} (ht : P.underlying t = some (.slice e)) (he : P.underlying e = some (.int .i64)) (hc : P.cellsOf e = 1)
    (h : DataW.trod enc P w 0 (fun _ => true) true fuel t [c] = some x) : ∃ ns : List Int, Sl w c (ints ns) ∧ ∀ n ∈ ns, (Lit.int .i64 n).wf = true := by
  rcases open_ints ht he hc h with ⟨hcs, _⟩ | ⟨y, l, cap, zs, hcs, -⟩
  · simp only [List.cons.injEq, and_true] at hcs
    subst hcs
    exact ⟨[], Sl.nil w, by simp⟩
  · simp only [List.cons.injEq, and_true] at hcs
    subst hcs
    obtain ⟨ns, h1, h2, h3⟩ := in_ints (a := some y) (len := l) (cap := cap) (d := x.1) (p := x.2) ht he hc ⟨fuel, h⟩
    rw [← h1] at h2
    exact ⟨ns, h2, h3⟩
end

/-- The numbers of a state are numbers. -/
structure StWf (S : Stt) : Prop where
  floor : (Lit.int .i64 S.floor).wf = true
  rev : ∀ n ∈ S.rev, (Lit.int .i64 n).wf = true
  t0 : (Lit.int .i64 S.t0).wf = true
  t1 : (Lit.int .i64 S.t1).wf = true
  act : (Lit.int .i64 S.act).wf = true

theorem nine {cs : List Value} (h : cs.length = 9) : ∃ c0 c1 c2 c3 c4 c5 c6 c7 c8, cs = [c0, c1, c2, c3, c4, c5, c6, c7, c8] := by
  match cs, h with
  | [c0, c1, c2, c3, c4, c5, c6, c7, c8], _ => exact ⟨_, _, _, _, _, _, _, _, _, rfl⟩

set_option maxRecDepth 100000 in
theorem in_state {H : Type} {enc : TypeId × Value → H} {w : World} {r : Reach} {b0 : Nat} {v : Value} {d : DataW H} {p : List MemPlace}
    (hval : Value.okWide Try.prog w r b0 28 v) (h : DataW.Trod enc Try.prog w 0 (fun _ => true) true 28 v d p) : ∃ (S : Stt) (u : Sv), v = .agg (S.cs u).toArray ∧ StOk w S u ∧ StWf S := by
  have hv : ∃ cs : Array Value, v = .agg cs ∧ cs.size = 9 := by
    unfold Value.okWide at hval
    rw [Try.underlying28] at hval
    obtain ⟨cs, h1, h2, -⟩ := hval
    exact ⟨cs, h1, by rw [h2]; kernel_rfl⟩
  obtain ⟨⟨l⟩, rfl, hl⟩ := hv
  obtain ⟨c0, c1, c2, c3, c4, c5, c6, c7, c8, rfl⟩ := nine (by simpa using hl)
  obtain ⟨fuel, hf⟩ := h
  obtain ⟨xs, m, -, -, -, hx, hel⟩ := DataW.trod_struct Try.underlying28 hf
  have hx' : xs.length = 4 := hx
  have k1 : Try.prog.cellsOf 3 = 1 := by kernel_rfl
  have k2 : Try.prog.cellsOf 22 = 1 := by kernel_rfl
  have k3 : Try.prog.cellsOf 26 = 6 := by kernel_rfl
  have k4 : Try.prog.cellsOf 25 = 3 := by kernel_rfl
  have k5 : Try.prog.cellsOf 23 = 1 := by kernel_rfl
  have k6 : Try.prog.cellsOf 4 = 1 := by kernel_rfl
  have k7 : Try.prog.cellsOf 5 = 1 := by kernel_rfl
  have e0 := fld hel 0 _ 3 0 1 rfl rfl rfl k1 (by omega)
  have e1 := fld hel 1 _ 22 1 1 rfl rfl rfl k2 (by omega)
  have e2 := fld hel 2 _ 26 2 6 rfl rfl rfl k3 (by omega)
  have e3 := fld hel 3 _ 3 8 1 rfl rfl rfl k1 (by omega)
  simp only [Value.cells, List.drop, List.take] at e0 e1 e2 e3
  obtain ⟨f, q0, -, wf⟩ := DataW.trod_int Try.underlying3 e0
  obtain ⟨rv, hr, wr⟩ := inC_ints Try.underlying22 Try.underlying3 k1 e1
  obtain ⟨a, q3, -, wa⟩ := DataW.trod_int Try.underlying3 e3
  obtain ⟨zs, n, -, -, -, hz, hes⟩ := DataW.trod_array Try.underlying26 e2
  have s0 := hes 0 (by decide)
  have s1 := hes 1 (by decide)
  rw [k4] at s0 s1
  rw [List.getElem?_eq_getElem (by omega)] at s0 s1
  simp only [List.drop, List.take] at s0 s1
  obtain ⟨us, n0, -, -, -, hu, hf0⟩ := DataW.trod_struct Try.underlying25 s0
  obtain ⟨vs, n1, -, -, -, hw, hf1⟩ := DataW.trod_struct Try.underlying25 s1
  have hu' : us.length = 3 := hu
  have hw' : vs.length = 3 := hw
  have a0 := fld hf0 0 _ 23 0 1 rfl rfl rfl k5 (by omega)
  have a1 := fld hf0 1 _ 4 1 1 rfl rfl rfl k6 (by omega)
  have a2 := fld hf0 2 _ 3 2 1 rfl rfl rfl k1 (by omega)
  have b0 := fld hf1 0 _ 23 0 1 rfl rfl rfl k5 (by omega)
  have b1 := fld hf1 1 _ 4 1 1 rfl rfl rfl k6 (by omega)
  have b2 := fld hf1 2 _ 3 2 1 rfl rfl rfl k1 (by omega)
  simp only [List.drop, List.take] at a0 a1 a2 b0 b1 b2
  obtain ⟨m0, g0⟩ := inC_bytes Try.underlying23 Try.underlying5 k7 a0
  obtain ⟨d0, q4, -⟩ := DataW.trod_bool Try.underlying4 a1
  obtain ⟨t0, q5, -, w0⟩ := DataW.trod_int Try.underlying3 a2
  obtain ⟨m1, g1⟩ := inC_bytes Try.underlying23 Try.underlying5 k7 b0
  obtain ⟨d1, q6, -⟩ := DataW.trod_bool Try.underlying4 b1
  obtain ⟨t1, q7, -, w1⟩ := DataW.trod_int Try.underlying3 b2
  simp only [List.cons.injEq, and_true] at q0 q3 q4 q5 q6 q7
  subst q0 q3 q4 q5 q6 q7
  exact ⟨⟨f, rv, m0, d0, t0, m1, d1, t1, a⟩, ⟨c1, c2, c5⟩, rfl, ⟨hr, g0, g1⟩, ⟨wf, wr, w0, w1, wa⟩⟩

/-- Two booleans. -/
theorem in_two {H : Type} {enc : TypeId × Value → H} {w : World} {r : Reach} {b0 : Nat} {v : Value} {d : DataW H} {p : List MemPlace}
    (hval : Value.okWide Try.prog w r b0 34 v) (h : DataW.Trod enc Try.prog w 0 (fun _ => true) true 34 v d p) : ∃ (b c : Bool), v = .agg #[.bool b, .bool c] := by
  have hv : ∃ cs : Array Value, v = .agg cs ∧ cs.size = 2 := by
    unfold Value.okWide at hval
    rw [Try.underlying34] at hval
    obtain ⟨cs, h1, h2, -⟩ := hval
    exact ⟨cs, h1, by rw [h2]; kernel_rfl⟩
  obtain ⟨⟨l⟩, rfl, hl⟩ := hv
  obtain ⟨fuel, hf⟩ := h
  obtain ⟨zs, n, -, -, -, hz, hes⟩ := DataW.trod_array Try.underlying34 hf
  have k6 : Try.prog.cellsOf 4 = 1 := by kernel_rfl
  match l, hl with
  | [c0, c1], _ =>
    have s0 := hes 0 (by decide)
    have s1 := hes 1 (by decide)
    rw [k6] at s0 s1
    rw [List.getElem?_eq_getElem (by omega)] at s0 s1
    simp only [Value.cells, List.drop, List.take] at s0 s1
    obtain ⟨x, q0, -⟩ := DataW.trod_bool Try.underlying4 s0
    obtain ⟨y, q1, -⟩ := DataW.trod_bool Try.underlying4 s1
    simp only [List.cons.injEq, and_true] at q0 q1
    subst q0 q1
    exact ⟨x, y, rfl⟩

end Go.Proofs.Ytkipejhjpfakpaa
