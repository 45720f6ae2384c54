/- Arrays of numbers: when two are equal. -/
import Derived.Test.YtpjkhedodlnloaaLm6
import Derived.ChangeKeysEq
import Derived.Laws.StructEq
namespace Go.Proofs.Ytpjkhedodlnloaa
open Go.RowKit

theorem run_part_int {P : Program} {e : TypeId} {k : IntKind} {i : TypeInfo} (he : P.underlying e = some (.int k)) (_ : P.info? e = some i) (xs : List Int) (j : Nat) (x : Int) (hj : xs[j]? = some x) (w : World) :
    (Go.part e (xs.map (Value.int k)).toArray j).run P w = .ok (.int k x) w := by
  have hagg : (isAgg e).run P w = .ok false w := by
    unfold isAgg
    rw [Sem.run_bind, run_underlying he w]
    simp
  simp [Go.part, Sem.run_bind, hagg, hj]

theorem run_eqItems_ints {P : Program} {e : TypeId} {k : IntKind} {i : TypeInfo} (he : P.underlying e = some (.int k)) (hi : P.info? e = some i) (d : Nat) (xs ys : List Int) (h : xs.length = ys.length) (w : World) :
    ∀ (m a : Nat), a + m = xs.length → (Op.eqItems (d + 1) e 1 (xs.map (Value.int k)).toArray (ys.map (Value.int k)).toArray (List.range' a m)).run P w = .ok (decide (xs.drop a = ys.drop a)) w
  | 0, a, hm => by
    rw [List.drop_of_length_le (by omega), List.drop_of_length_le (by omega)]
    simp [Op.eqItems]
  | m + 1, a, hm => by
    have h1 : xs[a]? = some xs[a] := List.getElem?_eq_getElem (by omega)
    have h2 : ys[a]? = some ys[a] := List.getElem?_eq_getElem (by omega)
    rw [List.range'_succ, Op.eqItems]
    simp only [Sem.run_bind, Nat.mul_one, run_part_int he hi xs a _ h1 w, run_part_int he hi ys a _ h2 w, Result.andThen_ok, run_equalIn_int w d e k k xs[a] ys[a] he]
    have e3 : (xs.drop a = ys.drop a) ↔ (xs[a] = ys[a] ∧ xs.drop (a + 1) = ys.drop (a + 1)) := by
      rw [List.drop_eq_getElem_cons (by omega : a < xs.length), List.drop_eq_getElem_cons (by omega : a < ys.length), List.cons.injEq]
    have e4 : decide (xs.drop a = ys.drop a) = decide (xs[a] = ys[a] ∧ xs.drop (a + 1) = ys.drop (a + 1)) := decide_eq_decide.2 e3
    by_cases e : xs[a] = ys[a]
    · have ih := run_eqItems_ints he hi d xs ys h w m (a + 1) (by omega)
      rw [e4]
      simp [e, ih]
    · rw [e4]
      simp [e]

/-- Two arrays of numbers. -/
theorem run_eq_ints {P : Program} {t e : TypeId} {k : IntKind} {n : Nat} (hu : P.underlying t = some (.array n e)) (he : P.underlying e = some (.int k)) (hi : (P.info? e).isSome = true) (hc : P.cellsOf e = 1) (xs ys : List Int) (hx : xs.length = n) (hy : ys.length = n) (w : World) :
    (Op.equalIn 10000 t (.agg (xs.map (Value.int k)).toArray) (.agg (ys.map (Value.int k)).toArray)).run P w = .ok (decide (xs = ys)) w := by
  obtain ⟨i, hi⟩ := Option.isSome_iff_exists.1 hi
  rw [run_equalIn_array w 9999 _ _ hu hi, hc, List.range_eq_range', run_eqItems_ints he hi 9998 xs ys (by omega) w n 0 (by omega)]
  simp

theorem digs_inj {b k m n : Nat} (h : digs b k m = digs b k n) (hm : m < b ^ k) (hn : n < b ^ k) : m = n := by
  have e := congrArg (val b) h
  rwa [val_digs, val_digs, Nat.mod_eq_of_lt hm, Nat.mod_eq_of_lt hn] at e

theorem eq_byts (m n : Nat) (hm : m < 256 ^ 32) (hn : n < 256 ^ 32) (w : World) :
    (Op.equalIn 10000 23 (.agg (byts m).toArray) (.agg (byts n).toArray)).run Try.prog w = .ok (decide (m = n)) w := by
  have h := run_eq_ints (P := Try.prog) (t := 23) (e := 5) (k := .u8) (n := 32) Try.underlying23 Try.underlying5 (by kernel_rfl) (by kernel_rfl) ((digs 256 32 m).map Int.ofNat) ((digs 256 32 n).map Int.ofNat) (by simp [digs_len]) (by simp [digs_len]) w
  have e : ∀ k, ((digs 256 32 k).map Int.ofNat).map (Value.int .u8) = byts k := by intro k; simp only [byts, List.map_map]; rfl
  rw [e, e] at h
  have e2 : ((digs 256 32 m).map Int.ofNat = (digs 256 32 n).map Int.ofNat) = (m = n) := by
    refine propext ⟨fun h1 => digs_inj ((List.map_inj_right (fun a b h => Int.ofNat.inj h)).1 h1) hm hn, ?_⟩
    rintro rfl; rfl
  rw [h]
  simp only [e2]

end Go.Proofs.Ytpjkhedodlnloaa
