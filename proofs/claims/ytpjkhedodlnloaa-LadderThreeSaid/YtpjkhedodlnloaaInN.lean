/- A Num that comes in, as a number. -/
import Derived.Test.YtpjkhedodlnloaaLm6
import Derived.Test.YtpjkhedodlnloaaIn
import Derived.OpenShut
namespace Go.Proofs.Ytpjkhedodlnloaa
open Go.RowKit Go.ChangeShapes Go.WideShapes

section
variable {H : Type} {enc : TypeId × Value → H} {P : Program} {w : World}

/-- An array of bytes. -/
theorem in_arr {n : Nat} {t e : TypeId} {r : Reach} {b0 : Nat} {v : Value} {d : DataW H} {p : List MemPlace} (ht : P.underlying t = some (.array n e)) (he : P.underlying e = some (.int .u8)) (hc : P.cellsOf e = 1) (hct : P.cellsOf t = n)
    (hval : Value.okWide P w r b0 t v) (h : DataW.Trod enc P w 0 (fun _ => true) true t v d p) : ∃ ds : List Nat, ds.length = n ∧ (∀ x ∈ ds, x < 256) ∧ v = .agg (ds.map fun (x : Nat) => Value.int .u8 (x : Int)).toArray := by
  have hv : ∃ cs : Array Value, v = .agg cs ∧ cs.size = n := by
    unfold Value.okWide at hval
    rw [ht] at hval
    obtain ⟨cs, h1, h2, -⟩ := hval
    exact ⟨cs, h1, by rw [h2, hct]⟩
  obtain ⟨cs, rfl, hcs⟩ := hv
  obtain ⟨fuel, hf⟩ := h
  obtain ⟨xs, m, -, -, hl, hx, hel⟩ := DataW.trod_array ht hf
  have hcell : (Value.agg cs).cells.toList = cs.toList := rfl
  rw [hcell] at hel
  have each : ∀ i (hi : i < cs.toList.length), ∃ z : Nat, z < 256 ∧ cs.toList[i] = Value.int .u8 (z : Int) := by
    intro i hi
    have hi' : i < n := by simpa [hcs] using hi
    have h1 := hel i hi'
    rw [hc, Nat.mul_one, List.getElem?_eq_getElem (by omega)] at h1
    have h2 : (cs.toList.drop i).take 1 = [cs.toList[i]] := by
      rw [List.drop_eq_getElem_cons hi]
      simp
    rw [h2] at h1
    obtain ⟨z, h3, -, h4⟩ := DataW.trod_int he h1
    have h5 := wf_u8 h4
    refine ⟨z.toNat, by omega, ?_⟩
    have h6 := List.head_eq_of_cons_eq h3
    rw [h6]
    congr 1
    omega
  refine ⟨cs.toList.map (fun v => match v with | .int _ z => z.toNat | _ => 0), by simp [hcs], ?_, ?_⟩
  · intro x hx
    simp only [List.mem_map] at hx
    obtain ⟨v, hv, rfl⟩ := hx
    obtain ⟨i, hi, rfl⟩ := List.getElem_of_mem hv
    obtain ⟨z, h1, h2⟩ := each i hi
    rw [h2]
    simpa using h1
  · congr 1
    apply Array.toList_inj.1
    simp only [List.map_map]
    apply List.ext_getElem
    · simp
    · intro i h1 h2
      obtain ⟨z, h3, h4⟩ := each i h1
      rw [List.getElem_map, Function.comp_apply, h4]
      simp

end

set_option maxRecDepth 100000 in
/-- A Num. -/
theorem in_num {H : Type} {enc : TypeId × Value → H} {w : World} {r : Reach} {b0 : Nat} {v : Value} {d : DataW H} {p : List MemPlace}
    (hval : Value.okWide Try.prog w r b0 23 v) (h : DataW.Trod enc Try.prog w 0 (fun _ => true) true 23 v d p) : ∃ n : Nat, v = .agg (byts n).toArray ∧ n < 256 ^ 32 := by
  obtain ⟨ds, h1, h2, rfl⟩ := in_arr (n := 32) Try.underlying23 Try.underlying5 (by kernel_rfl) (by kernel_rfl) hval h
  refine ⟨val 256 ds, ?_, ?_⟩
  · have := digs_val 256 (by decide) ds h2
    rw [h1] at this
    rw [byts, this]
  · have := val_lt 256 (by decide) ds h2
    rwa [h1] at this

end Go.Proofs.Ytpjkhedodlnloaa
