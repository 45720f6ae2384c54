/- What comes in: slices of bytes, of numbers, of slices of bytes, as the model reads them. -/
import Derived.Test.YtpjkhedodlnloaaMem
import Derived.ProofKit
import Derived.OpenShut
import Derived.Deep.Matrix
namespace Go.Proofs.Ytpjkhedodlnloaa
open Go.RowKit Go.ChangeShapes Go.WideShapes

theorem wf_u8 {n : Int} (h : (Lit.int .u8 n).wf = true) : 0 ≤ n ∧ n ≤ 255 := by
  have := bounds_u8 h
  omega

/-- Bytes out of numbers that fit. -/
theorem bytes_of (zs : List Int) (h : ∀ n ∈ zs, (Lit.int .u8 n).wf = true) : ∃ bs : List UInt8, zs.map (Value.int .u8) = u8s bs ∧ bs.length = zs.length := by
  refine ⟨zs.map fun n => UInt8.ofNat n.toNat, ?_, by simp⟩
  simp only [u8s, List.map_map]
  apply List.map_congr_left
  intro n hn
  have := wf_u8 (h n hn)
  simp
  omega

section
variable {H : Type} {enc : TypeId × Value → H} {P : Program} {w : World}

theorem in_bytes {t e : TypeId} {a : Option Addr} {len cap : Nat} {d : DataW H} {p : List MemPlace} (ht : P.underlying t = some (.slice e)) (he : P.underlying e = some (.int .u8)) (hc : P.cellsOf e = 1)
    (h : DataW.Trod enc P w 0 (fun _ => true) true t (.slice a len cap) d p) : ∃ bs : List UInt8, len = bs.length ∧ Sl w (.slice a bs.length cap) (u8s bs) := by
  obtain ⟨fuel, hf⟩ := h
  rcases open_ints ht he hc hf with ⟨hcs, _⟩ | ⟨x, l, c, zs, hcs, _, hl, hm, hz, _, hcell, hwz⟩
  · simp [Value.cells] at hcs
    obtain ⟨rfl, rfl, rfl⟩ := hcs
    exact ⟨[], rfl, Sl.nil w⟩
  · simp [Value.cells] at hcs
    obtain ⟨rfl, rfl, rfl⟩ := hcs
    have hz' : zs.length = cap := by simpa using hz
    obtain ⟨bs, hb1, hb2⟩ := bytes_of (zs.take len) (fun n hn => hwz n (List.mem_of_mem_take hn))
    have hlen : bs.length = len := by rw [hb2, List.length_take]; omega
    refine ⟨bs, hlen.symm, some x, cap, by rw [u8s_len], by rw [u8s_len]; omega, hm, fun h => (by cases h), fun y hy => ?_⟩
    cases hy
    intro j u hu
    rw [← hb1] at hu
    have hj : j < len := by
      have := (List.getElem?_eq_some_iff.1 hu).1
      simp at this; omega
    have h1 := hcell j (by omega)
    rw [h1]
    rw [List.getElem?_map, List.getElem?_take, if_pos hj, List.getElem?_eq_getElem (by omega)] at hu
    simpa [List.getD, List.getElem?_eq_getElem (show j < zs.length by omega)] using hu

theorem in_ints {t e : TypeId} {a : Option Addr} {len cap : Nat} {d : DataW H} {p : List MemPlace} (ht : P.underlying t = some (.slice e)) (he : P.underlying e = some (.int .i64)) (hc : P.cellsOf e = 1)
    (h : DataW.Trod enc P w 0 (fun _ => true) true t (.slice a len cap) d p) : ∃ ns : List Int, len = ns.length ∧ Sl w (.slice a ns.length cap) (ns.map (.int .i64)) ∧ ∀ n ∈ ns, (Lit.int .i64 n).wf = true := by
  obtain ⟨fuel, hf⟩ := h
  rcases open_ints ht he hc hf with ⟨hcs, _⟩ | ⟨x, l, c, zs, hcs, _, hl, hm, hz, _, hcell, hwz⟩
  · simp [Value.cells] at hcs
    obtain ⟨rfl, rfl, rfl⟩ := hcs
    exact ⟨[], rfl, Sl.nil w, by simp⟩
  · simp [Value.cells] at hcs
    obtain ⟨rfl, rfl, rfl⟩ := hcs
    have hz' : zs.length = cap := by simpa using hz
    have hlen : (zs.take len).length = len := by rw [List.length_take]; omega
    refine ⟨zs.take len, hlen.symm, ⟨some x, cap, by rw [List.length_map], by rw [List.length_map]; omega, hm, fun h => (by cases h), fun y hy => ?_⟩, fun n hn => hwz n (List.mem_of_mem_take hn)⟩
    cases hy
    intro j u hu
    have hj : j < len := by
      have := (List.getElem?_eq_some_iff.1 hu).1
      simp at this; omega
    have h1 := hcell j (by omega)
    rw [h1]
    rw [List.getElem?_map, List.getElem?_take, if_pos hj, List.getElem?_eq_getElem (by omega)] at hu
    simpa [List.getD, List.getElem?_eq_getElem (show j < zs.length by omega)] using hu

theorem in_rows {t e q : TypeId} {a : Option Addr} {len cap : Nat} {d : DataW H} {p : List MemPlace} (ht : P.underlying t = some (.slice e)) (he : P.underlying e = some (.slice q)) (hq : P.underlying q = some (.int .u8)) (hc : P.cellsOf e = 1) (hcq : P.cellsOf q = 1)
    (h : DataW.Trod enc P w 0 (fun _ => true) true t (.slice a len cap) d p) : ∃ ls : List (List UInt8), len = ls.length ∧ Sls w (.slice a ls.length cap) ls := by
  obtain ⟨fuel, hf⟩ := h
  rcases Deep.open_int_rows ht he hq hc hcq hf with ⟨hcs, _⟩ | ⟨x, l, c, A, L, C, Z, hcs, _, hl, hm, _, hrow⟩
  · simp [Value.cells] at hcs
    obtain ⟨rfl, rfl, rfl⟩ := hcs
    exact ⟨[], rfl, [], Sl.nil w, rfl, fun j a b h => by simp at h⟩
  · simp [Value.cells] at hcs
    obtain ⟨rfl, rfl, rfl⟩ := hcs
    have each : ∀ r, r < cap → ∃ bs : List UInt8, bs.length = L r ∧ Sl w (.slice (A r) (L r) (C r)) (u8s bs) := by
      intro r hr
      obtain ⟨_, h2, h3, h4, h5, h6, h7⟩ := hrow r hr
      obtain ⟨bs, hb1, hb2⟩ := bytes_of ((Z r).take (L r)) (fun n hn => h5 n (List.mem_of_mem_take hn))
      have hlen : bs.length = L r := by rw [hb2, List.length_take]; omega
      refine ⟨bs, hlen, A r, C r, by rw [u8s_len, hlen], by rw [u8s_len]; omega, h3, h6, fun y hy => ?_⟩
      intro j u hu
      rw [← hb1] at hu
      have hj : j < L r := by
        have := (List.getElem?_eq_some_iff.1 hu).1
        simp at this; omega
      rw [(h7 y hy).2 j (by omega)]
      rw [List.getElem?_map, List.getElem?_take, if_pos hj, List.getElem?_eq_getElem (by omega)] at hu
      simpa [List.getD, List.getElem?_eq_getElem (show j < (Z r).length by omega)] using hu
    have pickB : ∃ B : Nat → List UInt8, ∀ r, r < cap → (B r).length = L r ∧ Sl w (.slice (A r) (L r) (C r)) (u8s (B r)) := by
      refine ⟨fun r => if h : r < cap then Classical.choose (each r h) else [], fun r hr => ?_⟩
      simp only [hr, dif_pos]
      exact Classical.choose_spec (each r hr)
    obtain ⟨B, hB⟩ := pickB
    refine ⟨(List.range len).map B, by simp, (List.range len).map (fun r => Value.slice (A r) (L r) (C r)), ?_, by simp, ?_⟩
    · refine ⟨some x, cap, by simp, by simpa using hl, hm, fun h => (by cases h), fun y hy => ?_⟩
      cases hy
      intro j u hu
      have hj : j < len := by
        have := (List.getElem?_eq_some_iff.1 hu).1
        simpa using this
      rw [(hrow j (by omega)).1]
      simpa [List.getElem?_map, List.getElem?_range hj] using hu
    · intro j u b hu hb
      have hj : j < len := by
        have := (List.getElem?_eq_some_iff.1 hu).1
        simpa using this
      simp only [List.getElem?_map, List.getElem?_range hj, Option.map_some, Option.some.injEq] at hu hb
      subst hu; subst hb
      exact (hB j (by omega)).2

end
end Go.Proofs.Ytpjkhedodlnloaa
