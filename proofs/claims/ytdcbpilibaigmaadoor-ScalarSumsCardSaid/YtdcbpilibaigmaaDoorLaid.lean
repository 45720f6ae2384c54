/- A listed package-level variable, an array of integers: its block, whole. -/
import Derived.Test.YtdcbpilibaigmaaDoorAr
import Derived.Lib.LaidTab
import Derived.MakeChecks
namespace Go.Proofs.YtdcbpilibaigmaaDoor
open Go.RowKit

theorem arr_of_laid {P : Program} {W : World} {name : String} {k : IntKind} {zs : List Int} {g n : Nat} {t e : TypeId}
    (hp : (([(name, Lib.tabData k zs)] : List (String × DataW Unit)).all fun x => x.2.handleName?.isNone) = true)
    (hg : P.globalNamed name = some g) (hty : (P.globals[g]?).map (·.type) = some t) (ht : P.underlying t = some (.array n e)) (he : P.underlying e = some (.int k)) (hce : P.cellsOf e = 1) (hct : P.cellsOf t = n) (hz : 0 < zs.length)
    (h : laidMetH P [(name, Lib.tabData k zs)] W) : Arr W g (zs.map fun z => .int k z) := by
  rw [MakeChecks.laidMetH_plain _ _ _ hp] at h
  have h0 := Lib.tabIs_of_head hg hty ht he hce hct h
  obtain ⟨ps, ⟨g', t', cs, fuel, p, q, hg', ht', hvar, hd, _, rfl⟩, _, hpl⟩ := h
  obtain rfl := Option.some.inj (hg.symm.trans hg')
  unfold Lib.TabIs at h0
  obtain rfl := Option.some.inj (hvar.symm.trans h0)
  have hm : MemPlace.cell g 0 ∈ MemPlace.row ⟨g, 0, none⟩ (zs.map fun z => Value.int k z).toArray.size ++ p ++ q := by
    refine List.mem_append_left _ (List.mem_append_left _ ?_)
    simp [MemPlace.row]
    exact hz
  obtain ⟨⟨c, t2, hb⟩, _⟩ := hpl g 0 hm
  simp only [World.var?, hg, Option.bind_some, hb] at h0
  exact ⟨t2, by rw [hb, Option.some.inj h0]⟩

end Go.Proofs.YtdcbpilibaigmaaDoor
