/- An append to a row of one's own: which block it leaves. -/
import Derived.Test.YtkipejhjpfakpaaOw
namespace Go.Proofs.Ytkipejhjpfakpaa
open Go.RowKit

theorem append_block {P : Program} {w : World} {base : Nat} (t ty e : TypeId) {i : TypeInfo} {z : Value} {bytes : Nat} (ht : P.underlying t = some (.slice e)) (hi : P.info? e = some i) (hz : i.zero = some z)
    (hsize : i.size = 1) (hby : i.bytes = bytes) {v : Value} {n : Nat} {xs : List Value} (hown : w.ownsRow base e 1 v n xs) {vx : Value} {news : List Value} (hx : Sl w vx news)
    (h1 : ∀ u ∈ news, u.oneCell' = true) (h63 : n + news.length ≤ maxLen) (hbytes : (n + news.length) * bytes ≤ 140737488355328) {v' : Value} {w' : World}
    (h : (Builtin.append_ #[t, t] ty #[v, vx]).run P w = .ok v' w') : v'.ownBlock = v.ownBlock ∨ v'.ownBlock = some w.heap.size := by
  have hsmall : n + news.length ≤ 9223372036854775807 := by simp only [maxLen] at h63; omega
  have hl : news.length = news.length * i.size := by rw [hsize, Nat.mul_one]
  obtain ⟨a, cap, rfl, h2, h3, h4, h5⟩ := hx
  cases a with
  | none =>
    obtain rfl := h4 rfl
    have : news = [] := List.eq_nil_of_length_eq_zero (by omega)
    subst this
    have hr := run_append_owned_none (P := P) w base t ty e i 1 ht hi v n xs hown
    simp only [List.length_nil] at h
    rw [hr] at h
    injection h with h6 h7
    exact .inl (by rw [h6])
  | some x =>
    rcases id hown.2 with ⟨rfl, rfl⟩ | ⟨g, c, cur, rfl, hbg, hg, hnc, hcm, hcs, htake⟩
    · by_cases hm : news.length = 0
      · have hn : news = [] := List.eq_nil_of_length_eq_zero hm
        subst hn
        have hr : (Builtin.append_ #[t, t] ty #[.slice none 0 0, .slice (some x) 0 cap]).run P w = .ok (.slice none 0 0) w := by
          simp [Builtin.append_, run_underlying ht, sizeOf, typeInfo, hi, Builtin.lenOf, Builtin.firstCells, loadCells, loadCellsFrom]
        simp only [List.length_nil] at h
        rw [hr] at h
        injection h with h6 h7
        exact .inl (by rw [← h6])
      · have hr := run_append_nil (P := P) w t ty e i z ht hi hz x news.length cap news hl (h5 x rfl) (by omega) (by omega) (by have hb := hbytes; rw [hby]; simp only [Nat.zero_add] at hb; omega)
        rw [hr] at h
        injection h with h6 h7
        exact .inr (by rw [← h6]; rfl)
    · by_cases hroom : n + news.length ≤ c
      · have hr := run_append_room (P := P) w t ty e i ht hi g n c cur hg x news.length cap news hl (h5 x rfl) h1 hroom (by rw [hsize, hcs]; omega)
        rw [hr] at h
        injection h with h6 h7
        exact .inl (by rw [← h6]; rfl)
      · have hr := run_append_grow (P := P) w t ty e i z ht hi hz ⟨g, 0, none⟩ n c xs (by rw [hsize]; exact hown.1) (hown.cells (g := g) rfl) x news.length cap news hl (h5 x rfl) (by omega) (by omega) (growslice_fits (by omega) (by rw [hby]; exact hbytes))
        rw [hr] at h
        injection h with h6 h7
        exact .inr (by rw [← h6]; rfl)

/-- The same as wpList_append_sl, with the block that is left. -/
theorem wpList_append_slb {P : Program} {w : World} {ops : Array Oper} {rest : List Oper} {o : Oper} {a : Act} {Q : Exit → Act → World → Prop} (hgd : o.guard = none) (s x : Operand) (t : TypeId)
    (ho : o.op = .call { callee := .builtin .append, args := #[s, x], argTypes := #[t, t] })
    (base : Nat) (e : TypeId) {i : TypeInfo} {z : Value} {bytes : Nat} (ht : P.underlying t = some (.slice e)) (hi : P.info? e = some i) (hz : i.zero = some z)
    (hsize : i.size = 1) (hby : i.bytes = bytes) (hzs : z.cells.size = 1) (v : Value) (n : Nat) (xs : List Value) (hs : a.eval s = v) (hown : w.ownsRow base e 1 v n xs) (vx : Value) (news : List Value) (hx : a.eval x = vx) (hsl : Sl w vx news)
    (h1 : ∀ u ∈ news, u.oneCell' = true) (h63 : n + news.length ≤ maxLen) (hbytes : (n + news.length) * bytes ≤ 140737488355328) (hbase : base ≤ w.heap.size)
    (h : ∀ v' w', w'.ownsRow base e 1 v' (n + news.length) (xs ++ news) → w.grownBy w' v.ownBlock → (v'.ownBlock = v.ownBlock ∨ v'.ownBlock = some w.heap.size) → wpList P ops Q rest (a.put o.dst v') w') : wpList P ops Q (o :: rest) a w := by
  refine wpList_plain hgd fun K hK => ?_
  obtain ⟨v', w', hr, h2, h3⟩ := run_append_sl (P := P) t o.type e ht hi hz hsize hby hzs hown hsl h1 h63 hbytes hbase
  have h4 := append_block (P := P) t o.type e ht hi hz hsize hby hown hsl h1 h63 hbytes hr
  unfold Oper.wp execOp
  simp only [ho, resolve, invoke, builtin, Sem.run_bind, Sem.run_pure, Result.andThen_ok, List.map_toArray, List.map_cons, List.map_nil, hs, hx, hr]
  exact hK _ _ (h v' w' h2 h3 h4)

end Go.Proofs.Ytkipejhjpfakpaa
