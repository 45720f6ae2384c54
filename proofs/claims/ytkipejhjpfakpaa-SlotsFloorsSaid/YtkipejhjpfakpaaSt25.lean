/- slots: no call lowers the floor, or lets one that is revoked go: plain words; rows of states. -/
import Derived.Test.YtkipejhjpfakpaaSt13
import Derived.Test.YtkipejhjpfakpaaSv1
import Derived.Test.YtkipejhjpfakpaaOb
import Derived.Great.BuildSlice
namespace Go.Proofs.Ytkipejhjpfakpaa
open Go.RowKit

/-- How many are found, behind j. -/
def kk (p j : Nat) : Nat := if j ≤ p then j else j - 1
/-- All of a stand in b, in their order; but for place p there is nothing else in b. -/
structure Gk (a b : List Int) (p : Nat) : Prop where
  len : kk p b.length = a.length
  hit : ∀ j (h : j < b.length), j ≠ p → a[kk p j]? = some b[j]
  no : ∀ h : p < b.length, a[p]? ≠ some b[p]
theorem Gk.refl (a : List Int) : Gk a a a.length := by
  refine ⟨by simp [kk], fun j h _ => ?_, fun h => absurd h (by omega)⟩
  rw [kk, if_pos (by omega), List.getElem?_eq_getElem h]
theorem Gk.ins {a : List Int} {k : Nat} {x : Int} (hk : k ≤ a.length) (hx : x ∉ a) : Gk a (insL a k x) k := by
  have hlen : (insL a k x).length = a.length + 1 := insL_len hk
  have hg : ∀ i, (insL a k x)[i]? = if i < k then a[i]? else if i = k then some x else a[i - 1]? := by
    intro i
    rw [insL, List.getElem?_append, List.length_take, Nat.min_eq_left hk]
    by_cases h : i < k
    · rw [if_pos h, if_pos h, List.getElem?_take_of_lt h]
    · rw [if_neg h, if_neg h]
      by_cases h2 : i = k
      · subst h2
        simp
      · rw [if_neg h2, List.getElem?_cons, if_neg (by omega), List.getElem?_drop]
        congr 1
        omega
  refine ⟨by unfold kk; rw [hlen]; split <;> omega, fun j h hj => ?_, fun h => ?_⟩
  · have e := hg j
    rw [List.getElem?_eq_getElem h] at e
    rw [e]
    unfold kk
    by_cases h1 : j ≤ k
    · rw [if_pos h1, if_pos (by omega)]
    · rw [if_neg h1, if_neg (by omega), if_neg hj]
  · have e := hg k
    rw [List.getElem?_eq_getElem h, if_neg (by omega), if_pos rfl] at e
    injection e with e
    intro h2
    rw [e] at h2
    exact hx (List.mem_of_getElem? h2)
theorem kk_zero (p : Nat) : kk p 0 = 0 := by simp [kk]
theorem kk_at (p : Nat) : kk p (p + 1) = kk p p := by simp [kk]
theorem kk_on {p j : Nat} (h : j ≠ p) : kk p (j + 1) = kk p j + 1 := by
  unfold kk
  split <;> split <;> omega
theorem kk_self (p : Nat) : kk p p = p := by simp [kk]

/-- What is asked of each of them. -/
structure Fls (S D : Stt) : Prop where
  may : mayP D
  flo : S.floor ≤ D.floor
  sub : ∃ p, Gk S.rev D.rev p
theorem Fls.of {S D : Stt} (h : mayP D) (hf : S.floor ≤ D.floor) (hr : D.rev = S.rev) : Fls S D := ⟨h, hf, _, by rw [hr]; exact Gk.refl _⟩

theorem fls_put {S : Stt} {m : List UInt8} (h : mayP S) (hm : m.length = 300) : Fls S (putS S m) := by
  rw [putS_of h hm]
  refine Fls.of (mayP_putC h hm) ?_ ?_
  · unfold putC; split <;> exact Int.le_refl _
  · unfold putC; split <;> rfl
theorem fls_done {S : Stt} (h : mayP S) : Fls S (doneS S) := by
  rw [doneS, chg_of h]
  refine Fls.of (mayP_doneC h) ?_ ?_
  · unfold doneC; split <;> exact Int.le_refl _
  · unfold doneC; split <;> rfl
theorem fls_try {S : Stt} (h : mayP S) : Fls S (tryS S) := by
  rw [tryS, chg_of h]
  refine Fls.of (mayP_tryC h) ?_ ?_
  · unfold tryC; split <;> split <;> exact Int.le_refl _
  · unfold tryC; split <;> split <;> rfl
theorem fls_confirm {S : Stt} {ver : Int} (h : mayP S) : Fls S (confirmS S ver) := by
  rw [confirmS, chg_of h]
  refine Fls.of (mayP_confirmC h) ?_ ?_
  · unfold confirmC
    split <;> split <;> first | exact Int.le_refl _ | exact flo_le
  · unfold confirmC; split <;> split <;> rfl
theorem fls_revoke {S R : Stt} {id : Int} (h : mayP S) (hR : revokeS S id = (R, 0)) : Fls S R := by
  unfold revokeS at hR
  split at hR
  · rename_i hb
    simp only [Bool.and_eq_true] at hb
    split at hR
    · injection hR with h1 h2
      rw [← h1]
      exact Fls.of h (Int.le_refl _) rfl
    · rename_i hc
      split at hR
      · injection hR with h1 h2
        cases h2
      · rename_i hl
        injection hR with h1 h2
        have hx : id ∉ S.rev := by simpa using hc
        have hk : S.rev.countP (fun y => decide (y < id)) ≤ S.rev.length := List.countP_le_length
        obtain ⟨k, hke⟩ : ∃ k, S.rev.countP (fun y => decide (y < id)) = k := ⟨_, rfl⟩
        rw [hke] at h1 hk
        -- rising: those ahead of k are below id, those from k on above it
        have hlow : ∀ i (hi : i < S.rev.length), (i < k ↔ S.rev[i] < id) := by
          obtain ⟨q, hq, hq1, hq2⟩ : ∃ q, q ≤ S.rev.length ∧ (∀ i (h : i < S.rev.length), i < q → S.rev[i] < id) ∧ (∀ i (h : i < S.rev.length), q ≤ i → id < S.rev[i]) := by
            clear hke h1 hk
            have hs : ∀ n, n ≤ S.rev.length → ∃ q, q ≤ n ∧ (∀ i (h : i < S.rev.length), i < q → S.rev[i] < id) ∧ (∀ i (h : i < S.rev.length), i < n → q ≤ i → id < S.rev[i]) := by
              intro n hn
              induction n with
              | zero => exact ⟨0, Nat.le_refl _, fun i _ h => absurd h (by omega), fun i _ h => absurd h (by omega)⟩
              | succ n ih =>
                obtain ⟨q, h1, h2, h3⟩ := ih (by omega)
                by_cases c : S.rev[n]'(by omega) < id
                · refine ⟨n + 1, Nat.le_refl _, fun i hi hq => ?_, fun i hi h4 h5 => absurd h4 (by omega)⟩
                  by_cases e : i = n
                  · subst e; exact c
                  · exact Int.lt_trans (revP_lt h.rev (show i < n by omega) (by omega)) c
                · refine ⟨q, by omega, h2, fun i hi h4 h5 => ?_⟩
                  by_cases e : i = n
                  · subst e
                    have : S.rev[i] ≠ id := fun e => hx (by rw [← e]; exact List.getElem_mem hi)
                    omega
                  · exact h3 i hi (by omega) h5
            obtain ⟨q, h1, h2, h3⟩ := hs S.rev.length (Nat.le_refl _)
            exact ⟨q, h1, h2, fun i hi hq => h3 i hi hi hq⟩
          have e := count_of hq hq1 hq2
          rw [hke] at e
          subst e
          intro i hi
          refine ⟨hq1 i hi, fun h => ?_⟩
          by_cases c : i < k
          · exact c
          · have := hq2 i hi (by omega); omega
        have hlen : (insL S.rev k id).length = S.rev.length + 1 := insL_len hk
        have hg : ∀ i (hi : i < (insL S.rev k id).length), (insL S.rev k id)[i] = if h : i < k then S.rev[i]'(by omega) else if h2 : i = k then id else S.rev[i - 1]'(by omega) := by
          intro i hi
          have hi2 : i < (S.rev.take k ++ id :: S.rev.drop k).length := hi
          show (S.rev.take k ++ id :: S.rev.drop k)[i]'hi2 = _
          rw [List.getElem_append]
          split
          · rename_i h3
            rw [List.length_take] at h3
            rw [dif_pos (by omega), List.getElem_take]
          · rename_i h3
            rw [List.length_take] at h3
            rw [dif_neg (by omega), List.getElem_cons]
            simp only [List.length_take]
            split
            · rename_i h4
              rw [dif_pos (by omega)]
            · rename_i h4
              rw [dif_neg (by omega), List.getElem_drop]
              congr 1
              omega
        rw [← h1]
        refine ⟨⟨h.floor, by show (insL S.rev k id).length ≤ 32; omega, h.lo, h.hi, ?_, h.a0, h.a1, h.s0, h.s1⟩, Int.le_refl _, k, Gk.ins hk hx⟩
        show revP (insL S.rev k id) (insL S.rev k id).length
        intro i hi _
        refine ⟨?_, fun h0 => ?_⟩
        · rw [hg i hi]
          split
          · exact (h.rev i (by omega) (by omega)).1
          · split
            · exact hb.2
            · exact (h.rev (i - 1) (by omega) (by omega)).1
        · rw [hg i hi, hg (i - 1) (by omega)]
          by_cases a : i < k
          · rw [dif_pos a, dif_pos (by omega)]
            exact (h.rev i (by omega) (by omega)).2 h0
          · rw [dif_neg a]
            by_cases b : i = k
            · rw [dif_pos b, dif_pos (by omega)]
              exact (hlow (i - 1) (by omega)).1 (by omega)
            · rw [dif_neg b, dif_neg (by omega)]
              by_cases c : i - 1 = k
              · rw [dif_pos c]
                have h5 := hlow (i - 1) (by omega)
                have h6 : S.rev[i - 1]'(by omega) ≠ id := fun e => hx (by rw [← e]; exact List.getElem_mem _)
                omega
              · rw [dif_neg c]
                exact (h.rev (i - 1) (by omega) (by omega)).2 (by omega)
  · injection hR with h1 h2
    cases h2

theorem sl_shape {w : World} {v : Value} {l : List Int} (h : Sl w v (ints l)) : ∃ a c, v = .slice a l.length c ∧ l.length ≤ c := by
  obtain ⟨a, c, rfl, h2, -⟩ := h
  rw [ints_len] at h2 ⊢
  exact ⟨a, c, rfl, h2⟩
theorem sl_cell {w : World} {a : Option Addr} {n c : Nat} {l : List Int} (h : Sl w (.slice a n c) (ints l)) {j : Nat} (hj : j < l.length) : ∃ b o, a = some ⟨b, o, none⟩ ∧ w.cell? ⟨b, o + j, none⟩ = some (.int .i64 l[j]) := by
  obtain ⟨b, o, h1, -, -, -, h5⟩ := h.at (by rw [ints_len]; omega)
  exact ⟨b, o, h1, h5 j _ (ints_get hj)⟩

/-- The cells of a row of states. -/
def flC (T : List (Stt × Sv)) : List Value := T.flatMap (fun p => p.1.cs p.2)
theorem flC_len : ∀ T : List (Stt × Sv), (flC T).length = T.length * 9
  | [] => rfl
  | p :: T => by
    have := flC_len T
    unfold flC at *
    rw [List.flatMap_cons, List.length_append, this, cs_len, List.length_cons]
    omega
theorem flC_get : ∀ {T : List (Stt × Sv)} {i j : Nat} (hi : i < T.length), j < 9 → (flC T)[i * 9 + j]? = (T[i].1.cs T[i].2)[j]?
  | p :: T, 0, j, _, hj => by
    unfold flC
    rw [List.flatMap_cons, List.getElem?_append_left (by rw [cs_len]; omega)]
    simp
  | p :: T, i + 1, j, hi, hj => by
    have := flC_get (T := T) (i := i) (j := j) (by simpa using hi) hj
    unfold flC at *
    rw [List.flatMap_cons, List.getElem?_append_right (by rw [cs_len]; omega), cs_len, show (i + 1) * 9 + j - 9 = i * 9 + j by omega, this]
    simp
theorem flC_one (T : List (Stt × Sv)) (w : World) (h : ∀ p ∈ T, StOk w p.1 p.2) : ∀ u ∈ flC T, u.oneCell' = true := by
  intro u hu
  unfold flC at hu
  rw [List.mem_flatMap] at hu
  obtain ⟨p, h1, h2⟩ := hu
  exact (h p h1).one u h2
/-- A row of states in memory of its own. -/
def Lst (w : World) (B : Nat) (v : Value) (T : List (Stt × Sv)) : Prop := w.ownsRow B 28 9 v T.length (flC T)
theorem Lst.at {w : World} {B : Nat} {a : Option Addr} {c n : Nat} {T : List (Stt × Sv)} (h : Lst w B (.slice a n c) T) (h0 : 0 < T.length) : n = T.length ∧ ∃ g, a = some ⟨g, 0, none⟩ ∧ B ≤ g ∧ g < w.heap.size := by
  rcases id h.2 with ⟨-, h3⟩ | ⟨g, cap, cur, he, hb, hg, _⟩
  · omega
  · simp only [Value.slice.injEq] at he
    obtain ⟨rfl, rfl, -⟩ := he
    exact ⟨rfl, g, rfl, hb, (Array.getElem?_eq_some_iff.1 hg).1⟩
theorem Lst.cell {w : World} {B g n c : Nat} {T : List (Stt × Sv)} (h : Lst w B (.slice (some ⟨g, 0, none⟩) n c) T) {i j : Nat} {u : Value} (hi : i < T.length) (hj : (T[i].1.cs T[i].2)[j]? = some u) : w.cell? ⟨g, i * 9 + j, none⟩ = some u := by
  have h9 : j < 9 := by have := (List.getElem?_eq_some_iff.1 hj).1; rwa [cs_len] at this
  have hn : n = T.length := by
    rcases id h.2 with ⟨h3, -⟩ | ⟨g', cap, cur, he, _⟩
    · cases h3
    · simp only [Value.slice.injEq] at he
      exact he.2.1
  subst hn
  rw [h.cellAt (i * 9 + j) (by omega), flC_get hi h9, hj]
theorem Lst.range {w : World} {B g n c : Nat} {T : List (Stt × Sv)} (h : Lst w B (.slice (some ⟨g, 0, none⟩) n c) T) {i : Nat} (hi : i < T.length) : w.rangeAt g (i * 9) (T[i].1.cs T[i].2) := fun _ _ hv => h.cell hi hv
theorem Lst.below {w w' : World} {B : Nat} {v : Value} {T : List (Stt × Sv)} (h : Lst w B v T) (hb : Below w.heap.size w w') : Lst w' B v T := own_below h hb
/-- One that has just been laid. -/
theorem Lst.new {w : World} {T : List (Stt × Sv)} {xs : Array Value} {n : Nat} (hx : xs.toList = flC T) (hn : n = T.length) (hm : n ≤ maxLen) : Lst (w.alloc (.cells xs 28)) w.heap.size (.slice (some ⟨w.heap.size, 0, none⟩) n n) T := by
  subst hn
  refine ⟨flC_len T, .inr ⟨w.heap.size, T.length, xs, rfl, Nat.le_refl _, by rw [heap_alloc_new], Nat.le_refl _, hm, ?_, ?_⟩⟩
  · rw [← Array.length_toList, hx, flC_len]
  · rw [hx, ← flC_len T, List.take_length]

theorem info_st : (Try.prog.info? 28).map (fun i => (i.zero, i.size, decide (i.bytes ≤ 1000))) = some (some (.agg #[.int .i64 0, .slice none 0 0, .slice none 0 0, .bool false, .int .i64 0, .slice none 0 0, .bool false, .int .i64 0, .int .i64 0]), 9, true) := by kernel_rfl
theorem info_st' : ∃ i z, Try.prog.info? 28 = some i ∧ i.zero = some z ∧ i.size = 9 ∧ i.bytes ≤ 1000 ∧ z.cells.size = 9 := by
  have h := info_st
  cases hi : Try.prog.info? 28 with
  | none => rw [hi] at h; cases h
  | some i =>
    rw [hi] at h
    simp only [Option.map_some, Option.some.injEq, Prod.mk.injEq] at h
    exact ⟨i, _, rfl, h.1, h.2.1, of_decide_eq_true h.2.2, rfl⟩

section
variable {Q : Exit → Act → World → Prop}
theorem wp_buildT {o : Oper} {a : Act} {w : World} {K : Act → World → Prop} (t : TypeId) (n : Nat) (parts : Array (Nat × Operand)) (ho : o.op = .buildSlice t n parts) (T : List (Stt × Sv)) (hn : n = T.length) (h0 : 0 < T.length) (h9 : T.length ≤ 1000)
    (hu : Try.prog.underlying t = some (.slice 28)) (hf : (parts.map fun (i, x) => (i, a.eval x)).toList = ((T.map fun p => Value.agg (p.1.cs p.2).toArray).zipIdx 0).map fun x => (x.2, x.1))
    (h : K (a.put o.dst (.slice (some ⟨w.heap.size, 0, none⟩) n n)) (w.alloc (.cells (flC T).toArray 28))) : o.wp Try.prog a w K Q := by
  obtain ⟨i, z, h1, h2, h3, -, h5⟩ := info_st'
  subst hn
  refine wp_buildSlice t _ _ parts ho (flC T).toArray i z hu h1 h2 (by rw [h3]; omega) (by rw [h3]; omega) ?_ h
  rw [h3, hf, Great.fill_whole (by decide) _ _ (by intro v hv; obtain ⟨p, -, rfl⟩ := List.mem_map.1 hv; rfl) (by simp)]
  congr 2
  rw [List.flatMap_map]
  rfl
theorem wpList_buildT {ops : Array Oper} {rest : List Oper} {o : Oper} {a : Act} {w : World} (hg : o.guard = none) (t : TypeId) (n : Nat) (parts : Array (Nat × Operand)) (ho : o.op = .buildSlice t n parts) (T : List (Stt × Sv)) (hn : n = T.length) (h0 : 0 < T.length) (h9 : T.length ≤ 1000)
    (hu : Try.prog.underlying t = some (.slice 28)) (hf : (parts.map fun (i, x) => (i, a.eval x)).toList = ((T.map fun p => Value.agg (p.1.cs p.2).toArray).zipIdx 0).map fun x => (x.2, x.1))
    (h : wpList Try.prog ops Q rest (a.put o.dst (.slice (some ⟨w.heap.size, 0, none⟩) n n)) (w.alloc (.cells (flC T).toArray 28))) : wpList Try.prog ops Q (o :: rest) a w :=
  wpList_plain hg fun _ hK => wp_buildT t n parts ho T hn h0 h9 hu hf (hK _ _ h)
theorem wpList_appendT {w : World} {ops : Array Oper} {rest : List Oper} {o : Oper} {a : Act} (hgd : o.guard = none) (s x : Operand) (t : TypeId)
    (ho : o.op = .call { callee := .builtin .append, args := #[s, x], argTypes := #[t, t] })
    (base : Nat) (ht : Try.prog.underlying t = some (.slice 28)) (v : Value) (T : List (Stt × Sv)) (hs : a.eval s = v) (hown : Lst w base v T) (g2 B2 : Nat) (p : Stt × Sv) (hx : a.eval x = .slice (some ⟨g2, 0, none⟩) 1 1) (hl : Lst w B2 (.slice (some ⟨g2, 0, none⟩) 1 1) [p])
    (h1 : ∀ u ∈ p.1.cs p.2, u.oneCell' = true) (hT : T.length ≤ 100) (hbase : base ≤ w.heap.size)
    (h : ∀ v' w', Lst w' base v' (T ++ [p]) → w.grownBy w' v.ownBlock → wpList Try.prog ops Q rest (a.put o.dst v') w') : wpList Try.prog ops Q (o :: rest) a w := by
  refine wpList_plain hgd fun K hK => ?_
  obtain ⟨i, z, i1, i2, i3, i4, i5⟩ := info_st'
  have hfl : flC [p] = p.1.cs p.2 := by simp [flC]
  obtain ⟨v', w', hr, h2, h3, -⟩ := run_append_own (P := Try.prog) w base t o.type 28 i z 9 i.bytes ht i1 i2 i3 rfl i5 (by decide) v T.length (flC T) hown ⟨g2, 0, none⟩ 1 1 (flC [p]) (by rw [flC_len]; rfl)
    (World.ownsRow.cells hl (g := g2) rfl) (by rw [hfl]; exact h1) (by unfold maxLen; omega) (by
      have : (T.length + 1) * i.bytes ≤ 101 * 1000 := Nat.mul_le_mul (by omega) i4
      omega) hbase
  have h4 : Lst w' base v' (T ++ [p]) := by
    have e : flC (T ++ [p]) = flC T ++ flC [p] := by simp [flC]
    unfold Lst
    rw [List.length_append, e]
    exact h2
  unfold Oper.wp execOp
  simp only [ho, resolve, invoke, builtin, Sem.run_bind, Sem.run_pure, Result.andThen_ok, List.map_toArray, List.map_cons, List.map_nil, hs, hx, hr]
  exact hK _ _ (h v' w' h4 h3)
end

end Go.Proofs.Ytkipejhjpfakpaa
