/- The reference's cursor: Raw. -/
import Derived.Test.YtkipejhjpfakpaaCu5
import Derived.Test.YtkipejhjpfakpaaAr
namespace Go.Proofs.Ytkipejhjpfakpaa
open Go.RowKit

theorem Sl.mid {w : World} {a : Option Addr} {n c k m : Nat} {bs : List UInt8} (h : Sl w (.slice a n c) (u8s bs)) (hk : k + m ≤ bs.length) : Sl w (.slice (if c = k then a else a.map (·.add k)) m (c - k)) (u8s ((bs.drop k).take m)) := by
  obtain ⟨a', c', h1, h2, h3, h4, h5⟩ := h
  simp only [Value.slice.injEq] at h1
  obtain ⟨rfl, rfl, rfl⟩ := h1
  rw [u8s_len] at h2
  have hl : ((bs.drop k).take m).length = m := by simp only [List.length_take, List.length_drop]; omega
  refine ⟨_, c - k, by rw [u8s_len, hl], by rw [u8s_len, hl]; omega, by omega, fun e => ?_, fun x hx j u hu => ?_⟩
  · split at e
    · have := h4 e; omega
    · cases a with
      | none => have := h4 rfl; omega
      | some y => cases e
  · have hj : j < m := by
      have := (List.getElem?_eq_some_iff.1 hu).1
      rwa [u8s_len, hl] at this
    rw [if_neg (by omega)] at hx
    cases a with
    | none => cases hx
    | some y =>
      simp only [Option.map_some, Option.some.injEq] at hx
      subst hx
      rw [Addr.add_add]
      refine h5 y rfl (k + j) u ?_
      rw [← hu]
      simp [u8s, hj]

/-- The reference's cursor in block g over the bytes bs that v holds: what is left, and whether it is bad. -/
def RCur (w : World) (g : Nat) (v : Value) (bs rest : List UInt8) (bad : Bool) : Prop :=
  ∃ k : Nat, k ≤ bs.length ∧ rest = (if bad = true then [] else bs.drop k) ∧ w.cell? ⟨g, 0, none⟩ = some v ∧ w.cell? ⟨g, 1, none⟩ = some (.int .i64 k) ∧ w.cell? ⟨g, 2, none⟩ = some (.bool bad) ∧
    w.frozen? ⟨g, 1, none⟩ = false ∧ w.frozen? ⟨g, 2, none⟩ = false ∧ Sl w v (u8s bs) ∧ (0 < bs.length → ∀ a n c, v = .slice (some a) n c → a.block < g)

theorem RCur.lt {w : World} {g : Nat} {v : Value} {bs rest : List UInt8} {bad : Bool} (h : RCur w g v bs rest bad) : g < w.heap.size := by
  obtain ⟨k, -, -, h1, _⟩ := h
  exact World.block_lt_of_cell? w _ h1

theorem RCur.below {w w' : World} {g : Nat} {v : Value} {bs rest : List UInt8} {bad : Bool} (h : RCur w g v bs rest bad) (hg : Below w.heap.size w w') : RCur w' g v bs rest bad := by
  have hlt := h.lt
  obtain ⟨k, h1, h2, h3, h4, h5, h6, h7, h8, h9⟩ := h
  exact ⟨k, h1, h2, by rw [hg.cell (p := ⟨g, 0, none⟩) hlt]; exact h3, by rw [hg.cell (p := ⟨g, 1, none⟩) hlt]; exact h4, by rw [hg.cell (p := ⟨g, 2, none⟩) hlt]; exact h5,
    by rw [hg.frozen (p := ⟨g, 1, none⟩) hlt]; exact h6, by rw [hg.frozen (p := ⟨g, 2, none⟩) hlt]; exact h7, h8.below hg, h9⟩

/-- Its bytes, in a world in which block g alone is written. -/
theorem Sl.kept {w w' : World} {g : Nat} {v : Value} {xs : List Value} (h : Sl w v xs) (hg : w.grownBy w' (some g)) (hv : 0 < xs.length → ∀ a n c, v = .slice (some a) n c → a.block < g) : Sl w' v xs := by
  obtain ⟨a, c, rfl, h2, h3, h4, h5⟩ := h
  refine ⟨a, c, rfl, h2, h3, h4, fun x hx j u hu => ?_⟩
  subst hx
  have hj := (List.getElem?_eq_some_iff.1 hu).1
  have := hv (by omega) x _ _ rfl
  refine hg.cell (h5 x rfl j u hu) ?_
  have e : (x.add j).block = x.block := by unfold Addr.add; split <;> rfl
  simp only [ne_eq, Option.some.injEq]
  rw [e]
  omega

theorem RCur.mk_set {w : World} {g k k' : Nat} {v : Value} {bs : List UInt8} (hk : k' ≤ bs.length) (h0 : w.cell? ⟨g, 0, none⟩ = some v) (h1 : w.cell? ⟨g, 1, none⟩ = some (.int .i64 k)) (h2 : w.cell? ⟨g, 2, none⟩ = some (.bool false))
    (f1 : w.frozen? ⟨g, 1, none⟩ = false) (f2 : w.frozen? ⟨g, 2, none⟩ = false) (hs : Sl w v (u8s bs)) (hv : 0 < bs.length → ∀ a n c, v = .slice (some a) n c → a.block < g) : RCur (w.setCell ⟨g, 1, none⟩ (.int .i64 k')) g v bs (bs.drop k') false := by
  refine ⟨k', hk, rfl, ?_, ?_, ?_, ?_, ?_, hs.kept (grownBy_set (World.grownBy.refl _ _)) (by rw [u8s_len]; exact hv), hv⟩
  · rw [World.cell?_setCell_other _ _ _ _ (by simp)]; exact h0
  · rw [World.cell?_setCell_same _ _ _ h1]
  · rw [World.cell?_setCell_other _ _ _ _ (by simp)]; exact h2
  · rw [World.frozen?_setCell]; exact f1
  · rw [World.frozen?_setCell]; exact f2

theorem RCur.mk_bad {w : World} {g k : Nat} {bad : Bool} {v : Value} {bs : List UInt8} (hk : k ≤ bs.length) (h0 : w.cell? ⟨g, 0, none⟩ = some v) (h1 : w.cell? ⟨g, 1, none⟩ = some (.int .i64 k)) (h2 : w.cell? ⟨g, 2, none⟩ = some (.bool bad))
    (f1 : w.frozen? ⟨g, 1, none⟩ = false) (f2 : w.frozen? ⟨g, 2, none⟩ = false) (hs : Sl w v (u8s bs)) (hv : 0 < bs.length → ∀ a n c, v = .slice (some a) n c → a.block < g) : RCur (w.setCell ⟨g, 2, none⟩ (.bool true)) g v bs [] true := by
  refine ⟨k, hk, rfl, ?_, ?_, ?_, ?_, ?_, hs.kept (grownBy_set (World.grownBy.refl _ _)) (by rw [u8s_len]; exact hv), hv⟩
  · rw [World.cell?_setCell_other _ _ _ _ (by simp)]; exact h0
  · rw [World.cell?_setCell_other _ _ _ _ (by simp)]; exact h1
  · rw [World.cell?_setCell_same _ _ _ h2]
  · rw [World.frozen?_setCell]; exact f1
  · rw [World.frozen?_setCell]; exact f2

/-- A method's end: a list of bytes of its own, the cursor's block alone written. -/
def RPost (w : World) (g : Nat) (vb : Value) (bs : List UInt8) (r : List UInt8 × List UInt8 × Bool) (e : Ending) (w' : World) : Prop :=
  ∃ v, e = .returned v ∧ w'.ownsRow w.heap.size 5 1 v r.1.length (u8s r.1) ∧ w.grownBy w' (some g) ∧ RCur w' g vb bs r.2.1 r.2.2

theorem ref_bad (g : Nat) (vb : Value) (bs rest : List UInt8) (n : Int) (w : World) (hc : RCur w g vb bs rest true) :
    Calls Try.prog 58 #[.pointer (some ⟨g, 0, none⟩), .int .i64 n] w (RPost w g vb bs ([], [], true)) := by
  obtain ⟨k, hk, -, h0, h1, h2, f1, f2, hs, hv⟩ := hc
  obtain ⟨a, c, rfl, hcap⟩ := hs.shape
  have hs' := Lib.hid hs
  have hv' := Lib.hid hv
  clear hs hv
  go_enter Try.func58, Try.ntmps58
  go_wp2_with fail
  refine Txt.start ((Below w.heap.size w)) 22 rfl (by kernel_rfl) ?_
  refine Txt.seg (A := ?_) 0 4194303 (by kernel_rfl) (by exact (Below.refl _ _).drew) [0, 1, 2, 3, 4, 5, 6, 7, 8, 9, 10, 11, 12, 13, 14, 15, 16, 17, 18, 19, 20, 21] (by kernel_rfl) ?_ ?_
  rotate_left
  · intro w' hB
    have hlt := World.block_lt_of_cell? w _ h0
    have e2 : w'.cell? ⟨g, 2, none⟩ = some (.bool true) := by rw [hB.cell (p := ⟨g, 2, none⟩) hlt]; exact h2
    iterate 22 (first | (refine rd_skip rfl rfl ?_; simp only [Act.put, List.setIfInBounds_toArray, List.set_cons_zero, List.set_cons_succ]) | fail | (refine rd_take (v := ?_) rfl rfl ?_ ?_; rotate_left; (focus (go_simp; try (with_reducible rfl))); simp only [Act.put, List.setIfInBounds_toArray, List.set_cons_zero, List.set_cons_succ]) | (refine rd_take (v := ?_) rfl rfl ?_ ?_; rotate_left; (focus (try go_simp); fail)))
    exact rd_nil
  refine Txt.done (by kernel_rfl) ?_
  have h0' : w.drew.cell? ⟨g, 0, none⟩ = _ := h0
  have h1' : w.drew.cell? ⟨g, 1, none⟩ = _ := h1
  have h2' : w.drew.cell? ⟨g, 2, none⟩ = _ := h2
  have f2' : w.drew.frozen? ⟨g, 2, none⟩ = false := f2
  have f1' : w.drew.frozen? ⟨g, 1, none⟩ = false := f1
  clear h0 h1 h2 f1 f2
  go_wp2_with fail
  try rw [Exit.noGoto_ret]
  go_ret
  exact ⟨_, rfl, World.ownsRow_nil _ _ _ _, grownBy_set (below_grownBy (Below.refl _ _).drew _), RCur.mk_bad hk h0' h1' h2' f1' f2' (hs'.out.below (w' := w.drew) (Below.refl _ _).drew) hv'.out⟩

theorem ref_no (g : Nat) (vb : Value) (bs rest : List UInt8) (n : Int) (w : World) (hc : RCur w g vb bs rest false) (hn : n < 0 ∨ (rest.length : Int) < n) :
    Calls Try.prog 58 #[.pointer (some ⟨g, 0, none⟩), .int .i64 n] w (RPost w g vb bs ([], [], true)) := by
  obtain ⟨k, hk, hrest, h0, h1, h2, f1, f2, hs, hv⟩ := hc
  obtain ⟨a, c, rfl, hcap⟩ := hs.shape
  have hlen := hs.len
  rw [u8s_len] at hlen
  unfold maxLen at hlen
  have hs' := Lib.hid hs
  have hv' := Lib.hid hv
  clear hs hv
  have hl : rest.length = bs.length - k := by rw [hrest]; simp
  clear hrest
  have hlt := World.block_lt_of_cell? w _ h0
  have h0' : w.drew.cell? ⟨g, 0, none⟩ = _ := h0
  have h1' : w.drew.cell? ⟨g, 1, none⟩ = _ := h1
  have h2' : w.drew.cell? ⟨g, 2, none⟩ = _ := h2
  have f2' : w.drew.frozen? ⟨g, 2, none⟩ = false := f2
  have f1' : w.drew.frozen? ⟨g, 1, none⟩ = false := f1
  have ew : IntKind.i64.wrap ((bs.length : Int) - (k : Int)) = (bs.length : Int) - (k : Int) := i64_in (by omega)
  by_cases hneg : n < 0
  · have d1 : decide (n < 0) = true := by simp; exact hneg
    clear hn
    go_enter Try.func58, Try.ntmps58
    go_wp2_with fail
    refine Txt.start ((Below w.heap.size w)) 22 rfl (by kernel_rfl) ?_
    refine Txt.seg (A := ?_) 0 4194303 (by kernel_rfl) (by exact (Below.refl _ _).drew) [0, 1, 2, 3, 4, 5, 6, 7, 8, 9, 10, 11, 12, 13, 14, 15, 16, 17, 18, 19, 20, 21] (by kernel_rfl) ?_ ?_
    rotate_left
    · intro w' hB
      have e2 : w'.cell? ⟨g, 2, none⟩ = some (.bool false) := by rw [hB.cell (p := ⟨g, 2, none⟩) hlt]; exact h2
      iterate 22 (first | (refine rd_skip rfl rfl ?_; simp only [Act.put, List.setIfInBounds_toArray, List.set_cons_zero, List.set_cons_succ]) | fail | (refine rd_take (v := ?_) rfl rfl ?_ ?_; rotate_left; (focus (go_simp; try (with_reducible rfl))); simp only [Act.put, List.setIfInBounds_toArray, List.set_cons_zero, List.set_cons_succ]) | (refine rd_take (v := ?_) rfl rfl ?_ ?_; rotate_left; (focus (try go_simp); fail)))
      exact rd_nil
    refine Txt.done (by kernel_rfl) ?_
    clear h0 h1 h2 f1 f2
    go_wp2_with fail
    try rw [Exit.noGoto_ret]
    go_ret
    exact ⟨_, rfl, World.ownsRow_nil _ _ _ _, grownBy_set (below_grownBy (Below.refl _ _).drew _), RCur.mk_bad hk h0' h1' h2' f1' f2' (hs'.out.below (w' := w.drew) (Below.refl _ _).drew) hv'.out⟩
  · have d1 : decide (n < 0) = false := by simp; omega
    have d2 : decide ((bs.length : Int) - (k : Int) < n) = true := by simp; omega
    clear hn
    go_enter Try.func58, Try.ntmps58
    go_wp2_with fail
    refine Txt.start ((Below w.heap.size w)) 22 rfl (by kernel_rfl) ?_
    refine Txt.seg (A := ?_) 0 4194303 (by kernel_rfl) (by exact (Below.refl _ _).drew) [0, 1, 2, 3, 4, 5, 6, 7, 8, 9, 10, 11, 12, 13, 14, 15, 16, 17, 18, 19, 20, 21] (by kernel_rfl) ?_ ?_
    rotate_left
    · intro w' hB
      have e2 : w'.cell? ⟨g, 2, none⟩ = some (.bool false) := by rw [hB.cell (p := ⟨g, 2, none⟩) hlt]; exact h2
      have e3 : w'.cell? ⟨g, 0, none⟩ = some (.slice a bs.length c) := by rw [hB.cell (p := ⟨g, 0, none⟩) hlt]; exact h0
      have e4 : w'.cell? ⟨g, 1, none⟩ = some (.int .i64 k) := by rw [hB.cell (p := ⟨g, 1, none⟩) hlt]; exact h1
      iterate 22 (first | (refine rd_skip rfl rfl ?_; simp only [Act.put, List.setIfInBounds_toArray, List.set_cons_zero, List.set_cons_succ]) | fail | (refine rd_take (v := ?_) rfl rfl ?_ ?_; rotate_left; (focus (go_simp; try (with_reducible rfl))); simp only [Act.put, List.setIfInBounds_toArray, List.set_cons_zero, List.set_cons_succ]) | (refine rd_take (v := ?_) rfl rfl ?_ ?_; rotate_left; (focus (try go_simp); fail)))
      exact rd_nil
    refine Txt.done (by kernel_rfl) ?_
    clear h0 h1 h2 f1 f2
    go_wp2_with fail
    try rw [Exit.noGoto_ret]
    go_ret
    exact ⟨_, rfl, World.ownsRow_nil _ _ _ _, grownBy_set (below_grownBy (Below.refl _ _).drew _), RCur.mk_bad hk h0' h1' h2' f1' f2' (hs'.out.below (w' := w.drew) (Below.refl _ _).drew) hv'.out⟩

theorem ref_ok (g m : Nat) (vb : Value) (bs rest : List UInt8) (w : World) (hc : RCur w g vb bs rest false) (hm : m ≤ rest.length) (hr : bs.length ≤ 140737488355328) :
    Calls Try.prog 58 #[.pointer (some ⟨g, 0, none⟩), .int .i64 m] w (RPost w g vb bs (rest.take m, rest.drop m, false)) := by
  obtain ⟨i, hi, hz0, hz1, hz2⟩ := info_parts info_u8
  obtain ⟨k, hk, hrest, h0, h1, h2, f1, f2, hs, hv⟩ := hc
  obtain ⟨a, c, rfl, hcap⟩ := hs.shape
  have hlen := hs.len
  rw [u8s_len] at hlen
  unfold maxLen at hlen
  have hs' := Lib.hid hs
  have hv' := Lib.hid hv
  clear hs hv
  have hrest' : rest = bs.drop k := by simpa using hrest
  clear hrest
  have hrest := hrest'
  clear hrest'
  have hl : rest.length = bs.length - k := by rw [hrest]; simp
  have hlt := World.block_lt_of_cell? w _ h0
  have h0' : w.drew.cell? ⟨g, 0, none⟩ = _ := h0
  have h1' : w.drew.cell? ⟨g, 1, none⟩ = _ := h1
  have h2' : w.drew.cell? ⟨g, 2, none⟩ = _ := h2
  have f2' : w.drew.frozen? ⟨g, 2, none⟩ = false := f2
  have f1' : w.drew.frozen? ⟨g, 1, none⟩ = false := f1
  have ew : IntKind.i64.wrap ((bs.length : Int) - (k : Int)) = (bs.length : Int) - (k : Int) := i64_in (by omega)
  have d1 : decide ((m : Int) < 0) = false := by simp
  have d2 : decide ((bs.length : Int) - (k : Int) < (m : Int)) = false := by simp; omega
  go_enter Try.func58, Try.ntmps58
  go_wp2_with fail
  refine Txt.start ((Below w.heap.size w)) 22 rfl (by kernel_rfl) ?_
  refine Txt.seg (A := ?_) 0 4194303 (by kernel_rfl) (by exact (Below.refl _ _).drew) [0, 1, 2, 3, 4, 5, 6, 7, 8, 9, 10, 11, 12, 13, 14, 15, 16, 17, 18, 19, 20, 21] (by kernel_rfl) ?_ ?_
  rotate_left
  · intro w' hB
    have e2 : w'.cell? ⟨g, 2, none⟩ = some (.bool false) := by rw [hB.cell (p := ⟨g, 2, none⟩) hlt]; exact h2
    have e3 : w'.cell? ⟨g, 0, none⟩ = some (.slice a bs.length c) := by rw [hB.cell (p := ⟨g, 0, none⟩) hlt]; exact h0
    have e4 : w'.cell? ⟨g, 1, none⟩ = some (.int .i64 k) := by rw [hB.cell (p := ⟨g, 1, none⟩) hlt]; exact h1
    iterate 22 (first | (refine rd_skip rfl rfl ?_; simp only [Act.put, List.setIfInBounds_toArray, List.set_cons_zero, List.set_cons_succ]) | fail | (refine rd_take (v := ?_) rfl rfl ?_ ?_; rotate_left; (focus (go_simp; try (with_reducible rfl))); simp only [Act.put, List.setIfInBounds_toArray, List.set_cons_zero, List.set_cons_succ]) | (refine rd_take (v := ?_) rfl rfl ?_ ?_; rotate_left; (focus (try go_simp); fail)))
    exact rd_nil
  refine Txt.done (by kernel_rfl) ?_
  clear d1 d2
  have j0 : (0 : Int) ≤ (k : Int) := by omega
  have j1 : (k : Int) ≤ (k : Int) + (m : Int) := by omega
  have j2 : (k : Int) + (m : Int) ≤ (c : Int) := by omega
  have ew2 : IntKind.i64.wrap ((k : Int) + (m : Int)) = (k : Int) + (m : Int) := i64_in (by omega)
  have ej : ((k : Int) + (m : Int)).toNat - k = m := by omega
  have hmid := Lib.hid (hs'.out.mid (k := k) (m := m) (by omega))
  go_wp2_with fail
  refine Txt.start ((Below w.heap.size w)) 17 rfl (by kernel_rfl) ?_
  refine Txt.seg (A := ?_) 2 32767 (by kernel_rfl) (by exact (Below.refl _ _).drew.drew) [0, 1, 2, 3, 4, 5, 6, 7, 8, 9, 10, 11, 12, 13, 14] (by kernel_rfl) ?_ ?_
  rotate_left
  · intro w' hB
    have e3 : w'.cell? ⟨g, 0, none⟩ = some (.slice a bs.length c) := by rw [hB.cell (p := ⟨g, 0, none⟩) hlt]; exact h0
    have e4 : w'.cell? ⟨g, 1, none⟩ = some (.int .i64 k) := by rw [hB.cell (p := ⟨g, 1, none⟩) hlt]; exact h1
    iterate 15 (first | (refine rd_skip rfl rfl ?_; simp only [Act.put, List.setIfInBounds_toArray, List.set_cons_zero, List.set_cons_succ]) | fail | (refine rd_take (v := ?_) rfl rfl ?_ ?_; rotate_left; (focus (go_simp; try (with_reducible rfl))); simp only [Act.put, List.setIfInBounds_toArray, List.set_cons_zero, List.set_cons_succ]) | (refine rd_take (v := ?_) rfl rfl ?_ ?_; rotate_left; (focus (try go_simp); fail)))
    exact rd_nil
  refine Txt.eff 15 65535 rfl (by decide +kernel) (fun K hK => ?_)
  refine step_append_sl (by rfl) (.const (.slice none 0 0)) (.tmp 45) 23 (by rfl) w.heap.size 5 Try.underlying23 hi hz0 hz1 hz2 rfl (.slice none 0 0) 0 [] (by rfl) (World.ownsRow_nil _ _ _ _) _ (u8s ((bs.drop k).take m)) (by rfl) (hmid.out.below (w := w) (Below.refl _ _).drew.drew) (u8s_one _) ?c2 ?c3 (Nat.le_refl _) ?_
  case c2 => unfold maxLen; rw [u8s_len]; simp only [List.length_take, List.length_drop]; omega
  case c3 => rw [u8s_len]; simp only [List.length_take, List.length_drop]; omega
  intro v1 w1 hown hg
  have hl2 : ((bs.drop k).take m).length = m := by simp only [List.length_take, List.length_drop]; omega
  have hown' : Hid (w1.ownsRow w.heap.size 5 1 v1 m (u8s (rest.take m))) := by
    show w1.ownsRow _ _ _ _ _ _
    rw [hrest]
    simpa [u8s_len, hl2] using hown
  have hb1 : Below w.heap.size w w1 := ((Below.refl _ _).drew.drew).grown hg (Nat.le_refl _) (fun k hk => by simp [Value.ownBlock] at hk)
  clear hown hg
  have hrest' := Lib.hid hrest
  clear hrest
  refine hK (Below w.heap.size w) _ _ hb1 (fun w'' h => h) ?_
  clear hK
  try simp only [Act.put, List.setIfInBounds_toArray, List.set_cons_zero, List.set_cons_succ]
  refine Txt.seg (A := ?_) 0 131071 (by kernel_rfl) (by exact hb1) [16] (by kernel_rfl) ?_ ?_
  rotate_left
  · intro w' hB
    iterate 1 (first | (refine rd_skip rfl rfl ?_; simp only [Act.put, List.setIfInBounds_toArray, List.set_cons_zero, List.set_cons_succ]) | fail | (refine rd_take (v := ?_) rfl rfl ?_ ?_; rotate_left; (focus (go_simp; try (with_reducible rfl))); simp only [Act.put, List.setIfInBounds_toArray, List.set_cons_zero, List.set_cons_succ]) | (refine rd_take (v := ?_) rfl rfl ?_ ?_; rotate_left; (focus (try go_simp); fail)))
    exact rd_nil
  refine Txt.done (by kernel_rfl) ?_
  generalize (if c = k then a else Option.map (fun x => x.add k) a) = z
  have g0 : w1.cell? ⟨g, 0, none⟩ = some (.slice a bs.length c) := by rw [hb1.cell (p := ⟨g, 0, none⟩) hlt]; exact h0
  have g1 : w1.cell? ⟨g, 1, none⟩ = some (.int .i64 k) := by rw [hb1.cell (p := ⟨g, 1, none⟩) hlt]; exact h1
  have g2 : w1.cell? ⟨g, 2, none⟩ = some (.bool false) := by rw [hb1.cell (p := ⟨g, 2, none⟩) hlt]; exact h2
  have g3 : w1.frozen? ⟨g, 1, none⟩ = false := by rw [hb1.frozen (p := ⟨g, 1, none⟩) hlt]; exact f1
  have g4 : w1.frozen? ⟨g, 2, none⟩ = false := by rw [hb1.frozen (p := ⟨g, 2, none⟩) hlt]; exact f2
  clear h0 h1 h2 f1 f2 h0' h1' h2' f1' f2'
  go_wp2_with fail
  try rw [Exit.noGoto_ret]
  go_ret
  have ek : (k : Int) + (m : Int) = ((k + m : Nat) : Int) := by omega
  have er : rest.drop m = bs.drop (k + m) := by rw [hrest'.out, List.drop_drop]
  have hl3 : (rest.take m).length = m := by rw [List.length_take]; omega
  refine ⟨v1, rfl, by show World.ownsRow _ _ _ _ _ (rest.take m).length _; rw [hl3]; exact own_set hown'.out hlt, grownBy_set (below_grownBy hb1 _), ?_⟩
  show RCur _ _ _ _ (rest.drop m) false
  rw [er, ek]
  exact RCur.mk_set (by omega) g0 g1 g2 g3 g4 (hs'.out.below hb1) hv'.out

theorem rawR_any (g : Nat) (vb : Value) (bs rest : List UInt8) (bad : Bool) (n : Int) (w : World) (hc : RCur w g vb bs rest bad) (hr : bs.length ≤ 140737488355328) :
    Calls Try.prog 58 #[.pointer (some ⟨g, 0, none⟩), .int .i64 n] w (RPost w g vb bs (rawS rest bad n)) := by
  cases bad with
  | true =>
    have : rest = [] := by obtain ⟨k, -, h, _⟩ := hc; simpa using h
    subst this
    exact ref_bad g vb bs [] n w hc
  | false =>
    by_cases hn : n < 0 ∨ (rest.length : Int) < n
    · have e1 : rawS rest false n = ([], [], true) := by simp [rawS, hn]
      rw [e1]
      exact ref_no g vb bs rest n w hc hn
    · have e1 : rawS rest false n = (rest.take n.toNat, rest.drop n.toNat, false) := by simp [rawS, hn]
      rw [e1]
      obtain ⟨m, rfl⟩ : ∃ m : Nat, n = m := ⟨n.toNat, by omega⟩
      exact ref_ok g m vb bs rest w hc (by omega) hr

end Go.Proofs.Ytkipejhjpfakpaa
