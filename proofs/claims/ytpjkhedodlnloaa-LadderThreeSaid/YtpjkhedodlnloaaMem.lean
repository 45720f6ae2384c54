/- Byte lists in the model's memory: small laws on rows of cells that this claim's walks use. No condition. -/
import Derived.WalkKit
import Derived.WalkSpells
import Derived.WalkLawsBesides
import Derived.Lib.Hide
import Derived.Deep.DeepFit
import Derived.Deep.LoopGhost
namespace Go.Proofs.Ytpjkhedodlnloaa
open Go.RowKit

/-- Bytes as cells. -/
def u8s (bs : List UInt8) : List Value := bs.map fun b => .int .u8 b.toNat

theorem u8s_one (bs : List UInt8) : ∀ u ∈ u8s bs, u.oneCell' = true := by
  intro u hu
  obtain ⟨_, _, rfl⟩ := List.mem_map.1 hu
  rfl
theorem u8s_len (bs : List UInt8) : (u8s bs).length = bs.length := by simp [u8s]
theorem u8s_nil : u8s [] = [] := rfl
theorem u8s_append (a b : List UInt8) : u8s (a ++ b) = u8s a ++ u8s b := by simp [u8s]
theorem u8s_get (bs : List UInt8) (j : Nat) (h : j < bs.length) : (u8s bs)[j]? = some (.int .u8 bs[j].toNat) := by
  simp [u8s, List.getElem?_eq_getElem h]

/-- The cells from an address on. -/
def Cells (w : World) (x : Addr) (vs : List Value) : Prop := ∀ j u, vs[j]? = some u → w.cell? (x.add j) = some u

/-- A slice whose elements are these, one cell each. -/
def Sl (w : World) (v : Value) (vs : List Value) : Prop :=
  ∃ a cap, v = .slice a vs.length cap ∧ vs.length ≤ cap ∧ cap ≤ maxLen ∧ (a = none → cap = 0) ∧ ∀ x, a = some x → Cells w x vs

theorem Cells.below {w w' : World} {x : Addr} {vs : List Value} (h : Cells w x vs) (hb : Below w.heap.size w w') : Cells w' x vs := by
  intro j u hu
  have h1 := h j u hu
  rw [hb.cell (World.block_lt_of_cell? w (x.add j) h1)]
  exact h1

theorem Sl.below {w w' : World} {v : Value} {vs : List Value} (h : Sl w v vs) (hb : Below w.heap.size w w') : Sl w' v vs := by
  obtain ⟨a, cap, h1, h2, h3, h4, h5⟩ := h
  exact ⟨a, cap, h1, h2, h3, h4, fun x hx => (h5 x hx).below hb⟩

theorem below_alloc (w : World) (o : Obj) : Below w.heap.size w (w.alloc o) := (Below.refl _ _).alloc (Nat.le_refl _) o

theorem Cells.alloc {w : World} {x : Addr} {vs : List Value} (h : Cells w x vs) (o : Obj) : Cells (w.alloc o) x vs := h.below (below_alloc w o)
theorem Sl.alloc {w : World} {v : Value} {vs : List Value} (h : Sl w v vs) (o : Obj) : Sl (w.alloc o) v vs := h.below (below_alloc w o)

theorem Sl.nil (w : World) : Sl w (.slice none 0 0) [] := ⟨none, 0, rfl, Nat.le_refl _, Nat.zero_le _, fun _ => rfl, fun x h => by cases h⟩

/-- A slice that is not empty: its address, and its cells. -/
theorem Sl.at {w : World} {a : Option Addr} {n cap : Nat} {vs : List Value} (h : Sl w (.slice a n cap) vs) (h0 : 0 < vs.length) :
    ∃ b o, a = some ⟨b, o, none⟩ ∧ n = vs.length ∧ n ≤ cap ∧ cap ≤ maxLen ∧ ∀ j u, vs[j]? = some u → w.cell? ⟨b, o + j, none⟩ = some u := by
  obtain ⟨a', cap', e1, h2, h3, h4, h5⟩ := h
  simp only [Value.slice.injEq] at e1
  obtain ⟨rfl, rfl, rfl⟩ := e1
  cases a with
  | none => have := h4 rfl; omega
  | some x =>
    have hc := h5 x rfl
    obtain ⟨b, o, s⟩ := x
    have hs : s = none := by
      have := hc 0 vs[0] (List.getElem?_eq_getElem h0)
      rw [Addr.add_zero'] at this
      exact World.cell?_spot this
    subst hs
    refine ⟨b, o, rfl, rfl, h2, h3, fun j u hu => ?_⟩
    have := hc j u hu
    rwa [Addr.add_lit] at this

theorem Sl.len {w : World} {a : Option Addr} {n cap : Nat} {vs : List Value} (h : Sl w (.slice a n cap) vs) : n = vs.length ∧ n ≤ cap ∧ cap ≤ maxLen := by
  obtain ⟨a', cap', e1, h2, h3, h4, h5⟩ := h
  simp only [Value.slice.injEq] at e1
  obtain ⟨rfl, rfl, rfl⟩ := e1
  exact ⟨rfl, h2, h3⟩

/-- What the call owns, it holds. -/
theorem Sl.of_own {w : World} {base : Nat} {e : TypeId} {v : Value} {n : Nat} {xs : List Value} (h : w.ownsRow base e 1 v n xs) : Sl w v xs := by
  obtain ⟨hl, hr⟩ := h
  rw [Nat.mul_one] at hl
  rcases hr with ⟨rfl, rfl⟩ | ⟨g, cap, cur, rfl, hb, hg, h1, h2, h3, h4⟩
  · have : xs = [] := List.eq_nil_of_length_eq_zero hl
    subst this
    exact Sl.nil w
  · refine ⟨some ⟨g, 0, none⟩, cap, by rw [hl], by omega, h2, fun h => (by cases h), fun x hx => ?_⟩
    cases hx
    exact World.ownsRow.cells (w := w) (base := base) (e := e) (size := 1) (v := .slice (some ⟨g, 0, none⟩) n cap) (n := n) (xs := xs) ⟨by omega, .inr ⟨g, cap, cur, rfl, hb, hg, h1, h2, h3, h4⟩⟩ rfl

/-- What is owned stays owned behind a call that writes to nothing of old. -/
theorem own_below {w w' : World} {base : Nat} {e : TypeId} {size : Nat} {v : Value} {n : Nat} {xs : List Value} (h : w.ownsRow base e size v n xs) (hb : Below w.heap.size w w') : w'.ownsRow base e size v n xs := by
  refine ⟨h.1, ?_⟩
  rcases h.2 with hn | ⟨g, cap, cur, rfl, hb', hg, rest⟩
  · exact .inl hn
  · refine .inr ⟨g, cap, cur, rfl, hb', ?_, rest⟩
    rw [hb.block g (Array.getElem?_eq_some_iff.1 hg).1]
    exact hg

/-- The base may be lowered. -/
theorem own_mono {w : World} {base base' : Nat} {e : TypeId} {size : Nat} {v : Value} {n : Nat} {xs : List Value} (h : w.ownsRow base e size v n xs) (hb : base' ≤ base) : w.ownsRow base' e size v n xs := by
  refine ⟨h.1, ?_⟩
  rcases h.2 with hn | ⟨g, cap, cur, rfl, hb', rest⟩
  · exact .inl hn
  · exact .inr ⟨g, cap, cur, rfl, by omega, rest⟩

theorem own_block {w : World} {base : Nat} {e : TypeId} {size : Nat} {v : Value} {n : Nat} {xs : List Value} (h : w.ownsRow base e size v n xs) : ∀ k, v.ownBlock = some k → base ≤ k :=
  fun k hk => (h.lt k hk).1

/-- Behind an append to what is owned: nothing below the base has turned. -/
theorem below_grown {B : Nat} {w wr w' : World} {e : TypeId} {size : Nat} {v : Value} {n : Nat} {xs : List Value} (hb : Below B w wr) (hown : wr.ownsRow B e size v n xs) (hB : B ≤ wr.heap.size) (hg : wr.grownBy w' v.ownBlock) : Below B w w' :=
  hb.grown hg hB (own_block hown)

theorem below_grown1 {B : Nat} {w wr w' : World} {e : TypeId} {size : Nat} {v : Value} {n : Nat} {xs : List Value} {o : Obj} (hb : Below B w wr) (hown : wr.ownsRow B e size v n xs) (hB : B ≤ wr.heap.size) (hg : (wr.alloc o).grownBy w' v.ownBlock) : Below B w w' :=
  (hb.alloc hB o).grown hg (by simp; omega) (own_block hown)

/-- The one cell of a block that has just been laid. -/
theorem cells_new (w : World) (o : Value) (T : TypeId) : Cells (w.alloc (.cells #[o] T)) ⟨w.heap.size, 0, none⟩ [o] := by
  intro j u hu
  cases j with
  | zero =>
    simp at hu
    subst hu
    rw [Addr.add_lit, World.cell?_alloc_at _ _ _ _ rfl]
    rfl
  | succ j => simp at hu

/-- A slice of one element that has just been laid. -/
theorem Sl.new1 (w : World) (o : Value) (T : TypeId) : Sl (w.alloc (.cells #[o] T)) (.slice (some ⟨w.heap.size, 0, none⟩) 1 1) [o] :=
  ⟨_, 1, rfl, Nat.le_refl _, by decide, fun h => (by cases h), fun x hx => by cases hx; exact cells_new w o T⟩

/-- An append to what the call owns, whatever slice of one-cell elements is appended. -/
theorem run_append_sl {P : Program} {w : World} {base : Nat} (t ty e : TypeId) {i : TypeInfo} {z : Value} {bytes : Nat} (ht : P.underlying t = some (.slice e)) (hi : P.info? e = some i) (hz : i.zero = some z)
    (hsize : i.size = 1) (hby : i.bytes = bytes) (hzs : z.cells.size = 1) {v : Value} {n : Nat} {xs : List Value} (hown : w.ownsRow base e 1 v n xs) {vx : Value} {news : List Value} (hx : Sl w vx news)
    (h1 : ∀ u ∈ news, u.oneCell' = true) (h63 : n + news.length ≤ maxLen) (hbytes : (n + news.length) * bytes ≤ 140737488355328) (hbase : base ≤ w.heap.size) :
    ∃ v' w', (Builtin.append_ #[t, t] ty #[v, vx]).run P w = .ok v' w' ∧ w'.ownsRow base e 1 v' (n + news.length) (xs ++ news) ∧ w.grownBy w' v.ownBlock := by
  obtain ⟨a, cap, rfl, h2, h3, h4, h5⟩ := hx
  cases a with
  | none =>
    obtain rfl := h4 rfl
    have : news = [] := List.eq_nil_of_length_eq_zero (by omega)
    subst this
    refine ⟨v, w, run_append_owned_none (P := P) w base t ty e i 1 ht hi v n xs hown, by simpa using hown, World.grownBy.refl _ _⟩
  | some x =>
    obtain ⟨v', w', r1, r2, r3, -⟩ := run_append_own (P := P) w base t ty e i z 1 bytes ht hi hz hsize hby hzs (by decide) v n xs hown x news.length cap news (by simp) (h5 x rfl) h1 h63 hbytes hbase
    exact ⟨v', w', r1, r2, r3⟩

/-- The same at the list of a plain region's operations. -/
theorem wpList_append_sl {P : Program} {w : World} {ops : Array Oper} {rest : List Oper} {o : Oper} {a : Act} {Q : Exit → Act → World → Prop} (hgd : o.guard = none) (s x : Operand) (t : TypeId)
    (ho : o.op = .call { callee := .builtin .append, args := #[s, x], argTypes := #[t, t] })
    (base : Nat) (e : TypeId) {i : TypeInfo} {z : Value} {bytes : Nat} (ht : P.underlying t = some (.slice e)) (hi : P.info? e = some i) (hz : i.zero = some z)
    (hsize : i.size = 1) (hby : i.bytes = bytes) (hzs : z.cells.size = 1) (v : Value) (n : Nat) (xs : List Value) (hs : a.eval s = v) (hown : w.ownsRow base e 1 v n xs) (vx : Value) (news : List Value) (hx : a.eval x = vx) (hsl : Sl w vx news)
    (h1 : ∀ u ∈ news, u.oneCell' = true) (h63 : n + news.length ≤ maxLen) (hbytes : (n + news.length) * bytes ≤ 140737488355328) (hbase : base ≤ w.heap.size)
    (h : ∀ v' w', w'.ownsRow base e 1 v' (n + news.length) (xs ++ news) → w.grownBy w' v.ownBlock → wpList P ops Q rest (a.put o.dst v') w') : wpList P ops Q (o :: rest) a w := by
  refine wpList_plain hgd fun K hK => ?_
  obtain ⟨v', w', hr, h2, h3⟩ := run_append_sl (P := P) t o.type e ht hi hz hsize hby hzs hown hsl h1 h63 hbytes hbase
  unfold Oper.wp execOp
  simp only [ho, resolve, invoke, builtin, Sem.run_bind, Sem.run_pure, Result.andThen_ok, List.map_toArray, List.map_cons, List.map_nil, hs, hx, hr]
  exact hK _ _ (h v' w' h2 h3)

/-- The same at a step of a region that draws its order. -/
theorem step_append_sl {P : Program} {w : World} {ops : Array Oper} {o : Oper} {a : Act} {K : Act → World → Prop} {Q : Exit → Act → World → Prop} {E : Prop} (hgd : o.guard = none) (s x : Operand) (t : TypeId)
    (ho : o.op = .call { callee := .builtin .append, args := #[s, x], argTypes := #[t, t] })
    (base : Nat) (e : TypeId) {i : TypeInfo} {z : Value} {bytes : Nat} (ht : P.underlying t = some (.slice e)) (hi : P.info? e = some i) (hz : i.zero = some z)
    (hsize : i.size = 1) (hby : i.bytes = bytes) (hzs : z.cells.size = 1) (v : Value) (n : Nat) (xs : List Value) (hs : a.eval s = v) (hown : w.ownsRow base e 1 v n xs) (vx : Value) (news : List Value) (hx : a.eval x = vx) (hsl : Sl w vx news)
    (h1 : ∀ u ∈ news, u.oneCell' = true) (h63 : n + news.length ≤ maxLen) (hbytes : (n + news.length) * bytes ≤ 140737488355328) (hbase : base ≤ w.heap.size)
    (h : ∀ v' w', w'.ownsRow base e 1 v' (n + news.length) (xs ++ news) → w.grownBy w' v.ownBlock → K (a.put o.dst v') w') : if Region.wanted o (yielded ops a.tmps) = true then Oper.wp P o a w K Q else E := by
  rw [if_pos (by simp [Region.wanted, hgd])]
  obtain ⟨v', w', hr, h2, h3⟩ := run_append_sl (P := P) t o.type e ht hi hz hsize hby hzs hown hsl h1 h63 hbytes hbase
  unfold Oper.wp execOp
  simp only [ho, resolve, invoke, builtin, Sem.run_bind, Sem.run_pure, Result.andThen_ok, List.map_toArray, List.map_cons, List.map_nil, hs, hx, hr]
  exact h v' w' h2 h3

/-- string(b). -/
theorem run_string_sl {P : Program} {w : World} {v : Value} {bs : List UInt8} (h : Sl w v (u8s bs)) (src e dst : TypeId) (hs : P.underlying src = some (.slice e)) (he : P.underlying e = some (.int .u8)) (hd : P.underlying dst = some .string) :
    (convert src dst v).run P w = .ok (.string ⟨bs.toArray⟩) w := by
  obtain ⟨a, cap, rfl, h2, h3, h4, h5⟩ := id h
  cases a with
  | none =>
    have := h4 rfl
    have hb : bs = [] := List.eq_nil_of_length_eq_zero (by rw [u8s_len] at h2; omega)
    subst hb
    rw [run_convert_bytes_nil w src e hs he _ _ dst hd]
    rfl
  | some x =>
    have hx := h5 x rfl
    have hl : (loadCells x bs.length).run P w = .ok ((bs.map fun b => (b.toNat : Int)).map (Value.int .u8)).toArray w := by
      have := run_loadCells_list (P := P) w x (u8s bs) hx
      rw [u8s_len] at this
      rw [this]
      simp [u8s, List.map_map, Function.comp_def]
    rw [run_convert_bytes_string w src dst e _ _ _ hs he hd, u8s_len, run_bytesToString w x _ _ _ hl, foldl_push_bytes]
    have e : (List.map (fun n => UInt8.ofNat n.toNat) (List.map (fun b => (b.toNat : Int)) bs)) = bs := by
      rw [List.map_map]
      conv => rhs; rw [← List.map_id bs]
      apply List.map_congr_left
      intro b _
      simp
    rw [e, show ByteArray.empty.data = #[] from rfl, Array.empty_append]

/-- A slice of lists of bytes. -/
def Sls (w : World) (v : Value) (ls : List (List UInt8)) : Prop :=
  ∃ vs, Sl w v vs ∧ vs.length = ls.length ∧ ∀ (j : Nat) (a : Value) (b : List UInt8), vs[j]? = some a → ls[j]? = some b → Sl w a (u8s b)

theorem Sls.below {w w' : World} {v : Value} {ls : List (List UInt8)} (h : Sls w v ls) (hb : Below w.heap.size w w') : Sls w' v ls := by
  obtain ⟨vs, h1, h2, h3⟩ := h
  exact ⟨vs, h1.below hb, h2, fun j a b ha hb' => (h3 j a b ha hb').below hb⟩

theorem Sls.len {w : World} {a : Option Addr} {n cap : Nat} {ls : List (List UInt8)} (h : Sls w (.slice a n cap) ls) : n = ls.length ∧ n ≤ cap ∧ cap ≤ maxLen := by
  obtain ⟨vs, h1, h2, -⟩ := h
  have := h1.len
  omega

/-- The j-th list. -/
theorem Sls.at {w : World} {a : Option Addr} {n cap : Nat} {ls : List (List UInt8)} (h : Sls w (.slice a n cap) ls) {j : Nat} (hj : j < ls.length) :
    ∃ b o x c, a = some ⟨b, o, none⟩ ∧ w.cell? ⟨b, o + j, none⟩ = some (.slice x ls[j].length c) ∧ Sl w (.slice x ls[j].length c) (u8s ls[j]) := by
  obtain ⟨vs, h1, h2, h3⟩ := h
  obtain ⟨b, o, rfl, hn, -, -, hc⟩ := h1.at (by omega)
  have hv : vs[j]? = some vs[j] := List.getElem?_eq_getElem (by omega)
  have h4 := h3 j vs[j] ls[j] hv (List.getElem?_eq_getElem hj)
  obtain ⟨x, c, e1, r⟩ := h4
  rw [u8s_len] at e1
  refine ⟨b, o, x, c, rfl, ?_, ?_⟩
  · rw [← e1]; exact hc j _ hv
  · exact ⟨x, c, by rw [u8s_len], r⟩

end Go.Proofs.Ytpjkhedodlnloaa
