/- PortcullisWrong: part 1 of its proof: lemmas and contracts, each with its conditions in its own statement; the last part holds the law itself. -/
import Derived.Test.YtibdgkhkhmdihaaGreatDoorJe00
import Derived.WalkKit
import Derived.WalkSpells
import Derived.WalkLawsBesides
import Derived.Lib.Hide
import Derived.Deep.DeepFit
import Derived.Deep.LoopGhost
import Derived.Laws.ResultCell
import Derived.OrdersHeld
import Derived.RegionTactic

set_option maxHeartbeats 4000000
set_option maxRecDepth 100000
namespace Go.Proofs.YtibdgkhkhmdihaaGreatDoor
open Go.RowKit
def u8s (bs : List UInt8) : List Value := bs.map fun b => .int .u8 b.toNat
theorem u8s_one (bs : List UInt8) : ∀ u ∈ u8s bs, u.oneCell' = true := by
 intro u hu
 obtain ⟨_, _, rfl⟩ := List.mem_map.1 hu
 rfl
theorem u8s_len (bs : List UInt8) : (u8s bs).length = bs.length := by simp [u8s]
theorem u8s_append (a b : List UInt8) : u8s (a ++ b) = u8s a ++ u8s b := by simp [u8s]
theorem u8s_get (bs : List UInt8) (j : Nat) (h : j < bs.length) : (u8s bs)[j]? = some (.int .u8 bs[j].toNat) := by
 simp [u8s, List.getElem?_eq_getElem h]
def Cells (w : World) (x : Addr) (vs : List Value) : Prop := ∀ j u, vs[j]? = some u → w.cell? (x.add j) = some u
def Sl (w : World) (v : Value) (vs : List Value) : Prop :=
 ∃ a cap, v = .slice a vs.length cap ∧ vs.length ≤ cap ∧ cap ≤ maxLen ∧ (a = none → cap = 0) ∧ ∀ x, a = some x → Cells w x vs
theorem Cells.below {w w' : World} {x : Addr} {vs : List Value} (h : Cells w x vs) (hb : Below w.heap.size w w') : Cells w' x vs := by
 intro j u hu
 have h1 := h j u hu
 rw [hb.cell (World.block_lt_of_cell? w (x.add j) h1)]
 exact h1
theorem Sl.below {w w' : World} {v : Value} {vs : List Value} (h : Sl w v vs) (hb : Below w.heap.size w w') : Sl w' v vs := by
 obtain ⟨a, cap, h1, h2, h3, h4, h5⟩ := h
 exact ⟨a, cap, h1, h2, h3, h4, fun x hx => (h5 x hx).below hb⟩
theorem below_alloc (w : World) (o : Obj) : Below w.heap.size w (w.alloc o) := (Below.refl _ _).alloc (Nat.le_refl _) o
theorem Cells.alloc {w : World} {x : Addr} {vs : List Value} (h : Cells w x vs) (o : Obj) : Cells (w.alloc o) x vs := h.below (below_alloc w o)
theorem Sl.alloc {w : World} {v : Value} {vs : List Value} (h : Sl w v vs) (o : Obj) : Sl (w.alloc o) v vs := h.below (below_alloc w o)
theorem Sl.nil (w : World) : Sl w (.slice none 0 0) [] := ⟨none, 0, rfl, Nat.le_refl _, Nat.zero_le _, fun _ => rfl, fun x h => by cases h⟩
theorem Sl.at {w : World} {a : Option Addr} {n cap : Nat} {vs : List Value} (h : Sl w (.slice a n cap) vs) (h0 : 0 < vs.length) :
 ∃ b o, a = some ⟨b, o, none⟩ ∧ n = vs.length ∧ n ≤ cap ∧ cap ≤ maxLen ∧ ∀ j u, vs[j]? = some u → w.cell? ⟨b, o + j, none⟩ = some u := by
 obtain ⟨a', cap', e1, h2, h3, h4, h5⟩ := h
 simp only [Value.slice.injEq] at e1
 obtain ⟨rfl, rfl, rfl⟩ := e1
 cases a with
 | none => have := h4 rfl; omega
 | some x =>
  have hc := h5 x rfl
  obtain ⟨b, o, s⟩ := x
  have hs : s = none := by
   have := hc 0 vs[0] (List.getElem?_eq_getElem h0)
   rw [Addr.add_zero'] at this
   exact World.cell?_spot this
  subst hs
  refine ⟨b, o, rfl, rfl, h2, h3, fun j u hu => ?_⟩
  have := hc j u hu
  rwa [Addr.add_lit] at this
theorem Sl.len {w : World} {a : Option Addr} {n cap : Nat} {vs : List Value} (h : Sl w (.slice a n cap) vs) : n = vs.length ∧ n ≤ cap ∧ cap ≤ maxLen := by
 obtain ⟨a', cap', e1, h2, h3, h4, h5⟩ := h
 simp only [Value.slice.injEq] at e1
 obtain ⟨rfl, rfl, rfl⟩ := e1
 exact ⟨rfl, h2, h3⟩
theorem Sl.of_own {w : World} {base : Nat} {e : TypeId} {v : Value} {n : Nat} {xs : List Value} (h : w.ownsRow base e 1 v n xs) : Sl w v xs := by
 obtain ⟨hl, hr⟩ := h
 rw [Nat.mul_one] at hl
 rcases hr with ⟨rfl, rfl⟩ | ⟨g, cap, cur, rfl, hb, hg, h1, h2, h3, h4⟩
 · have : xs = [] := List.eq_nil_of_length_eq_zero hl
   subst this
   exact Sl.nil w
 · refine ⟨some ⟨g, 0, none⟩, cap, by rw [hl], by omega, h2, fun h => (by cases h), fun x hx => ?_⟩
   cases hx
   exact World.ownsRow.cells (w := w) (base := base) (e := e) (size := 1) (v := .slice (some ⟨g, 0, none⟩) n cap) (n := n) (xs := xs) ⟨by omega, .inr ⟨g, cap, cur, rfl, hb, hg, h1, h2, h3, h4⟩⟩ rfl
theorem own_below {w w' : World} {base : Nat} {e : TypeId} {size : Nat} {v : Value} {n : Nat} {xs : List Value} (h : w.ownsRow base e size v n xs) (hb : Below w.heap.size w w') : w'.ownsRow base e size v n xs := by
 refine ⟨h.1, ?_⟩
 rcases h.2 with hn | ⟨g, cap, cur, rfl, hb', hg, rest⟩
 · exact .inl hn
 · refine .inr ⟨g, cap, cur, rfl, hb', ?_, rest⟩
   rw [hb.block g (Array.getElem?_eq_some_iff.1 hg).1]
   exact hg
theorem own_mono {w : World} {base base' : Nat} {e : TypeId} {size : Nat} {v : Value} {n : Nat} {xs : List Value} (h : w.ownsRow base e size v n xs) (hb : base' ≤ base) : w.ownsRow base' e size v n xs := by
 refine ⟨h.1, ?_⟩
 rcases h.2 with hn | ⟨g, cap, cur, rfl, hb', rest⟩
 · exact .inl hn
 · exact .inr ⟨g, cap, cur, rfl, by omega, rest⟩
theorem own_block {w : World} {base : Nat} {e : TypeId} {size : Nat} {v : Value} {n : Nat} {xs : List Value} (h : w.ownsRow base e size v n xs) : ∀ k, v.ownBlock = some k → base ≤ k :=
 fun k hk => (h.lt k hk).1
theorem below_grown {B : Nat} {w wr w' : World} {e : TypeId} {size : Nat} {v : Value} {n : Nat} {xs : List Value} (hb : Below B w wr) (hown : wr.ownsRow B e size v n xs) (hB : B ≤ wr.heap.size) (hg : wr.grownBy w' v.ownBlock) : Below B w w' :=
 hb.grown hg hB (own_block hown)
theorem below_grown1 {B : Nat} {w wr w' : World} {e : TypeId} {size : Nat} {v : Value} {n : Nat} {xs : List Value} {o : Obj} (hb : Below B w wr) (hown : wr.ownsRow B e size v n xs) (hB : B ≤ wr.heap.size) (hg : (wr.alloc o).grownBy w' v.ownBlock) : Below B w w' :=
 (hb.alloc hB o).grown hg (by simp; omega) (own_block hown)
theorem cells_new (w : World) (o : Value) (T : TypeId) : Cells (w.alloc (.cells #[o] T)) ⟨w.heap.size, 0, none⟩ [o] := by
 intro j u hu
 cases j with
 | zero =>
  simp at hu
  subst hu
  rw [Addr.add_lit, World.cell?_alloc_at _ _ _ _ rfl]
  rfl
 | succ j => simp at hu
theorem Sl.new1 (w : World) (o : Value) (T : TypeId) : Sl (w.alloc (.cells #[o] T)) (.slice (some ⟨w.heap.size, 0, none⟩) 1 1) [o] :=
 ⟨_, 1, rfl, Nat.le_refl _, by decide, fun h => (by cases h), fun x hx => by cases hx; exact cells_new w o T⟩
theorem run_append_sl {P : Program} {w : World} {base : Nat} (t ty e : TypeId) {i : TypeInfo} {z : Value} {bytes : Nat} (ht : P.underlying t = some (.slice e)) (hi : P.info? e = some i) (hz : i.zero = some z)
 (hsize : i.size = 1) (hby : i.bytes = bytes) (hzs : z.cells.size = 1) {v : Value} {n : Nat} {xs : List Value} (hown : w.ownsRow base e 1 v n xs) {vx : Value} {news : List Value} (hx : Sl w vx news)
 (h1 : ∀ u ∈ news, u.oneCell' = true) (h63 : n + news.length ≤ maxLen) (hbytes : (n + news.length) * bytes ≤ 140737488355328) (hbase : base ≤ w.heap.size) :
 ∃ v' w', (Builtin.append_ #[t, t] ty #[v, vx]).run P w = .ok v' w' ∧ w'.ownsRow base e 1 v' (n + news.length) (xs ++ news) ∧ w.grownBy w' v.ownBlock := by
 obtain ⟨a, cap, rfl, h2, h3, h4, h5⟩ := hx
 cases a with
 | none =>
  obtain rfl := h4 rfl
  have : news = [] := List.eq_nil_of_length_eq_zero zOm
  subst this
  refine ⟨v, w, run_append_owned_none (P := P) w base t ty e i 1 ht hi v n xs hown, by simpa using hown, World.grownBy.refl _ _⟩
 | some x =>
  obtain ⟨v', w', r1, r2, r3, -⟩ := run_append_own (P := P) w base t ty e i z 1 bytes ht hi hz hsize hby hzs zDc v n xs hown x news.length cap news (by simp) (h5 x rfl) h1 h63 hbytes hbase
  exact ⟨v', w', r1, r2, r3⟩
theorem wpList_append_sl {P : Program} {w : World} {ops : Array Oper} {rest : List Oper} {o : Oper} {a : Act} {Q : Exit → Act → World → Prop} (hgd : o.guard = none) (s x : Operand) (t : TypeId)
 (ho : o.op = .call { callee := .builtin .append, args := #[s, x], argTypes := #[t, t] })
 (base : Nat) (e : TypeId) {i : TypeInfo} {z : Value} {bytes : Nat} (ht : P.underlying t = some (.slice e)) (hi : P.info? e = some i) (hz : i.zero = some z)
 (hsize : i.size = 1) (hby : i.bytes = bytes) (hzs : z.cells.size = 1) (v : Value) (n : Nat) (xs : List Value) (hs : a.eval s = v) (hown : w.ownsRow base e 1 v n xs) (vx : Value) (news : List Value) (hx : a.eval x = vx) (hsl : Sl w vx news)
 (h1 : ∀ u ∈ news, u.oneCell' = true) (h63 : n + news.length ≤ maxLen) (hbytes : (n + news.length) * bytes ≤ 140737488355328) (hbase : base ≤ w.heap.size)
 (h : ∀ v' w', w'.ownsRow base e 1 v' (n + news.length) (xs ++ news) → w.grownBy w' v.ownBlock → wpList P ops Q rest (a.put o.dst v') w') : wpList P ops Q (o :: rest) a w := by
 refine wpList_plain hgd fun K hK => ?_
 obtain ⟨v', w', hr, h2, h3⟩ := run_append_sl (P := P) t o.type e ht hi hz hsize hby hzs hown hsl h1 h63 hbytes hbase
 unfold Oper.wp execOp
 simp only [ho, resolve, invoke, builtin, Sem.run_bind, Sem.run_pure, Result.andThen_ok, List.map_toArray, List.map_cons, List.map_nil, hs, hx, hr]
 exact hK _ _ (h v' w' h2 h3)
theorem step_append_sl {P : Program} {w : World} {ops : Array Oper} {o : Oper} {a : Act} {K : Act → World → Prop} {Q : Exit → Act → World → Prop} {E : Prop} (hgd : o.guard = none) (s x : Operand) (t : TypeId)
 (ho : o.op = .call { callee := .builtin .append, args := #[s, x], argTypes := #[t, t] })
 (base : Nat) (e : TypeId) {i : TypeInfo} {z : Value} {bytes : Nat} (ht : P.underlying t = some (.slice e)) (hi : P.info? e = some i) (hz : i.zero = some z)
 (hsize : i.size = 1) (hby : i.bytes = bytes) (hzs : z.cells.size = 1) (v : Value) (n : Nat) (xs : List Value) (hs : a.eval s = v) (hown : w.ownsRow base e 1 v n xs) (vx : Value) (news : List Value) (hx : a.eval x = vx) (hsl : Sl w vx news)
 (h1 : ∀ u ∈ news, u.oneCell' = true) (h63 : n + news.length ≤ maxLen) (hbytes : (n + news.length) * bytes ≤ 140737488355328) (hbase : base ≤ w.heap.size)
 (h : ∀ v' w', w'.ownsRow base e 1 v' (n + news.length) (xs ++ news) → w.grownBy w' v.ownBlock → K (a.put o.dst v') w') : if Region.wanted o (yielded ops a.tmps) = true then Oper.wp P o a w K Q else E := by
 rw [if_pos (by simp [Region.wanted, hgd])]
 obtain ⟨v', w', hr, h2, h3⟩ := run_append_sl (P := P) t o.type e ht hi hz hsize hby hzs hown hsl h1 h63 hbytes hbase
 unfold Oper.wp execOp
 simp only [ho, resolve, invoke, builtin, Sem.run_bind, Sem.run_pure, Result.andThen_ok, List.map_toArray, List.map_cons, List.map_nil, hs, hx, hr]
 exact h v' w' h2 h3
theorem run_string_sl {P : Program} {w : World} {v : Value} {bs : List UInt8} (h : Sl w v (u8s bs)) (src e dst : TypeId) (hs : P.underlying src = some (.slice e)) (he : P.underlying e = some (.int .u8)) (hd : P.underlying dst = some .string) :
 (convert src dst v).run P w = .ok (.string ⟨bs.toArray⟩) w := by
 obtain ⟨a, cap, rfl, h2, h3, h4, h5⟩ := id h
 cases a with
 | none =>
  have := h4 rfl
  have hb : bs = [] := List.eq_nil_of_length_eq_zero (by rw [u8s_len] at h2; omega)
  subst hb
  rw [run_convert_bytes_nil w src e hs he _ _ dst hd]
  rfl
 | some x =>
  have hx := h5 x rfl
  have hl : (loadCells x bs.length).run P w = .ok ((bs.map fun b => (b.toNat : Int)).map (Value.int .u8)).toArray w := by
   have := run_loadCells_list (P := P) w x (u8s bs) hx
   rw [u8s_len] at this
   rw [this]
   simp [u8s, List.map_map, Function.comp_def]
  rw [run_convert_bytes_string w src dst e _ _ _ hs he hd, u8s_len, run_bytesToString w x _ _ _ hl, foldl_push_bytes]
  have e : (List.map (fun n => UInt8.ofNat n.toNat) (List.map (fun b => (b.toNat : Int)) bs)) = bs := by
   rw [List.map_map]
   conv => rhs; rw [← List.map_id bs]
   apply List.map_congr_left
   intro b _
   simp
  rw [e, show ByteArray.empty.data = #[] from rfl, Array.empty_append]
def Sls (w : World) (v : Value) (ls : List (List UInt8)) : Prop :=
 ∃ vs, Sl w v vs ∧ vs.length = ls.length ∧ ∀ (j : Nat) (a : Value) (b : List UInt8), vs[j]? = some a → ls[j]? = some b → Sl w a (u8s b)
theorem Sls.below {w w' : World} {v : Value} {ls : List (List UInt8)} (h : Sls w v ls) (hb : Below w.heap.size w w') : Sls w' v ls := by
 obtain ⟨vs, h1, h2, h3⟩ := h
 exact ⟨vs, h1.below hb, h2, fun j a b ha hb' => (h3 j a b ha hb').below hb⟩
theorem Sls.len {w : World} {a : Option Addr} {n cap : Nat} {ls : List (List UInt8)} (h : Sls w (.slice a n cap) ls) : n = ls.length ∧ n ≤ cap ∧ cap ≤ maxLen := by
 obtain ⟨vs, h1, h2, -⟩ := h
 have := h1.len
 omega
theorem Sls.at {w : World} {a : Option Addr} {n cap : Nat} {ls : List (List UInt8)} (h : Sls w (.slice a n cap) ls) {j : Nat} (hj : j < ls.length) :
 ∃ b o x c, a = some ⟨b, o, none⟩ ∧ w.cell? ⟨b, o + j, none⟩ = some (.slice x ls[j].length c) ∧ Sl w (.slice x ls[j].length c) (u8s ls[j]) := by
 obtain ⟨vs, h1, h2, h3⟩ := h
 obtain ⟨b, o, rfl, hn, -, -, hc⟩ := h1.at zOm
 have hv : vs[j]? = some vs[j] := List.getElem?_eq_getElem zOm
 have h4 := h3 j vs[j] ls[j] hv (List.getElem?_eq_getElem hj)
 obtain ⟨x, c, e1, r⟩ := h4
 rw [u8s_len] at e1
 refine ⟨b, o, x, c, rfl, ?_, ?_⟩
 · rw [← e1]; exact hc j _ hv
 · exact ⟨x, c, by rw [u8s_len], r⟩
def digs (b k n : Nat) : List Nat := (List.range k).map fun i => n / b ^ i % b
theorem digs_len (b k n : Nat) : (digs b k n).length = k := by simp [digs]
theorem digs_get (b k n i : Nat) (h : i < k) : (digs b k n)[i]? = some (n / b ^ i % b) := by simp [digs, h]
def part {α : Type} (k : Nat) (xs : List α) (z : α) : List α := xs.take k ++ List.replicate (xs.length - k) z
theorem part_len {α : Type} (k : Nat) (xs : List α) (z : α) : (part k xs z).length = xs.length := by
 simp only [part, List.length_append, List.length_take, List.length_replicate]; omega
theorem part_all {α : Type} (xs : List α) (z : α) : part xs.length xs z = xs := by simp [part]
theorem part_get {α : Type} (k j : Nat) (xs : List α) (z : α) (h : j < xs.length) : (part k xs z)[j]? = if j < k then xs[j]? else some z := by
 unfold part
 by_cases hj : j < k
 · rw [if_pos hj, List.getElem?_append_left (by simp; omega), List.getElem?_take, if_pos hj]
 · rw [if_neg hj, List.getElem?_append_right (by simp; omega), List.getElem?_replicate, if_pos (by simp; omega)]
theorem part_set {α : Type} {k : Nat} {xs : List α} {z u : α} (h : xs[k]? = some u) : (part k xs z).set k u = part (k + 1) xs z := by
 have hk : k < xs.length := (List.getElem?_eq_some_iff.1 h).1
 apply List.ext_getElem?
 intro j
 by_cases hj : j < xs.length
 · rw [List.getElem?_set, part_get k j xs z hj, part_get (k + 1) j xs z hj, part_len]
   by_cases e : k = j
   · subst e; rw [if_pos rfl, if_pos hk, if_pos zOm, h]
   · rw [if_neg e]
     by_cases h2 : j < k
     · rw [if_pos h2, if_pos zOm]
     · rw [if_neg h2, if_neg zOm]
 · rw [List.getElem?_eq_none (by rw [List.length_set, part_len]; omega), List.getElem?_eq_none (by rw [part_len]; omega)]
def carry (b k x y : Nat) : Nat := (x % b ^ k + y % b ^ k) / b ^ k
theorem carry_zero (b x y : Nat) : carry b 0 x y = 0 := by simp [carry, Nat.mod_one]
theorem mod_pow_succ' (b k x : Nat) : x % b ^ (k + 1) = x % b ^ k + b ^ k * (x / b ^ k % b) := by
 rw [Nat.pow_succ, Nat.mod_mul]
theorem carry_le (b k x y : Nat) (hb : 0 < b) : carry b k x y ≤ 1 := by
 unfold carry
 have hp : 0 < b ^ k := Nat.pow_pos hb
 have h1 := Nat.mod_lt x hp
 have h2 := Nat.mod_lt y hp
 apply Nat.lt_succ_iff.1
 rw [Nat.div_lt_iff_lt_mul hp]
 omega
theorem carry_step (b k x y : Nat) (hb : 0 < b) : carry b (k + 1) x y = (x / b ^ k % b + y / b ^ k % b + carry b k x y) / b := by
 unfold carry
 have hp : 0 < b ^ k := Nat.pow_pos hb
 rw [mod_pow_succ', mod_pow_succ', Nat.pow_succ, ← Nat.div_div_eq_div_mul,
  show x % b ^ k + b ^ k * (x / b ^ k % b) + (y % b ^ k + b ^ k * (y / b ^ k % b)) = (x % b ^ k + y % b ^ k) + b ^ k * (x / b ^ k % b + y / b ^ k % b) by rw [Nat.mul_add]; omega,
  Nat.add_mul_div_left _ _ hp]
 congr 1
 omega
theorem carry_digit (b k x y : Nat) (hb : 0 < b) : (x + y) / b ^ k % b = (x / b ^ k % b + y / b ^ k % b + carry b k x y) % b := by
 have hp : 0 < b ^ k := Nat.pow_pos hb
 have hx := Nat.div_add_mod x (b ^ k)
 have hy := Nat.div_add_mod y (b ^ k)
 have e : x + y = (x % b ^ k + y % b ^ k) + b ^ k * (x / b ^ k + y / b ^ k) := by rw [Nat.mul_add]; omega
 rw [e, Nat.add_mul_div_left _ _ hp]
 show (carry b k x y + (x / b ^ k + y / b ^ k)) % b = _
 rw [Nat.add_comm (carry b k x y), Nat.add_mod (x / b ^ k % b + y / b ^ k % b), ← Nat.add_mod (x / b ^ k), ← Nat.add_mod]
theorem limb_byte (n k : Nat) : n / 18446744073709551616 ^ (k / 8) % 18446744073709551616 / 2 ^ (8 * (k % 8)) % 256 = n / 256 ^ k % 256 := by
 have hr : k % 8 < 8 := Nat.mod_lt _ zDc
 have hk : k = 8 * (k / 8) + k % 8 := by omega
 have e1 : (18446744073709551616 : Nat) ^ (k / 8) = 256 ^ (8 * (k / 8)) := by rw [Nat.pow_mul]
 have e2 : (2 : Nat) ^ (8 * (k % 8)) = 256 ^ (k % 8) := by rw [Nat.pow_mul]
 have e3 : (18446744073709551616 : Nat) = 256 ^ (k % 8) * 256 ^ (8 - k % 8) := by rw [← Nat.pow_add, show k % 8 + (8 - k % 8) = 8 by omega]
 have e4 : (256 : Nat) ^ k = 256 ^ (8 * (k / 8)) * 256 ^ (k % 8) := by rw [← Nat.pow_add, ← hk]
 rw [e1, e2, e4, ← Nat.div_div_eq_div_mul]
 generalize n / 256 ^ (8 * (k / 8)) = m
 have e5 : m % 18446744073709551616 = m % (256 ^ (k % 8) * 256 ^ (8 - k % 8)) := by rw [← e3]
 rw [e5, Nat.mod_mul_right_div_self, Nat.mod_mod_of_dvd]
 exact Nat.dvd_of_pow_dvd (by omega : 1 ≤ 8 - k % 8) (Nat.dvd_refl _) |> fun h => by simpa using h
def borrow (b k x y : Nat) : Nat := if x % b ^ k < y % b ^ k then 1 else 0
theorem borrow_zero (b x y : Nat) : borrow b 0 x y = 0 := by simp [borrow, Nat.mod_one]
theorem borrow_le (b k x y : Nat) : borrow b k x y ≤ 1 := by unfold borrow; split <;> omega
theorem borrow_step (b k x y : Nat) (hb : 0 < b) : borrow b (k + 1) x y = if x / b ^ k % b < y / b ^ k % b + borrow b k x y then 1 else 0 := by
 have hp : 0 < b ^ k := Nat.pow_pos hb
 unfold borrow
 rw [mod_pow_succ', mod_pow_succ']
 generalize x / b ^ k % b = X
 generalize y / b ^ k % b = Y
 have h1 := Nat.mod_lt x hp
 have h2 := Nat.mod_lt y hp
 generalize x % b ^ k = r at h1 ⊢
 generalize y % b ^ k = s at h2 ⊢
 generalize b ^ k = P at hp h1 h2 ⊢
 rcases Nat.lt_trichotomy X Y with h | h | h
 · have : P * (X + 1) ≤ P * Y := Nat.mul_le_mul_left P h
   rw [Nat.mul_add] at this
   split <;> (split <;> split <;> omega)
 · subst h
   split <;> (split <;> split <;> omega)
 · have : P * (Y + 1) ≤ P * X := Nat.mul_le_mul_left P h
   rw [Nat.mul_add] at this
   split <;> (split <;> split <;> omega)
theorem borrow_digit (b k m x y : Nat) (hb : 0 < b) (hk : k < m) (hxy : y ≤ x + b ^ m) : (x + b ^ m - y) / b ^ k % b = (x / b ^ k % b + b - y / b ^ k % b - borrow b k x y) % b := by
 have hp : 0 < b ^ k := Nat.pow_pos hb
 obtain ⟨d, rfl⟩ : ∃ d, m = k + 1 + d := ⟨m - (k + 1), by omega⟩
 have e : b ^ (k + 1 + d) = b ^ k * (b * b ^ d) := by rw [Nat.pow_add, Nat.pow_succ, Nat.mul_assoc]
 rw [e] at hxy ⊢
 have hx := Nat.div_add_mod x (b ^ k)
 have hy := Nat.div_add_mod y (b ^ k)
 have h1 := Nat.mod_lt x hp
 have h2 := Nat.mod_lt y hp
 have hX := Nat.div_add_mod (x / b ^ k) b
 have hY := Nat.div_add_mod (y / b ^ k) b
 have h3 := Nat.mod_lt (x / b ^ k) hb
 have h4 := Nat.mod_lt (y / b ^ k) hb
 unfold borrow
 generalize hxq : x / b ^ k = xq at *
 generalize hyq : y / b ^ k = yq at *
 generalize hxr : x % b ^ k = xr at *
 generalize hyr : y % b ^ k = yr at *
 clear hxq hyq hxr hyr
 generalize b ^ k = P at *
 generalize hXm : xq % b = X at *
 generalize hYm : yq % b = Y at *
 generalize xq / b = xh at *
 generalize yq / b = yh at *
 generalize hD : b ^ d = D at *
 clear hXm hYm hD e
 have key : ∃ q r, x + P * (b * D) - y = P * q + r ∧ r < P ∧ q + yq + (if xr < yr then 1 else 0) = xq + b * D := by
  have hP1 : ∀ u v, u + 1 ≤ v → P * u + P ≤ P * v := fun u v h => by have := Nat.mul_le_mul_left P h; rwa [Nat.mul_add, Nat.mul_one] at this
  by_cases hb2 : xr < yr
  · have h5 : yq + 1 ≤ xq + b * D := by
     rcases Nat.lt_or_ge yq (xq + b * D) with h | h
     · omega
     · have := Nat.mul_le_mul_left P h
       rw [Nat.mul_add] at this
       omega
    refine ⟨xq + b * D - yq - 1, P + xr - yr, ?_, by omega, by rw [if_pos hb2]; omega⟩
    obtain ⟨t, ht⟩ : ∃ t, xq + b * D = yq + 1 + t := ⟨_, (Nat.add_sub_of_le h5).symm⟩
    have h6 : P * (xq + b * D) = P * yq + P + P * t := by rw [ht, Nat.mul_add, Nat.mul_add, Nat.mul_one]
    rw [Nat.mul_add] at h6
    rw [show xq + b * D - yq - 1 = t by omega]
    omega
  · have h5 : yq ≤ xq + b * D := by
     rcases Nat.lt_or_ge (xq + b * D) yq with h | h
     · have := hP1 _ _ h
       rw [Nat.mul_add] at this
       omega
     · omega
    refine ⟨xq + b * D - yq, xr - yr, ?_, by omega, by rw [if_neg hb2]; omega⟩
    obtain ⟨t, ht⟩ : ∃ t, xq + b * D = yq + t := ⟨_, (Nat.add_sub_of_le h5).symm⟩
    have h6 : P * (xq + b * D) = P * yq + P * t := by rw [ht, Nat.mul_add]
    rw [Nat.mul_add] at h6
    rw [show xq + b * D - yq = t by omega]
    omega
 obtain ⟨q, r, h5, h6, h7⟩ := key
 rw [h5, Nat.mul_add_div hp, Nat.div_eq_of_lt h6, Nat.add_zero]
 have hbor : (if xr < yr then 1 else 0) ≤ 1 := by split <;> omega
 generalize (if xr < yr then 1 else 0) = B at *
 have h8 : q + b * (yh + 1) = (X + b - Y - B) + b * (xh + D) := by
  rw [Nat.mul_add, Nat.mul_add, Nat.mul_one]
  omega
 have h9 := congrArg (· % b) h8
 simpa only [Nat.add_mul_mod_self_left] using h9
theorem lim_pow (j : Nat) : (18446744073709551616 : Nat) ^ j = 256 ^ (8 * j) := by rw [Nat.pow_mul]
theorem of_low (n k j : Nat) (h : j < k / 8) : n % 256 ^ (k + 1) / 18446744073709551616 ^ j % 18446744073709551616 = n % 256 ^ k / 18446744073709551616 ^ j % 18446744073709551616 := by
 have hp : 0 < (18446744073709551616 : Nat) ^ j := Nat.pow_pos zDc
 have e : (256 : Nat) ^ k = 18446744073709551616 ^ j * (18446744073709551616 * 256 ^ (k - 8 * j - 8)) := by
  rw [lim_pow, show (18446744073709551616 : Nat) = 256 ^ 8 by decide, ← Nat.pow_add, ← Nat.pow_add]
  congr 1; omega
 rw [mod_pow_succ', e, Nat.mul_assoc, Nat.add_mul_div_left _ _ hp, Nat.mul_assoc, Nat.add_mul_mod_self_left]
theorem of_at (n k : Nat) : n % 256 ^ (k + 1) / 18446744073709551616 ^ (k / 8) % 18446744073709551616 = n % 256 ^ k / 18446744073709551616 ^ (k / 8) + n / 256 ^ k % 256 * 256 ^ (k % 8) ∧
 n % 256 ^ k / 18446744073709551616 ^ (k / 8) < 256 ^ (k % 8) ∧ n % 256 ^ k / 18446744073709551616 ^ (k / 8) + n / 256 ^ k % 256 * 256 ^ (k % 8) < 18446744073709551616 := by
 have hp : 0 < (18446744073709551616 : Nat) ^ (k / 8) := Nat.pow_pos zDc
 have e : (256 : Nat) ^ k = 18446744073709551616 ^ (k / 8) * 256 ^ (k % 8) := by
  rw [lim_pow, ← Nat.pow_add]
  congr 1; omega
 have h1 : n % 256 ^ k / 18446744073709551616 ^ (k / 8) < 256 ^ (k % 8) := by
  rw [Nat.div_lt_iff_lt_mul hp, Nat.mul_comm, ← e]
  exact Nat.mod_lt _ (Nat.pow_pos zDc)
 have h2 : n / 256 ^ k % 256 < 256 := Nat.mod_lt _ zDc
 have h3 : n % 256 ^ k / 18446744073709551616 ^ (k / 8) + n / 256 ^ k % 256 * 256 ^ (k % 8) < 18446744073709551616 := by
  have h4 : (n / 256 ^ k % 256 + 1) * 256 ^ (k % 8) ≤ 256 * 256 ^ (k % 8) := Nat.mul_le_mul_right _ h2
  have h5 : 256 * 256 ^ (k % 8) ≤ 18446744073709551616 := by
   rw [Nat.mul_comm, ← Nat.pow_succ, show (18446744073709551616 : Nat) = 256 ^ 8 by decide]
   exact Nat.pow_le_pow_right zDc zOm
  rw [Nat.add_mul, Nat.one_mul] at h4
  omega
 refine ⟨?_, h1, h3⟩
 rw [mod_pow_succ']
 conv => lhs; rw [show n % 256 ^ k + 256 ^ k * (n / 256 ^ k % 256) = n % 256 ^ k + 18446744073709551616 ^ (k / 8) * (256 ^ (k % 8) * (n / 256 ^ k % 256)) by rw [← Nat.mul_assoc, ← e]]
 rw [Nat.add_mul_div_left _ _ hp, Nat.mul_comm (256 ^ (k % 8)), Nat.mod_eq_of_lt h3]
theorem of_high (n k j : Nat) (h : k / 8 < j) : n % 256 ^ (k + 1) / 18446744073709551616 ^ j % 18446744073709551616 = n % 256 ^ k / 18446744073709551616 ^ j % 18446744073709551616 := by
 have h1 : n % 256 ^ (k + 1) < 18446744073709551616 ^ j := by
  rw [lim_pow]
  exact Nat.lt_of_lt_of_le (Nat.mod_lt _ (Nat.pow_pos zDc)) (Nat.pow_le_pow_right zDc zOm)
 have h2 : n % 256 ^ k < 18446744073709551616 ^ j := by
  rw [lim_pow]
  exact Nat.lt_of_lt_of_le (Nat.mod_lt _ (Nat.pow_pos zDc)) (Nat.pow_le_pow_right zDc zOm)
 rw [Nat.div_eq_of_lt h1, Nat.div_eq_of_lt h2]
theorem i64_in {n : Int} (h : -9223372036854775808 ≤ n ∧ n ≤ 9223372036854775807) : IntKind.i64.wrap n = n := by
 simp [IntKind.wrap, IntKind.bits, IntKind.signed]
 split <;> omega
def Arr (w : World) (g : Nat) (xs : List Value) : Prop := ∃ T, w.heap[g]? = some (.cells xs.toArray T (0, 0))
theorem Arr.lt {w : World} {g : Nat} {xs : List Value} (h : Arr w g xs) : g < w.heap.size := by
 obtain ⟨T, h⟩ := h
 exact (Array.getElem?_eq_some_iff.1 h).1
theorem Arr.cell {w : World} {g j : Nat} {xs : List Value} {u : Value} (h : Arr w g xs) (hj : xs[j]? = some u) : w.cell? ⟨g, j, none⟩ = some u := by
 obtain ⟨T, h⟩ := h
 rw [cell_of_row w g j _ T _ h]
 simpa using hj
theorem Arr.frozen {w : World} {g : Nat} {xs : List Value} (h : Arr w g xs) (j : Nat) : w.frozen? ⟨g, j, none⟩ = false := by
 obtain ⟨T, h⟩ := h
 simp [World.frozen?, h]
theorem Arr.set {w : World} {g : Nat} {xs : List Value} (h : Arr w g xs) (j : Nat) (u : Value) : Arr (w.setCell ⟨g, j, none⟩ u) g (xs.set j u) := by
 obtain ⟨T, h⟩ := h
 refine ⟨T, ?_⟩
 rw [heap_setCell_same w g j _ T u h]
 simp
theorem Arr.other {w : World} {g : Nat} {xs : List Value} (h : Arr w g xs) {a : Addr} (ha : g ≠ a.block) (u : Value) : Arr (w.setCell a u) g xs := by
 obtain ⟨T, h⟩ := h
 exact ⟨T, by rw [heap_setCell_other w a g u ha]; exact h⟩
theorem Arr.alloc {w : World} {g : Nat} {xs : List Value} (h : Arr w g xs) (o : Obj) : Arr (w.alloc o) g xs := by
 have := h.lt
 obtain ⟨T, h⟩ := h
 exact ⟨T, by rw [Below.heap_alloc w o g this]; exact h⟩
theorem Arr.new (w : World) (xs : Array Value) (T : TypeId) : Arr (w.alloc (.cells xs T)) w.heap.size xs.toList := ⟨T, by rw [heap_alloc_new]⟩
theorem Arr.below {w w' : World} {g : Nat} {xs : List Value} (h : Arr w g xs) (hb : Below w.heap.size w w') : Arr w' g xs := by
 have := h.lt
 obtain ⟨T, h⟩ := h
 exact ⟨T, by rw [hb.block g this]; exact h⟩
theorem grownBy_drew {w w' : World} {row : Option Nat} (h : w.grownBy w' row) : w.grownBy w'.drew row := ⟨h.os, h.tape, h.output, h.size, h.block⟩
theorem Arr.kept {w w' : World} {g k : Nat} {xs : List Value} (h : Arr w g xs) (hg : w.grownBy w' (some k)) (hk : k ≠ g) : Arr w' g xs := by
 have := h.lt
 obtain ⟨T, h⟩ := h
 exact ⟨T, by rw [hg.block g this (by simp only [ne_eq, Option.some.injEq]; omega)]; exact h⟩
theorem Arr.grown {w : World} {g : Nat} {xs : List Value} (_ : Arr w g xs) (j : Nat) (u : Value) : w.grownBy (w.setCell ⟨g, j, none⟩ u) (some g) :=
 ⟨rfl, rfl, rfl, by simp [World.setCell], fun k _ hn => Below.heap_setCell _ _ _ _ (by simpa using hn)⟩
theorem Arr.setRow {w : World} {g : Nat} {xs : List Value} (h : Arr w g xs) (ys : List Value) : Arr (w.setRow g ys.toArray) g ys := by
 obtain ⟨T, h⟩ := h
 exact ⟨T, setRow_heap w g _ _ T _ h⟩
theorem Arr.row_other {w : World} {g k : Nat} {xs : List Value} (h : Arr w g xs) (hk : g ≠ k) (ys : Array Value) : Arr (w.setRow k ys) g xs := by
 obtain ⟨T, h⟩ := h
 refine ⟨T, ?_⟩
 rw [← h]
 simp [World.setRow, Array.getElem?_modify, Ne.symm hk]
theorem below_setRow {n : Nat} {w w' : World} {g : Nat} (h : Below n w w') (hg : n ≤ g) (ys : Array Value) : Below n w (w'.setRow g ys) := by
 refine h.trans ⟨rfl, rfl, rfl, by simp [World.setRow], fun k hk => ?_⟩
 simp only [World.setRow, Array.getElem?_modify]
 rw [if_neg zOm]
section
variable {P : Program}
theorem results_arr_tmp {fn : Func} {p u : Tmp} {ty : TypeId} (h : fn.results = #[.cell p ty, .tmp u]) (tmps : Array Value) (w : World) (g : Nat) (d : TypeDesc)
 (hp : tmps.getD p undef = .pointer (some ⟨g, 0, none⟩)) (hu : P.underlying ty = some d) (hd : (match d with | .struct _ | .array _ _ => true | _ => false) = true) (xs : List Value) (hg : Arr w g xs) (hi : (P.info? ty).map (·.size) = some xs.length)
 (v : Value) (hv : tmps.getD u undef = v) : (results fn tmps).run P w = .ok (.tuple #[.agg xs.toArray, v]) w := by
 obtain ⟨T, hg⟩ := hg
 rw [results_cell_tmp h, hp, hv]
 simp [asAddr, run_loadVar_row w g T ty _ (0, 0) d hg hu hd (by simpa using hi)]
theorem wpList_load_arr {ops : Array Oper} {rest : List Oper} {o : Oper} {a : Act} {w : World} {Q : Exit → Act → World → Prop} (hgd : o.guard = none) (ty : TypeId) (x : Operand) (ho : o.op = .load ty x)
 (g : Nat) (hx : a.eval x = .pointer (some ⟨g, 0, none⟩)) (d : TypeDesc) (hu : P.underlying ty = some d) (hd : (match d with | .struct _ | .array _ _ => true | _ => false) = true) (xs : List Value) (hg : Arr w g xs) (hi : (P.info? ty).map (·.size) = some xs.length)
 (h : wpList P ops Q rest (a.put o.dst (.agg xs.toArray)) w) : wpList P ops Q (o :: rest) a w := by
 obtain ⟨T, hg⟩ := hg
 exact wpList_load_row hgd ty x ho g hx T _ (0, 0) d hg hu hd (by simpa using hi) h
theorem wpList_store_arr {ops : Array Oper} {rest : List Oper} {o : Oper} {a : Act} {w : World} {Q : Exit → Act → World → Prop} (hgd : o.guard = none) (ty : TypeId) (x y : Operand) (ho : o.op = .store ty x y)
 (g : Nat) (ys : List Value) (hx : a.eval x = .pointer (some ⟨g, 0, none⟩)) (hy : a.eval y = .agg ys.toArray) (xs : List Value) (hg : Arr w g xs) (hi : (P.info? ty).map (·.size) = some ys.length)
 (hold : xs.length = ys.length) (h1 : ∀ v ∈ ys, v.oneCell' = true)
 (h : wpList P ops Q rest (a.put o.dst undef) (w.setRow g ys.toArray)) : wpList P ops Q (o :: rest) a w := by
 obtain ⟨T, hg⟩ := hg
 exact wpList_store_row hgd ty x y ho g _ hx hy T _ hg (by simpa using hi) (by simpa using hold) (by simpa [Array.all_eq_true_iff_forall_mem] using h1) h
theorem results_arr {fn : Func} {p : Tmp} {ty : TypeId} (h : fn.results = #[.cell p ty]) (tmps : Array Value) (w : World) (g : Nat) (d : TypeDesc)
 (hp : tmps.getD p undef = .pointer (some ⟨g, 0, none⟩)) (hu : P.underlying ty = some d) (hd : (match d with | .struct _ | .array _ _ => true | _ => false) = true) (xs : List Value) (hg : Arr w g xs) (hi : (P.info? ty).map (·.size) = some xs.length) :
 (results fn tmps).run P w = .ok (.agg xs.toArray) w := by
 obtain ⟨T, hg⟩ := hg
 exact results_cell_row h tmps w g T _ (0, 0) d hp hg hu hd (by simpa using hi)
theorem wp_new1 {c : Code} {Q : Exit → Act → World → Prop} {a : Act} {w : World} {A : Array Value} {TA : TypeId}
 (h : ∀ W, W.heap.size = w.heap.size + 1 → Arr W w.heap.size A.toList → Below w.heap.size w W → Code.wp P c Q a W) :
 Code.wp P c Q a (w.alloc (.cells A TA)) :=
 h _ (by simp) (Arr.new _ _ _) (below_alloc _ _)
theorem wp_new2 {c : Code} {Q : Exit → Act → World → Prop} {a : Act} {w : World} {A B : Array Value} {TA TB : TypeId}
 (h : ∀ W, W.heap.size = w.heap.size + 2 → Arr W w.heap.size A.toList → Arr W (w.heap.size + 1) B.toList → Below w.heap.size w W → Code.wp P c Q a W) :
 Code.wp P c Q a ((w.alloc (.cells A TA)).alloc (.cells B TB)) :=
 h _ (by simp) ((Arr.new _ _ _).alloc _) (by have := Arr.new (w.alloc (.cells A TA)) B TB; simpa using this) ((below_alloc _ _).alloc (by simp) _)
theorem wp_new3 {c : Code} {Q : Exit → Act → World → Prop} {a : Act} {w : World} {A B C : Array Value} {TA TB TC : TypeId}
 (h : ∀ W, W.heap.size = w.heap.size + 3 → Arr W w.heap.size A.toList → Arr W (w.heap.size + 1) B.toList → Arr W (w.heap.size + 1 + 1) C.toList → Below w.heap.size w W → Code.wp P c Q a W) :
 Code.wp P c Q a (((w.alloc (.cells A TA)).alloc (.cells B TB)).alloc (.cells C TC)) :=
 h _ (by simp) (((Arr.new _ _ _).alloc _).alloc _) (by have := (Arr.new (w.alloc (.cells A TA)) B TB).alloc (.cells C TC); simpa using this)
  (by have := Arr.new ((w.alloc (.cells A TA)).alloc (.cells B TB)) C TC; simpa using this) (((below_alloc _ _).alloc (by simp) _).alloc (by simp; omega) _)
theorem wp_new4 {c : Code} {Q : Exit → Act → World → Prop} {a : Act} {w : World} {A B C D : Array Value} {TA TB TC TD : TypeId}
 (h : ∀ W, W.heap.size = w.heap.size + 4 → Arr W w.heap.size A.toList → Arr W (w.heap.size + 1) B.toList → Arr W (w.heap.size + 1 + 1) C.toList → Arr W (w.heap.size + 1 + 1 + 1) D.toList → Below w.heap.size w W → Code.wp P c Q a W) :
 Code.wp P c Q a ((((w.alloc (.cells A TA)).alloc (.cells B TB)).alloc (.cells C TC)).alloc (.cells D TD)) :=
 h _ (by simp) ((((Arr.new _ _ _).alloc _).alloc _).alloc _) (by have := ((Arr.new (w.alloc (.cells A TA)) B TB).alloc (.cells C TC)).alloc (.cells D TD); simpa using this)
  (by have := (Arr.new ((w.alloc (.cells A TA)).alloc (.cells B TB)) C TC).alloc (.cells D TD); simpa using this)
  (by have := Arr.new (((w.alloc (.cells A TA)).alloc (.cells B TB)).alloc (.cells C TC)) D TD; simpa using this) ((((below_alloc _ _).alloc (by simp) _).alloc (by simp; omega) _).alloc (by simp; omega) _)
theorem run_index_arr (w : World) (ty e : TypeId) (len : Nat) (d : TypeDesc) (i : TypeInfo) (hu : P.underlying ty = some (.array len e)) (he : P.underlying e = some d) (hd : (match d with | .struct _ | .array _ _ => true | _ => false) = false) (hi : P.info? e = some i) (hsz : i.size = 1)
 (xs : List Value) (k : Nat) (v : Value) (hk : k < len) (hv : xs[k]? = some v) : (Instr.index ty (.agg xs.toArray) (.int .i64 (k : Int))).run P w = .ok v w := by
 unfold Instr.index
 have hagg : (isAgg e).run P w = .ok false w := by
  unfold isAgg
  rw [Sem.run_bind, run_underlying he w]
  cases d <;> simp_all
 simp [asIntOf, Sem.run_bind, run_underlying hu w, hk, sizeOf, typeInfo, hi, hsz, Go.part, hagg, hv]
end
theorem u32_toNat {a : Nat} (ha : a < 4294967296) : (BitVec.ofInt 32 (a : Int)).toNat = a := by
 rw [BitVec.ofInt_natCast, BitVec.toNat_ofNat]
 exact Nat.mod_eq_of_lt ha
theorem u32_in {a : Nat} (ha : a < 4294967296) : IntKind.u32.wrap (a : Int) = (a : Int) := by
 simp [IntKind.wrap, IntKind.bits, IntKind.signed]
 omega
theorem u32_mod (a : Nat) : IntKind.u32.wrap (a : Int) = ((a % 4294967296 : Nat) : Int) := by
 simp [IntKind.wrap, IntKind.bits, IntKind.signed]
theorem xor_u32 {a b : Nat} (ha : a < 4294967296) (hb : b < 4294967296) : bits .xor .u32 (a : Int) (b : Int) = ((a ^^^ b : Nat) : Int) := by
 show IntKind.u32.wrap ((BitVec.ofInt 32 (a : Int) ^^^ BitVec.ofInt 32 (b : Int)).toNat : Int) = _
 rw [BitVec.toNat_xor, u32_toNat ha, u32_toNat hb]
 exact u32_in (Nat.xor_lt_two_pow (n := 32) ha hb)
theorem or_u32 {a b : Nat} (ha : a < 4294967296) (hb : b < 4294967296) : bits .or .u32 (a : Int) (b : Int) = ((a ||| b : Nat) : Int) := by
 show IntKind.u32.wrap ((BitVec.ofInt 32 (a : Int) ||| BitVec.ofInt 32 (b : Int)).toNat : Int) = _
 rw [BitVec.toNat_or, u32_toNat ha, u32_toNat hb]
 exact u32_in (Nat.or_lt_two_pow (n := 32) ha hb)
theorem and_u32 {a b : Nat} (ha : a < 4294967296) (hb : b < 4294967296) : bits .and .u32 (a : Int) (b : Int) = ((a &&& b : Nat) : Int) := by
 show IntKind.u32.wrap ((BitVec.ofInt 32 (a : Int) &&& BitVec.ofInt 32 (b : Int)).toNat : Int) = _
 rw [BitVec.toNat_and, u32_toNat ha, u32_toNat hb]
 exact u32_in (Nat.lt_of_le_of_lt Nat.and_le_left ha)
def ws (l : List Nat) : List Value := l.map fun (x : Nat) => .int .u32 (x : Int)
theorem ws_len (l : List Nat) : (ws l).length = l.length := by simp [ws]
theorem ws_one (l : List Nat) : ∀ v ∈ ws l, v.oneCell' = true := by
 intro v hv
 simp only [ws, List.mem_map] at hv
 obtain ⟨x, -, rfl⟩ := hv
 rfl
theorem ws_get {l : List Nat} {j : Nat} (h : j < l.length) : (ws l)[j]? = some (.int .u32 ((l.getD j 0 : Nat) : Int)) := by
 simp [ws, h]
theorem ws_set (l : List Nat) (j x : Nat) : (ws l).set j (.int .u32 (x : Int)) = ws (l.set j x) := by
 simp [ws, List.map_set]
def W32 (l : List Nat) : Prop := ∀ x ∈ l, x < 4294967296
theorem W32.get {l : List Nat} (h : W32 l) (j : Nat) : l.getD j 0 < 4294967296 := by
 rw [List.getD_eq_getElem?_getD]
 cases e : l[j]? with
 | none => decide
 | some x => exact h x (List.mem_of_getElem? e)
theorem W32.set {l : List Nat} (h : W32 l) (j : Nat) {x : Nat} (hx : x < 4294967296) : W32 (l.set j x) := by
 intro y hy
 rcases List.mem_or_eq_of_mem_set hy with h1 | rfl
 · exact h y h1
 · exact hx
def rl (x k : Nat) : Nat := (x * 2 ^ k % 4294967296) ||| (x / 2 ^ (32 - k))
theorem rl_lt {x : Nat} (hx : x < 4294967296) (k : Nat) : rl x k < 4294967296 :=
 Nat.or_lt_two_pow (n := 32) (Nat.mod_lt _ zDc) (Nat.lt_of_le_of_lt (Nat.div_le_self _ _) hx)
theorem xor_lt {x y : Nat} (hx : x < 4294967296) (hy : y < 4294967296) : x ^^^ y < 4294967296 := Nat.xor_lt_two_pow (n := 32) hx hy
def qa (l : List Nat) (a b : Nat) : List Nat := l.set a ((l.getD a 0 + l.getD b 0) % 4294967296)
def qx (l : List Nat) (d a k : Nat) : List Nat := l.set d (rl (l.getD d 0 ^^^ l.getD a 0) k)
def qr (l : List Nat) (a b c d : Nat) : List Nat := qx (qa (qx (qa (qx (qa (qx (qa l a b) d a 16) c d) b c 12) a b) d a 8) c d) b c 7
theorem qa_len (l : List Nat) (a b : Nat) : (qa l a b).length = l.length := by simp [qa]
theorem qx_len (l : List Nat) (d a k : Nat) : (qx l d a k).length = l.length := by simp [qx]
theorem qr_len (l : List Nat) (a b c d : Nat) : (qr l a b c d).length = l.length := by simp only [qr, qa_len, qx_len]
theorem qa_32 {l : List Nat} (h : W32 l) (a b : Nat) : W32 (qa l a b) := h.set a (Nat.mod_lt _ zDc)
theorem qx_32 {l : List Nat} (h : W32 l) (d a k : Nat) : W32 (qx l d a k) := h.set d (rl_lt (xor_lt (h.get d) (h.get a)) k)
theorem qr_32 {l : List Nat} (h : W32 l) (a b c d : Nat) : W32 (qr l a b c d) := qx_32 (qa_32 (qx_32 (qa_32 (qx_32 (qa_32 (qx_32 (qa_32 h _ _) _ _ _) _ _) _ _ _) _ _) _ _ _) _ _) _ _ _
section
variable {P : Program} {ops : Array Oper} {Q : Exit → Act → World → Prop}
theorem wpAnyH_weaken {md : Region.Mode} {S S' : World → Prop} (hSS : ∀ w, S' w → S w) : ∀ (fuel : Nat) (listed : Array Bool) (a : Act) (w : World), wpAnyH P md ops Q S' fuel listed a w → wpAnyH P md ops Q S fuel listed a w
 | 0, _, _, _, h => h
 | fuel + 1, _, _, _, h => ⟨h.1, fun i hi => wpOp_mono (fun a' w' h' => ⟨hSS w' h'.1, wpAnyH_weaken hSS fuel _ a' w' h'.2⟩) (h.2 i hi)⟩
def mask (n d : Nat) : Array Bool := ((List.range n).map fun i => d.testBit i).toArray
theorem mask_zero (n : Nat) : Array.replicate n false = mask n 0 := by
 apply Array.ext'
 simp only [mask, Array.toList_replicate]
 apply List.ext_getElem <;> simp
theorem mask_set (n d i : Nat) : (mask n d).setIfInBounds i true = mask n (d ||| 2 ^ i) := by
 apply Array.ext'
 simp only [mask, Array.toList_setIfInBounds]
 apply List.ext_getElem
 · simp
 · intro j h1 h2
   rw [List.getElem_set]
   simp only [List.getElem_map, List.getElem_range, Nat.testBit_or, Nat.testBit_two_pow]
   split
   · rename_i e; subst e; simp
   · rename_i e; simp [e]
def NoP (Q : Exit → Act → World → Prop) : Exit → Act → World → Prop
 | .panic _, _, _ => False
 | e, a, w => Q e a w
theorem NoP.imp {Q : Exit → Act → World → Prop} : ∀ (e : Exit) (a : Act) (w : World), NoP Q e a w → Q e a w := fun e a w h => by
 cases e <;> first | exact h | exact (h : False).elim
def Txt (P : Program) (l : List Oper) (Q : Exit → Act → World → Prop) (S : World → Prop) (f d : Nat) (a : Act) (w : World) : Prop :=
 wpAnyH P .any l.toArray (NoP Q) S f (mask l.length d) a w
theorem Txt.start {l : List Oper} {id : Nat} {a : Act} {w : World} (S : World → Prop) (n : Nat) (hn : l.length = n) (hm : P.follows .mixedOrders = true) (h : Txt P l Q S n 0 a w.drew) : (Code.region id l.toArray true).wp P Q a w := by
 refine Code.wp_mono NoP.imp (wp_region_held (S := S) hm ?_)
 subst hn
 rw [mask_zero]
 exact h
def rd (P : Program) (l : List Oper) (w : World) : List Nat → Act → Act → Prop
 | [], a, A => a = A
 | i :: is, a, A => ∃ o, l[i]? = some o ∧ ((Region.wanted o (yielded l.toArray a.tmps) = true ∧ ∃ v, (execOp a.eval o).run P w = .ok (.value v) w ∧ rd P l w is (a.put o.dst v) A) ∨
  (Region.wanted o (yielded l.toArray a.tmps) = false ∧ rd P l w is (a.put o.dst undef) A))
theorem rd_nil {l : List Oper} {w : World} {a : Act} : rd P l w [] a a := rfl
theorem rd_take {l : List Oper} {w : World} {i : Nat} {is : List Nat} {a A : Act} {o : Oper} {v : Value} (hi : l[i]? = some o) (hw : Region.wanted o (yielded l.toArray a.tmps) = true)
 (hr : (execOp a.eval o).run P w = .ok (.value v) w) (h : rd P l w is (a.put o.dst v) A) : rd P l w (i :: is) a A := ⟨o, hi, .inl ⟨hw, v, hr, h⟩⟩
theorem rd_skip {l : List Oper} {w : World} {i : Nat} {is : List Nat} {a A : Act} {o : Oper} (hi : l[i]? = some o) (hw : Region.wanted o (yielded l.toArray a.tmps) = false)
 (h : rd P l w is (a.put o.dst undef) A) : rd P l w (i :: is) a A := ⟨o, hi, .inr ⟨hw, h⟩⟩
def dsts (l : List Oper) : List Nat → List Nat
 | [] => []
 | i :: is => match l[i]? with | some o => (match o.dst with | some d => d :: dsts l is | none => dsts l is) | none => dsts l is
theorem put_tmps_ne {a : Act} {d d' : Nat} {v : Value} (h : d' ≠ d) : (a.put (some d) v).tmps[d']? = a.tmps[d']? := by
 simp only [Act.put]
 rw [Array.getElem?_setIfInBounds]
 rw [if_neg (fun e => h e.symm)]
theorem put_size {a : Act} {d : Option Nat} {v : Value} : (a.put d v).tmps.size = a.tmps.size := by
 cases d <;> simp [Act.put]
theorem put_tmps_eq {a : Act} {d : Nat} {v : Value} (h : d < a.tmps.size) : (a.put (some d) v).tmps[d]? = some v := by
 simp only [Act.put]
 rw [Array.getElem?_setIfInBounds, if_pos rfl, if_pos h]
theorem rd_keeps {l : List Oper} {w : World} {d : Nat} : ∀ (is : List Nat) (a A : Act), (dsts l is).contains d = false → rd P l w is a A → A.tmps[d]? = a.tmps[d]?
 | [], a, A, _, h => by rw [show a = A from h]
 | i :: is, a, A, hd, ⟨o, hi, h⟩ => by
  have hd2 : (dsts l is).contains d = false ∧ ∀ v, (a.put o.dst v).tmps[d]? = a.tmps[d]? := by
   cases hdst : o.dst with
   | none => simp only [dsts, hi, hdst] at hd; exact ⟨hd, fun v => rfl⟩
   | some d' =>
    simp only [dsts, hi, hdst, List.contains_cons, Bool.or_eq_false_iff, beq_eq_false_iff_ne] at hd
    exact ⟨hd.2, fun v => put_tmps_ne hd.1⟩
  rcases h with ⟨_, v, _, h⟩ | ⟨_, h⟩
  · rw [rd_keeps is _ A hd2.1 h, hd2.2]
  · rw [rd_keeps is _ A hd2.1 h, hd2.2]
def segOk (l : List Oper) (size : Nat) : Nat → Nat → Nat → List Nat → Nat → Bool
 | f', f, d, [], d' => f' == f && d == d'
 | f', f, d, i :: is, d' => (match f with | 0 => false | f + 1 => segOk l size f' f (d ||| 2 ^ i) is d') && Region.free .any l.toArray (mask l.length d) i && (Region.ready .any l.toArray (mask l.length d)).contains i &&
  (match l[i]? with | some o => (match o.dst with | some e => decide (e < size) && !(dsts l is).contains e | none => false) | none => false)
theorem rd_step {l : List Oper} {S : World → Prop} {i : Nat} {is : List Nat} {o : Oper} {a A : Act} {w : World} {d : Nat} (hi : l[i]? = some o) (hd : o.dst = some d) (hlt : d < a.tmps.size) (hno : (dsts l is).contains d = false) (hS : S w) (h : ∀ w', S w' → rd P l w' (i :: is) a A) :
 ∃ v, YieldsIf P l.toArray S o v a ∧ ∀ w', S w' → rd P l w' is (a.put o.dst v) A := by
 by_cases hw : Region.wanted o (yielded l.toArray a.tmps) = true
 · have key : ∀ w', S w' → ∃ v, (execOp a.eval o).run P w' = .ok (.value v) w' ∧ rd P l w' is (a.put o.dst v) A := by
    intro w' hS'
    obtain ⟨o', hi', h1⟩ := h w' hS'
    rw [hi] at hi'
    cases hi'
    rcases h1 with ⟨_, h1⟩ | ⟨h1, _⟩
    · exact h1
    · rw [hw] at h1; cases h1
   have same : ∀ w', S w' → ∀ v, rd P l w' is (a.put o.dst v) A → A.tmps[d]? = some v := by
    intro w' _ v h1
    rw [rd_keeps is _ A hno h1, hd, put_tmps_eq hlt]
   obtain ⟨v, h1, h2⟩ := key w hS
   have hv := same w hS v h2
   refine ⟨v, .inl ⟨hw, fun w' hS' => ?_⟩, fun w' hS' => ?_⟩ <;>
   · obtain ⟨v', h1', h2'⟩ := key w' hS'
     have hv' := same w' hS' v' h2'
     rw [hv] at hv'
     cases hv'
     first | exact h1' | exact h2'
 · have hw' : Region.wanted o (yielded l.toArray a.tmps) = false := by simpa using hw
   refine ⟨undef, .inr ⟨hw', rfl⟩, fun w' hS' => ?_⟩
   obtain ⟨o', hi', h1⟩ := h w' hS'
   rw [hi] at hi'
   cases hi'
   rcases h1 with ⟨h1, _⟩ | ⟨_, h1⟩
   · exact absurd h1 hw
   · exact h1
theorem Txt.seg {l : List Oper} {S : World → Prop} {w : World} {A : Act} (f' d' : Nat) (hs : Region.noSelect l.toArray = true) (hS : S w) :
 ∀ (is : List Nat) {f d : Nat} {a : Act}, segOk l a.tmps.size f' f d is d' = true → (∀ w', S w' → rd P l w' is a A) → Txt P l Q S f' d' A w → Txt P l Q S f d a w
 | [], f, d, a, hok, h, H => by
  simp only [segOk, Bool.and_eq_true, beq_iff_eq] at hok
  obtain ⟨rfl, rfl⟩ := hok
  rw [show a = A from h w hS]; exact H
 | i :: is, 0, d, a, hok, h, H => by simp [segOk] at hok
 | i :: is, f + 1, d, a, hok, h, H => by
  simp only [segOk, Bool.and_eq_true] at hok
  obtain ⟨⟨⟨hrest, hf⟩, hr⟩, hd⟩ := hok
  cases hi : l[i]? with
  | none => rw [hi] at hd; cases hd
  | some o =>
   rw [hi] at hd
   cases hdst : o.dst with
   | none => simp [hdst] at hd
   | some e =>
    simp only [hdst] at hd
    simp only [Bool.and_eq_true, decide_eq_true_eq, Bool.not_eq_true'] at hd
    obtain ⟨v, hy, hgo⟩ := rd_step (P := P) hi hdst hd.1 hd.2 hS h
    have ih := Txt.seg f' d' hs hS is (f := f) (d := d ||| 2 ^ i) (a := a.put o.dst v) (by rw [put_size]; exact hrest) hgo H
    unfold Txt
    refine wpAnyH_take (oi := o) (v := v) (by simpa using hi) hs hf hr (fun c a w hq => hq) hy hS ?_
    rw [mask_set]
    exact ih
theorem Txt.eff {l : List Oper} {S : World → Prop} {w : World} {f d : Nat} {a : Act} {o : Oper} (i d' : Nat) (ho : l[i]? = some o) (hr : (Region.ready .any l.toArray (mask l.length d) == [i] && (d ||| 2 ^ i) == d') = true)
 (h : ∀ K : Act → World → Prop, (∀ (S' : World → Prop) a' w', S w' → (∀ w'', S' w'' → S w'') → Txt P l Q S' f d' a' w' → K a' w') → if Region.wanted o (yielded l.toArray a.tmps) = true then Oper.wp P o a w K (NoP Q) else K (a.put o.dst undef) w) : Txt P l Q S (f + 1) d a w := by
 simp only [Bool.and_eq_true, beq_iff_eq] at hr
 obtain ⟨hr, rfl⟩ := hr
 unfold Txt
 refine wpAnyH_all hr (by simp) ?_
 intro j hj
 simp only [List.mem_singleton] at hj
 subst hj
 refine wpOp_step (o := o) (by simpa using ho) fun K hK => ?_
 refine h K fun S' a' w' h1 h2 h3 => hK _ _ ⟨h1, ?_⟩
 rw [mask_set]
 exact wpAnyH_weaken h2 _ _ _ _ h3
theorem Txt.done {l : List Oper} {S : World → Prop} {w : World} {f d : Nat} {a : Act} (hk : Region.ready .any l.toArray (mask l.length d) = []) (h : Q .normal a w) : Txt P l Q S f d a w :=
 wpAnyH_done (Q := NoP Q) hk h _
end
end Go.Proofs.YtibdgkhkhmdihaaGreatDoor
