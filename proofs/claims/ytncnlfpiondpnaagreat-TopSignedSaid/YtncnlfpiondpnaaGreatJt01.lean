/- TopSigned: part 1 of its proof: lemmas and contracts, each with its conditions in its own statement; the last part holds the law itself. -/
import Derived.Test.YtncnlfpiondpnaaGreatJt00
import Derived.WalkKit
import Derived.WalkSpells
import Derived.WalkLawsBesides
import Derived.Lib.Hide
import Derived.Deep.DeepFit
import Derived.Deep.LoopGhost
import Derived.Test.YtncnlfpiondpnaaGreatRows
import Derived.OrdersHeld
import Derived.RegionTactic
import Derived.ScopeJumps

set_option maxHeartbeats 4000000
set_option maxRecDepth 100000
namespace Go.Proofs.YtncnlfpiondpnaaGreat
open Go.RowKit
def u8s (bs : List UInt8) : List Value := bs.map fun b => .int .u8 b.toNat
theorem u8s_one (bs : List UInt8) : ∀ u ∈ u8s bs, u.oneCell' = true := by
 intro u hu
 obtain ⟨_, _, rfl⟩ := List.mem_map.1 hu
 rfl
theorem u8s_len (bs : List UInt8) : (u8s bs).length = bs.length := by simp [u8s]
theorem u8s_append (a b : List UInt8) : u8s (a ++ b) = u8s a ++ u8s b := by simp [u8s]
theorem u8s_get (bs : List UInt8) (j : Nat) (h : j < bs.length) : (u8s bs)[j]? = some (.int .u8 bs[j].toNat) := by
 simp [u8s, List.getElem?_eq_getElem h]
def Cells (w : World) (x : Addr) (vs : List Value) : Prop := ∀ j u, vs[j]? = some u → w.cell? (x.add j) = some u
def Sl (w : World) (v : Value) (vs : List Value) : Prop :=
 ∃ a cap, v = .slice a vs.length cap ∧ vs.length ≤ cap ∧ cap ≤ maxLen ∧ (a = none → cap = 0) ∧ ∀ x, a = some x → Cells w x vs
theorem Cells.below {w w' : World} {x : Addr} {vs : List Value} (h : Cells w x vs) (hb : Below w.heap.size w w') : Cells w' x vs := by
 intro j u hu
 have h1 := h j u hu
 rw [hb.cell (World.block_lt_of_cell? w (x.add j) h1)]
 exact h1
theorem Sl.below {w w' : World} {v : Value} {vs : List Value} (h : Sl w v vs) (hb : Below w.heap.size w w') : Sl w' v vs := by
 obtain ⟨a, cap, h1, h2, h3, h4, h5⟩ := h
 exact ⟨a, cap, h1, h2, h3, h4, fun x hx => (h5 x hx).below hb⟩
theorem below_alloc (w : World) (o : Obj) : Below w.heap.size w (w.alloc o) := (Below.refl _ _).alloc (Nat.le_refl _) o
theorem Cells.alloc {w : World} {x : Addr} {vs : List Value} (h : Cells w x vs) (o : Obj) : Cells (w.alloc o) x vs := h.below (below_alloc w o)
theorem Sl.alloc {w : World} {v : Value} {vs : List Value} (h : Sl w v vs) (o : Obj) : Sl (w.alloc o) v vs := h.below (below_alloc w o)
theorem Sl.nil (w : World) : Sl w (.slice none 0 0) [] := ⟨none, 0, rfl, Nat.le_refl _, Nat.zero_le _, fun _ => rfl, fun x h => by cases h⟩
theorem Sl.at {w : World} {a : Option Addr} {n cap : Nat} {vs : List Value} (h : Sl w (.slice a n cap) vs) (h0 : 0 < vs.length) :
 ∃ b o, a = some ⟨b, o, none⟩ ∧ n = vs.length ∧ n ≤ cap ∧ cap ≤ maxLen ∧ ∀ j u, vs[j]? = some u → w.cell? ⟨b, o + j, none⟩ = some u := by
 obtain ⟨a', cap', e1, h2, h3, h4, h5⟩ := h
 simp only [Value.slice.injEq] at e1
 obtain ⟨rfl, rfl, rfl⟩ := e1
 cases a with
 | none => have := h4 rfl; omega
 | some x =>
  have hc := h5 x rfl
  obtain ⟨b, o, s⟩ := x
  have hs : s = none := by
   have := hc 0 vs[0] (List.getElem?_eq_getElem h0)
   rw [Addr.add_zero'] at this
   exact World.cell?_spot this
  subst hs
  refine ⟨b, o, rfl, rfl, h2, h3, fun j u hu => ?_⟩
  have := hc j u hu
  rwa [Addr.add_lit] at this
theorem Sl.len {w : World} {a : Option Addr} {n cap : Nat} {vs : List Value} (h : Sl w (.slice a n cap) vs) : n = vs.length ∧ n ≤ cap ∧ cap ≤ maxLen := by
 obtain ⟨a', cap', e1, h2, h3, h4, h5⟩ := h
 simp only [Value.slice.injEq] at e1
 obtain ⟨rfl, rfl, rfl⟩ := e1
 exact ⟨rfl, h2, h3⟩
theorem Sl.of_own {w : World} {base : Nat} {e : TypeId} {v : Value} {n : Nat} {xs : List Value} (h : w.ownsRow base e 1 v n xs) : Sl w v xs := by
 obtain ⟨hl, hr⟩ := h
 rw [Nat.mul_one] at hl
 rcases hr with ⟨rfl, rfl⟩ | ⟨g, cap, cur, rfl, hb, hg, h1, h2, h3, h4⟩
 · have : xs = [] := List.eq_nil_of_length_eq_zero hl
   subst this
   exact Sl.nil w
 · refine ⟨some ⟨g, 0, none⟩, cap, by rw [hl], by omega, h2, fun h => (by cases h), fun x hx => ?_⟩
   cases hx
   exact World.ownsRow.cells (w := w) (base := base) (e := e) (size := 1) (v := .slice (some ⟨g, 0, none⟩) n cap) (n := n) (xs := xs) ⟨by omega, .inr ⟨g, cap, cur, rfl, hb, hg, h1, h2, h3, h4⟩⟩ rfl
theorem own_below {w w' : World} {base : Nat} {e : TypeId} {size : Nat} {v : Value} {n : Nat} {xs : List Value} (h : w.ownsRow base e size v n xs) (hb : Below w.heap.size w w') : w'.ownsRow base e size v n xs := by
 refine ⟨h.1, ?_⟩
 rcases h.2 with hn | ⟨g, cap, cur, rfl, hb', hg, rest⟩
 · exact .inl hn
 · refine .inr ⟨g, cap, cur, rfl, hb', ?_, rest⟩
   rw [hb.block g (Array.getElem?_eq_some_iff.1 hg).1]
   exact hg
theorem own_mono {w : World} {base base' : Nat} {e : TypeId} {size : Nat} {v : Value} {n : Nat} {xs : List Value} (h : w.ownsRow base e size v n xs) (hb : base' ≤ base) : w.ownsRow base' e size v n xs := by
 refine ⟨h.1, ?_⟩
 rcases h.2 with hn | ⟨g, cap, cur, rfl, hb', rest⟩
 · exact .inl hn
 · exact .inr ⟨g, cap, cur, rfl, by omega, rest⟩
theorem own_block {w : World} {base : Nat} {e : TypeId} {size : Nat} {v : Value} {n : Nat} {xs : List Value} (h : w.ownsRow base e size v n xs) : ∀ k, v.ownBlock = some k → base ≤ k :=
 fun k hk => (h.lt k hk).1
theorem below_grown {B : Nat} {w wr w' : World} {e : TypeId} {size : Nat} {v : Value} {n : Nat} {xs : List Value} (hb : Below B w wr) (hown : wr.ownsRow B e size v n xs) (hB : B ≤ wr.heap.size) (hg : wr.grownBy w' v.ownBlock) : Below B w w' :=
 hb.grown hg hB (own_block hown)
theorem below_grown1 {B : Nat} {w wr w' : World} {e : TypeId} {size : Nat} {v : Value} {n : Nat} {xs : List Value} {o : Obj} (hb : Below B w wr) (hown : wr.ownsRow B e size v n xs) (hB : B ≤ wr.heap.size) (hg : (wr.alloc o).grownBy w' v.ownBlock) : Below B w w' :=
 (hb.alloc hB o).grown hg (by simp; omega) (own_block hown)
theorem cells_new (w : World) (o : Value) (T : TypeId) : Cells (w.alloc (.cells #[o] T)) ⟨w.heap.size, 0, none⟩ [o] := by
 intro j u hu
 cases j with
 | zero =>
  simp at hu
  subst hu
  rw [Addr.add_lit, World.cell?_alloc_at _ _ _ _ rfl]
  rfl
 | succ j => simp at hu
theorem Sl.new1 (w : World) (o : Value) (T : TypeId) : Sl (w.alloc (.cells #[o] T)) (.slice (some ⟨w.heap.size, 0, none⟩) 1 1) [o] :=
 ⟨_, 1, rfl, Nat.le_refl _, by decide, fun h => (by cases h), fun x hx => by cases hx; exact cells_new w o T⟩
theorem run_append_sl {P : Program} {w : World} {base : Nat} (t ty e : TypeId) {i : TypeInfo} {z : Value} {bytes : Nat} (ht : P.underlying t = some (.slice e)) (hi : P.info? e = some i) (hz : i.zero = some z)
 (hsize : i.size = 1) (hby : i.bytes = bytes) (hzs : z.cells.size = 1) {v : Value} {n : Nat} {xs : List Value} (hown : w.ownsRow base e 1 v n xs) {vx : Value} {news : List Value} (hx : Sl w vx news)
 (h1 : ∀ u ∈ news, u.oneCell' = true) (h63 : n + news.length ≤ maxLen) (hbytes : (n + news.length) * bytes ≤ 140737488355328) (hbase : base ≤ w.heap.size) :
 ∃ v' w', (Builtin.append_ #[t, t] ty #[v, vx]).run P w = .ok v' w' ∧ w'.ownsRow base e 1 v' (n + news.length) (xs ++ news) ∧ w.grownBy w' v.ownBlock := by
 obtain ⟨a, cap, rfl, h2, h3, h4, h5⟩ := hx
 cases a with
 | none =>
  obtain rfl := h4 rfl
  have : news = [] := List.eq_nil_of_length_eq_zero zOm
  subst this
  refine ⟨v, w, run_append_owned_none (P := P) w base t ty e i 1 ht hi v n xs hown, by simpa using hown, World.grownBy.refl _ _⟩
 | some x =>
  obtain ⟨v', w', r1, r2, r3, -⟩ := run_append_own (P := P) w base t ty e i z 1 bytes ht hi hz hsize hby hzs zDc v n xs hown x news.length cap news (by simp) (h5 x rfl) h1 h63 hbytes hbase
  exact ⟨v', w', r1, r2, r3⟩
theorem wpList_append_sl {P : Program} {w : World} {ops : Array Oper} {rest : List Oper} {o : Oper} {a : Act} {Q : Exit → Act → World → Prop} (hgd : o.guard = none) (s x : Operand) (t : TypeId)
 (ho : o.op = .call { callee := .builtin .append, args := #[s, x], argTypes := #[t, t] })
 (base : Nat) (e : TypeId) {i : TypeInfo} {z : Value} {bytes : Nat} (ht : P.underlying t = some (.slice e)) (hi : P.info? e = some i) (hz : i.zero = some z)
 (hsize : i.size = 1) (hby : i.bytes = bytes) (hzs : z.cells.size = 1) (v : Value) (n : Nat) (xs : List Value) (hs : a.eval s = v) (hown : w.ownsRow base e 1 v n xs) (vx : Value) (news : List Value) (hx : a.eval x = vx) (hsl : Sl w vx news)
 (h1 : ∀ u ∈ news, u.oneCell' = true) (h63 : n + news.length ≤ maxLen) (hbytes : (n + news.length) * bytes ≤ 140737488355328) (hbase : base ≤ w.heap.size)
 (h : ∀ v' w', w'.ownsRow base e 1 v' (n + news.length) (xs ++ news) → w.grownBy w' v.ownBlock → wpList P ops Q rest (a.put o.dst v') w') : wpList P ops Q (o :: rest) a w := by
 refine wpList_plain hgd fun K hK => ?_
 obtain ⟨v', w', hr, h2, h3⟩ := run_append_sl (P := P) t o.type e ht hi hz hsize hby hzs hown hsl h1 h63 hbytes hbase
 unfold Oper.wp execOp
 simp only [ho, resolve, invoke, builtin, Sem.run_bind, Sem.run_pure, Result.andThen_ok, List.map_toArray, List.map_cons, List.map_nil, hs, hx, hr]
 exact hK _ _ (h v' w' h2 h3)
theorem step_append_sl {P : Program} {w : World} {ops : Array Oper} {o : Oper} {a : Act} {K : Act → World → Prop} {Q : Exit → Act → World → Prop} {E : Prop} (hgd : o.guard = none) (s x : Operand) (t : TypeId)
 (ho : o.op = .call { callee := .builtin .append, args := #[s, x], argTypes := #[t, t] })
 (base : Nat) (e : TypeId) {i : TypeInfo} {z : Value} {bytes : Nat} (ht : P.underlying t = some (.slice e)) (hi : P.info? e = some i) (hz : i.zero = some z)
 (hsize : i.size = 1) (hby : i.bytes = bytes) (hzs : z.cells.size = 1) (v : Value) (n : Nat) (xs : List Value) (hs : a.eval s = v) (hown : w.ownsRow base e 1 v n xs) (vx : Value) (news : List Value) (hx : a.eval x = vx) (hsl : Sl w vx news)
 (h1 : ∀ u ∈ news, u.oneCell' = true) (h63 : n + news.length ≤ maxLen) (hbytes : (n + news.length) * bytes ≤ 140737488355328) (hbase : base ≤ w.heap.size)
 (h : ∀ v' w', w'.ownsRow base e 1 v' (n + news.length) (xs ++ news) → w.grownBy w' v.ownBlock → K (a.put o.dst v') w') : if Region.wanted o (yielded ops a.tmps) = true then Oper.wp P o a w K Q else E := by
 rw [if_pos (by simp [Region.wanted, hgd])]
 obtain ⟨v', w', hr, h2, h3⟩ := run_append_sl (P := P) t o.type e ht hi hz hsize hby hzs hown hsl h1 h63 hbytes hbase
 unfold Oper.wp execOp
 simp only [ho, resolve, invoke, builtin, Sem.run_bind, Sem.run_pure, Result.andThen_ok, List.map_toArray, List.map_cons, List.map_nil, hs, hx, hr]
 exact h v' w' h2 h3
theorem run_string_sl {P : Program} {w : World} {v : Value} {bs : List UInt8} (h : Sl w v (u8s bs)) (src e dst : TypeId) (hs : P.underlying src = some (.slice e)) (he : P.underlying e = some (.int .u8)) (hd : P.underlying dst = some .string) :
 (convert src dst v).run P w = .ok (.string ⟨bs.toArray⟩) w := by
 obtain ⟨a, cap, rfl, h2, h3, h4, h5⟩ := id h
 cases a with
 | none =>
  have := h4 rfl
  have hb : bs = [] := List.eq_nil_of_length_eq_zero (by rw [u8s_len] at h2; omega)
  subst hb
  rw [run_convert_bytes_nil w src e hs he _ _ dst hd]
  rfl
 | some x =>
  have hx := h5 x rfl
  have hl : (loadCells x bs.length).run P w = .ok ((bs.map fun b => (b.toNat : Int)).map (Value.int .u8)).toArray w := by
   have := run_loadCells_list (P := P) w x (u8s bs) hx
   rw [u8s_len] at this
   rw [this]
   simp [u8s, List.map_map, Function.comp_def]
  rw [run_convert_bytes_string w src dst e _ _ _ hs he hd, u8s_len, run_bytesToString w x _ _ _ hl, foldl_push_bytes]
  have e : (List.map (fun n => UInt8.ofNat n.toNat) (List.map (fun b => (b.toNat : Int)) bs)) = bs := by
   rw [List.map_map]
   conv => rhs; rw [← List.map_id bs]
   apply List.map_congr_left
   intro b _
   simp
  rw [e, show ByteArray.empty.data = #[] from rfl, Array.empty_append]
def Sls (w : World) (v : Value) (ls : List (List UInt8)) : Prop :=
 ∃ vs, Sl w v vs ∧ vs.length = ls.length ∧ ∀ (j : Nat) (a : Value) (b : List UInt8), vs[j]? = some a → ls[j]? = some b → Sl w a (u8s b)
theorem Sls.below {w w' : World} {v : Value} {ls : List (List UInt8)} (h : Sls w v ls) (hb : Below w.heap.size w w') : Sls w' v ls := by
 obtain ⟨vs, h1, h2, h3⟩ := h
 exact ⟨vs, h1.below hb, h2, fun j a b ha hb' => (h3 j a b ha hb').below hb⟩
theorem Sls.len {w : World} {a : Option Addr} {n cap : Nat} {ls : List (List UInt8)} (h : Sls w (.slice a n cap) ls) : n = ls.length ∧ n ≤ cap ∧ cap ≤ maxLen := by
 obtain ⟨vs, h1, h2, -⟩ := h
 have := h1.len
 omega
theorem Sls.at {w : World} {a : Option Addr} {n cap : Nat} {ls : List (List UInt8)} (h : Sls w (.slice a n cap) ls) {j : Nat} (hj : j < ls.length) :
 ∃ b o x c, a = some ⟨b, o, none⟩ ∧ w.cell? ⟨b, o + j, none⟩ = some (.slice x ls[j].length c) ∧ Sl w (.slice x ls[j].length c) (u8s ls[j]) := by
 obtain ⟨vs, h1, h2, h3⟩ := h
 obtain ⟨b, o, rfl, hn, -, -, hc⟩ := h1.at zOm
 have hv : vs[j]? = some vs[j] := List.getElem?_eq_getElem zOm
 have h4 := h3 j vs[j] ls[j] hv (List.getElem?_eq_getElem hj)
 obtain ⟨x, c, e1, r⟩ := h4
 rw [u8s_len] at e1
 refine ⟨b, o, x, c, rfl, ?_, ?_⟩
 · rw [← e1]; exact hc j _ hv
 · exact ⟨x, c, by rw [u8s_len], r⟩
theorem info_u8 : (Tryz.prog.info? 5).map (fun i => (i.zero, i.size, i.bytes)) = some (some (.int .u8 0), 1, 1) := by kernel_rfl
theorem clone_some (x : Addr) (len cap : Nat) (bs : List UInt8) (w : World) (hl : bs.length = len) (hr : len ≤ 140737488355328) (hc : Cells w x (u8s bs)) :
 Calls Tryz.prog 58 #[.slice (some x) len cap] w fun e w' =>
  ∃ v, e = .returned v ∧ w'.ownsRow w.heap.size 5 1 v len (u8s bs) ∧ Below w.heap.size w w' ∧ v ≠ .slice none 0 0 := by
 obtain ⟨i, hi, hz0, hz1, hz2⟩ := info_parts info_u8
 have hnil := fun (x : Option Addr) (n c : Nat) => Lib.run_eql_slice_nil (P := Tryz.prog) w 22 5 x n c 0 0 Tryz.underlying22
 have hc' : Hid (Cells (w.alloc (.cells #[] 5)) x (u8s bs)) := hc.alloc _
 clear hc
 have hl' := zH hl
 clear hl
 go_enter Tryz.func58, Tryz.ntmps58
 go_wp2_with (at_builtin; refine wpList_append_own _ rfl _ _ 22 rfl w.heap.size 5 i (.int .u8 0) 1 1 Tryz.underlying22 hi hz0 hz1 hz2 rfl zDc _ 0 [] rfl (World.ownsRow_made _ _ _ (Nat.le_refl _) (Nat.zero_le _) rfl) x len cap (u8s bs) rfl ?c1 hc'.out (u8s_one bs) ?c2 ?c3 ?c4 ?_)
 case c1 => rw [u8s_len]; have := hl'.out; omega
 case c2 => unfold maxLen; omega
 case c3 => omega
 case c4 => simp
 intro v' w' hown hg hn
 go_wp2
 go_ret
 refine ⟨v', rfl, by simpa using hown, ((Below.refl _ _).alloc (Nat.le_refl _) _).grown hg (by simp) ?_, ?_⟩
 · intro k hk; simp [Value.ownBlock] at hk; omega
 · exact hn
theorem clone_nil (w : World) : Calls Tryz.prog 58 #[.slice none 0 0] w fun e w' => e = .returned (.slice none 0 0) ∧ w' = w := by
 have hnil := fun (x : Option Addr) (n c : Nat) => Lib.run_eql_slice_nil (P := Tryz.prog) w 22 5 x n c 0 0 Tryz.underlying22
 go_enter Tryz.func58, Tryz.ntmps58
 go_wp2
 go_ret
 exact ⟨rfl, rfl⟩
theorem clone_any (vb : Value) (bs : List UInt8) (w : World) (hb : Sl w vb (u8s bs)) (hr : bs.length ≤ 140737488355328) :
 Calls Tryz.prog 58 #[vb] w fun e w' => ∃ v, e = .returned v ∧ w'.ownsRow w.heap.size 5 1 v bs.length (u8s bs) ∧ Below w.heap.size w w' ∧ (v = .slice none 0 0 ↔ vb = .slice none 0 0) := by
 obtain ⟨a, cap, rfl, h2, h3, h4, h5⟩ := hb
 rw [u8s_len] at *
 cases a with
 | none =>
  obtain rfl := h4 rfl
  have : bs = [] := List.eq_nil_of_length_eq_zero zOm
  subst this
  refine (clone_nil w).mono ?_
  rintro e w' ⟨rfl, rfl⟩
  exact ⟨_, rfl, World.ownsRow_nil _ _ _ _, Below.refl _ _, by simp⟩
 | some x =>
  refine (clone_some x bs.length cap bs w rfl hr (h5 x rfl)).mono ?_
  rintro e w' ⟨v, rfl, h6, h7, h8⟩
  exact ⟨v, rfl, h6, h7, by simp [h8]⟩
def be8 (n : Int) : List UInt8 := (List.range 8).map fun i => UInt8.ofNat ((n % 18446744073709551616).toNat / 2 ^ (8 * (7 - i)) % 256)
def be8s (ns : List Int) : List UInt8 := ns.flatMap be8
theorem be8_len (n : Int) : (be8 n).length = 8 := by simp [be8]
theorem wrap_u64_mod (n : Int) : IntKind.u64.wrap n = n % 18446744073709551616 := IntKind.wrap_u64 n
theorem be8_at (n : Int) (k : Nat) (hk : k < 8) : ∃ c : UInt8, (be8 n).take (k + 1) = (be8 n).take k ++ [c] ∧ IntKind.u64.wrap n / 2 ^ (8 * (7 - k)) % 256 = (c.toNat : Int) := by
 have hl : k < (be8 n).length := by rw [be8_len]; exact hk
 refine ⟨(be8 n)[k], ?_, ?_⟩
 · rw [List.take_add_one, List.getElem?_eq_getElem hl]; rfl
 · rw [wrap_u64_mod]
   simp only [be8, List.getElem_map, List.getElem_range]
   have h0 : 0 ≤ n % 18446744073709551616 := by omega
   obtain ⟨m, hm⟩ := Int.eq_ofNat_of_zero_le h0
   rw [hm]
   have e : (UInt8.ofNat ((m : Int).toNat / 2 ^ (8 * (7 - k)) % 256)).toNat = m / 2 ^ (8 * (7 - k)) % 256 := by
    simp
   rw [e]
   simp
theorem be8s_at (ns : List Int) (j : Nat) (h : j < ns.length) : be8s (ns.take (j + 1)) = be8s (ns.take j) ++ be8 ns[j] := by
 unfold be8s
 rw [List.take_add_one, List.getElem?_eq_getElem h, List.flatMap_append]
 simp only [Option.toList, List.flatMap_cons, List.flatMap_nil, List.append_nil]
theorem be8s_len (ns : List Int) : (be8s ns).length = 8 * ns.length := by
 induction ns with
 | nil => rfl
 | cons n ns ih => simp only [be8s, List.flatMap_cons, List.length_append, be8_len, List.length_cons] at *; omega
theorem packInt_sl (vb : Value) (bs : List UInt8) (an : Option Addr) (cn : Nat) (ns : List Int) (w : World) (hb : Sl w vb (u8s bs)) (hn : Sl w (.slice an ns.length cn) (ns.map (.int .i64)))
 (hr : bs.length + 8 * ns.length ≤ 140737488355328) :
 Calls Tryz.prog 20 #[vb, .slice an ns.length cn] w fun e w' =>
  ∃ v, e = .returned v ∧ w'.ownsRow w.heap.size 5 1 v (bs ++ be8s ns).length (u8s (bs ++ be8s ns)) ∧ Below w.heap.size w w' := by
 obtain ⟨i, hi, hz0, hz1, hz2⟩ := info_parts info_u8
 have hn' := zH hn
 clear hn
 go_enter Tryz.func20, Tryz.ntmps20
 go_wp2_with fail
 refine (clone_any vb bs w hb zOm).mono ?_
 rintro e w1 ⟨v1, rfl, hown, hbel, -⟩
 clear hb
 go_wp2_with fail
 go_loopw [5, 14] (fun v i wr => ∃ j : Nat, j ≤ ns.length ∧ i = .int .i64 j ∧ Below w.heap.size w wr ∧ wr.ownsRow w.heap.size 5 1 v (bs ++ be8s (ns.take j)).length (u8s (bs ++ be8s (ns.take j)))) (fun _ i _ => ns.length - (intOf i).toNat)
 case atStart => exact ⟨0, Nat.zero_le _, rfl, hbel, by simpa [be8s] using hown⟩
 case round =>
  obtain ⟨j, hj, rfl, hbr, hor⟩ := hrel
  clear hbel hown
  by_cases hlt : j < ns.length
  · obtain ⟨b, o, rfl, -, -, hcap, hcs⟩ := (hn'.out.below hbr).at (by simp; omega)
    have hcell := hcs j (.int .i64 ns[j]) (by simp [List.getElem?_eq_getElem hlt])
    clear hcs
    obtain ⟨wo, rfl⟩ : ∃ wo : World, wo = wr := ⟨_, rfl⟩
    have hlen : ns.length ≤ 9223372036854775807 := by omega
    go_wp2_with fail
    go_loopw [5, 9] (fun v kv wr => ∃ k : Nat, k ≤ 8 ∧ kv = .int .i64 (7 - (k : Int)) ∧ Below w.heap.size w wr ∧ wr.ownsRow w.heap.size 5 1 v (bs ++ be8s (ns.take j) ++ (be8 ns[j]).take k).length (u8s (bs ++ be8s (ns.take j) ++ (be8 ns[j]).take k))) (fun _ kv _ => (intOf kv + 1).toNat)
    case atStart => exact ⟨0, Nat.zero_le _, rfl, hbr, by simpa using hor⟩
    case round =>
     obtain ⟨k, hk, rfl, hbi, hoi⟩ := hrel
     clear hbr hor hcell
     by_cases hk8 : k < 8
     · have h1 : (0 : Int) ≤ 7 - (k : Int) := by omega
       obtain ⟨c, hc1, hc2⟩ := be8_at ns[j] k hk8
       have hc2' := zH hc2
       have hc1' := zH hc1
       clear hc1 hc2
       have hbig : (bs ++ be8s (ns.take j) ++ (be8 ns[j]).take k).length + 1 ≤ 140737488355328 := by
        simp only [List.length_append, be8s_len, List.length_take, be8_len]; omega
       have hbig' := zH hbig
       clear hbig
       have hsz : w.heap.size ≤ wr.heap.size := hbi.size
       go_wp2_with (at_builtin; refine wpList_append_own _ rfl _ _ 22 rfl w.heap.size 5 i (.int .u8 0) 1 1 Tryz.underlying22 hi hz0 hz1 hz2 rfl zDc _ _ _ rfl (hoi.alloc _) ⟨wr.heap.size, 0, none⟩ 1 1 [_] rfl rfl (cells_new wr _ _) ?c1 ?c2 ?c3 ?c4 ?_)
       case c1 => intro u hu; simp at hu; subst hu; rfl
       case c2 => have := hbig'.out; unfold maxLen; omega
       case c3 => have := hbig'.out; omega
       case c4 => simp; omega
       intro v' w2 hown2 hg2 _
       have hb2 := below_grown1 hbi hoi hsz hg2
       rw [hc2'.out] at hown2
       clear hoi hg2 hbi
       go_wp2
       go_roundw
       case rel =>
        refine ⟨k + 1, by omega, by simp; omega, hb2, ?_⟩
        rw [hc1'.out, ← List.append_assoc]
        simpa [u8s, Nat.add_assoc] using hown2
       case measure => simp [intOf]; omega
     · have hk : k = 8 := by omega
       subst hk
       have hf : (be8 ns[j]).take 8 = be8 ns[j] := List.take_of_length_le (by rw [be8_len]; exact Nat.le_refl _)
       rw [hf] at hoi
       clear hf
       go_wp2
       go_roundw
       case rel => exact ⟨j + 1, by omega, by go_num, hbi, by rw [be8s_at ns j hlt, ← List.append_assoc]; exact hoi⟩
       case measure => simp [intOf]; omega
  · have hj' : j = ns.length := by omega
    subst hj'
    rw [List.take_of_length_le (Nat.le_refl _)] at hor
    go_wp2
    go_ret
    exact ⟨_, rfl, hor, hbr⟩
theorem packInt_any (vb vn : Value) (bs : List UInt8) (ns : List Int) (w : World) (hb : Sl w vb (u8s bs)) (hn : Sl w vn (ns.map (.int .i64)))
 (hr : bs.length + 8 * ns.length ≤ 140737488355328) :
 Calls Tryz.prog 20 #[vb, vn] w fun e w' =>
  ∃ v, e = .returned v ∧ w'.ownsRow w.heap.size 5 1 v (bs ++ be8s ns).length (u8s (bs ++ be8s ns)) ∧ Below w.heap.size w w' := by
 obtain ⟨a, cap, rfl, h⟩ := id hn
 rw [List.length_map] at *
 exact packInt_sl vb bs a cap ns w hb hn hr
def rdn (bs : List UInt8) : Nat := bs.foldl (fun a b => a * 256 + b.toNat) 0
theorem rdn_snoc (bs : List UInt8) (c : UInt8) : rdn (bs ++ [c]) = rdn bs * 256 + c.toNat := by simp [rdn]
theorem rdn_be8_take (n : Int) : ∀ k, k ≤ 8 → rdn ((be8 n).take k) = (n % 18446744073709551616).toNat / 2 ^ (8 * (8 - k))
 | 0, _ => by
  simp only [List.take_zero, rdn, List.foldl_nil]
  rw [Nat.div_eq_of_lt]
  have : n % 18446744073709551616 < 18446744073709551616 := Int.emod_lt_of_pos _ zDc
  simp only [Nat.reduceMul, Nat.reduceSub, Nat.reducePow]
  omega
 | k + 1, h => by
  have hl : k < (be8 n).length := by rw [be8_len]; omega
  have e : (be8 n).take (k + 1) = (be8 n).take k ++ [(be8 n)[k]] := by
   rw [List.take_add_one, List.getElem?_eq_getElem hl]; rfl
  rw [e, rdn_snoc, rdn_be8_take n k zOm]
  simp only [be8, List.getElem_map, List.getElem_range]
  generalize (n % 18446744073709551616).toNat = x
  have e2 : (UInt8.ofNat (x / 2 ^ (8 * (7 - k)) % 256)).toNat = x / 2 ^ (8 * (7 - k)) % 256 := by simp
  rw [e2, show 8 * (8 - k) = 8 * (7 - k) + 8 by omega, Nat.pow_add, ← Nat.div_div_eq_div_mul, show 8 * (8 - (k + 1)) = 8 * (7 - k) by omega]
  generalize x / 2 ^ (8 * (7 - k)) = y
  simp only [Nat.reducePow]
  omega
theorem rdn_be8 (n : Int) : rdn (be8 n) = (n % 18446744073709551616).toNat := by
 have h := rdn_be8_take n 8 (Nat.le_refl _)
 rw [List.take_of_length_le (by rw [be8_len]; exact Nat.le_refl _)] at h
 simpa using h
section
variable {P : Program} {ops : Array Oper} {Q : Exit → Act → World → Prop}
theorem wpAnyH_weaken {md : Region.Mode} {S S' : World → Prop} (hSS : ∀ w, S' w → S w) : ∀ (fuel : Nat) (listed : Array Bool) (a : Act) (w : World), wpAnyH P md ops Q S' fuel listed a w → wpAnyH P md ops Q S fuel listed a w
 | 0, _, _, _, h => h
 | fuel + 1, _, _, _, h => ⟨h.1, fun i hi => wpOp_mono (fun a' w' h' => ⟨hSS w' h'.1, wpAnyH_weaken hSS fuel _ a' w' h'.2⟩) (h.2 i hi)⟩
def mask (n d : Nat) : Array Bool := ((List.range n).map fun i => d.testBit i).toArray
theorem mask_zero (n : Nat) : Array.replicate n false = mask n 0 := by
 apply Array.ext'
 simp only [mask, Array.toList_replicate]
 apply List.ext_getElem <;> simp
theorem mask_set (n d i : Nat) : (mask n d).setIfInBounds i true = mask n (d ||| 2 ^ i) := by
 apply Array.ext'
 simp only [mask, Array.toList_setIfInBounds]
 apply List.ext_getElem
 · simp
 · intro j h1 h2
   rw [List.getElem_set]
   simp only [List.getElem_map, List.getElem_range, Nat.testBit_or, Nat.testBit_two_pow]
   split
   · rename_i e; subst e; simp
   · rename_i e; simp [e]
def NoP (Q : Exit → Act → World → Prop) : Exit → Act → World → Prop
 | .panic _, _, _ => False
 | e, a, w => Q e a w
theorem NoP.imp {Q : Exit → Act → World → Prop} : ∀ (e : Exit) (a : Act) (w : World), NoP Q e a w → Q e a w := fun e a w h => by
 cases e <;> first | exact h | exact (h : False).elim
def Txt (P : Program) (l : List Oper) (Q : Exit → Act → World → Prop) (S : World → Prop) (f d : Nat) (a : Act) (w : World) : Prop :=
 wpAnyH P .any l.toArray (NoP Q) S f (mask l.length d) a w
theorem Txt.start {l : List Oper} {id : Nat} {a : Act} {w : World} (S : World → Prop) (n : Nat) (hn : l.length = n) (hm : P.follows .mixedOrders = true) (h : Txt P l Q S n 0 a w.drew) : (Code.region id l.toArray true).wp P Q a w := by
 refine Code.wp_mono NoP.imp (wp_region_held (S := S) hm ?_)
 subst hn
 rw [mask_zero]
 exact h
def rd (P : Program) (l : List Oper) (w : World) : List Nat → Act → Act → Prop
 | [], a, A => a = A
 | i :: is, a, A => ∃ o, l[i]? = some o ∧ ((Region.wanted o (yielded l.toArray a.tmps) = true ∧ ∃ v, (execOp a.eval o).run P w = .ok (.value v) w ∧ rd P l w is (a.put o.dst v) A) ∨
  (Region.wanted o (yielded l.toArray a.tmps) = false ∧ rd P l w is (a.put o.dst undef) A))
theorem rd_nil {l : List Oper} {w : World} {a : Act} : rd P l w [] a a := rfl
theorem rd_take {l : List Oper} {w : World} {i : Nat} {is : List Nat} {a A : Act} {o : Oper} {v : Value} (hi : l[i]? = some o) (hw : Region.wanted o (yielded l.toArray a.tmps) = true)
 (hr : (execOp a.eval o).run P w = .ok (.value v) w) (h : rd P l w is (a.put o.dst v) A) : rd P l w (i :: is) a A := ⟨o, hi, .inl ⟨hw, v, hr, h⟩⟩
theorem rd_skip {l : List Oper} {w : World} {i : Nat} {is : List Nat} {a A : Act} {o : Oper} (hi : l[i]? = some o) (hw : Region.wanted o (yielded l.toArray a.tmps) = false)
 (h : rd P l w is (a.put o.dst undef) A) : rd P l w (i :: is) a A := ⟨o, hi, .inr ⟨hw, h⟩⟩
def dsts (l : List Oper) : List Nat → List Nat
 | [] => []
 | i :: is => match l[i]? with | some o => (match o.dst with | some d => d :: dsts l is | none => dsts l is) | none => dsts l is
theorem put_tmps_ne {a : Act} {d d' : Nat} {v : Value} (h : d' ≠ d) : (a.put (some d) v).tmps[d']? = a.tmps[d']? := by
 simp only [Act.put]
 rw [Array.getElem?_setIfInBounds]
 rw [if_neg (fun e => h e.symm)]
theorem put_size {a : Act} {d : Option Nat} {v : Value} : (a.put d v).tmps.size = a.tmps.size := by
 cases d <;> simp [Act.put]
theorem put_tmps_eq {a : Act} {d : Nat} {v : Value} (h : d < a.tmps.size) : (a.put (some d) v).tmps[d]? = some v := by
 simp only [Act.put]
 rw [Array.getElem?_setIfInBounds, if_pos rfl, if_pos h]
theorem rd_keeps {l : List Oper} {w : World} {d : Nat} : ∀ (is : List Nat) (a A : Act), (dsts l is).contains d = false → rd P l w is a A → A.tmps[d]? = a.tmps[d]?
 | [], a, A, _, h => by rw [show a = A from h]
 | i :: is, a, A, hd, ⟨o, hi, h⟩ => by
  have hd2 : (dsts l is).contains d = false ∧ ∀ v, (a.put o.dst v).tmps[d]? = a.tmps[d]? := by
   cases hdst : o.dst with
   | none => simp only [dsts, hi, hdst] at hd; exact ⟨hd, fun v => rfl⟩
   | some d' =>
    simp only [dsts, hi, hdst, List.contains_cons, Bool.or_eq_false_iff, beq_eq_false_iff_ne] at hd
    exact ⟨hd.2, fun v => put_tmps_ne hd.1⟩
  rcases h with ⟨_, v, _, h⟩ | ⟨_, h⟩
  · rw [rd_keeps is _ A hd2.1 h, hd2.2]
  · rw [rd_keeps is _ A hd2.1 h, hd2.2]
def segOk (l : List Oper) (size : Nat) : Nat → Nat → Nat → List Nat → Nat → Bool
 | f', f, d, [], d' => f' == f && d == d'
 | f', f, d, i :: is, d' => (match f with | 0 => false | f + 1 => segOk l size f' f (d ||| 2 ^ i) is d') && Region.free .any l.toArray (mask l.length d) i && (Region.ready .any l.toArray (mask l.length d)).contains i &&
  (match l[i]? with | some o => (match o.dst with | some e => decide (e < size) && !(dsts l is).contains e | none => false) | none => false)
theorem rd_step {l : List Oper} {S : World → Prop} {i : Nat} {is : List Nat} {o : Oper} {a A : Act} {w : World} {d : Nat} (hi : l[i]? = some o) (hd : o.dst = some d) (hlt : d < a.tmps.size) (hno : (dsts l is).contains d = false) (hS : S w) (h : ∀ w', S w' → rd P l w' (i :: is) a A) :
 ∃ v, YieldsIf P l.toArray S o v a ∧ ∀ w', S w' → rd P l w' is (a.put o.dst v) A := by
 by_cases hw : Region.wanted o (yielded l.toArray a.tmps) = true
 · have key : ∀ w', S w' → ∃ v, (execOp a.eval o).run P w' = .ok (.value v) w' ∧ rd P l w' is (a.put o.dst v) A := by
    intro w' hS'
    obtain ⟨o', hi', h1⟩ := h w' hS'
    rw [hi] at hi'
    cases hi'
    rcases h1 with ⟨_, h1⟩ | ⟨h1, _⟩
    · exact h1
    · rw [hw] at h1; cases h1
   have same : ∀ w', S w' → ∀ v, rd P l w' is (a.put o.dst v) A → A.tmps[d]? = some v := by
    intro w' _ v h1
    rw [rd_keeps is _ A hno h1, hd, put_tmps_eq hlt]
   obtain ⟨v, h1, h2⟩ := key w hS
   have hv := same w hS v h2
   refine ⟨v, .inl ⟨hw, fun w' hS' => ?_⟩, fun w' hS' => ?_⟩ <;>
   · obtain ⟨v', h1', h2'⟩ := key w' hS'
     have hv' := same w' hS' v' h2'
     rw [hv] at hv'
     cases hv'
     first | exact h1' | exact h2'
 · have hw' : Region.wanted o (yielded l.toArray a.tmps) = false := by simpa using hw
   refine ⟨undef, .inr ⟨hw', rfl⟩, fun w' hS' => ?_⟩
   obtain ⟨o', hi', h1⟩ := h w' hS'
   rw [hi] at hi'
   cases hi'
   rcases h1 with ⟨h1, _⟩ | ⟨_, h1⟩
   · exact absurd h1 hw
   · exact h1
theorem Txt.seg {l : List Oper} {S : World → Prop} {w : World} {A : Act} (f' d' : Nat) (hs : Region.noSelect l.toArray = true) (hS : S w) :
 ∀ (is : List Nat) {f d : Nat} {a : Act}, segOk l a.tmps.size f' f d is d' = true → (∀ w', S w' → rd P l w' is a A) → Txt P l Q S f' d' A w → Txt P l Q S f d a w
 | [], f, d, a, hok, h, H => by
  simp only [segOk, Bool.and_eq_true, beq_iff_eq] at hok
  obtain ⟨rfl, rfl⟩ := hok
  rw [show a = A from h w hS]; exact H
 | i :: is, 0, d, a, hok, h, H => by simp [segOk] at hok
 | i :: is, f + 1, d, a, hok, h, H => by
  simp only [segOk, Bool.and_eq_true] at hok
  obtain ⟨⟨⟨hrest, hf⟩, hr⟩, hd⟩ := hok
  cases hi : l[i]? with
  | none => rw [hi] at hd; cases hd
  | some o =>
   rw [hi] at hd
   cases hdst : o.dst with
   | none => simp [hdst] at hd
   | some e =>
    simp only [hdst] at hd
    simp only [Bool.and_eq_true, decide_eq_true_eq, Bool.not_eq_true'] at hd
    obtain ⟨v, hy, hgo⟩ := rd_step (P := P) hi hdst hd.1 hd.2 hS h
    have ih := Txt.seg f' d' hs hS is (f := f) (d := d ||| 2 ^ i) (a := a.put o.dst v) (by rw [put_size]; exact hrest) hgo H
    unfold Txt
    refine wpAnyH_take (oi := o) (v := v) (by simpa using hi) hs hf hr (fun c a w hq => hq) hy hS ?_
    rw [mask_set]
    exact ih
theorem Txt.eff {l : List Oper} {S : World → Prop} {w : World} {f d : Nat} {a : Act} {o : Oper} (i d' : Nat) (ho : l[i]? = some o) (hr : (Region.ready .any l.toArray (mask l.length d) == [i] && (d ||| 2 ^ i) == d') = true)
 (h : ∀ K : Act → World → Prop, (∀ (S' : World → Prop) a' w', S w' → (∀ w'', S' w'' → S w'') → Txt P l Q S' f d' a' w' → K a' w') → if Region.wanted o (yielded l.toArray a.tmps) = true then Oper.wp P o a w K (NoP Q) else K (a.put o.dst undef) w) : Txt P l Q S (f + 1) d a w := by
 simp only [Bool.and_eq_true, beq_iff_eq] at hr
 obtain ⟨hr, rfl⟩ := hr
 unfold Txt
 refine wpAnyH_all hr (by simp) ?_
 intro j hj
 simp only [List.mem_singleton] at hj
 subst hj
 refine wpOp_step (o := o) (by simpa using ho) fun K hK => ?_
 refine h K fun S' a' w' h1 h2 h3 => hK _ _ ⟨h1, ?_⟩
 rw [mask_set]
 exact wpAnyH_weaken h2 _ _ _ _ h3
theorem Txt.done {l : List Oper} {S : World → Prop} {w : World} {f d : Nat} {a : Act} (hk : Region.ready .any l.toArray (mask l.length d) = []) (h : Q .normal a w) : Txt P l Q S f d a w :=
 wpAnyH_done (Q := NoP Q) hk h _
end
def CBuf (w : World) (g : Nat) (v : Value) (rest : List UInt8) : Prop :=
 (v = .slice none 0 0 ∧ rest = []) ∨
 ∃ b o cap, v = .slice (some ⟨b, o, none⟩) rest.length cap ∧ rest.length ≤ cap ∧ cap ≤ maxLen ∧ b < g ∧ b < w.heap.size ∧ ∀ j u, (u8s rest)[j]? = some u → w.cell? ⟨b, o + j, none⟩ = some u
def Cur (w : World) (g : Nat) (rest : List UInt8) (bad : Bool) : Prop :=
 ∃ v, w.cell? ⟨g, 0, none⟩ = some v ∧ w.cell? ⟨g, 1, none⟩ = some (.bool bad) ∧ w.frozen? ⟨g, 0, none⟩ = false ∧ w.frozen? ⟨g, 1, none⟩ = false ∧ CBuf w g v rest
theorem CBuf.sl {w : World} {g : Nat} {v : Value} {rest : List UInt8} (h : CBuf w g v rest) : Sl w v (u8s rest) := by
 rcases h with ⟨rfl, rfl⟩ | ⟨b, o, cap, rfl, h1, h2, h3, h4, h5⟩
 · exact Sl.nil w
 · refine ⟨some ⟨b, o, none⟩, cap, by rw [u8s_len], by rw [u8s_len]; exact h1, h2, fun h => (by cases h), fun x hx => ?_⟩
   cases hx
   intro j u hu
   rw [Addr.add_lit]
   exact h5 j u hu
theorem CBuf.grown {w w' : World} {g k : Nat} {v : Value} {rest : List UInt8} (h : CBuf w g v rest) (hg : w.grownBy w' (some k)) (hk : k = g ∨ w.heap.size ≤ k) : CBuf w' g v rest := by
 rcases h with h | ⟨b, o, cap, rfl, h1, h2, h3, h4, h5⟩
 · exact .inl h
 · refine .inr ⟨b, o, cap, rfl, h1, h2, h3, Nat.lt_of_lt_of_le h4 hg.size, fun j u hu => ?_⟩
   exact hg.cell (h5 j u hu) (by simp only [ne_eq, Option.some.injEq]; omega)
theorem CBuf.below {w w' : World} {g : Nat} {v : Value} {rest : List UInt8} (h : CBuf w g v rest) (hg : Below w.heap.size w w') : CBuf w' g v rest := by
 rcases h with h | ⟨b, o, cap, rfl, h1, h2, h3, h4, h5⟩
 · exact .inl h
 · refine .inr ⟨b, o, cap, rfl, h1, h2, h3, Nat.lt_of_lt_of_le h4 hg.size, fun j u hu => ?_⟩
   rw [hg.cell (p := ⟨b, o + j, none⟩) h4]
   exact h5 j u hu
theorem Cur.lt {w : World} {g : Nat} {rest : List UInt8} {bad : Bool} (h : Cur w g rest bad) : g < w.heap.size := by
 obtain ⟨v, h1, _⟩ := h
 exact World.block_lt_of_cell? w _ h1
theorem Cur.below {w w' : World} {g : Nat} {rest : List UInt8} {bad : Bool} (h : Cur w g rest bad) (hg : Below w.heap.size w w') : Cur w' g rest bad := by
 have hlt := h.lt
 obtain ⟨v, h1, h2, h3, h4, h5⟩ := h
 exact ⟨v, by rw [hg.cell (p := ⟨g, 0, none⟩) hlt]; exact h1, by rw [hg.cell (p := ⟨g, 1, none⟩) hlt]; exact h2, by rw [hg.frozen (p := ⟨g, 0, none⟩) hlt]; exact h3, by rw [hg.frozen (p := ⟨g, 1, none⟩) hlt]; exact h4, h5.below hg⟩
theorem below_grownBy {w w' : World} (h : Below w.heap.size w w') (row : Option Nat) : w.grownBy w' row := ⟨h.os, h.tape, h.output, h.size, fun k hk _ => h.block k hk⟩
theorem grownBy_trans {a b c : World} {row : Option Nat} (h : a.grownBy b row) (k : b.grownBy c row) : a.grownBy c row :=
 ⟨k.os.trans h.os, k.tape.trans h.tape, k.output.trans h.output, Nat.le_trans h.size k.size, fun i hi hn => (k.block i (Nat.lt_of_lt_of_le hi h.size) hn).trans (h.block i hi hn)⟩
theorem grownBy_set {w w' : World} {g o : Nat} {u : Value} (h : w.grownBy w' (some g)) : w.grownBy (w'.setCell ⟨g, o, none⟩ u) (some g) :=
 grownBy_trans h ⟨rfl, rfl, rfl, by simp [World.setCell], fun k _ hn => Below.heap_setCell _ _ _ _ (by simpa using hn)⟩
theorem packNew_any (vb : Value) (bs : List UInt8) (w : World) (hb : Sl w vb (u8s bs)) (hr : bs.length ≤ 140737488355328) :
 Calls Tryz.prog 132 #[vb] w fun e w' => ∃ g, e = .returned (.pointer (some ⟨g, 0, none⟩)) ∧ w.heap.size ≤ g ∧ Cur w' g bs false ∧ Below w.heap.size w w' := by
 go_enter Tryz.func132, Tryz.ntmps132
 go_wp2_with fail
 refine (clone_any vb bs w hb hr).mono ?_
 rintro e w1 ⟨v1, rfl, hown, hbel, -⟩
 have hv : CBuf w1 w1.heap.size v1 bs := by
  rcases hown.2 with ⟨rfl, h0⟩ | ⟨gb, cap, cur, rfl, h1, h2, h3, h4, h5, h6⟩
  · exact .inl ⟨rfl, List.eq_nil_of_length_eq_zero h0⟩
  · refine .inr ⟨gb, 0, cap, rfl, h3, h4, ?_, (Array.getElem?_eq_some_iff.1 h2).1, fun j u hu => ?_⟩
    · have := (Array.getElem?_eq_some_iff.1 h2).1; omega
    · have := World.ownsRow.cells hown rfl j u hu
      rwa [Addr.add_lit] at this
 clear hown
 have hsh : ∃ a n c, v1 = .slice a n c := by rcases hv with ⟨rfl, _⟩ | ⟨b, o, cap, rfl, _⟩ <;> exact ⟨_, _, _, rfl⟩
 obtain ⟨a, n, c, rfl⟩ := hsh
 have hv' := zH hv
 clear hv
 go_wp2
 go_ret
 refine ⟨w1.heap.size, rfl, hbel.size, ⟨_, ?_, ?_, ?_, ?_, (hv'.out.below (below_alloc _ _))⟩, hbel.alloc hbel.size _⟩
 · rw [World.cell?_alloc_at _ _ _ _ rfl]; rfl
 · rw [World.cell?_alloc_at _ _ _ _ rfl]; rfl
 · exact World.frozen?_alloc_at _ _ _ _ rfl
 · exact World.frozen?_alloc_at _ _ _ _ rfl
section
variable {P : Program} {a : Act} {w : World} {Q : Exit → Act → World → Prop}
theorem jump_at {l : Nat} {A : Act} {W : World} : l = l ∧ A = A ∧ W = W := ⟨rfl, rfl, rfl⟩
theorem wp_scope_fwd {c rest : Code} (l : Nat) (A : Act) (W : World) (hf : findLabel c l = some rest) (first : c.wp P (Exit.jump l (fun a' w' => a' = A ∧ w' = W) Q) a w)
 (pass : rest.wp P (Exit.noGoto Q) A W) : (Code.scope c).wp P Q a w := by
 refine wp_scope_jumps l (fun a' w' => a' = A ∧ w' = W) (fun _ _ => 0) hf first ?_
 rintro a' w' ⟨rfl, rfl⟩
 refine Code.wp_mono ?_ pass
 intro e a w h
 cases e <;> first | exact h | exact (h : False).elim
theorem wp_scope_none {c : Code} (h : c.wp P (Exit.noGoto Q) a w) : (Code.scope c).wp P Q a w := wp_scope_straight h
end
end Go.Proofs.YtncnlfpiondpnaaGreat
