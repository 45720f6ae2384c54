/- slots: what the library does with rows of numbers: BinarySearch, Insert; has. -/
import Derived.Test.YtkipejhjpfakpaaSv0
import Derived.Shelf.Spec.SlicesInsertGrow
import Derived.Shelf.Slices.SearchI
import Derived.Shelf.Slices.Empties
namespace Go.Proofs.Ytkipejhjpfakpaa
open Go.RowKit

def ins_ren : Go.Shelf.Ren := ⟨fun n => if n = 21 then 63 else if n = 27 then 70 else if n = 28 then 71 else if n = 35 then 73 else if n = 39 then 74 else 0, fun n => if n = 0 then 0 else if n = 3 then 3 else if n = 4 then 4 else if n = 22 then 22 else 0, fun _ => 0⟩
theorem ins_lays : Lays2.n21 Try.prog ins_ren where
  mixed := by kernel_rfl
  f21 := by kernel_rfl
  f27 := by kernel_rfl
  f28 := by kernel_rfl
  f35 := by kernel_rfl
  f39 := by kernel_rfl
  t0 := by kernel_rfl
  a0 := fun _ => by kernel_rfl
  z0 := fun _ => by kernel_rfl
  v0 := fun _ => by kernel_rfl
  t3 := by kernel_rfl
  a3 := fun _ => by kernel_rfl
  z3 := fun _ => by kernel_rfl
  v3 := fun _ => by kernel_rfl
  t4 := by kernel_rfl
  a4 := fun _ => by kernel_rfl
  z4 := fun _ => by kernel_rfl
  v4 := fun _ => by kernel_rfl
  t22 := by kernel_rfl
  a22 := fun _ => by kernel_rfl
  z22 := fun _ => by kernel_rfl
  v22 := fun _ => by kernel_rfl
  i3 := by kernel_rfl
def bse_ren : Go.Shelf.Ren := ⟨fun n => if n = 25 then 62 else if n = 31 then 68 else if n = 32 then 69 else if n = 37 then 72 else 0, fun n => if n = 0 then 0 else if n = 3 then 3 else if n = 4 then 4 else if n = 22 then 22 else if n = 40 then 86 else 0, fun _ => 0⟩
theorem bse_lays : Lays2.n25 Try.prog bse_ren where
  mixed := by kernel_rfl
  f25 := by kernel_rfl
  f31 := by kernel_rfl
  f32 := by kernel_rfl
  f37 := by kernel_rfl
  t0 := by kernel_rfl
  a0 := fun _ => by kernel_rfl
  z0 := fun _ => by kernel_rfl
  v0 := fun _ => by kernel_rfl
  t3 := by kernel_rfl
  a3 := fun _ => by kernel_rfl
  z3 := fun _ => by kernel_rfl
  v3 := fun _ => by kernel_rfl
  t4 := by kernel_rfl
  a4 := fun _ => by kernel_rfl
  z4 := fun _ => by kernel_rfl
  v4 := fun _ => by kernel_rfl
  t22 := by kernel_rfl
  a22 := fun _ => by kernel_rfl
  z22 := fun _ => by kernel_rfl
  v22 := fun _ => by kernel_rfl
  t40 := by kernel_rfl
  a40 := fun _ => by kernel_rfl
  z40 := fun _ => by kernel_rfl
  v40 := fun _ => by kernel_rfl

theorem below_drewN {w w' : World} {B n : Nat} (h : Below B w w') : Below B w (w'.drewN n) := ⟨h.os, h.tape, h.output, h.size, h.block⟩

theorem ints_getD (l : List Int) (j : Nat) (h : j < l.length) : (ints l)[j]? = some (.int .i64 (l.getD j 0)) := by simp [ints, h]

theorem bs_any (v : Value) (l : List Int) (x : Int) (w : World) (hs : Sl w v (ints l)) (hp : l.Pairwise (· ≤ ·)) (hl : l.length ≤ 1000) :
    Calls Try.prog 62 #[v, .int .i64 x] w fun e w' => e = .returned (.tuple #[.int .i64 ((l.countP (· < x) : Nat) : Int), .bool (l.contains x)]) ∧ Below w.heap.size w w' := by
  obtain ⟨a, c, rfl, -⟩ := id hs
  rw [ints_len] at *
  by_cases h0 : l.length = 0
  · have : l = [] := List.eq_nil_of_length_eq_zero h0
    subst this
    refine (Any.slices_BinarySearch_int_empty bse_lays a c x w).mono ?_
    rintro e w' ⟨rfl, rfl⟩
    exact ⟨rfl, Below.refl _ _⟩
  · obtain ⟨b, o, rfl, -, -, -, hc⟩ := hs.at (by rw [ints_len]; omega)
    refine (Any.slices_BinarySearch_int bse_lays b o l.length c l x w (Nat.le_refl _) (by omega) (fun j hj => hc j _ (ints_getD l j hj)) (by rw [List.take_of_length_le (Nat.le_refl _)]; exact hp)).mono ?_
    rintro e w' ⟨rfl, q, rfl⟩
    rw [List.take_of_length_le (Nat.le_refl _)]
    exact ⟨rfl, below_drewN (Below.refl _ _)⟩

/-- A whole block, its type at hand. -/
theorem row_setCells {g : Nat} {T : TypeId} : ∀ (cs : List Value) (o : Nat) (w : World) (xs : List Value), w.heap[g]? = some (.cells xs.toArray T (0, 0)) → o + cs.length ≤ xs.length → (w.setCells g o cs).heap[g]? = some (.cells (putAt o cs xs).toArray T (0, 0))
  | [], o, w, xs, h, _ => by rw [putAt_nil]; exact h
  | c :: cs, o, w, xs, h, hl => by
    rw [World.setCells, ← putAt_cons hl]
    refine row_setCells cs (o + 1) _ (xs.set o c) ?_ (by simp at hl ⊢; omega)
    have := Go.heap_setCell_same w g o xs.toArray T c h
    simpa using this

/-- A number put into a row. -/
def insL (l : List Int) (k : Nat) (x : Int) : List Int := l.take k ++ x :: l.drop k
theorem insL_len {l : List Int} {k : Nat} {x : Int} (hk : k ≤ l.length) : (insL l k x).length = l.length + 1 := by unfold insL; simp; omega
theorem ints_append (a b : List Int) : ints (a ++ b) = ints a ++ ints b := by simp [ints]
theorem ints_insL (l : List Int) (k : Nat) (x : Int) : ints (insL l k x) = (ints l).take k ++ .int .i64 x :: (ints l).drop k := by
  simp [insL, ints, List.map_take, List.map_drop]

theorem put_two {C cs : List Value} {k n : Nat} {x : Value} (hn : cs.length = n) (hk : k ≤ n) (hC : n + 1 ≤ C.length) (ht : C.take k = cs.take k) :
    (putAt k [x] (putAt (k + 1) (cs.drop k) C)).take (n + 1) = cs.take k ++ x :: cs.drop k ∧ (putAt (k + 1) (cs.drop k) (putAt k [x] C)).take (n + 1) = cs.take k ++ x :: cs.drop k := by
  have e1 : (C.take k).length = k := by rw [List.length_take]; omega
  have e2 : (cs.drop k).length = n - k := by rw [List.length_drop, hn]
  have e3 : (cs.take k).length = k := by rw [List.length_take]; omega
  constructor
  · unfold putAt
    rw [e2]
    have a1 : ((C.take (k + 1)) ++ (cs.drop k ++ C.drop (k + 1 + (n - k)))).take k = cs.take k := by
      rw [List.take_append_of_le_length (by rw [List.length_take]; omega), List.take_take, show min k (k + 1) = k by omega, ht]
    have a2 : ((C.take (k + 1)) ++ (cs.drop k ++ C.drop (k + 1 + (n - k)))).drop (k + [x].length) = cs.drop k ++ C.drop (k + 1 + (n - k)) := by
      rw [List.length_singleton, List.drop_append_of_le_length (by rw [List.length_take]; omega), List.drop_of_length_le (by rw [List.length_take]; omega), List.nil_append]
    rw [a1, a2, List.singleton_append, ← List.cons_append, ← List.append_assoc]
    rw [List.take_append_of_le_length (by simp; omega), List.take_of_length_le (by simp; omega)]
  · unfold putAt
    rw [e2]
    have a1 : ((C.take k) ++ ([x] ++ C.drop (k + [x].length))).take (k + 1) = cs.take k ++ [x] := by
      rw [ht, ← List.append_assoc, List.take_append_of_le_length (by simp; omega), List.take_of_length_le (by simp; omega)]
    rw [a1, List.append_assoc, List.singleton_append, ← List.cons_append, ← List.append_assoc]
    rw [List.take_append_of_le_length (by simp; omega), List.take_of_length_le (by simp; omega)]

theorem putAt_take {o m : Nat} {cs xs : List Value} (h : m ≤ o) (ho : o ≤ xs.length) : (putAt o cs xs).take m = xs.take m := by
  unfold putAt
  rw [List.take_append_of_le_length (by rw [List.length_take]; omega), List.take_take, show min m o = m by omega]

set_option maxHeartbeats 1000000 in
theorem insert_any (v : Value) (l : List Int) (k gx B : Nat) (x : Int) (w : World) (ho : w.ownsRow B 3 1 v l.length (ints l)) (hx : Arr w gx [.int .i64 x]) (hne : v.ownBlock ≠ some gx) (hk : k ≤ l.length) (hl : l.length ≤ 1000) (hB : B ≤ w.heap.size) :
    Calls Try.prog 63 #[v, .int .i64 k, .slice (some ⟨gx, 0, none⟩) 1 1] w fun e w' =>
      ∃ v', e = .returned v' ∧ w'.ownsRow B 3 1 v' (l.length + 1) (ints (insL l k x)) ∧ w.grownBy w' v.ownBlock ∧ (∀ q, v'.ownBlock = some q → v.ownBlock = some q ∨ w.heap.size ≤ q) := by
  have hvs : ∀ j u, [Value.int .i64 x][j]? = some u → w.cell? ⟨gx, 0 + j, none⟩ = some u := fun j u h => by rw [Nat.zero_add]; exact hx.cell h
  have h1v : ∀ u ∈ [Value.int .i64 x], u.oneCell' = true := by simp [Value.oneCell']
  have hil := insL_len (x := x) hk
  rcases ho.2 with ⟨rfl, h0⟩ | ⟨g, cap, cur, rfl, hb, hg, hcap, hmx, hsz, htk⟩
  · have hl0 : l = [] := List.eq_nil_of_length_eq_zero h0
    subst hl0
    obtain rfl : k = 0 := by simpa using hk
    refine (Any2.slices_Insert_int_end_grow ins_lays none 0 0 gx 0 1 1 [] [.int .i64 x] w (by decide) (Nat.le_refl _) (by decide) (by decide) rfl rfl (fun _ => rfl) (fun a h => by cases h) hvs h1v).mono ?_
    rintro e w' ⟨rfl, rfl⟩
    refine ⟨_, rfl, ⟨by simp [ints, insL], .inr ⟨w.heap.size, _, _, rfl, hB, heap_alloc_new w.drew _, grownCap_ge _ _ _ _, grownCap_le_maxLen _ _ _ _ (by decide), ?_, ?_⟩⟩, ?_⟩
    · have h := grownCap_ge w (0 + 1) 0 (ins_ren.t 3)
      generalize grownCap w (0 + 1) 0 (ins_ren.t 3) = G at h ⊢
      simp [Builtin.zeroCells, Value.cells]
      omega
    · simp [ints, insL]
    · exact ⟨gr_below (((Below.refl _ _).drew).alloc (Nat.le_refl _) _), fun q hq => by cases hq; exact .inr (Nat.le_refl _)⟩
  · rw [Nat.mul_one] at hsz htk
    have hgx : gx ≠ g := fun e => hne (by rw [e]; rfl)
    have hcell : ∀ j u, (ints l)[j]? = some u → w.cell? ⟨g, 0 + j, none⟩ = some u := fun j u h => by
      have := World.ownsRow.cells ho (g := g) rfl j u h
      rw [Addr.add_lit] at this
      exact this
    have hsp : ∀ j, j < cap → (w.cell? ⟨g, 0 + j, none⟩).isSome = true := fun j hj => by
      rw [Nat.zero_add, cell_of_row w g j cur 3 _ hg, Array.getElem?_eq_getElem (by omega)]; rfl
    have hfz : ∀ j, w.frozen? ⟨g, 0 + j, none⟩ = false := fun j => by simp [World.frozen?, hg]
    have hg' : w.heap[g]? = some (.cells cur.toList.toArray 3 (0, 0)) := by simpa using hg
    have hcl : cur.toList.length = cap := by simpa using hsz
    have hx1 : ([Value.int .i64 x] : List Value).length = 1 := rfl
    have hout : (ints (insL l k x)).length = (l.length + 1) * 1 := by rw [ints_len, hil, Nat.mul_one]
    by_cases hroom : l.length + 1 ≤ cap
    · by_cases hend : k = l.length
      · subst hend
        refine (Any2.slices_Insert_int_end_room ins_lays g 0 l.length cap gx 0 1 1 [.int .i64 x] w (by decide) hroom (by unfold maxLen at hmx; omega) rfl (fun j hj => by rw [Nat.add_assoc]; exact hsp _ (by omega)) (fun j _ => by rw [Nat.add_assoc]; exact hfz _) hvs h1v).mono ?_
        rintro e w' ⟨rfl, rfl⟩
        have hr := row_setCells [.int .i64 x] (0 + l.length) w cur.toList hg' (by rw [hx1, hcl]; omega)
        refine ⟨_, rfl, ⟨hout, .inr ⟨g, cap, _, rfl, hb, hr, hroom, hmx, ?_, ?_⟩⟩, gr_cells _ _ _, fun q hq => .inl hq⟩
        · rw [Nat.mul_one, List.size_toArray, putAt_len (by rw [hx1, hcl]; omega), hcl]
        · have hq : putAt (0 + l.length) [Value.int .i64 x] cur.toList = ints l ++ ([.int .i64 x] ++ cur.toList.drop (l.length + 1)) := by
            unfold putAt; rw [Nat.zero_add, htk]; rfl
          have hi2 : ints (insL l l.length x) = ints l ++ [.int .i64 x] := by
            rw [ints_insL]
            have := ints_len l
            rw [List.take_of_length_le (by omega), List.drop_of_length_le (by omega)]
          rw [hq, hi2, Nat.mul_one, ← List.append_assoc]
          have := ints_len l
          simp only []
          rw [List.take_append_of_le_length (by simp; omega), List.take_of_length_le (by simp; omega)]
      · obtain ⟨Tx, hxb⟩ := hx
        refine (Any2.slices_Insert_int_shift ins_lays g 0 l.length cap k gx 0 1 1 (ints l) [.int .i64 x] w (by omega) (by decide) hroom (by unfold maxLen at hmx; omega) hgx (ints_len _) rfl hcell (fun j hj => hsp j (by omega)) (fun j _ => hfz j) hvs (ints_one _) h1v Tx 3 1 cur.size
          (by simp [World.shape?, hxb]) (by simp [World.shape?, hg]) (by omega) (by simp [World.frozen?, hxb]) (by simp [World.frozen?, hxb])).mono ?_
        rintro e w' ⟨rfl, rfl⟩
        have hd : ((ints l).drop k).length = l.length - k := by rw [List.length_drop, ints_len]
        have hr1 := row_setCells ((ints l).drop k) (0 + (k + 1)) w.drew cur.toList hg' (by rw [hd, hcl]; omega)
        have hr := row_setCells [.int .i64 x] (0 + k) _ _ hr1 (by rw [putAt_len (by rw [hd, hcl]; omega), hx1, hcl]; omega)
        have htk2 : cur.toList.take k = (ints l).take k := by rw [← htk, List.take_take, show min k l.length = k by omega]
        have hp := (put_two (C := cur.toList) (cs := ints l) (k := k) (n := l.length) (x := .int .i64 x) (ints_len l) hk (by omega) htk2).1
        refine ⟨_, rfl, ⟨hout, .inr ⟨g, cap, _, rfl, hb, hr, hroom, hmx, ?_, ?_⟩⟩, gr_trans (gr_trans (gr_drew _ _) (gr_cells _ _ _)) (gr_cells _ _ _), fun q hq => .inl hq⟩
        · rw [Nat.mul_one, List.size_toArray, putAt_len (by rw [putAt_len (by rw [hd, hcl]; omega), hx1, hcl]; omega), putAt_len (by rw [hd, hcl]; omega), hcl]
        · rw [Nat.mul_one, ints_insL, Nat.zero_add, Nat.zero_add]
          exact hp
    · by_cases hend : k = l.length
      · subst hend
        refine (Any2.slices_Insert_int_end_grow ins_lays (some ⟨g, 0, none⟩) l.length cap gx 0 1 1 (ints l) [.int .i64 x] w (by decide) hcap (by omega) (by omega) (ints_len _) rfl (fun h => by cases h) (fun a h j u hu => by cases h; exact World.ownsRow.cells ho (g := g) rfl j u hu) hvs h1v).mono ?_
        rintro e w' ⟨rfl, rfl⟩
        have hgc := grownCap_ge w (l.length + 1) cap (ins_ren.t 3)
        have hgm := grownCap_le_maxLen w (l.length + 1) cap (ins_ren.t 3) (by unfold maxLen; omega)
        generalize grownCap w (l.length + 1) cap (ins_ren.t 3) = G at hgc hgm ⊢
        have hll := ints_len l
        refine ⟨_, rfl, ⟨hout, .inr ⟨w.heap.size, _, _, rfl, hB, heap_alloc_new w.drew _, hgc, hgm, ?_, ?_⟩⟩, gr_below (((Below.refl _ _).drew).alloc (Nat.le_refl _) _), fun q hq => by cases hq; exact .inr (Nat.le_refl _)⟩
        · simp [Builtin.zeroCells, Value.cells, hll]; omega
        · have hi2 : ints (insL l l.length x) = ints l ++ [.int .i64 x] := by
            rw [ints_insL, List.take_of_length_le (by omega), List.drop_of_length_le (by omega)]
          rw [hi2, Nat.mul_one]
          simp only [Array.toList_append]
          rw [List.take_append_of_le_length (by simp; omega), List.take_of_length_le (by simp; omega)]
      · refine (Any2.slices_Insert_int_grow ins_lays g 0 l.length cap k gx 0 1 1 (ints l) [.int .i64 x] w (by omega) (by decide) hcap (by omega) (by omega) (ints_len _) rfl hcell hvs (ints_one _) h1v).mono ?_
        rintro e w' ⟨rfl, rfl⟩
        have hgc := grownCap_ge w (l.length + 1) cap (ins_ren.t 3)
        have hgm := grownCap_le_maxLen w (l.length + 1) cap (ins_ren.t 3) (by unfold maxLen; omega)
        generalize grownCap w (l.length + 1) cap (ins_ren.t 3) = G at hgc hgm ⊢
        have hll := ints_len l
        obtain ⟨R, hR⟩ : ∃ R : Array Value, ((ints l).take k).toArray ++ Builtin.zeroCells (Value.int .i64 0).cells (l.length + 1 - k) ++ Builtin.zeroCells (Value.int .i64 0).cells (G - (l.length + 1)) = R := ⟨_, rfl⟩
        have hRl : R.toList.length = G := by
          rw [← hR]; simp [Builtin.zeroCells, Value.cells, hll]; omega
        have hRk : R.toList.take k = (ints l).take k := by
          rw [← hR]; simp only [Array.toList_append, List.append_assoc]
          rw [List.take_append_of_le_length (by simp; omega), List.take_take, Nat.min_self]
        rw [hR]
        have hd : ((ints l).drop k).length = l.length - k := by rw [List.length_drop, ints_len]
        have hr0 : (w.alloc (.cells R (ins_ren.t 3))).drew.heap[w.heap.size]? = some (.cells R.toList.toArray 3 (0, 0)) := heap_alloc_new w (.cells R (ins_ren.t 3))
        have hr1 := row_setCells [.int .i64 x] k _ _ hr0 (by rw [hx1, hRl]; omega)
        have hr2 : (((w.alloc (.cells R (ins_ren.t 3))).drew.setCells w.heap.size k [.int .i64 x]).drew).heap[w.heap.size]? = _ := hr1
        have hr := row_setCells ((ints l).drop k) (k + 1) _ _ hr2 (by rw [putAt_len (by rw [hx1, hRl]; omega), hd, hRl]; omega)
        have hp := (put_two (C := R.toList) (cs := ints l) (k := k) (n := l.length) (x := .int .i64 x) (ints_len l) hk (by omega) hRk).2
        refine ⟨_, rfl, ⟨hout, .inr ⟨w.heap.size, _, _, rfl, hB, hr, hgc, hgm, ?_, ?_⟩⟩, ?_⟩
        · rw [Nat.mul_one, List.size_toArray, putAt_len (by rw [putAt_len (by rw [hx1, hRl]; omega), hd, hRl]; omega), putAt_len (by rw [hx1, hRl]; omega), hRl]
        · rw [Nat.mul_one, ints_insL]
          exact hp
        · refine ⟨?_, fun q hq => by cases hq; exact .inr (Nat.le_refl _)⟩
          refine gr_below (setCells_below (Nat.le_refl _) _ _ _ ?_)
          refine Below.drew ?_
          exact setCells_below (Nat.le_refl _) _ _ _ (((Below.refl _ _).alloc (Nat.le_refl _) _).drew)

theorem has_any (v : Value) (l : List Int) (x : Int) (w : World) (hs : Sl w v (ints l)) (hl : l.length ≤ 1000) :
    Calls Try.prog 64 #[v, .int .i64 x] w fun e w' => e = .returned (.bool (l.contains x)) ∧ Below w.heap.size w w' := by
  obtain ⟨a, c, rfl, -⟩ := id hs
  rw [ints_len] at *
  have hs := Lib.hid hs
  obtain ⟨r, hr⟩ : ∃ r, l.contains x = r := ⟨_, rfl⟩
  rw [hr]
  replace hr := Lib.hid hr
  go_enter Try.func64, Try.ntmps64
  go_wp2_with fail
  go_loop [5] (fun iv => ∃ i : Nat, i ≤ l.length ∧ iv = .int .i64 i ∧ (l.take i).contains x = false) (fun iv => l.length - (intOf iv).toNat)
  case atStart => exact ⟨0, by omega, rfl, by simp⟩
  case round =>
    obtain ⟨i, hi, rfl, hno⟩ := hrel
    replace hno := Lib.hid hno
    by_cases hlt : i < l.length
    · obtain ⟨b, o, rfl, -, -, -, hcc⟩ := hs.out.at (by rw [ints_len]; omega)
      have hc0 := hcc i _ (ints_get hlt)
      have hst := Lib.hid (show l.take (i + 1) = l.take i ++ [l[i]] by rw [List.take_succ_eq_append_getElem hlt])
      have hmem := Lib.hid (List.getElem_mem hlt)
      obtain ⟨z, hz⟩ : ∃ z, l[i] = z := ⟨_, rfl⟩
      rw [hz] at hc0 hst hmem
      clear hcc hz
      by_cases hx : z = x
      · subst hx
        have hr2 := Lib.hid (show r = true by rw [← hr.out]; simpa using hmem.out)
        go_wp2_with fail
        go_ret
        exact ⟨by rw [hr2.out] <;> rfl, Below.refl _ _⟩
      · go_wp2_with fail
        exact ⟨⟨i + 1, by omega, by go_num, by rw [hst.out, List.contains_append, hno.out]; simp [Ne.symm hx]⟩, by simp [intOf]; omega⟩
    · obtain rfl : i = l.length := by omega
      have hr2 := Lib.hid (show r = false by rw [← hr.out]; have := hno.out; rwa [List.take_of_length_le (Nat.le_refl _)] at this)
      go_wp2_with fail
      go_ret
      exact ⟨by rw [hr2.out] <;> rfl, Below.refl _ _⟩

end Go.Proofs.Ytkipejhjpfakpaa
