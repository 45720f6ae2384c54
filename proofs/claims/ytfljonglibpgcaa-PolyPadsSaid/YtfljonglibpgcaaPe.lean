/- poly: Join, Big; slices made of literals; tags compared. -/
import Derived.Test.YtfljonglibpgcaaRp3
import Derived.Test.YtfljonglibpgcaaAp
import Derived.Test.YtfljonglibpgcaaEq
namespace Go.Proofs.Ytfljonglibpgcaa
open Go.RowKit
variable {P : Program} {Q : Exit → Act → World → Prop}

theorem sl_arr {w : World} {g : Nat} {xs : List Value} (h : Arr w g xs) (hm : xs.length ≤ maxLen) : Sl w (.slice (some ⟨g, 0, none⟩) xs.length xs.length) xs :=
  Sl.of_part h rfl (Nat.le_refl _) hm (fun j _ => by rw [Nat.zero_add])

/-- A slice of lists that has just been made, of one. -/
theorem Sls.new1 {w : World} {v : Value} {b : List UInt8} (h : Sl w v (u8s b)) (T : TypeId) : Sls (w.alloc (.cells #[v] T)) (.slice (some ⟨w.heap.size, 0, none⟩) 1 1) [b] := by
  refine ⟨[v], Sl.new1 _ _ _, rfl, ?_⟩
  intro j a b' ha hb'
  match j with
  | 0 =>
    simp only [List.getElem?_cons_zero, Option.some.injEq] at ha hb'
    subst ha hb'
    exact h.alloc _
  | j + 1 => simp at ha
theorem Sls.new3 {w : World} {v1 v2 v3 : Value} {b1 b2 b3 : List UInt8} (h1 : Sl w v1 (u8s b1)) (h2 : Sl w v2 (u8s b2)) (h3 : Sl w v3 (u8s b3)) (T : TypeId) :
    Sls (w.alloc (.cells #[v1, v2, v3] T)) (.slice (some ⟨w.heap.size, 0, none⟩) 3 3) [b1, b2, b3] := by
  refine ⟨[v1, v2, v3], sl_arr (Arr.new w #[v1, v2, v3] T) (by simp [maxLen]), rfl, ?_⟩
  intro j a b' ha hb'
  match j with
  | 0 => simp only [List.getElem?_cons_zero, Option.some.injEq] at ha hb'; subst ha hb'; exact h1.alloc _
  | 1 => simp only [List.getElem?_cons_zero, List.getElem?_cons_succ, Option.some.injEq] at ha hb'; subst ha hb'; exact h2.alloc _
  | 2 => simp only [List.getElem?_cons_zero, List.getElem?_cons_succ, Option.some.injEq] at ha hb'; subst ha hb'; exact h3.alloc _
  | j + 3 => simp at ha
theorem Sls.nil (w : World) : Sls w (.slice none 0 0) [] := ⟨[], Sl.nil w, rfl, fun j a b ha => by simp at ha⟩

/-- A block that has just been made is forgotten but for what is said of it. -/
theorem Tx.newF {l : List Oper} {S : World → Prop} {B f d : Nat} {a : Act} {w w0 : World} {o : Obj} {F : World → Prop} (hF : F (w0.alloc o)) (hd : ∀ w, F w → F w.drew) (hw : w = w0.alloc o ∨ w = (w0.alloc o).drew)
    (h : ∀ w', F w' → Below w0.heap.size w0 w' → Tx P l Q S B f d a w') : Tx P l Q S B f d a w := by
  rcases hw with rfl | rfl
  · exact h _ hF (below_alloc _ _)
  · exact h _ (hd _ hF) (below_alloc _ _).drew

/-- A slice of n cells; of n lists (kinds of a region's values). -/
def Ph.sl (n : Nat) (xs : List Value) : Ph := ⟨fun v w => ∃ d, v = .slice d n n ∧ Sl w v xs, fun _ _ _ ⟨d, h1, h2⟩ hb => ⟨d, h1, h2.below hb⟩, false, fun h => by cases h⟩
def Ph.sls (n : Nat) (ls : List (List UInt8)) : Ph := ⟨fun v w => ∃ d, v = .slice d n n ∧ Sls w v ls, fun _ _ _ ⟨d, h1, h2⟩ hb => ⟨d, h1, h2.below hb⟩, false, fun h => by cases h⟩

theorem eq_tag (m n : Nat) (w : World) :
    (Op.equalIn 10000 30 (.agg (bytn 16 m).toArray) (.agg (bytn 16 n).toArray)).run Try.prog w = .ok (decide (digs 256 16 m = digs 256 16 n)) w := by
  have h := run_eq_ints (P := Try.prog) (t := 30) (e := 5) (k := .u8) (n := 16) Try.underlying30 Try.underlying5 (by kernel_rfl) (by kernel_rfl) ((digs 256 16 m).map Int.ofNat) ((digs 256 16 n).map Int.ofNat) (by simp [digs_len]) (by simp [digs_len]) w
  have e : ∀ k, ((digs 256 16 k).map Int.ofNat).map (Value.int .u8) = bytn 16 k := by intro k; simp only [bytn, List.map_map]; rfl
  rw [e, e] at h
  have e2 : ((digs 256 16 m).map Int.ofNat = (digs 256 16 n).map Int.ofNat) = (digs 256 16 m = digs 256 16 n) :=
    propext ⟨(List.map_inj_right (fun a b h => Int.ofNat.inj h)).1, fun h => by rw [h]⟩
  rw [h]
  simp only [e2]
theorem eq_tag_same (m : Nat) (w : World) : (Op.equalIn 10000 30 (.agg (bytn 16 m).toArray) (.agg (bytn 16 m).toArray)).run Try.prog w = .ok true w := by
  rw [eq_tag]; simp

set_option maxHeartbeats 2000000 in
theorem join_any (d : Option Addr) (cap : Nat) (ls : List (List UInt8)) (hf : ls.flatten.length ≤ 2 ^ 40) (w : World) (hs : Sls w (.slice d ls.length cap) ls) :
    Calls Try.prog 10 #[.slice d ls.length cap] w fun e w' => ∃ v, e = .returned v ∧ Sl w' v (u8s ls.flatten) ∧ Below w.heap.size w w' := by
  obtain ⟨i, hi, hz0, hz1, hz2⟩ := info_parts info_u8
  have hlen := hs.len
  obtain ⟨-, hlc, hcm⟩ := hlen
  unfold maxLen at hcm
  have hpre : ∀ j, j < ls.length → (ls.take (j + 1)).flatten.length ≤ 2 ^ 40 := fun j _ => by
    have h2 : ls.flatten = (ls.take (j + 1)).flatten ++ (ls.drop (j + 1)).flatten := by rw [← List.flatten_append, List.take_append_drop]
    rw [h2, List.length_append] at hf; omega
  replace hs := Lib.hid hs
  replace hpre := Lib.hid hpre
  clear hf
  go_enter Try.func10, Try.ntmps10
  go_wp2_with fail
  go_loopw [3, 4] (fun v jv wr => ∃ j : Nat, j ≤ ls.length ∧ jv = .int .i64 j ∧ Below w.heap.size w wr ∧ wr.ownsRow w.heap.size 5 1 v (ls.take j).flatten.length (u8s (ls.take j).flatten)) (fun _ jv _ => ls.length - (intOf jv).toNat)
  case atStart => exact ⟨0, Nat.zero_le _, rfl, Below.refl _ _, World.ownsRow_nil _ _ _ _⟩
  case round =>
    obtain ⟨j, hj, rfl, kb, hown⟩ := hrel
    by_cases hlt : j < ls.length
    · have hb2 := kb.size
      obtain ⟨b, o, x, c, rfl, hcell, hsl⟩ := (hs.out.below kb).at hlt
      have e1 := flat_take_succ hlt
      have e2 := hpre.out j hlt
      rw [e1, List.length_append] at e2
      obtain ⟨m, hm⟩ : ∃ m, ls[j] = m := ⟨_, rfl⟩
      obtain ⟨T, hT⟩ : ∃ T, (ls.take j).flatten = T := ⟨_, rfl⟩
      rw [hm] at hcell hsl e1 e2
      rw [hT] at hown e1 e2
      have hsl := Lib.hid hsl
      have hown := Lib.hid hown
      have e1 := Lib.hid e1
      clear hT
      replace hm := Lib.hid hm
      go_wp2_with (at_builtin; (refine wpList_app rfl _ _ 27 rfl w.heap.size 5 Try.underlying27 hi hz0 hz1 hz2 rfl _ _ _ rfl hown.out _ (u8s m) rfl hsl.out (u8s_one _) ?c7 ?c8 ?c9 ?_))
      case c7 => rw [u8s_len]; unfold maxLen; omega
      case c8 => rw [u8s_len]; omega
      case c9 => exact hb2
      intro v' w' hown' hg
      have kb3 : Below w.heap.size w w' := below_grown kb hown.out hb2 hg
      rw [← u8s_append, u8s_len, ← List.length_append, ← e1.out] at hown'
      replace hown' := Lib.hid hown'
      clear hown hsl hg
      go_wp2_with fail
      exact ⟨⟨j + 1, by omega, by go_num, kb3, hown'.out⟩, by simp [intOf]; omega⟩
    · obtain rfl : j = ls.length := by omega
      rw [List.take_length] at hown
      have hsl := Lib.hid (Sl.of_own hown)
      replace hown := Lib.hid hown
      go_wp2_with fail
      go_ret
      exact ⟨_, rfl, hsl.out, kb⟩

/-- Big: whether there are more than 30, or one is longer than 1000. -/
def bigL (ls : List (List UInt8)) : Bool := decide (30 < ls.length) || ls.any fun l => decide (1000 < l.length)
theorem bigL_any {ls : List (List UInt8)} {j : Nat} (hj : j < ls.length) (h : 1000 < ls[j].length) : bigL ls = true := by
  have : ls.any (fun l => decide (1000 < l.length)) = true := List.any_eq_true.2 ⟨ls[j], List.getElem_mem hj, by simpa using h⟩
  rw [bigL, this, Bool.or_true]
theorem bigL_not {ls : List (List UInt8)} (h1 : ls.length ≤ 30) (h2 : ∀ j (h : j < ls.length), ls[j].length ≤ 1000) : bigL ls = false := by
  rw [bigL, Bool.or_eq_false_iff]
  refine ⟨by simp; omega, ?_⟩
  rw [List.any_eq_false]
  intro l hl
  obtain ⟨k, hk, rfl⟩ := List.getElem_of_mem hl
  have := h2 k hk
  simp; omega
theorem bigL_small {ls : List (List UInt8)} (h : bigL ls = false) : ls.flatten.length ≤ 30000 := by
  rw [bigL, Bool.or_eq_false_iff] at h
  obtain ⟨h1, h2⟩ := h
  have h1 : ls.length ≤ 30 := by simp at h1; omega
  rw [List.any_eq_false] at h2
  have key : ∀ l : List (List UInt8), (∀ x ∈ l, ¬ decide (1000 < x.length) = true) → l.flatten.length ≤ 1000 * l.length := by
    intro l
    induction l with
    | nil => intro _; simp
    | cons x xs ih =>
      intro h
      have h0 := h x (by simp)
      have h3 := ih (fun y hy => h y (by simp [hy]))
      simp only [decide_eq_true_eq] at h0
      rw [List.flatten_cons, List.length_append, List.length_cons]; omega
  have := key ls h2
  omega

set_option maxHeartbeats 2000000 in
theorem big_any (d : Option Addr) (cap : Nat) (ls : List (List UInt8)) (w : World) (hs : Sls w (.slice d ls.length cap) ls) :
    Calls Try.prog 9 #[.slice d ls.length cap] w fun e w' => e = .returned (.bool (bigL ls)) ∧ Below w.heap.size w w' := by
  have hlen := hs.len
  obtain ⟨-, hlc, hcm⟩ := hlen
  unfold maxLen at hcm
  have kb := Below.refl w.heap.size w
  replace hs := Lib.hid hs
  by_cases h30 : 30 < ls.length
  · have hr : bigL ls = true := by rw [bigL, decide_eq_true h30, Bool.true_or]
    rw [hr]
    have iw : (30 : Int) < (ls.length : Int) := by omega
    clear hr
    go_enter Try.func9, Try.ntmps9
    go_wp2_with fail
    go_ret
    exact ⟨rfl, kb⟩
  have iw : ¬ (30 : Int) < (ls.length : Int) := by omega
  have hr1 := Lib.hid (fun j (hj : j < ls.length) (h : 1000 < ls[j].length) => bigL_any hj h)
  have hr2 := Lib.hid (bigL_not (ls := ls) (by omega))
  obtain ⟨B, hB⟩ : ∃ B, bigL ls = B := ⟨_, rfl⟩
  rw [hB] at hr1 hr2 ⊢
  clear hB
  go_enter Try.func9, Try.ntmps9
  go_wp2_with fail
  go_loopw [3] (fun jv wr => wr = w ∧ ∃ j : Nat, j ≤ ls.length ∧ jv = .int .i64 j ∧ ∀ k (h : k < ls.length), k < j → ls[k].length ≤ 1000) (fun jv _ => ls.length - (intOf jv).toNat)
  case atStart => exact ⟨rfl, 0, Nat.zero_le _, rfl, fun k _ h => absurd h (by omega)⟩
  case round =>
    obtain ⟨rfl, j, hj, rfl, hall⟩ := hrel
    replace hall := Lib.hid hall
    by_cases hlt : j < ls.length
    · obtain ⟨b, o, x, c, rfl, hcell, -⟩ := hs.out.at hlt
      by_cases hbig : (1000 : Int) < (ls[j].length : Int)
      · have e := hr1.out j hlt (by omega)
        subst e
        go_wp2_with fail
        go_ret
        exact ⟨rfl, kb⟩
      · have hb2 := Lib.hid hbig
        go_wp2_with fail
        refine ⟨⟨by trivial, j + 1, by omega, by go_num, fun k hk hkj => ?_⟩, by simp [intOf]; omega⟩
        by_cases e : k = j
        · subst e; have := hb2.out; omega
        · exact hall.out k hk (by omega)
    · obtain rfl : j = ls.length := by omega
      have e := hr2.out (fun k hk => hall.out k hk hk)
      subst e
      go_wp2_with fail
      go_ret
      exact ⟨rfl, kb⟩

end Go.Proofs.Ytfljonglibpgcaa
