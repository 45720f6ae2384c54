import Derived.Test.YtibdgkhkhmdihaaGreatDoorJa22
import Derived.OwnWalk

namespace Go.Proofs.YtibdgkhkhmdihaaGreatDoor
open Go.RowKit
theorem Sl.take {w : World} {b o n cap m : Nat} {bs : List UInt8} (hm : m ≤ n) (hn : bs.length = n) (hc : n ≤ cap) (hx : cap ≤ maxLen) (h : ∀ j u, (u8s bs)[j]? = some u → w.cell? ⟨b, o + j, none⟩ = some u) :
    Sl w (.slice (some ⟨b, o, none⟩) m cap) (u8s (bs.take m)) := by
  have hl : (bs.take m).length = m := by rw [List.length_take]; omega
  refine ⟨some ⟨b, o, none⟩, cap, by rw [u8s_len, hl], by rw [u8s_len, hl]; omega, hx, fun h => (by cases h), fun x hx => ?_⟩
  cases hx
  intro j u hu
  rw [Addr.add_lit]
  refine h j u ?_
  have hj : j < m := by
    have := (List.getElem?_eq_some_iff.1 hu).1
    rwa [u8s_len, hl] at this
  rw [← hu]
  simp [u8s, hj]
set_option maxHeartbeats 1000000 in
set_option maxRecDepth 100000 in
theorem raw_nil (g : Nat) (w : World) (h0 : w.cell? ⟨g, 0, none⟩ = some (.slice none 0 0)) (h1 : w.cell? ⟨g, 1, none⟩ = some (.bool false)) (f0 : w.frozen? ⟨g, 0, none⟩ = false) :
    Calls Tryz.prog 231 #[.pointer (some ⟨g, 0, none⟩), .int .i64 0] w fun e w' => e = .returned (.slice none 0 0) ∧ w' = w.setCell ⟨g, 0, none⟩ (.slice none 0 0) := by
  go_enter Tryz.func231, Tryz.ntmps231
  go_wp2_with fail
  refine wp_scope_none ?_
  go_wp2_with fail
  refine (clone_nil w).mono ?_
  rintro e w1 ⟨rfl, rfl⟩
  go_wp2_with fail
  try rw [Exit.noGoto_ret]
  go_ret
  exact ⟨rfl, rfl⟩
/-- What Raw leaves: the bytes, in memory of their own; the rest in the cursor. -/
def RawPost (w : World) (g b o cap m : Nat) (rest : List UInt8) (e : Ending) (w' : World) : Prop :=
  ∃ v w1 ao, e = .returned v ∧ w1.ownsRow w.heap.size 5 1 v m (u8s (rest.take m)) ∧ Below w.heap.size w w1 ∧ (m < rest.length → ao = some ⟨b, o + m, none⟩) ∧ (∃ o', ao = some ⟨b, o', none⟩) ∧
      w' = w1.setCell ⟨g, 0, none⟩ (.slice ao (rest.length - m) (cap - m))
set_option maxHeartbeats 1000000 in
set_option maxRecDepth 100000 in
theorem raw_some (g b o cap m : Nat) (rest : List UInt8) (w : World) (h0 : w.cell? ⟨g, 0, none⟩ = some (.slice (some ⟨b, o, none⟩) rest.length cap)) (h1 : w.cell? ⟨g, 1, none⟩ = some (.bool false)) (f0 : w.frozen? ⟨g, 0, none⟩ = false)
    (hc : rest.length ≤ cap) (hx : cap ≤ maxLen) (hm : m ≤ rest.length) (hr : rest.length ≤ 140737488355328) (hcs : Hid (∀ j u, (u8s rest)[j]? = some u → w.cell? ⟨b, o + j, none⟩ = some u)) :
    Calls Tryz.prog 231 #[.pointer (some ⟨g, 0, none⟩), .int .i64 m] w (RawPost w g b o cap m rest) := by
  have hlt := World.block_lt_of_cell? w _ h0
  have hs := Lib.hid (Sl.take hm rfl hc hx hcs.out)
  have e1 : (0 : Int) ≤ (m : Int) := by omega
  have e2 : (m : Int) ≤ (rest.length : Int) := by omega
  have e3 : (rest.length : Int) ≤ (cap : Int) := by omega
  go_enter Tryz.func231, Tryz.ntmps231
  go_wp2_with fail
  refine wp_scope_none ?_
  go_wp2_with fail
  refine (clone_any _ (rest.take m) w hs.out (by rw [List.length_take]; omega)).mono ?_
  rintro e w1 ⟨v1, rfl, hown, hbel, -⟩
  have g0 := hbel.cell (p := ⟨g, 0, none⟩) hlt
  have g1 := hbel.frozen (p := ⟨g, 0, none⟩) hlt
  have hown' := Lib.hid hown
  clear hown
  go_wp2_with fail
  all_goals (try rw [Exit.noGoto_ret])
  all_goals go_ret
  · refine ⟨v1, w1, some ⟨b, o, none⟩, rfl, ?_, hbel, fun h => by omega, ⟨o, rfl⟩, by simp⟩
    have := hown'.out
    rwa [List.length_take, Nat.min_eq_left hm] at this
  · refine ⟨v1, w1, some ⟨b, o + m, none⟩, rfl, ?_, hbel, fun h => rfl, ⟨o + m, rfl⟩, rfl⟩
    have := hown'.out
    rwa [List.length_take, Nat.min_eq_left hm] at this
/-- What is read when so many bytes are wanted; what is left; whether the cursor is bad. -/
def rawS (rest : List UInt8) (bad : Bool) (n : Int) : List UInt8 × List UInt8 × Bool :=
  if bad = true then ([], rest, true) else if n < 0 ∨ (rest.length : Int) < n then ([], [], true) else (rest.take n.toNat, rest.drop n.toNat, false)
/-- A method's end: a list of bytes of its own, the cursor's block alone written. -/
def CurPost (w : World) (g : Nat) (r : List UInt8 × List UInt8 × Bool) (e : Ending) (w' : World) : Prop :=
  ∃ v, e = .returned v ∧ w'.ownsRow w.heap.size 5 1 v r.1.length (u8s r.1) ∧ w.grownBy w' (some g) ∧ Cur w' g r.2.1 r.2.2
theorem own_set {w : World} {base : Nat} {e : TypeId} {size : Nat} {v : Value} {n : Nat} {xs : List Value} {g o : Nat} {u : Value} (h : w.ownsRow base e size v n xs) (hg : g < base) : (w.setCell ⟨g, o, none⟩ u).ownsRow base e size v n xs :=
  ownsRow_setCell_below h (by simpa using hg) u
theorem raw_any (g : Nat) (rest : List UInt8) (bad : Bool) (n : Int) (w : World) (hc : Cur w g rest bad) (hr : rest.length ≤ 140737488355328) :
    Calls Tryz.prog 231 #[.pointer (some ⟨g, 0, none⟩), .int .i64 n] w (CurPost w g (rawS rest bad n)) := by
  cases bad with
  | true =>
    refine (raw_bad g rest n w hc).mono ?_
    rintro e w' ⟨rfl, rfl⟩
    exact ⟨_, rfl, World.ownsRow_nil _ _ _ _, World.grownBy.refl _ _, hc⟩
  | false =>
    by_cases hn : n < 0 ∨ (rest.length : Int) < n
    · refine (raw_no g rest n w hc hn).mono ?_
      rintro e w' ⟨rfl, h1, h2⟩
      have e1 : rawS rest false n = ([], [], true) := by simp [rawS, hn]
      rw [e1]
      exact ⟨_, rfl, World.ownsRow_nil _ _ _ _, h1, h2⟩
    · have e1 : rawS rest false n = (rest.take n.toNat, rest.drop n.toNat, false) := by simp [rawS, hn]
      rw [e1]
      obtain ⟨m, rfl⟩ : ∃ m : Nat, n = m := ⟨n.toNat, by omega⟩
      have hm : m ≤ rest.length := by omega
      have hlt := hc.lt
      obtain ⟨v, h0, h1, f0, f1, hb⟩ := hc
      rcases hb with ⟨rfl, rfl⟩ | ⟨b, o, cap, rfl, h2, h3, h4, h5, h6⟩
      · obtain rfl : m = 0 := by simpa using hm
        refine (raw_nil g w h0 h1 f0).mono ?_
        rintro e w' ⟨rfl, rfl⟩
        refine ⟨_, rfl, World.ownsRow_nil _ _ _ _, grownBy_set (World.grownBy.refl _ _), .slice none 0 0, ?_, ?_, ?_, ?_, .inl ⟨rfl, rfl⟩⟩
        · rw [World.cell?_setCell_same _ _ _ h0]
        · rw [World.cell?_setCell_other _ _ _ _ (by simp)]; exact h1
        · rw [World.frozen?_setCell]; exact f0
        · rw [World.frozen?_setCell]; exact f1
      · refine (raw_some g b o cap m rest w h0 h1 f0 h2 h3 hm hr h6).mono ?_
        rintro e w' ⟨v, w1, ao, rfl, k1, k2, k3, ⟨o', k4⟩, rfl⟩
        simp only [Int.toNat_natCast]
        have hg1 : w1.cell? ⟨g, 0, none⟩ = some (.slice (some ⟨b, o, none⟩) rest.length cap) := by rw [k2.cell (p := ⟨g, 0, none⟩) hlt]; exact h0
        have hlen : (rest.drop m).length = rest.length - m := List.length_drop
        refine ⟨v, rfl, ?_, grownBy_set (below_grownBy k2 _), .slice ao (rest.length - m) (cap - m), ?_, ?_, ?_, ?_, .inr ⟨b, o', cap - m, by rw [k4, hlen], by show (rest.drop m).length ≤ _; omega, by unfold maxLen at *; omega, h4, ?_, ?_⟩⟩
        · rw [List.length_take, Nat.min_eq_left hm]; exact own_set k1 hlt
        · rw [World.cell?_setCell_same _ _ _ hg1]
        · rw [World.cell?_setCell_other _ _ _ _ (by simp), k2.cell (p := ⟨g, 1, none⟩) hlt]; exact h1
        · rw [World.frozen?_setCell, k2.frozen (p := ⟨g, 0, none⟩) hlt]; exact f0
        · rw [World.frozen?_setCell, k2.frozen (p := ⟨g, 1, none⟩) hlt]; exact f1
        · have := k2.size; simp only [World.setCell, Array.size_modify]; omega
        · intro j u hu
          have hj : j < rest.length - m := by
            have := (List.getElem?_eq_some_iff.1 hu).1
            rwa [u8s_len, hlen] at this
          have e2 := k3 (by omega)
          rw [k4] at e2
          cases e2
          rw [World.cell?_setCell_other _ _ _ _ (by simp), k2.cell (p := ⟨b, o + m + j, none⟩) h5, Nat.add_assoc]
          refine h6 (m + j) u ?_
          rw [← hu]
          simp [u8s]
end Go.Proofs.YtibdgkhkhmdihaaGreatDoor


namespace Go.Proofs.YtibdgkhkhmdihaaGreatDoor
open Go.RowKit
theorem rdn_lt (bs : List UInt8) : rdn bs < 256 ^ bs.length := by
  suffices h : ∀ (bs : List UInt8) (a : Nat), bs.foldl (fun a b => a * 256 + b.toNat) a < (a + 1) * 256 ^ bs.length by simpa [rdn] using h bs 0
  intro bs
  induction bs with
  | nil => intro a; simp
  | cons b bs ih =>
    intro a
    simp only [List.foldl_cons, List.length_cons]
    have h1 := ih (a * 256 + b.toNat)
    have h2 := b.toNat_lt
    refine Nat.lt_of_lt_of_le h1 ?_
    rw [Nat.pow_succ, Nat.mul_comm (256 ^ bs.length) 256, ← Nat.mul_assoc]
    exact Nat.mul_le_mul_right _ (by omega)
/-- The number of eight bytes, as an int. -/
def sgn (n : Nat) : Int := if n < 9223372036854775808 then n else (n : Int) - 18446744073709551616
theorem shl_or {u c : Nat} (hu : u < 72057594037927936) (hc : c < 256) : bits .or .u64 ((u : Int) * 256) (c : Int) = ((u * 256 + c : Nat) : Int) := by
  have e : ((u : Int) * 256) = ((u * 256 : Nat) : Int) := by omega
  rw [e, u64_or_nat _ _ (by omega) (by omega)]
  congr 1
  exact nat_join 8 _ _ (by omega) (by omega)
theorem wrap64_sgn {n : Nat} (h : n < 18446744073709551616) : wrap64 (n : Int) = sgn n := by
  unfold wrap64 sgn
  split <;> omega
/-- What Int reads. -/
def intS (rest : List UInt8) (bad : Bool) : Int × List UInt8 × Bool := (sgn (rdn (rawS rest bad 8).1), (rawS rest bad 8).2)
theorem rawS_len (rest : List UInt8) (bad : Bool) (n : Int) : (rawS rest bad n).1.length ≤ n.toNat := by
  unfold rawS
  split
  · simp
  · split
    · simp
    · simp only [List.length_take]; omega
/-- A method's end: a number, the cursor's block alone written. -/
def IntPost (w : World) (g : Nat) (r : Int × List UInt8 × Bool) (e : Ending) (w' : World) : Prop :=
  e = .returned (.int .i64 r.1) ∧ w.grownBy w' (some g) ∧ Cur w' g r.2.1 r.2.2
set_option maxHeartbeats 1000000 in
set_option maxRecDepth 100000 in
theorem int_any (g : Nat) (rest : List UInt8) (bad : Bool) (w : World) (hc : Cur w g rest bad) (hr : rest.length ≤ 140737488355328) :
    Calls Tryz.prog 232 #[.pointer (some ⟨g, 0, none⟩)] w (IntPost w g (intS rest bad)) := by
  have hl8 := rawS_len rest bad 8
  unfold intS
  generalize hR : rawS rest bad 8 = R at *
  have hR' := Lib.hid hR
  clear hR
  obtain ⟨bs, rest', bad'⟩ := R
  simp only at hl8 ⊢
  go_enter Tryz.func232, Tryz.ntmps232
  go_wp2_with fail
  refine (raw_any g rest bad 8 w hc hr).mono ?_
  rintro e w1 ⟨v1, rfl, hown, hg, hcur⟩
  rw [hR'.out] at hown hcur
  simp only at hown hcur
  have hsl := Lib.hid (Sl.of_own hown)
  have hsh : ∃ a c, v1 = .slice a bs.length c := by
    obtain ⟨a, c, h, _⟩ := Sl.of_own hown
    exact ⟨a, c, by rw [h, u8s_len]⟩
  obtain ⟨a, c, rfl⟩ := hsh
  have hcur' := Lib.hid hcur
  have hg' := Lib.hid hg
  clear hown hcur hg hc hR'
  have hbl : bs.length ≤ 8 := by simpa using hl8
  clear hl8
  go_wp2_with fail
  go_loop [3, 9] (fun uv kv => ∃ k : Nat, k ≤ bs.length ∧ kv = .int .i64 k ∧ uv = .int .u64 (rdn (bs.take k))) (fun _ kv => bs.length - (intOf kv).toNat)
  case atStart => exact ⟨0, Nat.zero_le _, rfl, rfl⟩
  case round =>
    obtain ⟨k, hk, rfl, rfl⟩ := hrel
    by_cases hlt : k < bs.length
    · obtain ⟨b, o, rfl, -, -, -, hcs⟩ := hsl.out.at (by rw [u8s_len]; omega)
      have hcell := hcs k _ (u8s_get bs k hlt)
      clear hcs
      have hlo : rdn (bs.take k) < 72057594037927936 := by
        have h1 := rdn_lt (bs.take k)
        have h2 : (bs.take k).length ≤ 7 := by rw [List.length_take]; omega
        have h3 : 256 ^ (bs.take k).length ≤ 256 ^ 7 := Nat.pow_le_pow_right (by decide) h2
        have h4 : (256 : Nat) ^ 7 = 72057594037927936 := by decide
        omega
      have hc256 := bs[k].toNat_lt
      have hlo2 : (rdn (bs.take k) : Int) < 72057594037927936 := by omega
      have hstep : Hid (rdn (bs.take (k + 1)) = rdn (bs.take k) * 256 + bs[k].toNat) := by
        show _ = _
        rw [List.take_add_one, List.getElem?_eq_getElem hlt, Option.toList, rdn_snoc]
      go_wp2_with fail
      exact ⟨⟨k + 1, by omega, by go_num, by rw [shl_or hlo hc256, hstep.out]⟩, by simp [intOf]; omega⟩
    · have hk' : k = bs.length := by omega
      subst hk'
      rw [List.take_of_length_le (Nat.le_refl _)]
      have hb8 : rdn bs < 18446744073709551616 := by
        have h1 := rdn_lt bs
        have h3 : 256 ^ bs.length ≤ 256 ^ 8 := Nat.pow_le_pow_right (by decide) hbl
        have h4 : (256 : Nat) ^ 8 = 18446744073709551616 := by decide
        omega
      have hb8' := Lib.hid hb8
      clear hb8
      go_wp2_with fail
      go_ret
      refine ⟨?_, hg'.out, hcur'.out⟩
      rw [← wrap64_sgn hb8'.out]
      rfl
theorem own_grown {w w' : World} {base : Nat} {v : Value} {n g : Nat} {xs : List Value} {e : TypeId} {size : Nat} (h : w.ownsRow base e size v n xs) (hg : w.grownBy w' (some g)) (hb : g < base) : w'.ownsRow base e size v n xs :=
  h.kept hg (by
    cases hv : v.ownBlock with
    | none => exact .inl rfl
    | some k =>
      have := (h.lt k hv).1
      exact .inr (by simp only [ne_eq, Option.some.injEq]; omega))
/-- Is all read, and was nothing missing? -/
def endS (rest : List UInt8) (bad : Bool) : Bool := !bad && rest.length == 0
theorem end_any (g : Nat) (rest : List UInt8) (bad : Bool) (w : World) (hc : Cur w g rest bad) :
    Calls Tryz.prog 234 #[.pointer (some ⟨g, 0, none⟩)] w fun e w' => e = .returned (.bool (endS rest bad)) ∧ w' = w := by
  obtain ⟨v, h0, h1, f0, f1, hb⟩ := hc
  have hsh : ∃ a c, v = .slice a rest.length c := by rcases hb with ⟨rfl, rfl⟩ | ⟨b, o, cap, rfl, _⟩ <;> exact ⟨_, _, rfl⟩
  obtain ⟨a, c, rfl⟩ := hsh
  clear hb
  cases bad with
  | true =>
    go_enter Tryz.func234, Tryz.ntmps234
    go_wp2_with fail
    go_ret
    exact ⟨rfl, rfl⟩
  | false =>
    go_enter Tryz.func234, Tryz.ntmps234
    go_wp2_with fail
    go_ret
    have e : (!false && rest.length == 0) = ((rest.length : Int) == 0) := by rw [Bool.eq_iff_iff]; simp
    exact ⟨by rw [endS, e]; rfl, rfl⟩
end Go.Proofs.YtibdgkhkhmdihaaGreatDoor


namespace Go.Proofs.YtibdgkhkhmdihaaGreatDoor
open Go.RowKit
theorem Sl.shape {w : World} {v : Value} {bs : List UInt8} (h : Sl w v (u8s bs)) : ∃ a c, v = .slice a bs.length c ∧ bs.length ≤ c := by
  obtain ⟨a, c, h1, h2, _⟩ := h
  rw [u8s_len] at h1 h2
  exact ⟨a, c, h1, h2⟩
theorem Sl.cut {w : World} {a : Option Addr} {n c k : Nat} {bs : List UInt8} (h : Sl w (.slice a n c) (u8s bs)) (hk : k ≤ bs.length) : Sl w (.slice a k c) (u8s (bs.take k)) := by
  obtain ⟨a', c', h1, h2, h3, h4, h5⟩ := h
  simp only [Value.slice.injEq] at h1
  obtain ⟨rfl, rfl, rfl⟩ := h1
  rw [u8s_len] at h2
  have hl : (bs.take k).length = k := by rw [List.length_take]; omega
  refine ⟨a, c, by rw [u8s_len, hl], by rw [u8s_len, hl]; omega, h3, h4, fun x hx j u hu => h5 x hx j u ?_⟩
  have hj : j < k := by
    have := (List.getElem?_eq_some_iff.1 hu).1
    rwa [u8s_len, hl] at this
  rw [← hu]
  simp [u8s, hj]
end Go.Proofs.YtibdgkhkhmdihaaGreatDoor


namespace Go.Proofs.YtibdgkhkhmdihaaGreatDoor
open Go.RowKit
theorem strBk {w : World} {v : Value} {bs : List UInt8} (h : Sl w v (u8s bs)) : (convert 26 9 v).run Tryz.prog w = .ok (.string ⟨bs.toArray⟩) w :=
  run_string_sl h _ _ _ Tryz.underlying26 Tryz.underlying5 Tryz.underlying9
/-- What holds at the jump. -/
def hJ (w : World) (a' : Act) (w' : World) : Prop := a'.defers = [] ∧ a'.tmps.size = 84 ∧ Below w.heap.size w w'
set_option maxHeartbeats 4000000 in
set_option maxRecDepth 100000 in
theorem half_fresh (p g s k : Nat) (F : Fl) (w : World) (k0 : FlAt w p g F) (hd : F.dead = false) (hlen : 16384 ≤ F.b.length) (hk : k < 2) (hf : (F.b.drop (8192 * k)).take 4 = [255, 255, 255, 255]) :
    Calls Tryz.prog 275 #[.pointer (some ⟨p, 0, none⟩), .agg (bytn 32 s).toArray, .int .i64 (k : Int)] w fun e w' => e = .returned (.tuple #[.int .i64 0, .slice none 0 0, .bool false]) ∧ Below w.heap.size w w' := by
  have hl := k0.len
  obtain ⟨o, ho⟩ : ∃ o, 8192 * k = o := ⟨_, rfl⟩
  rw [ho] at hf
  have cR := Lib.hid (show ∀ w', Below w.heap.size w w' → Calls Tryz.prog 307 #[.pointer (some ⟨p, 0, none⟩), .int .i64 (o : Int), .int .i64 4148] w' _ from fun w' hb => fread_any p g o 4148 F w' (k0.below hb) hd (by omega) (by omega))
  have cD := Lib.hid (show ∀ w', Below w.heap.size w w' → Calls Tryz.prog 148 #[.pointer (some ⟨p, 0, none⟩)] w' (fun e w2 => e = .returned (.bool false) ∧ w2 = w') from fun w' hb => by have := fdead_any p g F w' (k0.below hb); rwa [hd] at this)
  obtain ⟨q, hq⟩ : ∃ q, F.b.length / 256 = q := ⟨_, rfl⟩
  have hq64 : (64 : Int) ≤ (q : Int) := by omega
  have cS := Lib.hid (show ∀ w', Below w.heap.size w w' → Calls Tryz.prog 126 #[.pointer (some ⟨p, 0, none⟩)] w' (fun e w2 => e = .returned (.int .i64 (q : Int)) ∧ w2 = w') from fun w' hb => by have := fsize_any p g F w' (k0.below hb); rwa [hq] at this)
  have hbl : ((F.b.drop o).take 4148).length = 4148 := by rw [List.length_take, List.length_drop]; omega
  obtain ⟨B, hB⟩ : ∃ B, (F.b.drop o).take 4148 = B := ⟨_, rfl⟩
  have hB4 : Hid (B.take 4 = [255, 255, 255, 255]) := Lib.hid (by rw [← hB, List.take_take]; exact hf)
  rw [hB] at cR hbl
  replace hbl := Lib.hid hbl
  have k1 : (k : Int) < 2 := by omega
  have k00 : (0 : Int) ≤ (k : Int) := by omega
  have hoI : (k : Int) * 32 * 256 = (o : Int) := by omega
  clear hf hB hq hl ho hlen hd k0
  go_enter Tryz.func275, Tryz.ntmps275
  go_wp2_with fail
  refine wp_scope_jumps 0 (hJ w) (fun _ _ => 0) rfl ?_ ?_
  rotate_left
  · rintro ⟨T, D⟩ wr ⟨hD, hT, kb⟩
    have hTe : T = (slta T 0 :: slta T 1 :: slta T 2 :: slta T 3 :: slta T 4 :: slta T 5 :: slta T 6 :: slta T 7 :: slta T 8 :: slta T 9 :: slta T 10 :: slta T 11 :: slta T 12 :: slta T 13 :: slta T 14 :: slta T 15 :: slta T 16 :: slta T 17 :: slta T 18 :: slta T 19 :: slta T 20 :: slta T 21 :: slta T 22 :: slta T 23 :: slta T 24 :: slta T 25 :: slta T 26 :: slta T 27 :: slta T 28 :: slta T 29 :: slta T 30 :: slta T 31 :: slta T 32 :: slta T 33 :: slta T 34 :: slta T 35 :: slta T 36 :: slta T 37 :: slta T 38 :: slta T 39 :: slta T 40 :: slta T 41 :: slta T 42 :: slta T 43 :: slta T 44 :: slta T 45 :: slta T 46 :: slta T 47 :: slta T 48 :: slta T 49 :: slta T 50 :: slta T 51 :: slta T 52 :: slta T 53 :: slta T 54 :: slta T 55 :: slta T 56 :: slta T 57 :: slta T 58 :: slta T 59 :: slta T 60 :: slta T 61 :: slta T 62 :: slta T 63 :: slta T 64 :: slta T 65 :: slta T 66 :: slta T 67 :: slta T 68 :: slta T 69 :: slta T 70 :: slta T 71 :: slta T 72 :: slta T 73 :: slta T 74 :: slta T 75 :: slta T 76 :: slta T 77 :: slta T 78 :: slta T 79 :: slta T 80 :: slta T 81 :: slta T 82 :: slta T 83 :: []).toArray := (framea T 84 hT).trans (by kernel_rfl)
    simp only at hD
    subst hD
    rw [hTe]
    clear hTe hT
    go_wp2_with fail
    simp only [Exit.jump]
    go_ret3
    exact ⟨rfl, kb⟩
  go_wp2_with fail
  have kb := below_alloc w (.cells (bytn 32 s).toArray 34)
  refine (cD.out _ kb).mono ?_
  rintro e w1 ⟨rfl, hw⟩
  subst hw
  go_wp2_with fail
  refine (cS.out _ kb).mono ?_
  rintro e w2 ⟨rfl, hw⟩
  subst hw
  go_wp2_with fail
  refine (cR.out _ kb).mono ?_
  rintro e w3 ⟨v3, rfl, o3, hb3⟩
  replace kb := bel kb hb3
  have hS3 := Sl.of_own o3
  obtain ⟨a3, c3, e3, -⟩ := id hS3
  rw [u8s_len, hbl.out] at e3
  subst e3
  have cN := Lib.hid (packNew_any _ B w3 hS3 (by rw [hbl.out]; decide))
  clear hb3 o3 cR cS cD hS3
  go_wp2_with fail
  refine cN.out.mono ?_
  rintro e w4 ⟨gc, rfl, hgc, kc, hb4⟩
  have hgc2 : w.heap.size ≤ gc := by have := kb.size; omega
  replace kb := bel kb hb4
  have cW := Lib.hid (raw_any gc B false 4 w4 kc (by rw [hbl.out]; decide))
  clear hgc hb4 cN kc
  go_wp2_with fail
  refine cW.out.mono ?_
  rintro e w5 ⟨v5, rfl, o5, hg5, kc⟩
  have hb5 := below_gr kb hg5 hgc2 kb.size
  have hr : (rawS B false 4).1 = [255, 255, 255, 255] := by
    have h1 : ¬ ((B.length : Int) < 4) := by rw [hbl.out]; decide
    simp only [rawS, Bool.false_eq_true, if_false, h1, or_false, show ¬ (4 : Int) < 0 by decide]
    exact hB4.out
  have hst := strBk (Sl.of_own o5)
  rw [hr] at hst
  replace hr := Lib.hid hr
  clear o5 hg5 kc cW kb
  go_wp2_with fail
  go_step3
  exact ⟨rfl, rfl, rfl, hb5⟩
end Go.Proofs.YtibdgkhkhmdihaaGreatDoor


namespace Go.Proofs.YtibdgkhkhmdihaaGreatDoor
open Go.RowKit
/-- A bank's cells. -/
def bkv (p q : Nat) (kept : Value) (half : Int) (dead : Bool) : List Value := [.pointer (some ⟨p, 0, none⟩), .pointer (some ⟨q, 0, none⟩), kept, .int .i64 half, .bool dead]
/-- Neither half has a mark. -/
def Unmarked (F : Fl) : Prop := ∀ k, k < 2 → (F.b.drop (8192 * k)).take 4 = [255, 255, 255, 255]
set_option maxHeartbeats 4000000 in
set_option maxRecDepth 100000 in
theorem has_none (b p q g r s : Nat) (c m num : Int) (kept : Value) (half : Int) (dead : Bool) (F : Fl) (w : World) (kb0 : Arr w b (bkv p q kept half dead)) (ko : Arr w q (otv (some ⟨p, 0, none⟩) r s c m)) (kf : FlAt w p g F) (hd : F.dead = false) (hlen : 16384 ≤ F.b.length) (hf : Unmarked F) :
    Calls Tryz.prog 227 #[.pointer (some ⟨b, 0, none⟩), .int .i64 num] w fun e w' => e = .returned (.bool false) ∧ Below w.heap.size w w' := by
  have cS := Lib.hid (fun w' (hb : Below w.heap.size w w') => osecret_any q (some ⟨p, 0, none⟩) r s c m w' (ko.below hb))
  have cH := Lib.hid (fun w' k (hk : k < 2) (hb : Below w.heap.size w w') => half_fresh p g s k F w' (kf.below hb) hd hlen hk (hf k hk))
  have c0 : Hid (∀ w', Below w.heap.size w w' → w'.cell? ⟨b, 0, none⟩ = some (.pointer (some ⟨p, 0, none⟩)) ∧ w'.cell? ⟨b, 1, none⟩ = some (.pointer (some ⟨q, 0, none⟩))) := Lib.hid (fun w' hb => ⟨(kb0.below hb).cell (j := 0) rfl, (kb0.below hb).cell (j := 1) rfl⟩)
  have kb := Below.refl w.heap.size w
  clear kb0 ko kf hd hlen hf
  go_enter Tryz.func227, Tryz.ntmps227
  go_wp2_with fail
  go_loopw [9] (fun iv wr => ∃ i : Nat, i ≤ 2 ∧ iv = .int .i64 i ∧ Below w.heap.size w wr) (fun iv _ => 2 - (intOf iv).toNat)
  case atStart => exact ⟨0, by omega, rfl, kb⟩
  case round =>
  clear kb
  obtain ⟨i, hi, rfl, kb⟩ := hrel
  have hi0 : (0 : Int) ≤ (i : Int) := by omega
  by_cases hin : i < 2
  · have hi1 : (i : Int) < 2 := by omega
    have cHi := Lib.hid (fun w' hb => cH.out w' i hin hb)
    go_upto_region 4 with fail
    obtain ⟨wq, rfl⟩ : ∃ wq : World, wq = wr := ⟨_, rfl⟩
    refine Tx.start (fun w' => Below (wq).heap.size (wq) w') 9999 18 rfl (by kernel_rfl) ?_
    have hS_1 : Below (wq).heap.size (wq) (World.drew wq) := (Below.refl _ _).drew
    refine Tx.seg (A := ?_) 9 767 (by kernel_rfl) (by exact hS_1) [0, 1, 2, 3, 4, 5, 6, 7, 9] (by kernel_rfl) ?_ ?_
    rotate_left
    · intro w' hB
      obtain ⟨f0, f1⟩ := c0.out w' (bel kb hB)
      iterate 9 (first | (refine rd_skip rfl rfl ?_; simp only [Act.put, List.setIfInBounds_toArray, List.set_cons_zero, List.set_cons_succ]) | (refine rd_load_arr rfl rfl _ _ rfl _ rfl (by decide +kernel) _ (by assumption) (by first | (rw [lims_len]; kernel_rfl) | (rw [el_rep]; kernel_rfl) | (rw [el_len]; kernel_rfl) | (rw [byts_len]; kernel_rfl) | (rw [us_len]; kernel_rfl) | (rw [bytn_len]; kernel_rfl) | (rw [ens_len, digs_len]; kernel_rfl) | (rw [ptL_len]; kernel_rfl) | (rw [pcs_len]; kernel_rfl) | kernel_rfl) ?_; simp only [Act.put, List.setIfInBounds_toArray, List.set_cons_zero, List.set_cons_succ]) | (refine rd_take (v := ?_) rfl rfl ?_ ?_; rotate_left; (focus (go_simp; try (with_reducible rfl))); simp only [Act.put, List.setIfInBounds_toArray, List.set_cons_zero, List.set_cons_succ]))
      exact rd_nil
    refine Tx.eff 8 1023 rfl (by decide +kernel) (fun K hK => ?_)
    go_simp
    refine (cS.out _ (bel kb hS_1)).mono ?_
    rintro e w_2 ⟨rfl, hb_2⟩
    have hS_2 := ext_trans hS_1 (Nat.le_refl _) hb_2
    refine hK (fun w' => Below (wq).heap.size (wq) w') _ _ hS_2 (fun _ h => h) ?_
    clear hK K hb_2 hS_1
    try simp only [Act.put, List.setIfInBounds_toArray, List.set_cons_zero, List.set_cons_succ]
    refine Tx.eff 10 2047 rfl (by decide +kernel) (fun K hK => ?_)
    go_simp
    refine (cHi.out _ (bel kb hS_2)).mono ?_
    rintro e w_3 ⟨rfl, hb_3⟩
    have hS_3 := ext_trans hS_2 (Nat.le_refl _) hb_3
    refine hK (fun w' => Below (wq).heap.size (wq) w') _ _ hS_3 (fun _ h => h) ?_
    clear hK K hb_3 hS_2
    try simp only [Act.put, List.setIfInBounds_toArray, List.set_cons_zero, List.set_cons_succ]
    refine Tx.seg (A := ?_) 0 262143 (by kernel_rfl) (by exact hS_3) [11, 12, 13, 14, 15, 16, 17] (by kernel_rfl) ?_ ?_
    rotate_left
    · intro w' hB
      iterate 7 (first | (refine rd_skip rfl rfl ?_; simp only [Act.put, List.setIfInBounds_toArray, List.set_cons_zero, List.set_cons_succ]) | (refine rd_load_arr rfl rfl _ _ rfl _ rfl (by decide +kernel) _ (by assumption) (by first | (rw [lims_len]; kernel_rfl) | (rw [el_rep]; kernel_rfl) | (rw [el_len]; kernel_rfl) | (rw [byts_len]; kernel_rfl) | (rw [us_len]; kernel_rfl) | (rw [bytn_len]; kernel_rfl) | (rw [ens_len, digs_len]; kernel_rfl) | (rw [ptL_len]; kernel_rfl) | (rw [pcs_len]; kernel_rfl) | kernel_rfl) ?_; simp only [Act.put, List.setIfInBounds_toArray, List.set_cons_zero, List.set_cons_succ]) | (refine rd_take (v := ?_) rfl rfl ?_ ?_; rotate_left; (focus (go_simp; try (with_reducible rfl))); simp only [Act.put, List.setIfInBounds_toArray, List.set_cons_zero, List.set_cons_succ]))
      exact rd_nil
    refine Tx.done (by kernel_rfl) ?_
    replace kb := bel kb hS_3
    go_wp2_with fail
    exact ⟨⟨i + 1, by omega, by go_num, kb⟩, by simp [intOf]; omega⟩
  · have dj : decide ((i : Int) < 2) = false := decide_eq_false (by omega)
    go_wp2_with fail
    go_ret
    exact ⟨rfl, kb⟩
end Go.Proofs.YtibdgkhkhmdihaaGreatDoor


namespace Go.Proofs.YtibdgkhkhmdihaaGreatDoor
open Go.RowKit
/-- So many sectors erased. -/
def erS (b : List UInt8) (o : Nat) : Nat → List UInt8
  | 0 => b
  | j + 1 => erB (erS b o j) (o + 256 * j) 256
theorem erS_len (b : List UInt8) (o : Nat) : ∀ j, (erS b o j).length = b.length
  | 0 => rfl
  | j + 1 => by rw [erS, erB_len, erS_len b o j]
/-- What a record makes of the flash. -/
def wrB (b : List UInt8) (o : Nat) (xs : List UInt8) : List UInt8 := prB (erS b o ((xs.length + 255) / 256)) o xs xs.length
theorem wrB_len (b : List UInt8) (o : Nat) (xs : List UInt8) : (wrB b o xs).length = b.length := by rw [wrB, prB_len, erS_len]
theorem same_below {P : Program} {f : FuncId} {args : Array Value} {E : Ending} {w : World} (h : Calls P f args w fun e w' => e = E ∧ w' = w) : Calls P f args w fun e w' => e = E ∧ Below w.heap.size w w' :=
  h.mono fun _ _ h => ⟨h.1, by rw [h.2]; exact Below.refl _ _⟩
/-- The bank's memory. -/
structure BkAt (w : World) (b p q g r s : Nat) (c m : Int) (kept : Value) (half : Nat) (dead : Bool) (F : Fl) : Prop where
  bk : Arr w b (bkv p q kept half dead)
  ot : Arr w q (otv (some ⟨p, 0, none⟩) r s c m)
  fl : FlAt w p g F
  bp : b ≠ p
  bq : b ≠ q
  bg : b ≠ g
  qp : q ≠ p
  qg : q ≠ g
  h2 : half < 2
  len : 16384 ≤ F.b.length
theorem BkAt.below {w w' : World} {b p q g r s : Nat} {c m : Int} {kept : Value} {half : Nat} {dead : Bool} {F : Fl} (h : BkAt w b p q g r s c m kept half dead F) (hb : Below w.heap.size w w') : BkAt w' b p q g r s c m kept half dead F :=
  ⟨h.bk.below hb, h.ot.below hb, h.fl.below hb, h.bp, h.bq, h.bg, h.qp, h.qg, h.h2, h.len⟩
set_option maxHeartbeats 4000000 in
set_option maxRecDepth 100000 in
theorem bwrite_never (b p q g r s c m h : Nat) (kept : Value) (dead : Bool) (F : Fl) (a : Option Addr) (ca : Nat) (x : List UInt8) (w : World) (k0 : BkAt w b p q g r s (c : Int) (m : Int) kept h dead F) (hop : F.op = -1) (hd : F.dead = false) (hcm : c < m) (hm : m ≤ 1000000) (hx : x.length ≤ 4096) (hs : Sl w (.slice a x.length ca) (u8s x)) (hav : ∀ y, a = some y → y.block ∉ [p, g, q, b]) :
    Calls Tryz.prog 229 #[.pointer (some ⟨b, 0, none⟩), .slice a x.length ca] w fun e w' => e = .returned (.int .i64 0) ∧
      (∃ v F', (v = .slice none 0 0 ↔ a = none) ∧ Sl w' v (u8s x) ∧ F'.b = wrB F.b (8192 * (1 - h)) (recL s ((c + 1 : Nat) : Int) x) ∧ F'.op = -1 ∧ F'.dead = false ∧ BkAt w' b p q g r s ((c + 1 : Nat) : Int) (m : Int) v (1 - h) dead F') ∧ Ch [p, g, q, b] w w' := by
  have h2 := k0.h2
  have hlen := k0.len
  have hpl := k0.fl.lt
  have cS := Lib.hid (fun w' (hb : Below w.heap.size w w') => osecret_any q (some ⟨p, 0, none⟩) r s c m w' (k0.ot.below hb))
  have cC := Lib.hid (fun w' (hb : Below w.heap.size w w') => same_below (ocount_any q (some ⟨p, 0, none⟩) r s c m w' (k0.ot.below hb)))
  have cR := Lib.hid (fun w' (hb : Below w.heap.size w w') => record_any s (c + 1) a ca x (by omega) hx w' (hs.below hb))
  obtain ⟨R, hR⟩ : ∃ R, recL s ((c + 1 : Nat) : Int) x = R := ⟨_, rfl⟩
  have hRl : Hid (R.length = 52 + x.length) := Lib.hid (by rw [← hR, recL_len])
  rw [hR] at cR ⊢
  obtain ⟨L, hL⟩ : ∃ L, x.length = L := ⟨_, rfl⟩
  rw [hL] at cR hs hx hRl ⊢
  have c0 : Hid (∀ w', Below w.heap.size w w' → w'.cell? ⟨b, 1, none⟩ = some (.pointer (some ⟨q, 0, none⟩))) := Lib.hid (fun w' hb => (k0.bk.below hb).cell (j := 1) rfl)
  have cc1 : IntKind.i64.wrap ((c : Int) + 1) = ((c + 1 : Nat) : Int) := by rw [i64_in (by omega)]; omega
  replace hL := Lib.hid hL
  replace hR := Lib.hid hR
  replace hs := Lib.hid hs
  replace hav := Lib.hid hav
  replace k0 := Lib.hid k0
  replace hop := Lib.hid hop
  replace hd := Lib.hid hd
  replace hcm := Lib.hid hcm
  replace hm := Lib.hid hm
  replace hx := Lib.hid hx
  replace hlen := Lib.hid hlen
  go_enter Tryz.func229, Tryz.ntmps229
  go_upto_region 1 with fail
  refine Tx.start (fun w' => Below (w).heap.size (w) w') 9999 18 rfl (by kernel_rfl) ?_
  have hS_1 : Below (w).heap.size (w) (World.drew w) := (Below.refl _ _).drew
  refine Tx.seg (A := ?_) 9 2543 (by kernel_rfl) (by exact hS_1) [0, 1, 2, 3, 5, 6, 7, 8, 11] (by kernel_rfl) ?_ ?_
  rotate_left
  · intro w' hB
    have f1 := c0.out w' hB
    iterate 9 (first | (refine rd_skip rfl rfl ?_; simp only [Act.put, List.setIfInBounds_toArray, List.set_cons_zero, List.set_cons_succ]) | (refine rd_load_arr rfl rfl _ _ rfl _ rfl (by decide +kernel) _ (by assumption) (by first | (rw [lims_len]; kernel_rfl) | (rw [el_rep]; kernel_rfl) | (rw [el_len]; kernel_rfl) | (rw [byts_len]; kernel_rfl) | (rw [us_len]; kernel_rfl) | (rw [bytn_len]; kernel_rfl) | (rw [ens_len, digs_len]; kernel_rfl) | (rw [ptL_len]; kernel_rfl) | (rw [pcs_len]; kernel_rfl) | kernel_rfl) ?_; simp only [Act.put, List.setIfInBounds_toArray, List.set_cons_zero, List.set_cons_succ]) | (refine rd_take (v := ?_) rfl rfl ?_ ?_; rotate_left; (focus (go_simp; try (with_reducible rfl))); simp only [Act.put, List.setIfInBounds_toArray, List.set_cons_zero, List.set_cons_succ]))
    exact rd_nil
  refine Tx.eff 4 2559 rfl (by decide +kernel) (fun K hK => ?_)
  go_simp
  refine (cS.out _ hS_1).mono ?_
  rintro e w_2 ⟨rfl, hb_2⟩
  have hS_2 := ext_trans hS_1 (Nat.le_refl _) hb_2
  refine hK (fun w' => Below (w).heap.size (w) w') _ _ hS_2 (fun _ h => h) ?_
  clear hK K hb_2 hS_1
  try simp only [Act.put, List.setIfInBounds_toArray, List.set_cons_zero, List.set_cons_succ]
  refine Tx.eff 9 3071 rfl (by decide +kernel) (fun K hK => ?_)
  go_simp
  refine (cC.out _ hS_2).mono ?_
  rintro e w_3 ⟨rfl, hb_3⟩
  have hS_3 := ext_trans hS_2 (Nat.le_refl _) hb_3
  refine hK (fun w' => Below (w).heap.size (w) w') _ _ hS_3 (fun _ h => h) ?_
  clear hK K hb_3 hS_2
  try simp only [Act.put, List.setIfInBounds_toArray, List.set_cons_zero, List.set_cons_succ]
  refine Tx.seg (A := ?_) 6 4095 (by kernel_rfl) (by exact hS_3) [10] (by kernel_rfl) ?_ ?_
  rotate_left
  · intro w' hB
    iterate 1 (first | (refine rd_skip rfl rfl ?_; simp only [Act.put, List.setIfInBounds_toArray, List.set_cons_zero, List.set_cons_succ]) | (refine rd_load_arr rfl rfl _ _ rfl _ rfl (by decide +kernel) _ (by assumption) (by first | (rw [lims_len]; kernel_rfl) | (rw [el_rep]; kernel_rfl) | (rw [el_len]; kernel_rfl) | (rw [byts_len]; kernel_rfl) | (rw [us_len]; kernel_rfl) | (rw [bytn_len]; kernel_rfl) | (rw [ens_len, digs_len]; kernel_rfl) | (rw [ptL_len]; kernel_rfl) | (rw [pcs_len]; kernel_rfl) | kernel_rfl) ?_; simp only [Act.put, List.setIfInBounds_toArray, List.set_cons_zero, List.set_cons_succ]) | (refine rd_take (v := ?_) rfl rfl ?_ ?_; rotate_left; (focus (go_simp; try (with_reducible rfl))); simp only [Act.put, List.setIfInBounds_toArray, List.set_cons_zero, List.set_cons_succ]))
    exact rd_nil
  have hs3 := (hS_3).size
  refine Tx.eff 12 8191 rfl (by decide +kernel) (fun K hK => ?_)
  go_simp
  refine (cR.out _ hS_3).mono ?_
  rintro e w_4 ⟨v, rfl, ov, hb_4⟩
  have hS_4 := ext_trans hS_3 (Nat.le_refl _) hb_4
  refine hK (fun w' => Below (w).heap.size (w) w') _ _ hS_4 (fun _ h => h) ?_
  clear hK K hS_3
  try simp only [Act.put, List.setIfInBounds_toArray, List.set_cons_zero, List.set_cons_succ]
  refine Tx.seg (A := ?_) 0 262143 (by kernel_rfl) (by exact hS_4) [13, 14, 15, 16, 17] (by kernel_rfl) ?_ ?_
  rotate_left
  · intro w' hB
    iterate 5 (first | (refine rd_skip rfl rfl ?_; simp only [Act.put, List.setIfInBounds_toArray, List.set_cons_zero, List.set_cons_succ]) | (refine rd_load_arr rfl rfl _ _ rfl _ rfl (by decide +kernel) _ (by assumption) (by first | (rw [lims_len]; kernel_rfl) | (rw [el_rep]; kernel_rfl) | (rw [el_len]; kernel_rfl) | (rw [byts_len]; kernel_rfl) | (rw [us_len]; kernel_rfl) | (rw [bytn_len]; kernel_rfl) | (rw [ens_len, digs_len]; kernel_rfl) | (rw [ptL_len]; kernel_rfl) | (rw [pcs_len]; kernel_rfl) | kernel_rfl) ?_; simp only [Act.put, List.setIfInBounds_toArray, List.set_cons_zero, List.set_cons_succ]) | (refine rd_take (v := ?_) rfl rfl ?_ ?_; rotate_left; (focus (go_simp; try (with_reducible rfl))); simp only [Act.put, List.setIfInBounds_toArray, List.set_cons_zero, List.set_cons_succ]))
    exact rd_nil
  refine Tx.done (by kernel_rfl) ?_
  have kb := hS_4
  have ov2 := own_mono ov hs3
  obtain ⟨gv, cv, rfl, hgv, hcv1, hcv2, -⟩ := own_range ov2 (by rw [hRl.out]; omega)
  have hSv := Lib.hid (Sl.of_own ov2)
  obtain ⟨n, hn⟩ : ∃ n, R.length = n := ⟨_, rfl⟩
  rw [hn] at hSv ⊢
  have hcv3 : (n : Int) ≤ (cv : Int) := by omega
  have hnn : Hid (n = 52 + L) := Lib.hid (by rw [← hn, hRl.out])
  have hn0 : (0 : Int) < (n : Int) := by rw [hnn.out]; omega
  have hn1 : (n : Int) ≤ 4148 := by have := hx.out; rw [hnn.out]; omega
  replace hn := Lib.hid hn
  have k1 := Lib.hid (k0.out.below kb)
  have hsW := Lib.hid (hs.out.below kb)
  have hpl1 : p < gv ∧ g < gv := by have := hpl; omega
  unfold maxLen at hcv2
  have hs0 := hs
  clear ov ov2 hcv1 hs3 hb_4 hS_4 c0 cS cC cR hs
  obtain ⟨w1, hw1⟩ : ∃ w1 : World, w_4 = w1 := ⟨_, rfl⟩
  rw [hw1] at hSv k1 hsW kb ⊢
  have hc1 := Lib.hid (Ch.of_below (M := [p, g, q, b]) kb)
  clear hw1
  obtain ⟨h1, hh1⟩ : ∃ h1, 1 - h = h1 := ⟨_, rfl⟩
  have hhI : (1 : Int) - (h : Int) = (h1 : Int) := by omega
  obtain ⟨o, ho⟩ : ∃ o, 8192 * h1 = o := ⟨_, rfl⟩
  have hoI : (h1 : Int) * 32 * 256 = (o : Int) := by omega
  have ho1 : (o : Int) ≤ 8192 := by omega
  have ho0 : (0 : Int) ≤ (o : Int) := by omega
  have hh0 : (0 : Int) ≤ (h1 : Int) := by omega
  have hh2 : (h1 : Int) ≤ 1 := by omega
  have hb3 := k1.out.bk.cell (j := 3) rfl
  have hhh := Lib.hid hh1
  have hoo := Lib.hid ho
  clear hh1 ho h2
  go_wp2_with fail
  clear hb3 hhI hoI
  have kf := k1.out.fl
  have hcf := Ch.refl [p, g] w1
  have eF : F = { F with b := erS F.b o 0 } := rfl
  rw [eF] at kf
  replace eF := Lib.hid eF
  go_loopw [9] (fun iv wr => ∃ (j : Nat) (er : Int), 256 * j ≤ n + 255 ∧ iv = .int .i64 ((256 * j : Nat) : Int) ∧ FlAt wr p g { F with b := erS F.b o j, er := er } ∧ Ch [p, g] w1 wr) (fun iv _ => n + 256 - (intOf iv).toNat)
  case atStart => exact ⟨0, F.er, by omega, rfl, kf, hcf⟩
  case round =>
  clear kf hcf eF
  obtain ⟨j, er, hj, rfl, kf, hcf⟩ := hrel
  obtain ⟨mj, hmj⟩ : ∃ m, 256 * j = m := ⟨_, rfl⟩
  rw [hmj] at hj ⊢
  have hmj0 : (0 : Int) ≤ (mj : Int) := by omega
  by_cases hin : mj < n
  · have hi1 : (mj : Int) < (n : Int) := by omega
    obtain ⟨sj, hsj⟩ : ∃ s, 32 * h1 + j = s := ⟨_, rfl⟩
    obtain ⟨om, hom⟩ : ∃ m, o + mj = m := ⟨_, rfl⟩
    have f1 : (o : Int) + (mj : Int) = (om : Int) := by omega
    have hom0 : (0 : Int) ≤ (om : Int) := by omega
    have f2 : (om : Int) / 256 = (sj : Int) := by have := hoo.out; omega
    have hom1 : (om : Int) ≤ 13000 := by omega
    have cE := Lib.hid (ferase_never p g sj { F with b := erS F.b o j, er := er } wr kf hop.out hd.out (by show 256 * sj + 256 ≤ (erS F.b o j).length; rw [erS_len]; have := hlen.out; have := hoo.out; omega))
    have hb0 : wr.cell? ⟨b, 0, none⟩ = some (.pointer (some ⟨p, 0, none⟩)) := (k1.out.bk.ch hcf (by simp; exact ⟨k1.out.bp, k1.out.bg⟩)).cell (j := 0) rfl
    have hsj2 : Hid (256 * sj = o + 256 * j) := Lib.hid (by have := hoo.out; omega)
    replace hmj := Lib.hid hmj
    clear hsj hom
    go_wp2_with fail
    refine cE.out.mono ?_
    rintro e w2 ⟨rfl, ⟨er2, kf2⟩, hc2⟩
    clear hb0 cE f1 f2
    go_wp2_with fail
    refine ⟨⟨j + 1, er2, by have := hmj.out; omega, by have := hmj.out; congr 1; omega, ?_, hcf.trans hc2⟩, by simp [intOf]; omega⟩
    rw [show erS F.b o (j + 1) = erB (erS F.b o j) (256 * sj) 256 by rw [erS, hsj2.out]]
    exact kf2
  · have dj : decide ((mj : Int) < (n : Int)) = false := decide_eq_false (by omega)
    have hjK : j = (n + 255) / 256 := by omega
    obtain ⟨F1, hF1⟩ : ∃ F1 : Fl, ({ F with b := erS F.b o j, er := er } : Fl) = F1 := ⟨_, rfl⟩
    rw [hF1] at kf
    have hF1b : Hid (F1.b = erS F.b o ((R.length + 255) / 256)) := Lib.hid (by rw [← hF1, hn.out, ← hjK])
    have hF1o : Hid (F1.op = -1 ∧ F1.dead = false) := Lib.hid (by rw [← hF1]; exact ⟨hop.out, hd.out⟩)
    have hF1l : Hid (F1.b.length = F.b.length) := Lib.hid (by rw [← hF1]; exact erS_len _ _ _)
    have hSv2 := hSv.out.ch hcf (fun y m cc e => by
      simp only [Value.slice.injEq, Option.some.injEq] at e
      obtain ⟨rfl, -⟩ := e
      simp
      omega)
    have cP := fprogram_never p g o F1 (some ⟨gv, 0, none⟩) cv R wr kf hF1o.out.1 hF1o.out.2 (by rw [hF1l.out, hn.out]; have := hlen.out; omega) (by rw [hn.out]; omega) (by rw [hn.out]; exact hSv2) (fun y e => by simp only [Option.some.injEq] at e; subst e; simp; omega)
    rw [hn.out] at cP
    replace cP := Lib.hid cP
    have k2b := k1.out.bk.ch hcf (by simp; exact ⟨k1.out.bp, k1.out.bg⟩)
    have k2o := k1.out.ot.ch hcf (by simp; exact ⟨k1.out.qp, k1.out.qg⟩)
    have hc2 := hc1.out.trans (hcf.mono (by simp))
    replace hmj := Lib.hid hmj
    clear hF1 hSv2 hcf kf hj hin hmj0 hjK
    obtain ⟨ic, hic⟩ : ∃ ic : Int, (mj : Int) = ic := ⟨_, rfl⟩
    rw [hic] at dj ⊢
    clear hic hmj
    have hb0 := k2b.cell (j := 0) rfl
    go_wp2_with fail
    refine cP.out.mono ?_
    rintro e w3 ⟨rfl, ⟨pr, kf3⟩, hc3⟩
    obtain ⟨F2, hF2⟩ : ∃ F2 : Fl, ({ F1 with b := prB F1.b o R n, pr := pr } : Fl) = F2 := ⟨_, rfl⟩
    rw [hF2] at kf3
    have hF2b : Hid (F2.b = wrB F.b o R) := Lib.hid (by rw [← hF2, wrB, ← hF1b.out, hn.out])
    have hF2o : Hid (F2.op = -1 ∧ F2.dead = false) := Lib.hid (by rw [← hF2]; exact hF1o.out)
    replace k2b := k2b.ch hc3 (by simp; exact ⟨k1.out.bp, k1.out.bg⟩)
    replace k2o := k2o.ch hc3 (by simp; exact ⟨k1.out.qp, k1.out.qg⟩)
    replace hc2 := hc2.trans (hc3.mono (by simp))
    clear hF2 hc3 hb0 cP dj
    have cT := Lib.hid (ostep_never q p g r s c m F2 w3 k2o kf3 hF2o.out.1 hF2o.out.2 hcm.out hm.out k1.out.qp k1.out.qg)
    have hb1 := k2b.cell (j := 1) rfl
    go_wp2_with fail
    refine cT.out.mono ?_
    rintro e w4 ⟨rfl, k4o, kf4, hc4⟩
    replace k2b := k2b.ch hc4 (by simp; exact ⟨k1.out.bp, k1.out.bq⟩)
    replace hc2 := hc2.trans (hc4.mono (by simp))
    have hs4 : Sl w4 (.slice a L ca) (u8s x) := hs0.out.ch hc2 (fun y m cc e => by
      simp only [Value.slice.injEq] at e
      exact hav.out y e.1)
    have cC := Lib.hid (clone_any _ x w4 hs4 (by rw [hL.out]; have := hx.out; omega))
    clear cT hc4 hb1 kf3 k2o
    go_wp2_with fail
    refine cC.out.mono ?_
    rintro e w5 ⟨v5, rfl, o5, hb5, hnil⟩
    obtain ⟨a5, c5, he5, -⟩ := Sl.of_own o5
    rw [u8s_len, hL.out] at he5
    subst he5
    have hnl : (Value.slice a5 L c5 = .slice none 0 0 ↔ a = none) := by
      rw [hnil]
      constructor
      · intro e
        simp only [Value.slice.injEq] at e
        exact e.1
      · intro e
        subst e
        obtain ⟨a', c', h1', h2', -, h4', -⟩ := hs0.out
        simp only [Value.slice.injEq] at h1'
        obtain ⟨e1, e2, e3⟩ := h1'
        have := h4' e1.symm
        rw [u8s_len] at h2' e2
        simp only [Value.slice.injEq, true_and]
        omega
    have hnlH := Lib.hid hnl
    have hbw5 := k2b.lt
    replace k2b := k2b.below hb5
    replace k4o := k4o.below hb5
    replace kf4 := kf4.below hb5
    have hc5 : Ch [p, g, q, b] w w5 := hc2.trans (Ch.of_below hb5)
    have ho5 := Lib.hid (own_mono (base' := b + 1) o5 (by omega))
    have hb2 := k2b.cell (j := 2) rfl
    have hb3 := k2b.cell (j := 3) rfl
    have hf2 := k2b.frozen 2
    have hf3 := k2b.frozen 3
    clear hnil hnl o5 hb5 cC hs4 hc2
    go_wp2_with fail
    go_ret
    have hcw : Ch [b] w5 ((w5.setCell ⟨b, 2, none⟩ (.slice a5 L c5)).setCell ⟨b, 3, none⟩ (.int .i64 (h1 : Int))) := (Ch.of_gr (gr_cell w5 b 2 _) (by simp)).trans (Ch.of_gr (gr_cell _ b 3 _) (by simp))
    refine ⟨rfl, ⟨.slice a5 L c5, F2, hnlH.out, ?_, by rw [hF2b.out, hhh.out, hoo.out], hF2o.out.1, hF2o.out.2, ⟨?_, ?_, ?_, k1.out.bp, k1.out.bq, k1.out.bg, k1.out.qp, k1.out.qg, by omega, ?_⟩⟩, hc5.trans (hcw.mono (by simp))⟩
    · refine (Sl.of_own ho5.out).ch hcw (fun y m cc e => ?_)
      have := own_block ho5.out y.block (by rw [e]; rfl)
      simp
      omega
    · rw [hhh.out]
      exact (k2b.set 2 (.slice a5 L c5)).set 3 (.int .i64 (h1 : Int))
    · exact k4o.ch hcw (by simp; exact Ne.symm k1.out.bq)
    · exact kf4.ch hcw (by simp; exact Ne.symm k1.out.bp) (by simp; exact Ne.symm k1.out.bg)
    · rw [hF2b.out, wrB_len]
      exact hlen.out
end Go.Proofs.YtibdgkhkhmdihaaGreatDoor

