/- pack's cursor: Int, Bytes, Left, Bad, End. -/
import Derived.Test.YtkipejhjpfakpaaCu3
namespace Go.Proofs.Ytkipejhjpfakpaa
open Go.RowKit

theorem rdn_lt (bs : List UInt8) : rdn bs < 256 ^ bs.length := by
  suffices h : ∀ (bs : List UInt8) (a : Nat), bs.foldl (fun a b => a * 256 + b.toNat) a < (a + 1) * 256 ^ bs.length by simpa [rdn] using h bs 0
  intro bs
  induction bs with
  | nil => intro a; simp
  | cons b bs ih =>
    intro a
    simp only [List.foldl_cons, List.length_cons]
    have h1 := ih (a * 256 + b.toNat)
    have h2 := b.toNat_lt
    refine Nat.lt_of_lt_of_le h1 ?_
    rw [Nat.pow_succ, Nat.mul_comm (256 ^ bs.length) 256, ← Nat.mul_assoc]
    exact Nat.mul_le_mul_right _ (by omega)

/-- The number of eight bytes, as an int. -/
def sgn (n : Nat) : Int := if n < 9223372036854775808 then n else (n : Int) - 18446744073709551616

theorem shl_or {u c : Nat} (hu : u < 72057594037927936) (hc : c < 256) : bits .or .u64 ((u : Int) * 256) (c : Int) = ((u * 256 + c : Nat) : Int) := by
  have e : ((u : Int) * 256) = ((u * 256 : Nat) : Int) := by omega
  rw [e, u64_or_nat _ _ (by omega) (by omega)]
  congr 1
  exact nat_join 8 _ _ (by omega) (by omega)

theorem wrap64_sgn {n : Nat} (h : n < 18446744073709551616) : wrap64 (n : Int) = sgn n := by
  unfold wrap64 sgn
  split <;> omega

/-- What Int reads. -/
def intS (rest : List UInt8) (bad : Bool) : Int × List UInt8 × Bool := (sgn (rdn (rawS rest bad 8).1), (rawS rest bad 8).2)

theorem rawS_len (rest : List UInt8) (bad : Bool) (n : Int) : (rawS rest bad n).1.length ≤ n.toNat := by
  unfold rawS
  split
  · simp
  · split
    · simp
    · simp only [List.length_take]; omega

/-- A method's end: a number, the cursor's block alone written. -/
def IntPost (w : World) (g : Nat) (r : Int × List UInt8 × Bool) (e : Ending) (w' : World) : Prop :=
  e = .returned (.int .i64 r.1) ∧ w.grownBy w' (some g) ∧ Cur w' g r.2.1 r.2.2

set_option maxHeartbeats 1000000 in
set_option maxRecDepth 100000 in
theorem int_any (g : Nat) (rest : List UInt8) (bad : Bool) (w : World) (hc : Cur w g rest bad) (hr : rest.length ≤ 140737488355328) :
    Calls Try.prog 54 #[.pointer (some ⟨g, 0, none⟩)] w (IntPost w g (intS rest bad)) := by
  have hl8 := rawS_len rest bad 8
  unfold intS
  generalize hR : rawS rest bad 8 = R at *
  have hR' := Lib.hid hR
  clear hR
  obtain ⟨bs, rest', bad'⟩ := R
  simp only at hl8 ⊢
  go_enter Try.func54, Try.ntmps54
  go_wp2_with fail
  refine (raw_any g rest bad 8 w hc hr).mono ?_
  rintro e w1 ⟨v1, rfl, hown, hg, hcur⟩
  rw [hR'.out] at hown hcur
  simp only at hown hcur
  have hsl := Lib.hid (Sl.of_own hown)
  have hsh : ∃ a c, v1 = .slice a bs.length c := by
    obtain ⟨a, c, h, _⟩ := Sl.of_own hown
    exact ⟨a, c, by rw [h, u8s_len]⟩
  obtain ⟨a, c, rfl⟩ := hsh
  have hcur' := Lib.hid hcur
  have hg' := Lib.hid hg
  clear hown hcur hg hc hR'
  have hbl : bs.length ≤ 8 := by simpa using hl8
  clear hl8
  go_wp2_with fail
  go_loop [3, 9] (fun uv kv => ∃ k : Nat, k ≤ bs.length ∧ kv = .int .i64 k ∧ uv = .int .u64 (rdn (bs.take k))) (fun _ kv => bs.length - (intOf kv).toNat)
  case atStart => exact ⟨0, Nat.zero_le _, rfl, rfl⟩
  case round =>
    obtain ⟨k, hk, rfl, rfl⟩ := hrel
    by_cases hlt : k < bs.length
    · obtain ⟨b, o, rfl, -, -, -, hcs⟩ := hsl.out.at (by rw [u8s_len]; omega)
      have hcell := hcs k _ (u8s_get bs k hlt)
      clear hcs
      have hlo : rdn (bs.take k) < 72057594037927936 := by
        have h1 := rdn_lt (bs.take k)
        have h2 : (bs.take k).length ≤ 7 := by rw [List.length_take]; omega
        have h3 : 256 ^ (bs.take k).length ≤ 256 ^ 7 := Nat.pow_le_pow_right (by decide) h2
        have h4 : (256 : Nat) ^ 7 = 72057594037927936 := by decide
        omega
      have hc256 := bs[k].toNat_lt
      have hlo2 : (rdn (bs.take k) : Int) < 72057594037927936 := by omega
      have hstep : Hid (rdn (bs.take (k + 1)) = rdn (bs.take k) * 256 + bs[k].toNat) := by
        show _ = _
        rw [List.take_add_one, List.getElem?_eq_getElem hlt, Option.toList, rdn_snoc]
      go_wp2_with fail
      exact ⟨⟨k + 1, by omega, by go_num, by rw [shl_or hlo hc256, hstep.out]⟩, by simp [intOf]; omega⟩
    · have hk' : k = bs.length := by omega
      subst hk'
      rw [List.take_of_length_le (Nat.le_refl _)]
      have hb8 : rdn bs < 18446744073709551616 := by
        have h1 := rdn_lt bs
        have h3 : 256 ^ bs.length ≤ 256 ^ 8 := Nat.pow_le_pow_right (by decide) hbl
        have h4 : (256 : Nat) ^ 8 = 18446744073709551616 := by decide
        omega
      have hb8' := Lib.hid hb8
      clear hb8
      go_wp2_with fail
      go_ret
      refine ⟨?_, hg'.out, hcur'.out⟩
      rw [← wrap64_sgn hb8'.out]
      rfl

/-- What Bytes reads. -/
def bytesS (rest : List UInt8) (bad : Bool) : List UInt8 × List UInt8 × Bool := rawS (intS rest bad).2.1 (intS rest bad).2.2 (intS rest bad).1

theorem rawS_rest (rest : List UInt8) (bad : Bool) (n : Int) : (rawS rest bad n).2.1.length ≤ rest.length := by
  unfold rawS
  split
  · simp
  · split
    · simp
    · simp

theorem own_grown {w w' : World} {base : Nat} {v : Value} {n g : Nat} {xs : List Value} {e : TypeId} {size : Nat} (h : w.ownsRow base e size v n xs) (hg : w.grownBy w' (some g)) (hb : g < base) : w'.ownsRow base e size v n xs :=
  h.kept hg (by
    cases hv : v.ownBlock with
    | none => exact .inl rfl
    | some k =>
      have := (h.lt k hv).1
      exact .inr (by simp only [ne_eq, Option.some.injEq]; omega))

set_option maxHeartbeats 1000000 in
theorem bytes_any (g : Nat) (rest : List UInt8) (bad : Bool) (w : World) (hc : Cur w g rest bad) (hr : rest.length ≤ 140737488355328) :
    Calls Try.prog 55 #[.pointer (some ⟨g, 0, none⟩)] w (CurPost w g (bytesS rest bad)) := by
  have hlt := hc.lt
  have hl : Hid ((intS rest bad).2.1.length ≤ rest.length) := rawS_rest rest bad 8
  go_enter Try.func55, Try.ntmps55
  go_wp2_with fail
  refine (int_any g rest bad w hc hr).mono ?_
  rintro e w1 ⟨rfl, hg, hcur⟩
  have hg' := Lib.hid hg
  clear hg hc
  go_wp2_with fail
  refine (raw_any g _ _ _ w1 hcur (Nat.le_trans hl.out hr)).mono ?_
  rintro e w2 ⟨v, rfl, hown, hg2, hcur2⟩
  have hown' := Lib.hid hown
  have hcur2' := Lib.hid hcur2
  have hg3 := Lib.hid (grownBy_trans hg'.out hg2)
  clear hown hcur2 hg2 hcur
  go_wp2_with fail
  go_ret
  exact ⟨v, rfl, own_mono hown'.out hg'.out.size, hg3.out, hcur2'.out⟩

/-- Is all read, and was nothing missing? -/
def endS (rest : List UInt8) (bad : Bool) : Bool := !bad && rest.length == 0

theorem end_any (g : Nat) (rest : List UInt8) (bad : Bool) (w : World) (hc : Cur w g rest bad) :
    Calls Try.prog 56 #[.pointer (some ⟨g, 0, none⟩)] w fun e w' => e = .returned (.bool (endS rest bad)) ∧ w' = w := by
  obtain ⟨v, h0, h1, f0, f1, hb⟩ := hc
  have hsh : ∃ a c, v = .slice a rest.length c := by rcases hb with ⟨rfl, rfl⟩ | ⟨b, o, cap, rfl, _⟩ <;> exact ⟨_, _, rfl⟩
  obtain ⟨a, c, rfl⟩ := hsh
  clear hb
  cases bad with
  | true =>
    go_enter Try.func56, Try.ntmps56
    go_wp2_with fail
    go_ret
    exact ⟨rfl, rfl⟩
  | false =>
    go_enter Try.func56, Try.ntmps56
    go_wp2_with fail
    go_ret
    have e : (!false && rest.length == 0) = ((rest.length : Int) == 0) := by rw [Bool.eq_iff_iff]; simp
    exact ⟨by rw [endS, e]; rfl, rfl⟩

end Go.Proofs.Ytkipejhjpfakpaa
