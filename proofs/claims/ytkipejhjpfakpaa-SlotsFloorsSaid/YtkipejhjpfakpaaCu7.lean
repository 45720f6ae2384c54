/- The reference's cursor: Int, Bytes, Left, End. -/
import Derived.Test.YtkipejhjpfakpaaCu6
namespace Go.Proofs.Ytkipejhjpfakpaa
open Go.RowKit

theorem i64_sgn {n : Nat} (h : n < 18446744073709551616) : IntKind.i64.wrap (n : Int) = sgn n := by
  unfold sgn
  simp [IntKind.wrap, IntKind.bits, IntKind.signed]
  split <;> split <;> omega

theorem i64_wrap64 (n : Int) : IntKind.i64.wrap n = wrap64 n := by
  unfold wrap64
  simp [IntKind.wrap, IntKind.bits, IntKind.signed]
  split <;> omega

theorem shl_or_i {u c : Nat} (hu : u < 72057594037927936) (hc : c < 256) : bits .or .i64 (wrap64 ((u : Int) * 256)) (c : Int) = sgn (u * 256 + c) := by
  rw [← i64_wrap64]
  have e1 : (BitVec.ofInt 64 (IntKind.i64.wrap ((u : Int) * 256))).toNat = u * 256 := by
    rw [BitVec.toNat_ofInt]
    have h1 : ((u : Int) * 256) = ((u * 256 : Nat) : Int) := by omega
    rw [h1, i64_sgn (by omega)]
    unfold sgn
    split <;> omega
  have e2 : (BitVec.ofInt 64 (c : Int)).toNat = c := by
    rw [BitVec.toNat_ofInt]; omega
  show IntKind.i64.wrap ((BitVec.ofInt 64 (IntKind.i64.wrap ((u : Int) * 256)) ||| BitVec.ofInt 64 (c : Int)).toNat : Int) = _
  rw [BitVec.toNat_or, e1, e2, nat_join 8 _ _ (by omega) (by omega), i64_sgn (by omega)]

/-- A method's end: a number, the cursor's block alone written. -/
def RIntPost (w : World) (g : Nat) (vb : Value) (bs : List UInt8) (r : Int × List UInt8 × Bool) (e : Ending) (w' : World) : Prop :=
  e = .returned (.int .i64 r.1) ∧ w.grownBy w' (some g) ∧ RCur w' g vb bs r.2.1 r.2.2

set_option maxHeartbeats 1000000 in
set_option maxRecDepth 100000 in
theorem intR_any (g : Nat) (vb : Value) (b0 rest : List UInt8) (bad : Bool) (w : World) (hc : RCur w g vb b0 rest bad) (hr : b0.length ≤ 140737488355328) :
    Calls Try.prog 59 #[.pointer (some ⟨g, 0, none⟩)] w (RIntPost w g vb b0 (intS rest bad)) := by
  have hl8 := rawS_len rest bad 8
  unfold intS
  generalize hR : rawS rest bad 8 = R at *
  have hR' := Lib.hid hR
  clear hR
  obtain ⟨bs, rest', bad'⟩ := R
  simp only at hl8 ⊢
  go_enter Try.func59, Try.ntmps59
  go_wp2_with fail
  refine (rawR_any g vb b0 rest bad 8 w hc hr).mono ?_
  rintro e w1 ⟨v1, rfl, hown, hg, hcur⟩
  rw [hR'.out] at hown hcur
  simp only at hown hcur
  have hsl := Lib.hid (Sl.of_own hown)
  have hsh : ∃ a c, v1 = .slice a bs.length c := by
    obtain ⟨a, c, h, _⟩ := Sl.of_own hown
    exact ⟨a, c, by rw [h, u8s_len]⟩
  obtain ⟨a, c, rfl⟩ := hsh
  have hcur' := Lib.hid hcur
  have hg' := Lib.hid hg
  clear hown hcur hg hc hR'
  have hbl : bs.length ≤ 8 := by simpa using hl8
  clear hl8
  go_wp2_with fail
  go_loop [4, 5] (fun uv kv => ∃ k : Nat, k ≤ bs.length ∧ kv = .int .i64 k ∧ uv = .int .i64 (sgn (rdn (bs.take k)))) (fun _ kv => bs.length - (intOf kv).toNat)
  case atStart => exact ⟨0, Nat.zero_le _, rfl, rfl⟩
  case round =>
    obtain ⟨k, hk, rfl, rfl⟩ := hrel
    by_cases hlt : k < bs.length
    · obtain ⟨b, o, rfl, -, -, -, hcs⟩ := hsl.out.at (by rw [u8s_len]; omega)
      have hcell := hcs k _ (u8s_get bs k hlt)
      clear hcs
      have hlo : rdn (bs.take k) < 72057594037927936 := by
        have h1 := rdn_lt (bs.take k)
        have h2 : (bs.take k).length ≤ 7 := by rw [List.length_take]; omega
        have h3 : 256 ^ (bs.take k).length ≤ 256 ^ 7 := Nat.pow_le_pow_right (by decide) h2
        have h4 : (256 : Nat) ^ 7 = 72057594037927936 := by decide
        omega
      have hc256 := bs[k].toNat_lt
      have hstep : Hid (rdn (bs.take (k + 1)) = rdn (bs.take k) * 256 + bs[k].toNat) := by
        show _ = _
        rw [List.take_add_one, List.getElem?_eq_getElem hlt, Option.toList, rdn_snoc]
      have hs : sgn (rdn (bs.take k)) = (rdn (bs.take k) : Int) := by unfold sgn; rw [if_pos (by omega)]
      rw [hs]
      clear hs
      go_wp2_with fail
      exact ⟨⟨k + 1, by omega, by go_num, by first | rw [hstep.out, ← shl_or_i hlo hc256] | fail⟩, by simp [intOf]; omega⟩
    · have hk' : k = bs.length := by omega
      subst hk'
      rw [List.take_of_length_le (Nat.le_refl _)]
      go_wp2_with fail
      go_ret
      exact ⟨rfl, hg'.out, hcur'.out⟩

theorem bytesR_any (g : Nat) (vb : Value) (b0 rest : List UInt8) (bad : Bool) (w : World) (hc : RCur w g vb b0 rest bad) (hr : b0.length ≤ 140737488355328) :
    Calls Try.prog 60 #[.pointer (some ⟨g, 0, none⟩)] w (RPost w g vb b0 (bytesS rest bad)) := by
  have hlt := hc.lt
  go_enter Try.func60, Try.ntmps60
  go_wp2_with fail
  refine (intR_any g vb b0 rest bad w hc hr).mono ?_
  rintro e w1 ⟨rfl, hg, hcur⟩
  have hg' := Lib.hid hg
  clear hg hc
  go_wp2_with fail
  refine (rawR_any g vb b0 _ _ _ w1 hcur hr).mono ?_
  rintro e w2 ⟨v, rfl, hown, hg2, hcur2⟩
  have hown' := Lib.hid hown
  have hcur2' := Lib.hid hcur2
  have hg3 := Lib.hid (grownBy_trans hg'.out hg2)
  clear hown hcur2 hg2 hcur
  go_wp2_with fail
  go_ret
  exact ⟨v, rfl, own_mono hown'.out hg'.out.size, hg3.out, hcur2'.out⟩

end Go.Proofs.Ytkipejhjpfakpaa
