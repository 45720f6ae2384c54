/- pack.Int: numbers behind bytes, eight bytes each, the highest first. -/
import Derived.Test.YtkipejhjpfakpaaPk1
namespace Go.Proofs.Ytkipejhjpfakpaa
open Go.RowKit

/-- The eight bytes of a number, the highest first. -/
def be8 (n : Int) : List UInt8 := (List.range 8).map fun i => UInt8.ofNat ((n % 18446744073709551616).toNat / 2 ^ (8 * (7 - i)) % 256)
def be8s (ns : List Int) : List UInt8 := ns.flatMap be8

theorem be8_len (n : Int) : (be8 n).length = 8 := by simp [be8]

theorem wrap_u64_mod (n : Int) : IntKind.u64.wrap n = n % 18446744073709551616 := IntKind.wrap_u64 n

theorem be8_at (n : Int) (k : Nat) (hk : k < 8) : ∃ c : UInt8, (be8 n).take (k + 1) = (be8 n).take k ++ [c] ∧ IntKind.u64.wrap n / 2 ^ (8 * (7 - k)) % 256 = (c.toNat : Int) := by
  have hl : k < (be8 n).length := by rw [be8_len]; exact hk
  refine ⟨(be8 n)[k], ?_, ?_⟩
  · rw [List.take_add_one, List.getElem?_eq_getElem hl]; rfl
  · rw [wrap_u64_mod]
    simp only [be8, List.getElem_map, List.getElem_range]
    have h0 : 0 ≤ n % 18446744073709551616 := by omega
    obtain ⟨m, hm⟩ := Int.eq_ofNat_of_zero_le h0
    rw [hm]
    have e : (UInt8.ofNat ((m : Int).toNat / 2 ^ (8 * (7 - k)) % 256)).toNat = m / 2 ^ (8 * (7 - k)) % 256 := by
      simp
    rw [e]
    simp

theorem be8s_at (ns : List Int) (j : Nat) (h : j < ns.length) : be8s (ns.take (j + 1)) = be8s (ns.take j) ++ be8 ns[j] := by
  unfold be8s
  rw [List.take_add_one, List.getElem?_eq_getElem h, List.flatMap_append]
  simp only [Option.toList, List.flatMap_cons, List.flatMap_nil, List.append_nil]

theorem be8s_len (ns : List Int) : (be8s ns).length = 8 * ns.length := by
  induction ns with
  | nil => rfl
  | cons n ns ih => simp only [be8s, List.flatMap_cons, List.length_append, be8_len, List.length_cons] at *; omega

set_option maxHeartbeats 1000000 in
set_option maxRecDepth 100000 in
theorem packInt_sl (vb : Value) (bs : List UInt8) (an : Option Addr) (cn : Nat) (ns : List Int) (w : World) (hb : Sl w vb (u8s bs)) (hn : Sl w (.slice an ns.length cn) (ns.map (.int .i64)))
    (hr : bs.length + 8 * ns.length ≤ 140737488355328) :
    Calls Try.prog 47 #[vb, .slice an ns.length cn] w fun e w' =>
      ∃ v, e = .returned v ∧ w'.ownsRow w.heap.size 5 1 v (bs ++ be8s ns).length (u8s (bs ++ be8s ns)) ∧ Below w.heap.size w w' := by
  obtain ⟨i, hi, hz0, hz1, hz2⟩ := info_parts info_u8
  have hn' := Lib.hid hn
  clear hn
  go_enter Try.func47, Try.ntmps47
  go_wp2_with fail
  refine (clone_any vb bs w hb (by omega)).mono ?_
  rintro e w1 ⟨v1, rfl, hown, hbel, -⟩
  clear hb
  go_wp2_with fail
  go_loopw [5, 14] (fun v i wr => ∃ j : Nat, j ≤ ns.length ∧ i = .int .i64 j ∧ Below w.heap.size w wr ∧ wr.ownsRow w.heap.size 5 1 v (bs ++ be8s (ns.take j)).length (u8s (bs ++ be8s (ns.take j)))) (fun _ i _ => ns.length - (intOf i).toNat)
  case atStart => exact ⟨0, Nat.zero_le _, rfl, hbel, by simpa [be8s] using hown⟩
  case round =>
    obtain ⟨j, hj, rfl, hbr, hor⟩ := hrel
    clear hbel hown
    by_cases hlt : j < ns.length
    · obtain ⟨b, o, rfl, -, -, hcap, hcs⟩ := (hn'.out.below hbr).at (by simp; omega)
      have hcell := hcs j (.int .i64 ns[j]) (by simp [List.getElem?_eq_getElem hlt])
      clear hcs
      obtain ⟨wo, rfl⟩ : ∃ wo : World, wo = wr := ⟨_, rfl⟩
      have hlen : ns.length ≤ 9223372036854775807 := by omega
      go_wp2_with fail
      go_loopw [5, 9] (fun v kv wr => ∃ k : Nat, k ≤ 8 ∧ kv = .int .i64 (7 - (k : Int)) ∧ Below w.heap.size w wr ∧ wr.ownsRow w.heap.size 5 1 v (bs ++ be8s (ns.take j) ++ (be8 ns[j]).take k).length (u8s (bs ++ be8s (ns.take j) ++ (be8 ns[j]).take k))) (fun _ kv _ => (intOf kv + 1).toNat)
      case atStart => exact ⟨0, Nat.zero_le _, rfl, hbr, by simpa using hor⟩
      case round =>
        obtain ⟨k, hk, rfl, hbi, hoi⟩ := hrel
        clear hbr hor hcell
        by_cases hk8 : k < 8
        · have h1 : (0 : Int) ≤ 7 - (k : Int) := by omega
          obtain ⟨c, hc1, hc2⟩ := be8_at ns[j] k hk8
          have hc2' := Lib.hid hc2
          have hc1' := Lib.hid hc1
          clear hc1 hc2
          have hbig : (bs ++ be8s (ns.take j) ++ (be8 ns[j]).take k).length + 1 ≤ 140737488355328 := by
            simp only [List.length_append, be8s_len, List.length_take, be8_len]; omega
          have hbig' := Lib.hid hbig
          clear hbig
          have hsz : w.heap.size ≤ wr.heap.size := hbi.size
          go_wp2_with (at_builtin; refine wpList_append_own _ rfl _ _ 23 rfl w.heap.size 5 i (.int .u8 0) 1 1 Try.underlying23 hi hz0 hz1 hz2 rfl (by decide) _ _ _ rfl (hoi.alloc _) ⟨wr.heap.size, 0, none⟩ 1 1 [_] rfl rfl (cells_new wr _ _) ?c1 ?c2 ?c3 ?c4 ?_)
          case c1 => intro u hu; simp at hu; subst hu; rfl
          case c2 => have := hbig'.out; unfold maxLen; omega
          case c3 => have := hbig'.out; omega
          case c4 => simp; omega
          intro v' w2 hown2 hg2 _
          have hb2 := below_grown1 hbi hoi hsz hg2
          rw [hc2'.out] at hown2
          clear hoi hg2 hbi
          go_wp2
          go_roundw
          case rel =>
            refine ⟨k + 1, by omega, by simp; omega, hb2, ?_⟩
            rw [hc1'.out, ← List.append_assoc]
            simpa [u8s, Nat.add_assoc] using hown2
          case measure => simp [intOf]; omega
        · have hk : k = 8 := by omega
          subst hk
          have hf : (be8 ns[j]).take 8 = be8 ns[j] := List.take_of_length_le (by rw [be8_len]; exact Nat.le_refl _)
          rw [hf] at hoi
          clear hf
          go_wp2
          go_roundw
          case rel => exact ⟨j + 1, by omega, by go_num, hbi, by rw [be8s_at ns j hlt, ← List.append_assoc]; exact hoi⟩
          case measure => simp [intOf]; omega
    · have hj' : j = ns.length := by omega
      subst hj'
      rw [List.take_of_length_le (Nat.le_refl _)] at hor
      go_wp2
      go_ret
      exact ⟨_, rfl, hor, hbr⟩

theorem packInt_any (vb vn : Value) (bs : List UInt8) (ns : List Int) (w : World) (hb : Sl w vb (u8s bs)) (hn : Sl w vn (ns.map (.int .i64)))
    (hr : bs.length + 8 * ns.length ≤ 140737488355328) :
    Calls Try.prog 47 #[vb, vn] w fun e w' =>
      ∃ v, e = .returned v ∧ w'.ownsRow w.heap.size 5 1 v (bs ++ be8s ns).length (u8s (bs ++ be8s ns)) ∧ Below w.heap.size w w' := by
  obtain ⟨a, cap, rfl, h⟩ := id hn
  rw [List.length_map] at *
  exact packInt_sl vb bs a cap ns w hb hn hr

end Go.Proofs.Ytkipejhjpfakpaa
