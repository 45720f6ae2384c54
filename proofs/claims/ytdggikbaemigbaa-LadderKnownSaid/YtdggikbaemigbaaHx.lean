/- Hex: each byte as two digits. -/
import Derived.Test.YtdggikbaemigbaaTy
import Derived.Test.YtdggikbaemigbaaLd2
import Derived.Test.YtdggikbaemigbaaSc2
namespace Go.Proofs.Ytdggikbaemigbaa
open Go.RowKit

/-- A digit. -/
def hexd (d : Nat) : UInt8 := if d < 10 then .ofNat (48 + d) else .ofNat (87 + d)
def hexL (bs : List UInt8) : List UInt8 := bs.flatMap fun b => [hexd (b.toNat / 16), hexd (b.toNat % 16)]
theorem hexL_len (bs : List UInt8) : (hexL bs).length = 2 * bs.length := by
  induction bs with
  | nil => rfl
  | cons b bs ih =>
    simp only [hexL, List.flatMap_cons, List.length_append, List.length_cons, List.length_nil] at *
    omega
theorem hexL_snoc (bs : List UInt8) (j : Nat) (h : j < bs.length) : hexL (bs.take (j + 1)) = hexL (bs.take j) ++ [hexd (bs[j].toNat / 16), hexd (bs[j].toNat % 16)] := by
  unfold hexL
  rw [List.take_add_one, List.getElem?_eq_getElem h, List.flatMap_append]
  simp

def hexS : ByteArray := ⟨#[48, 49, 50, 51, 52, 53, 54, 55, 56, 57, 97, 98, 99, 100, 101, 102]⟩
theorem hexS_at : ∀ d : Fin 16, hexS.data[d.val]? = some (hexd d.val) := by decide +kernel
theorem hex_at (d : Nat) (hd : d < 16) (w : World) : (Instr.index 9 (.string ⟨#[48, 49, 50, 51, 52, 53, 54, 55, 56, 57, 97, 98, 99, 100, 101, 102]⟩) (.int .u8 (d : Int))).run Try.prog w = .ok (.int .u8 ((hexd d).toNat : Int)) w := by
  have h := hexS_at ⟨d, hd⟩
  show (Instr.index 9 (.string hexS) (.int .u8 (d : Int))).run Try.prog w = _
  have hi : 0 ≤ (d : Int) ∧ (d : Int) < hexS.size := ⟨by omega, by show (d : Int) < 16; omega⟩
  rw [run_index_string w _ hexS .u8 d Try.underlying9, dif_pos hi]
  have e : hexS[(d : Int).toNat]'(by omega) = hexd d := by
    have h2 : d < hexS.data.size := by show d < 16; omega
    simp only [Int.toNat_natCast]
    show hexS.data[d] = _
    rw [Array.getElem?_eq_getElem h2] at h
    exact Option.some.inj h
  rw [e]
theorem and_15 : ∀ x : Nat, x < 256 → bits .and .u8 (x : Int) 15 = ((x % 16 : Nat) : Int) := by decide +kernel

set_option maxHeartbeats 2000000 in
set_option maxRecDepth 100000 in
theorem hex_any (a : Option Addr) (cap : Nat) (bs : List UInt8) (w : World) (hs : Sl w (.slice a bs.length cap) (u8s bs)) (hl : bs.length ≤ 1073741824) :
    Calls Try.prog 60 #[.slice a bs.length cap] w fun e w' => e = .returned (.string ⟨(hexL bs).toArray⟩) ∧ Below w.heap.size w w' := by
  obtain ⟨i, hi, hz0, hz1, hz2⟩ := info_parts info_u8
  replace hs := Lib.hid hs
  go_enter Try.func60, Try.ntmps60
  go_wp2_with fail
  go_loopw [3, 4] (fun v kv wr => ∃ j : Nat, j ≤ bs.length ∧ kv = .int .i64 j ∧ Below w.heap.size w wr ∧ wr.ownsRow w.heap.size 5 1 v (hexL (bs.take j)).length (u8s (hexL (bs.take j)))) (fun _ kv _ => bs.length - (intOf kv).toNat)
  case atStart => exact ⟨0, Nat.zero_le _, rfl, Below.refl _ _, World.ownsRow_nil _ _ _ _⟩
  case round =>
    obtain ⟨j, hj, rfl, kb, hown⟩ := hrel
    by_cases hlt : j < bs.length
    · obtain ⟨b, o, rfl, -, -, -, hcells⟩ := hs.out.at (by rw [u8s_len]; omega)
      obtain ⟨x, hx⟩ : ∃ x, bs[j].toNat = x := ⟨_, rfl⟩
      have hc := hcells j _ (u8s_get bs j hlt)
      have hxl : x < 256 := by have := bs[j].toNat_lt; omega
      have hbl : b < w.heap.size := World.block_lt_of_cell? w ⟨b, o + j, none⟩ hc
      rw [hx] at hc
      have hsn := hexL_snoc bs j hlt
      rw [hx] at hsn
      have hlen := hexL_len (bs.take j)
      rw [List.length_take, Nat.min_eq_left hj] at hlen
      obtain ⟨T, hT⟩ : ∃ T, hexL (bs.take j) = T := ⟨_, rfl⟩
      rw [hT] at hown hsn hlen
      have x1 := hex_at (x / 16) (by omega)
      have x2 := hex_at (x % 16) (Nat.mod_lt _ (by decide))
      have a15 := and_15 x hxl
      have e1 : ((x / 16 : Nat) : Int) = (x : Int) / 16 := by omega
      rw [e1] at x1
      have e2 : ((x % 16 : Nat) : Int) = (x : Int) % 16 := by omega
      rw [e2] at x2 a15
      replace x1 := Lib.hid x1
      replace x2 := Lib.hid x2
      replace hc := Lib.hid hc
      replace hsn := Lib.hid hsn
      replace hT := Lib.hid hT
      replace hown := Lib.hid hown
      clear hcells hx e1 e2
      go_upto_region 5 with fail
      refine Txt.start ((Below w.heap.size w)) 16 rfl (by kernel_rfl) ?_
      refine Txt.seg (A := ?_) 3 8191 (by kernel_rfl) (by exact kb.drew) [0, 1, 2, 3, 4, 5, 6, 7, 8, 9, 10, 11, 12] (by kernel_rfl) ?_ ?_
      rotate_left
      · intro w' hB
        have e1 : w'.cell? ⟨b, o + j, none⟩ = some (.int .u8 (x : Int)) := by rw [hB.cell (p := ⟨b, o + j, none⟩) hbl]; exact hc.out
        have e2 := x1.out w'
        have e3 := x2.out w'
        iterate 13 (first | (refine rd_skip rfl rfl ?_; simp only [Act.put, List.setIfInBounds_toArray, List.set_cons_zero, List.set_cons_succ]) | fail | (refine rd_take (v := ?_) rfl rfl ?_ ?_; rotate_left; (focus (go_simp; try (with_reducible rfl))); simp only [Act.put, List.setIfInBounds_toArray, List.set_cons_zero, List.set_cons_succ]))
        exact rd_nil
      refine Txt.eff 13 16383 rfl (by decide +kernel) (fun K hK => ?_)
      go_simp
      have kb2 : Below w.heap.size w (wr.drew.alloc (.cells #[.int .u8 ((hexd (x / 16)).toNat : Int), .int .u8 ((hexd (x % 16)).toNat : Int)] 5)) := kb.drew.alloc kb.size _
      refine hK (Below w.heap.size w) _ _ kb2 (fun _ h => h) ?_
      clear hK K
      try simp only [Act.put, List.setIfInBounds_toArray, List.set_cons_zero, List.set_cons_succ]
      have hown2 : (wr.drew.alloc (.cells #[.int .u8 ((hexd (x / 16)).toNat : Int), .int .u8 ((hexd (x % 16)).toNat : Int)] 5)).ownsRow w.heap.size 5 1 u3 T.length (u8s T) := own_below hown.out (((Below.refl _ _).drew).alloc (Nat.le_refl _) _)
      refine Txt.eff 14 32767 rfl (by decide +kernel) (fun K hK => ?_)
      refine step_append_sl (by rfl) (.tmp 11) (.tmp 24) 22 (by rfl) w.heap.size 5 Try.underlying22 hi hz0 hz1 hz2 rfl u3 T.length (u8s T) (by rfl) hown2 _ (u8s [hexd (x / 16), hexd (x % 16)]) (by rfl) ?c1 (u8s_one _) ?c2 ?c3 ?c4 ?_
      case c1 =>
        have h2 : Sl (wr.drew.alloc (.cells #[.int .u8 ((hexd (x / 16)).toNat : Int), .int .u8 ((hexd (x % 16)).toNat : Int)] 5)) (.slice (some ⟨wr.heap.size, 0, none⟩) 2 2) (u8s [hexd (x / 16), hexd (x % 16)]) := by
          exact Sl.of_arr (Arr.new wr.drew #[.int .u8 ((hexd (x / 16)).toNat : Int), .int .u8 ((hexd (x % 16)).toNat : Int)] 5) (by unfold maxLen; simp)
        exact h2
      case c2 => unfold maxLen; rw [u8s_len]; simp only [List.length_cons, List.length_nil]; omega
      case c3 => rw [u8s_len]; simp only [List.length_cons, List.length_nil]; omega
      case c4 => have := kb.size; simp; omega
      intro v' w' hown' hg
      have kb3 : Below w.heap.size w w' := below_grown kb2 hown2 (Nat.le_trans kb.size (by simp)) hg
      have hown3 : w'.ownsRow w.heap.size 5 1 v' (hexL (bs.take (j + 1))).length (u8s (hexL (bs.take (j + 1)))) := by
        rw [hsn.out, u8s_append, List.length_append]
        exact hown'
      clear hown' hg kb2 hown2
      refine hK (Below w.heap.size w) _ _ kb3 (fun _ h => h) ?_
      clear hK K
      try simp only [Act.put, List.setIfInBounds_toArray, List.set_cons_zero, List.set_cons_succ]
      refine Txt.seg (A := ?_) 0 65535 (by kernel_rfl) (by exact kb3) [15] (by kernel_rfl) ?_ ?_
      rotate_left
      · intro w' hB
        iterate 1 (first | (refine rd_skip rfl rfl ?_; simp only [Act.put, List.setIfInBounds_toArray, List.set_cons_zero, List.set_cons_succ]) | fail | (refine rd_take (v := ?_) rfl rfl ?_ ?_; rotate_left; (focus (go_simp; try (with_reducible rfl))); simp only [Act.put, List.setIfInBounds_toArray, List.set_cons_zero, List.set_cons_succ]))
        exact rd_nil
      refine Txt.done (by kernel_rfl) ?_
      replace hown3 := Lib.hid hown3
      go_wp2_with fail
      exact ⟨⟨j + 1, by omega, by go_num, kb3, hown3.out⟩, by simp [intOf]; omega⟩
    · obtain rfl : j = bs.length := by omega
      rw [List.take_length] at hown
      have hst := run_string_sl (P := Try.prog) (Sl.of_own hown) 22 5 9 Try.underlying22 Try.underlying5 Try.underlying9
      replace hown := Lib.hid hown
      go_wp2_with fail
      go_ret
      exact ⟨rfl, kb⟩

end Go.Proofs.Ytdggikbaemigbaa
