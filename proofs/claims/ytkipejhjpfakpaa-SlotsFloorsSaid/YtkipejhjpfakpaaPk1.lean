/- bytes.Clone: a copy in memory of its own. No condition but the reach. -/
import Derived.Test.YtkipejhjpfakpaaRows
import Derived.Test.YtkipejhjpfakpaaMem
namespace Go.Proofs.Ytkipejhjpfakpaa
open Go.RowKit

theorem info_u8 : (Try.prog.info? 5).map (fun i => (i.zero, i.size, i.bytes)) = some (some (.int .u8 0), 1, 1) := by kernel_rfl

set_option maxHeartbeats 400000 in
theorem clone_some (x : Addr) (len cap : Nat) (bs : List UInt8) (w : World) (hl : bs.length = len) (hr : len ≤ 140737488355328) (hc : Cells w x (u8s bs)) :
    Calls Try.prog 41 #[.slice (some x) len cap] w fun e w' =>
      ∃ v, e = .returned v ∧ w'.ownsRow w.heap.size 5 1 v len (u8s bs) ∧ Below w.heap.size w w' ∧ v ≠ .slice none 0 0 := by
  obtain ⟨i, hi, hz0, hz1, hz2⟩ := info_parts info_u8
  have hnil := fun (x : Option Addr) (n c : Nat) => Lib.run_eql_slice_nil (P := Try.prog) w 23 5 x n c 0 0 Try.underlying23
  have hc' : Hid (Cells (w.alloc (.cells #[] 5)) x (u8s bs)) := hc.alloc _
  clear hc
  have hl' := Lib.hid hl
  clear hl
  go_enter Try.func41, Try.ntmps41
  go_wp2_with (at_builtin; refine wpList_append_own _ rfl _ _ 23 rfl w.heap.size 5 i (.int .u8 0) 1 1 Try.underlying23 hi hz0 hz1 hz2 rfl (by decide) _ 0 [] rfl (World.ownsRow_made _ _ _ (Nat.le_refl _) (Nat.zero_le _) rfl) x len cap (u8s bs) rfl ?c1 hc'.out (u8s_one bs) ?c2 ?c3 ?c4 ?_)
  case c1 => rw [u8s_len]; have := hl'.out; omega
  case c2 => unfold maxLen; omega
  case c3 => omega
  case c4 => simp
  intro v' w' hown hg hn
  go_wp2
  go_ret
  refine ⟨v', rfl, by simpa using hown, ((Below.refl _ _).alloc (Nat.le_refl _) _).grown hg (by simp) ?_, ?_⟩
  · intro k hk; simp [Value.ownBlock] at hk; omega
  · exact hn

theorem clone_nil (w : World) : Calls Try.prog 41 #[.slice none 0 0] w fun e w' => e = .returned (.slice none 0 0) ∧ w' = w := by
  have hnil := fun (x : Option Addr) (n c : Nat) => Lib.run_eql_slice_nil (P := Try.prog) w 23 5 x n c 0 0 Try.underlying23
  go_enter Try.func41, Try.ntmps41
  go_wp2
  go_ret
  exact ⟨rfl, rfl⟩

/-- bytes.Clone: the same bytes, in memory of their own. -/
theorem clone_any (vb : Value) (bs : List UInt8) (w : World) (hb : Sl w vb (u8s bs)) (hr : bs.length ≤ 140737488355328) :
    Calls Try.prog 41 #[vb] w fun e w' => ∃ v, e = .returned v ∧ w'.ownsRow w.heap.size 5 1 v bs.length (u8s bs) ∧ Below w.heap.size w w' ∧ (v = .slice none 0 0 ↔ vb = .slice none 0 0) := by
  obtain ⟨a, cap, rfl, h2, h3, h4, h5⟩ := hb
  rw [u8s_len] at *
  cases a with
  | none =>
    obtain rfl := h4 rfl
    have : bs = [] := List.eq_nil_of_length_eq_zero (by omega)
    subst this
    refine (clone_nil w).mono ?_
    rintro e w' ⟨rfl, rfl⟩
    exact ⟨_, rfl, World.ownsRow_nil _ _ _ _, Below.refl _ _, by simp⟩
  | some x =>
    refine (clone_some x bs.length cap bs w rfl hr (h5 x rfl)).mono ?_
    rintro e w' ⟨v, rfl, h6, h7, h8⟩
    exact ⟨v, rfl, h6, h7, by simp [h8]⟩

end Go.Proofs.Ytkipejhjpfakpaa
