/- TopSigned: part 46 of its proof: lemmas and contracts, each with its conditions in its own statement; the last part holds the law itself. -/
import Derived.Test.YtncnlfpiondpnaaGreatJt45
import Derived.OpenShut
import Derived.ProofKit
import Derived.ShutString
import Derived.ChangeOld
import Derived.Below

set_option maxHeartbeats 4000000
set_option maxRecDepth 100000
namespace Go.Proofs.YtncnlfpiondpnaaGreat
open Go.RowKit
open Go.ChangeShapes Go.WideShapes Go.ChangeAt Go.RowKit
open Go.ChangeMaps (open_string shut_string)
theorem topSigned_lifted (os : Os) (started : os.Started) (H : Type) (enc : TypeId × Value → H) :
 ReturnsInHanded {} Tryz.checked os 3 .any (Rows.topSignedSpec.pre6 enc Tryz.prog Tryz.f3 Rows.topSignedRow.domain false) (Rows.topSignedSpec.post enc Tryz.prog Tryz.f3 false true false false) := by
 have own : ownKnob Tryz.prog.godebug = none := by kernel_rfl
 have laidOut : laidOutB Tryz.prog = true := by kernel_rfl
 refine returnsInHanded_of_change (C := Tryz.checked) own started zKr Tryz.func3
  (ChangeSpec.witness6 (enc := enc) (C := Tryz.checked) false ⟨#[], #[.int .i64 0, .slice none 0 0], []⟩ 8 zKr zKr zKr zKr) ?_
 intro W base args ds gs before hval0 hW hcnd _
 have hval : ∀ (j : Nat) t v, Tryz.f3.params[j]? = some t → args[j]? = some v → Value.okWide Tryz.prog W .any base t v := hval0
 have hW' := hW
 obtain ⟨p, q, hA0, hV, rfl, hfz, hnd⟩ := hW
 have hA : DataW.TrodAll enc Tryz.prog W 0 (fun _ => true) true Tryz.f3.params.toList args.toList ds p := hA0
 rw [Tryz.params3] at hA hval
 obtain ⟨v0, vs0, d0, ds0, p0, q0, hargs, rfl, rfl, h0, r0⟩ := trodAll_cons hA
 obtain ⟨v1, vs1, d1, ds1, p1, q1, rfl, rfl, rfl, h1, r1⟩ := trodAll_cons r0
 obtain ⟨rfl, rfl, rfl⟩ := trodAll_nil r1
 obtain rfl : args = #[v0, v1] := by cases args; simp_all
 obtain ⟨rfl, rfl⟩ := trodVars_none hV
 obtain ⟨a0, rfl, rfl, rfl, w0⟩ := open_int Tryz.underlying3 (hval 0 3 v0 rfl rfl) h0
 obtain ⟨a1, len1, cap1, rfl⟩ := okWide_slice Tryz.underlying22 (hval 1 22 v1 rfl rfl)
 have k1 := h1
 have lt1 : ∀ x ∈ p1, x.block < W.heap.size := by obtain ⟨m, hm⟩ := k1; exact DataW.trod_lt m _ _ _ hm
 obtain ⟨z1, rfl, w1⟩ := in_bytes Tryz.underlying22 Tryz.underlying5 zKr h1
 clear hA0 hval0
 refine (topSigned_walk a0 a1 cap1 z1 W w0 w1).mono fun e W' ⟨he, bel⟩ => ?_
 subst he
 exact ⟨_, rfl, _, _, _, [], _, [], hW', trodAll_mk1 (shut_bool Tryz.underlying4 _), (trodAll_cons_mk (shut_int Tryz.underlying3 w0) (trodAll_cons_mk (Below.trod laidOut zKr (of_decide_eq_true zKr) k1 bel lt1) trodAll_mk0)), rfl, bel.frame _, fun h => by cases h⟩
theorem topSigned_closed : joinedFacts Tryz.prog 3 Tryz.f3 Rows.topSignedSpec Rows.topSignedRow = true := by
 unfold joinedFacts
 simp only [head_enter, head_lifts, head_make]
 kernel_rfl
theorem topSigned_holds : Rows.TopSignedSaid :=
 OpenClaim.holds_of_wide 3 Tryz.f3 rfl rfl rfl rfl rfl rfl rfl ⟨rfl, rfl, rfl, rfl, rfl⟩ rfl rfl rfl rfl rfl zKr Tryz.func3 topSigned_closed
  (of_decide_eq_true zKr) (by unfold Func.isWrapper; rw [if_neg (of_decide_eq_false zKr)]; exact ⟨rfl, rfl⟩)
  (fun os started H enc _ => topSigned_lifted os started H enc)
end Go.Proofs.YtncnlfpiondpnaaGreat
