/- PortcullisWrong: part 29 of its proof: lemmas and contracts, each with its conditions in its own statement; the last part holds the law itself. -/
import Derived.Test.YtibdgkhkhmdihaaGreatDoorJe28
import Derived.Test.YtibdgkhkhmdihaaGreatDoorCards
import Derived.Test.YtibdgkhkhmdihaaGreatDoorTie
import Derived.LaidMore
import Derived.Stop.Joined
import Derived.SevenTiedAt
import Derived.Lay
import Derived.LaidOnce
import Derived.MakeChecks
import Derived.ProofKit
import Derived.OpenShut
import Derived.ShutString
import Derived.ChangeOld
import Derived.Below

set_option maxHeartbeats 4000000
set_option maxRecDepth 100000
namespace Go.Proofs.YtibdgkhkhmdihaaGreatDoor
open Go.RowKit
open Go.ChangeShapes Go.WideShapes Go.ChangeAt Go.RowKit
open Go.ChangeMaps (open_string shut_string)
theorem portcullisWrong_lifted (os : Os) (started : os.Started) (H : Type) (enc : TypeId × Value → H) :
 ReturnsInHanded {} Tryz.checked os 5 .any (fun w args => (Rows.portcullisWrongSpec.pre enc Tryz.prog Tryz.f5 [] false w args ∧ laidMetH Tryz.prog Rows.portcullisWrongRow.laid w) ∧ sizedMet enc Tryz.prog Tryz.f5 (OpenSpec.ofChange Rows.portcullisWrongSpec) false w args) (Rows.portcullisWrongSpec.post enc Tryz.prog Tryz.f5 false true false false) := by
 have own : ownKnob Tryz.prog.godebug = none := by kernel_rfl
 have laidOut : laidOutB Tryz.prog = true := by kernel_rfl
 refine returnsInHanded_of_change_and (C := Tryz.checked) (X := fun w _ => laidMetH Tryz.prog Rows.portcullisWrongRow.laid w) (fun _ _ _ hh h => h.of_heap hh) own started zKr Tryz.func5
  (ChangeSpec.witness_shaped (enc := enc) (C := Tryz.checked) (os := os) (X := fun w _ => laidMetH Tryz.prog Rows.portcullisWrongRow.laid w) false (World.laidAll Tryz.prog os Rows.portcullisWrongRow.laid) #[.int .i64 0] 8 (World.laidAll_os _ _ _) (World.shaped_of_ZipB zKr zKr) zKr zKr zKr (by rw [MakeChecks.laidMetH_plain _ _ _ zKr]; exact laidMet_laidAll _ zKr zKr)) ?_
 intro W base args ds gs before hval0 hW _ _ _ _
 have hval : ∀ (j : Nat) t v, Tryz.f5.params[j]? = some t → args[j]? = some v → Value.okWide Tryz.prog W .any base t v := hval0
 have hW' := hW
 obtain ⟨p, q, hA0, hV, rfl, hfz, hnd⟩ := hW
 have hA : DataW.TrodAll enc Tryz.prog W 0 (fun _ => true) true Tryz.f5.params.toList args.toList ds p := hA0
 rw [Tryz.params5] at hA hval
 obtain ⟨v0, vs0, d0, ds0, p0, q0, hargs, rfl, rfl, h0, r0⟩ := trodAll_cons hA
 obtain ⟨rfl, rfl, rfl⟩ := trodAll_nil r0
 obtain rfl : args = #[v0] := by cases args; simp_all
 obtain ⟨rfl, rfl⟩ := trodVars_none hV
 obtain ⟨a0, rfl, rfl, rfl, w0⟩ := open_int Tryz.underlying3 (hval 0 3 v0 rfl rfl) h0
 clear hA0 hval0
 refine (portcullisWrong_walk a0 W w0).mono fun e W' ⟨he, bel⟩ => ?_
 subst he
 exact ⟨_, rfl, _, _, _, [], _, [], hW', trodAll_mk1 (shut_bool Tryz.underlying4 _), (trodAll_cons_mk (shut_int Tryz.underlying3 w0) trodAll_mk0), rfl, bel.frame _, fun h => by cases h⟩
theorem portcullisWrong_closed : joinedFacts Tryz.prog 5 Tryz.f5 Rows.portcullisWrongSpec Rows.portcullisWrongRow = true := by
 unfold joinedFacts
 simp only [head_enter, head_lifts, head_make]
 kernel_rfl
theorem portcullisWrong_row : Rows.PortcullisWrongSaid :=
 OpenClaim.holds_of_wide 5 Tryz.f5 rfl rfl rfl rfl rfl rfl rfl ⟨rfl, rfl, rfl, rfl, rfl⟩ rfl rfl rfl rfl rfl zKr Tryz.func5 portcullisWrong_closed
  (of_decide_eq_true zKr) (by unfold Func.isWrapper; first | (rw [if_pos zDk]; kernel_rfl) | (rw [if_neg zDk]; exact ⟨rfl, rfl⟩))
  (fun os started H enc _ => portcullisWrong_lifted os started H enc)
theorem portcullisWrong_holds : Rows.PortcullisWrongCardSaid :=
 Claim7.holds_tied_plain_at .later [] [.data,.data,.data,.data,.sentinel,.sentinel,.pinned] true (true, "816ca3e26783ddec4cf7a86124b602616b196691ab04d25600bd282edc0b341f") true
  portcullisWrong_row (fun _ h => by cases h) zKr (fun _ h => by cases h) portcullisWrong_row_tie rfl ⟨rfl, rfl⟩ zKr rfl
  (fun f fn hf hfn => by
   obtain rfl : f = 5 := Option.some.inj ((show Tryz.prog.funcNamed "portcullis/portcullislaw29.PortcullisWrong" = some 5 by kernel_rfl).symm.trans hf) |>.symm
   obtain rfl : fn = Tryz.f5 := (Option.some.inj (Tryz.func5.symm.trans hfn)).symm
   exact ⟨by kernel_rfl, fun j t ht => by
    rw [Tryz.params5] at ht
    have hm : t ∈ [3] := by simpa using Array.mem_of_getElem? ht
    have hall : ([3].all fun u => !Tryz.prog.wantsStandIn u) = true := by kernel_rfl
    exact (show Tryz.prog.wantsStandIn t = false by simpa using List.all_eq_true.1 hall t hm)⟩)
  zKr
end Go.Proofs.YtibdgkhkhmdihaaGreatDoor
