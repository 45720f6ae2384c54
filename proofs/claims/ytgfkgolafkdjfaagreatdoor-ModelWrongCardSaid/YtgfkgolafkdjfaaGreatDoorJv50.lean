/- ModelWrong: part 50 of its proof: lemmas and contracts, each with its conditions in its own statement; the last part holds the law itself. -/
import Derived.Test.YtgfkgolafkdjfaaGreatDoorJv49
import Derived.Test.YtgfkgolafkdjfaaGreatDoorCards
import Derived.Test.YtgfkgolafkdjfaaGreatDoorTie
import Derived.LaidMore
import Derived.Stop.Joined
import Derived.SevenTiedAt
import Derived.ProofKit
import Derived.OpenShut
import Derived.ShutString
import Derived.ChangeOld
import Derived.Below

set_option maxHeartbeats 4000000
set_option maxRecDepth 100000
namespace Go.Proofs.YtgfkgolafkdjfaaGreatDoor
open Go.RowKit
open Go.ChangeShapes Go.WideShapes Go.ChangeAt Go.RowKit
open Go.ChangeMaps (open_string shut_string)
theorem AC (os:Os) (args:Array Value):laidMetH Tryz.prog Rows.modelWrongRow.laid ((World.doorLaid Tryz.prog 44 os).forCall (fun _ _=>0) ⟨#[],args,[]⟩).memory:=
 laidMetH_of_parts3 (fuel:=8) (laidMet_of_run' 8 zKr zKr) zKr zKr
theorem wU (os:Os) (started:os.Started) (H:Type) (enc:TypeId×Value→H):
 ReturnsInHanded {} Tryz.checked os 3 .any (fun w args=>(Rows.modelWrongSpec.pre enc Tryz.prog Tryz.f3 [] false w args∧laidMetH Tryz.prog Rows.modelWrongRow.laid w)∧sizedMet enc Tryz.prog Tryz.f3 (OpenSpec.ofChange Rows.modelWrongSpec) false w args) (Rows.modelWrongSpec.post enc Tryz.prog Tryz.f3 false true false false):=by
 have own:ownKnob Tryz.prog.godebug=none:=zKr;have laidOut:laidOutB Tryz.prog=true:=zKr;refine returnsInHanded_of_change_and (C:=Tryz.checked) (X:=fun w _=>laidMetH Tryz.prog Rows.modelWrongRow.laid w) (fun _ _ _ hh h=>h.of_heap hh) own started zKr Tryz.func3
  (ChangeSpec.witness_shaped (enc:=enc) (C:=Tryz.checked) (os:=os) (X:=fun w _=>laidMetH Tryz.prog Rows.modelWrongRow.laid w) false (World.doorLaid Tryz.prog 44 os) #[.int .i64 0,.int .i64 0,.int .i64 0,.int .i64 0,.int .i64 0,.int .u8 0] 8 rfl (World.shaped_of_RefB zKr zKr) zKr zKr zKr (AC os _)) ?_
 intro W base args ds gs before X5 hW _ _ hL _;have oQ:∀(j:Nat) t v,Tryz.f3.params[j]? =some t→args[j]? =some v→Value.okWide Tryz.prog W .any base t v:=X5;have hW':=hW;obtain⟨p,q,hA0,hV,rfl,hfz,IU⟩:=hW;have hA:DataW.TrodAll enc Tryz.prog W 0 (fun _=>true) true Tryz.f3.params.toList args.toList ds p:=hA0;rw[Tryz.params3]at hA oQ;obtain⟨v0,vs0,d0,ds0,p0,q0,ahj,rfl,rfl,h0,r0⟩:=trodAll_cons hA;obtain⟨v1,vs1,d1,ds1,p1,q1,rfl,rfl,rfl,h1,r1⟩:=trodAll_cons r0;obtain⟨v2,vs2,d2,ds2,p2,q2,rfl,rfl,rfl,h2,r2⟩:=trodAll_cons r1;obtain⟨v3,vs3,d3,ds3,p3,q3,rfl,rfl,rfl,h3,r3⟩:=trodAll_cons r2;obtain⟨v4,vs4,d4,ds4,p4,q4,rfl,rfl,rfl,h4,r4⟩:=trodAll_cons r3;obtain⟨v5,vs5,d5,ds5,p5,q5,rfl,rfl,rfl,h5,r5⟩:=trodAll_cons r4;obtain⟨rfl,rfl,rfl⟩:=trodAll_nil r5;obtain rfl:args=#[v0,v1,v2,v3,v4,v5]:=(by cases args;simp_all);obtain⟨rfl,rfl⟩:=trodVars_none hV
 obtain⟨a0,rfl,rfl,rfl,w0⟩:=open_int Tryz.underlying3 (oQ 0 3 v0 rfl rfl) h0;obtain⟨a1,rfl,rfl,rfl,w1⟩:=open_int Tryz.underlying3 (oQ 1 3 v1 rfl rfl) h1;obtain⟨a2,rfl,rfl,rfl,w2⟩:=open_int Tryz.underlying3 (oQ 2 3 v2 rfl rfl) h2;obtain⟨a3,rfl,rfl,rfl,w3⟩:=open_int Tryz.underlying3 (oQ 3 3 v3 rfl rfl) h3;obtain⟨a4,rfl,rfl,rfl,w4⟩:=open_int Tryz.underlying3 (oQ 4 3 v4 rfl rfl) h4;obtain⟨a5,rfl,rfl,rfl,w5⟩:=open_int Tryz.underlying5 (oQ 5 5 v5 rfl rfl) h5;clear hA0 X5;have kG:=acm hL;refine(AD a0 a1 a2 a3 a4 a5 W w0 w1 w2 w3 w4 w5 kG).mono fun e W' ⟨he,az⟩=>?_;subst he
 exact⟨_,rfl,_,_,_,[],_,[],hW',trodAll_mk1 (shut_bool Tryz.underlying4 _),(trodAll_cons_mk (shut_int Tryz.underlying3 w0) (trodAll_cons_mk (shut_int Tryz.underlying3 w1) (trodAll_cons_mk (shut_int Tryz.underlying3 w2) (trodAll_cons_mk (shut_int Tryz.underlying3 w3) (trodAll_cons_mk (shut_int Tryz.underlying3 w4) (trodAll_cons_mk (shut_int Tryz.underlying5 w5) trodAll_mk0)))))),rfl,az.frame _,fun h=>by cases h⟩
theorem Cs:Rows.ModelWrongSaid:=
 OpenClaim.holds_of_wide 3 Tryz.f3 rfl rfl rfl rfl rfl rfl rfl ⟨rfl,rfl,rfl,rfl,rfl⟩ rfl rfl rfl rfl rfl zKr Tryz.func3 zKr
  (of_decide_eq_true zKr) (by unfold Func.isWrapper;first|(rw[if_pos zDk];kernel_rfl)|(rw[if_neg zDk];exact⟨rfl,rfl⟩))
  (fun os started H enc _=>wU os started H enc)
theorem modelWrong_holds:Rows.ModelWrongCardSaid:=
 Claim7.holds_tied_plain_at .later [] [.data,.data,.data,.data,.data,.data,.data] true (true,"58c55e5ba4de740689e714cafb42b68a6e07d7cc74d0a0758c16022d47d74849") true
  Cs (fun _ h=>by cases h) zKr (fun _ h=>by cases h) modelWrong_row_tie rfl ⟨rfl,rfl⟩ zKr rfl
  (fun f fn hf hfn=>by
   obtain rfl:f=3:=Option.some.inj ((show Tryz.prog.funcNamed "portcullis/portcullislaw26.ModelWrong"=some 3 by kernel_rfl).symm.trans hf) |>.symm;obtain rfl:fn=Tryz.f3:=(Option.some.inj (Tryz.func3.symm.trans hfn)).symm;exact⟨by kernel_rfl,fun j t ht=>by
    rw[Tryz.params3]at ht;have hm:t∈ [3,3,3,3,3,5]:=(by simpa using Array.mem_of_getElem? ht);have dB:([3,3,3,3,3,5].all fun u=>!Tryz.prog.wantsStandIn u)=true:=zKr;exact(show Tryz.prog.wantsStandIn t=false by simpa using zA19.1 dB t hm)⟩)
  zKr
end Go.Proofs.YtgfkgolafkdjfaaGreatDoor
