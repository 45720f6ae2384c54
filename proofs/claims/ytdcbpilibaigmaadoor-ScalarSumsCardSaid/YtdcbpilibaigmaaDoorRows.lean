/-
  NARROWER THAN 'FOR EVERY INPUT', by the rows' own cells (each row's printed sentence says how): ScalarReduces: laid · ScalarSums: laid · FieldRoots: laid.
  DERIVED. THE GIVEN ROWS OF THIS SEAT. 3 by the template 'for every input the law returns true; each argument reads behind the call as it read before'; 0 by the template 'total and deterministic' (their statements: YtdcbpilibaigmaaDoorTotals.lean).
  GIVEN WITH THE SEED: the statements are not yours to turn. If you find one false, say at which input.
  Laid BY PROGRAM, IN A SANDBOX (cutbox-rows.mjs): the forced cells as the released guide's own fill.sh prints them over the translation dd91d9b949a41116… (all of the seat's roots in one cut). By AI agents, Wed Nov 11 2026. No macro, syntax, notation, axiom, sorry.
-/
import Derived.Test.YtdcbpilibaigmaaDoorChecked
import GoSem.Claim
import GoSem.ClaimJoined
import GoSem.ClaimMapViews
import Derived.JoinedTies
import Derived.KernelRfl
namespace Go.Proofs.YtdcbpilibaigmaaDoor
/- THE CELL 'sum', in the pinned program and in every row, IS THE sha256 OF THE DUMP (.gsa) THAT YtdcbpilibaigmaaDoorProg.lean LOADS. Nothing in Lean hashes anything: it is a label: what it is worth is what the hold of that sum in a sandbox is worth. -/
noncomputable def Tryd.pinned : Pinned := { name := "ytdcbpilibaigmaadoor", sum := "dd91d9b949a4111664d958f824e65f26398a24dcb6d9ff3eb6a517acc3bbb06a", checked := Tryd.checked }
namespace Rows
def none {H : Type} : Left H := { results := [], args := [] }

/- WHAT THE LISTED PACKAGE-LEVEL VARIABLES READ AS WHEN THE CALL BEGINS. Each datum BY PROGRAM (the guide's laid-datum.mjs) off the statement by which the dump's own 'gosem.cut.vars' lays the variable. In a bare row this is a premise. The card (YtdcbpilibaigmaaDoorCards.lean) ties it to the program's text. -/
def laid_portcullis_portcullisref3_order {H : Type} : DataW H := .agg [.lit (.int .i64 237), .lit (.int .i64 211), .lit (.int .i64 245), .lit (.int .i64 92), .lit (.int .i64 26), .lit (.int .i64 99), .lit (.int .i64 18), .lit (.int .i64 88), .lit (.int .i64 214), .lit (.int .i64 156), .lit (.int .i64 247), .lit (.int .i64 162), .lit (.int .i64 222), .lit (.int .i64 249), .lit (.int .i64 222), .lit (.int .i64 20), .lit (.int .i64 0), .lit (.int .i64 0), .lit (.int .i64 0), .lit (.int .i64 0), .lit (.int .i64 0), .lit (.int .i64 0), .lit (.int .i64 0), .lit (.int .i64 0), .lit (.int .i64 0), .lit (.int .i64 0), .lit (.int .i64 0), .lit (.int .i64 0), .lit (.int .i64 0), .lit (.int .i64 0), .lit (.int .i64 0), .lit (.int .i64 16)]
def laid_portcullis_portcullisref3_rootOfMinusOne {H : Type} : DataW H := .agg [.lit (.int .i64 41136), .lit (.int .i64 18958), .lit (.int .i64 6951), .lit (.int .i64 50414), .lit (.int .i64 58488), .lit (.int .i64 44335), .lit (.int .i64 6150), .lit (.int .i64 12099), .lit (.int .i64 55207), .lit (.int .i64 15867), .lit (.int .i64 153), .lit (.int .i64 11085), .lit (.int .i64 57099), .lit (.int .i64 20417), .lit (.int .i64 9344), .lit (.int .i64 11139)]

/-- 'portcullislaw4.ScalarReduces': WHATEVER THE INPUT: true; the input reads as it did. -/
def scalarReducesSpec : ChangeSpec := { name := "scalarReduces", fn := fun _ => fun
  | [d] => { results := [.lit (.bool true)], args := [d] }
  | _ => none }
def scalarReducesRow : OpenClaim := { program := "ytdcbpilibaigmaadoor", sum := "dd91d9b949a4111664d958f824e65f26398a24dcb6d9ff3eb6a517acc3bbb06a", func := "portcullis/portcullislaw4.ScalarReduces", spec := "scalarReduces", inPlace := ["math/bits.Add64", "math/bits.Sub64"], named := ["portcullis/portcullisref3.order"], apart := false, laid := [("portcullis/portcullisref3.order", laid_portcullis_portcullisref3_order)] }
def ScalarReducesSaid : Prop := scalarReducesRow.holds Tryd.pinned (OpenSpec.ofChange scalarReducesSpec)

/-- ITS FALSE NEIGHBOUR: 'it returns false'. Refute it at one input. -/
def scalarReducesWrong : ChangeSpec := { name := "scalarReduces", fn := fun _ => fun
  | [d] => { results := [.lit (.bool false)], args := [d] }
  | _ => none }
def ScalarReducesWrongFalsely : Prop := scalarReducesRow.holds Tryd.pinned (OpenSpec.ofChange scalarReducesWrong)

/-- 'portcullislaw4.ScalarSums': WHATEVER THE INPUT: true; the input reads as it did. -/
def scalarSumsSpec : ChangeSpec := { name := "scalarSums", fn := fun _ => fun
  | [d1, d2] => { results := [.lit (.bool true)], args := [d1, d2] }
  | _ => none }
def scalarSumsRow : OpenClaim := { program := "ytdcbpilibaigmaadoor", sum := "dd91d9b949a4111664d958f824e65f26398a24dcb6d9ff3eb6a517acc3bbb06a", func := "portcullis/portcullislaw4.ScalarSums", spec := "scalarSums", inPlace := ["math/bits.Add64", "math/bits.Sub64"], named := ["portcullis/portcullisref3.order"], apart := false, laid := [("portcullis/portcullisref3.order", laid_portcullis_portcullisref3_order)] }
def ScalarSumsSaid : Prop := scalarSumsRow.holds Tryd.pinned (OpenSpec.ofChange scalarSumsSpec)

/-- ITS FALSE NEIGHBOUR: 'it returns false'. Refute it at one input. -/
def scalarSumsWrong : ChangeSpec := { name := "scalarSums", fn := fun _ => fun
  | [d1, d2] => { results := [.lit (.bool false)], args := [d1, d2] }
  | _ => none }
def ScalarSumsWrongFalsely : Prop := scalarSumsRow.holds Tryd.pinned (OpenSpec.ofChange scalarSumsWrong)

/-- 'portcullislaw3.FieldRoots': WHATEVER THE INPUT: true; the input reads as it did. -/
def fieldRootsSpec : ChangeSpec := { name := "fieldRoots", fn := fun _ => fun
  | [d] => { results := [.lit (.bool true)], args := [d] }
  | _ => none }
def fieldRootsRow : OpenClaim := { program := "ytdcbpilibaigmaadoor", sum := "dd91d9b949a4111664d958f824e65f26398a24dcb6d9ff3eb6a517acc3bbb06a", func := "portcullis/portcullislaw3.FieldRoots", spec := "fieldRoots", inPlace := ["math/bits.Sub64", "math/bits.Add64"], named := ["portcullis/portcullisref3.rootOfMinusOne"], apart := false, laid := [("portcullis/portcullisref3.rootOfMinusOne", laid_portcullis_portcullisref3_rootOfMinusOne)] }
def FieldRootsSaid : Prop := fieldRootsRow.holds Tryd.pinned (OpenSpec.ofChange fieldRootsSpec)

/-- ITS FALSE NEIGHBOUR: 'it returns false'. Refute it at one input. -/
def fieldRootsWrong : ChangeSpec := { name := "fieldRoots", fn := fun _ => fun
  | [d] => { results := [.lit (.bool false)], args := [d] }
  | _ => none }
def FieldRootsWrongFalsely : Prop := fieldRootsRow.holds Tryd.pinned (OpenSpec.ofChange fieldRootsWrong)

/- THE SECOND FORM. 'bulk': how many values and letters a reading holds, each counted each time it is reached (what is shared counts as often as it is met; a slice's spare places count too). A statement '..UptoSaid' is the law's where the arguments, and the package variables that the reading takes, are together of bulk at most 1048576: NARROWER than '..Said'. Prove '..Said' where nothing that the law and all that it calls make is longer than what came in: it says more and counts as full. Else prove '..UptoSaid'. A law counts once. -/
mutual
def uptoBulk {H : Type} : DataW H → Nat
  | .lit (.string bytes) => bytes.length + 1
  | .lit _ => 1
  | .nil => 1
  | .ptr d => uptoBulk d + 1
  | .slice elems spare => uptoBulkAll elems + uptoBulkAll spare + 1
  | .agg parts => uptoBulkAll parts + 1
  | .iface _ d => uptoBulk d + 1
  | .map entries => uptoBulkEntries entries + 1
  | .held _ => 1
def uptoBulkAll {H : Type} : List (DataW H) → Nat
  | [] => 0
  | d :: r => uptoBulk d + uptoBulkAll r
def uptoBulkEntries {H : Type} : List (Lit × DataW H) → Nat
  | [] => 0
  | x :: r => uptoBulkEntry x + uptoBulkEntries r
def uptoBulkEntry {H : Type} : Lit × DataW H → Nat
  | (.string bytes, d) => bytes.length + uptoBulk d + 1
  | (_, d) => uptoBulk d + 1
 end
def uptoSmall : (H : Type) → List (DataW H) → Bool := fun _ ds => decide (uptoBulkAll ds ≤ 1048576)
def OpenSpec.upto (s : _root_.Go.ChangeSpec) : _root_.Go.OpenSpec := { _root_.Go.OpenSpec.ofChange s with cond := some uptoSmall }

/-- 'portcullislaw4.ScalarReduces', WHERE WHAT IT READS IS OF BULK AT MOST 1048576: true; the input reads as it did. -/
def scalarReducesUptoRow : OpenClaim := { program := "ytdcbpilibaigmaadoor", sum := "dd91d9b949a4111664d958f824e65f26398a24dcb6d9ff3eb6a517acc3bbb06a", func := "portcullis/portcullislaw4.ScalarReduces", spec := "scalarReduces", inPlace := ["math/bits.Add64", "math/bits.Sub64"], named := ["portcullis/portcullisref3.order"], apart := false, laid := [("portcullis/portcullisref3.order", laid_portcullis_portcullisref3_order)], narrowed := true }
def ScalarReducesUptoSaid : Prop := scalarReducesUptoRow.holds Tryd.pinned (OpenSpec.upto scalarReducesSpec)

/-- 'portcullislaw4.ScalarSums', WHERE WHAT IT READS IS OF BULK AT MOST 1048576: true; the input reads as it did. -/
def scalarSumsUptoRow : OpenClaim := { program := "ytdcbpilibaigmaadoor", sum := "dd91d9b949a4111664d958f824e65f26398a24dcb6d9ff3eb6a517acc3bbb06a", func := "portcullis/portcullislaw4.ScalarSums", spec := "scalarSums", inPlace := ["math/bits.Add64", "math/bits.Sub64"], named := ["portcullis/portcullisref3.order"], apart := false, laid := [("portcullis/portcullisref3.order", laid_portcullis_portcullisref3_order)], narrowed := true }
def ScalarSumsUptoSaid : Prop := scalarSumsUptoRow.holds Tryd.pinned (OpenSpec.upto scalarSumsSpec)

/-- 'portcullislaw3.FieldRoots', WHERE WHAT IT READS IS OF BULK AT MOST 1048576: true; the input reads as it did. -/
def fieldRootsUptoRow : OpenClaim := { program := "ytdcbpilibaigmaadoor", sum := "dd91d9b949a4111664d958f824e65f26398a24dcb6d9ff3eb6a517acc3bbb06a", func := "portcullis/portcullislaw3.FieldRoots", spec := "fieldRoots", inPlace := ["math/bits.Sub64", "math/bits.Add64"], named := ["portcullis/portcullisref3.rootOfMinusOne"], apart := false, laid := [("portcullis/portcullisref3.rootOfMinusOne", laid_portcullis_portcullisref3_rootOfMinusOne)], narrowed := true }
def FieldRootsUptoSaid : Prop := fieldRootsUptoRow.holds Tryd.pinned (OpenSpec.upto fieldRootsSpec)

end Rows
end Go.Proofs.YtdcbpilibaigmaaDoor
