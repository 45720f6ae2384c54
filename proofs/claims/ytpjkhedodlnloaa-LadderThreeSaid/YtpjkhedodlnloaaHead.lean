/- The head of the program's text, sign by sign: what the claim's frame asks of it. -/
import Derived.Test.YtpjkhedodlnloaaRows
import Derived.ProofKit
namespace Go.Proofs.Ytpjkhedodlnloaa

set_option maxRecDepth 1000000 in
theorem head_signs : Try.prog.initOrder = String.ofList [Char.ofNat 104, Char.ofNat 97, Char.ofNat 114, Char.ofNat 110, Char.ofNat 101, Char.ofNat 115, Char.ofNat 115, Char.ofNat 32, Char.ofNat 97, Char.ofNat 51, Char.ofNat 57, Char.ofNat 56, Char.ofNat 55, Char.ofNat 99, Char.ofNat 98, Char.ofNat 50, Char.ofNat 50, Char.ofNat 102, Char.ofNat 99, Char.ofNat 56, Char.ofNat 50, Char.ofNat 48, Char.ofNat 50, Char.ofNat 97, Char.ofNat 56, Char.ofNat 100, Char.ofNat 54, Char.ofNat 98, Char.ofNat 54, Char.ofNat 48, Char.ofNat 54, Char.ofNat 99, Char.ofNat 102, Char.ofNat 48, Char.ofNat 48, Char.ofNat 51, Char.ofNat 99, Char.ofNat 102, Char.ofNat 101, Char.ofNat 54, Char.ofNat 54, Char.ofNat 53, Char.ofNat 54, Char.ofNat 54, Char.ofNat 99, Char.ofNat 57, Char.ofNat 55, Char.ofNat 98, Char.ofNat 102, Char.ofNat 97, Char.ofNat 100, Char.ofNat 53, Char.ofNat 99, Char.ofNat 54, Char.ofNat 100, Char.ofNat 55, Char.ofNat 56, Char.ofNat 98, Char.ofNat 101, Char.ofNat 55, Char.ofNat 53, Char.ofNat 57, Char.ofNat 102, Char.ofNat 52, Char.ofNat 50, Char.ofNat 49, Char.ofNat 53, Char.ofNat 99, Char.ofNat 100, Char.ofNat 56, Char.ofNat 55, Char.ofNat 100, Char.ofNat 32, Char.ofNat 99, Char.ofNat 117, Char.ofNat 116, Char.ofNat 32, Char.ofNat 97, Char.ofNat 116, Char.ofNat 32, Char.ofNat 112, Char.ofNat 111, Char.ofNat 114, Char.ofNat 116, Char.ofNat 99, Char.ofNat 117, Char.ofNat 108, Char.ofNat 108, Char.ofNat 105, Char.ofNat 115, Char.ofNat 47, Char.ofNat 112, Char.ofNat 111, Char.ofNat 114, Char.ofNat 116, Char.ofNat 99, Char.ofNat 117, Char.ofNat 108, Char.ofNat 108, Char.ofNat 105, Char.ofNat 115, Char.ofNat 108, Char.ofNat 97, Char.ofNat 119, Char.ofNat 49, Char.ofNat 50, Char.ofNat 46, Char.ofNat 76, Char.ofNat 97, Char.ofNat 100, Char.ofNat 100, Char.ofNat 101, Char.ofNat 114, Char.ofNat 83, Char.ofNat 104, Char.ofNat 97, Char.ofNat 114, Char.ofNat 101, Char.ofNat 115, Char.ofNat 32, Char.ofNat 112, Char.ofNat 111, Char.ofNat 114, Char.ofNat 116, Char.ofNat 99, Char.ofNat 117, Char.ofNat 108, Char.ofNat 108, Char.ofNat 105, Char.ofNat 115, Char.ofNat 47, Char.ofNat 112, Char.ofNat 111, Char.ofNat 114, Char.ofNat 116, Char.ofNat 99, Char.ofNat 117, Char.ofNat 108, Char.ofNat 108, Char.ofNat 105, Char.ofNat 115, Char.ofNat 108, Char.ofNat 97, Char.ofNat 119, Char.ofNat 49, Char.ofNat 50, Char.ofNat 46, Char.ofNat 76, Char.ofNat 97, Char.ofNat 100, Char.ofNat 100, Char.ofNat 101, Char.ofNat 114, Char.ofNat 84, Char.ofNat 104, Char.ofNat 114, Char.ofNat 101, Char.ofNat 101] := by kernel_rfl

set_option maxRecDepth 1000000 in
theorem head_list : Try.prog.initOrder.toList = [Char.ofNat 104, Char.ofNat 97, Char.ofNat 114, Char.ofNat 110, Char.ofNat 101, Char.ofNat 115, Char.ofNat 115, Char.ofNat 32, Char.ofNat 97, Char.ofNat 51, Char.ofNat 57, Char.ofNat 56, Char.ofNat 55, Char.ofNat 99, Char.ofNat 98, Char.ofNat 50, Char.ofNat 50, Char.ofNat 102, Char.ofNat 99, Char.ofNat 56, Char.ofNat 50, Char.ofNat 48, Char.ofNat 50, Char.ofNat 97, Char.ofNat 56, Char.ofNat 100, Char.ofNat 54, Char.ofNat 98, Char.ofNat 54, Char.ofNat 48, Char.ofNat 54, Char.ofNat 99, Char.ofNat 102, Char.ofNat 48, Char.ofNat 48, Char.ofNat 51, Char.ofNat 99, Char.ofNat 102, Char.ofNat 101, Char.ofNat 54, Char.ofNat 54, Char.ofNat 53, Char.ofNat 54, Char.ofNat 54, Char.ofNat 99, Char.ofNat 57, Char.ofNat 55, Char.ofNat 98, Char.ofNat 102, Char.ofNat 97, Char.ofNat 100, Char.ofNat 53, Char.ofNat 99, Char.ofNat 54, Char.ofNat 100, Char.ofNat 55, Char.ofNat 56, Char.ofNat 98, Char.ofNat 101, Char.ofNat 55, Char.ofNat 53, Char.ofNat 57, Char.ofNat 102, Char.ofNat 52, Char.ofNat 50, Char.ofNat 49, Char.ofNat 53, Char.ofNat 99, Char.ofNat 100, Char.ofNat 56, Char.ofNat 55, Char.ofNat 100, Char.ofNat 32, Char.ofNat 99, Char.ofNat 117, Char.ofNat 116, Char.ofNat 32, Char.ofNat 97, Char.ofNat 116, Char.ofNat 32, Char.ofNat 112, Char.ofNat 111, Char.ofNat 114, Char.ofNat 116, Char.ofNat 99, Char.ofNat 117, Char.ofNat 108, Char.ofNat 108, Char.ofNat 105, Char.ofNat 115, Char.ofNat 47, Char.ofNat 112, Char.ofNat 111, Char.ofNat 114, Char.ofNat 116, Char.ofNat 99, Char.ofNat 117, Char.ofNat 108, Char.ofNat 108, Char.ofNat 105, Char.ofNat 115, Char.ofNat 108, Char.ofNat 97, Char.ofNat 119, Char.ofNat 49, Char.ofNat 50, Char.ofNat 46, Char.ofNat 76, Char.ofNat 97, Char.ofNat 100, Char.ofNat 100, Char.ofNat 101, Char.ofNat 114, Char.ofNat 83, Char.ofNat 104, Char.ofNat 97, Char.ofNat 114, Char.ofNat 101, Char.ofNat 115, Char.ofNat 32, Char.ofNat 112, Char.ofNat 111, Char.ofNat 114, Char.ofNat 116, Char.ofNat 99, Char.ofNat 117, Char.ofNat 108, Char.ofNat 108, Char.ofNat 105, Char.ofNat 115, Char.ofNat 47, Char.ofNat 112, Char.ofNat 111, Char.ofNat 114, Char.ofNat 116, Char.ofNat 99, Char.ofNat 117, Char.ofNat 108, Char.ofNat 108, Char.ofNat 105, Char.ofNat 115, Char.ofNat 108, Char.ofNat 97, Char.ofNat 119, Char.ofNat 49, Char.ofNat 50, Char.ofNat 46, Char.ofNat 76, Char.ofNat 97, Char.ofNat 100, Char.ofNat 100, Char.ofNat 101, Char.ofNat 114, Char.ofNat 84, Char.ofNat 104, Char.ofNat 114, Char.ofNat 101, Char.ofNat 101] := by rw [head_signs, String.toList_ofList]

set_option maxRecDepth 1000000 in
theorem head_first : ((behindMainWord (wordsSigns [Char.ofNat 104, Char.ofNat 97, Char.ofNat 114, Char.ofNat 110, Char.ofNat 101, Char.ofNat 115, Char.ofNat 115, Char.ofNat 32, Char.ofNat 97, Char.ofNat 51, Char.ofNat 57, Char.ofNat 56, Char.ofNat 55, Char.ofNat 99, Char.ofNat 98, Char.ofNat 50, Char.ofNat 50, Char.ofNat 102, Char.ofNat 99, Char.ofNat 56, Char.ofNat 50, Char.ofNat 48, Char.ofNat 50, Char.ofNat 97, Char.ofNat 56, Char.ofNat 100, Char.ofNat 54, Char.ofNat 98, Char.ofNat 54, Char.ofNat 48, Char.ofNat 54, Char.ofNat 99, Char.ofNat 102, Char.ofNat 48, Char.ofNat 48, Char.ofNat 51, Char.ofNat 99, Char.ofNat 102, Char.ofNat 101, Char.ofNat 54, Char.ofNat 54, Char.ofNat 53, Char.ofNat 54, Char.ofNat 54, Char.ofNat 99, Char.ofNat 57, Char.ofNat 55, Char.ofNat 98, Char.ofNat 102, Char.ofNat 97, Char.ofNat 100, Char.ofNat 53, Char.ofNat 99, Char.ofNat 54, Char.ofNat 100, Char.ofNat 55, Char.ofNat 56, Char.ofNat 98, Char.ofNat 101, Char.ofNat 55, Char.ofNat 53, Char.ofNat 57, Char.ofNat 102, Char.ofNat 52, Char.ofNat 50, Char.ofNat 49, Char.ofNat 53, Char.ofNat 99, Char.ofNat 100, Char.ofNat 56, Char.ofNat 55, Char.ofNat 100, Char.ofNat 32, Char.ofNat 99, Char.ofNat 117, Char.ofNat 116, Char.ofNat 32, Char.ofNat 97, Char.ofNat 116, Char.ofNat 32, Char.ofNat 112, Char.ofNat 111, Char.ofNat 114, Char.ofNat 116, Char.ofNat 99, Char.ofNat 117, Char.ofNat 108, Char.ofNat 108, Char.ofNat 105, Char.ofNat 115, Char.ofNat 47, Char.ofNat 112, Char.ofNat 111, Char.ofNat 114, Char.ofNat 116, Char.ofNat 99, Char.ofNat 117, Char.ofNat 108, Char.ofNat 108, Char.ofNat 105, Char.ofNat 115, Char.ofNat 108, Char.ofNat 97, Char.ofNat 119, Char.ofNat 49, Char.ofNat 50, Char.ofNat 46, Char.ofNat 76, Char.ofNat 97, Char.ofNat 100, Char.ofNat 100, Char.ofNat 101, Char.ofNat 114, Char.ofNat 83, Char.ofNat 104, Char.ofNat 97, Char.ofNat 114, Char.ofNat 101, Char.ofNat 115, Char.ofNat 32, Char.ofNat 112, Char.ofNat 111, Char.ofNat 114, Char.ofNat 116, Char.ofNat 99, Char.ofNat 117, Char.ofNat 108, Char.ofNat 108, Char.ofNat 105, Char.ofNat 115, Char.ofNat 47, Char.ofNat 112, Char.ofNat 111, Char.ofNat 114, Char.ofNat 116, Char.ofNat 99, Char.ofNat 117, Char.ofNat 108, Char.ofNat 108, Char.ofNat 105, Char.ofNat 115, Char.ofNat 108, Char.ofNat 97, Char.ofNat 119, Char.ofNat 49, Char.ofNat 50, Char.ofNat 46, Char.ofNat 76, Char.ofNat 97, Char.ofNat 100, Char.ofNat 100, Char.ofNat 101, Char.ofNat 114, Char.ofNat 84, Char.ofNat 104, Char.ofNat 114, Char.ofNat 101, Char.ofNat 101])).head? == some "cut".toList) = true := by kernel_rfl

theorem head_cut : ∃ r, behindMainWord (wordsSigns Try.prog.initOrder.toList) = "cut".toList :: r := by
  rw [head_list]
  exact List.head?_eq_some_iff.1 (eq_of_beq head_first)

theorem head_strip (r : List (List Char)) : stripLifts liftWords ("cut".toList :: r) = ([], "cut".toList :: r) := by kernel_rfl
theorem head_later : Try.prog.laysLater = false := by kernel_rfl
theorem head_reflect : Try.prog.bearsReflect = false := by kernel_rfl
theorem head_door : Try.prog.doorFits [] = true := by kernel_rfl

theorem enter_of (P : Program) (r : List (List Char)) (h : behindMainWord (wordsSigns P.initOrder.toList) = "cut".toList :: r) (h1 : P.laysLater = false) (h2 : P.bearsReflect = false) (h3 : P.doorFits [] = true) : P.mayEnter = true := by
  unfold Program.mayEnter
  rw [h]
  simp only [head_strip, h1, h2, h3]
  simp

theorem none_of (P : Program) (r : List (List Char)) (h : behindMainWord (wordsSigns P.initOrder.toList) = "cut".toList :: r) : P.headLifts = [] := by
  unfold Program.headLifts
  rw [h]
  simp only [head_strip]
  simp

theorem lifts_of (P : Program) (r : List (List Char)) (h : behindMainWord (wordsSigns P.initOrder.toList) = "cut".toList :: r) : P.liftsFinal = false := by
  unfold Program.liftsFinal
  rw [h, none_of P r h]
  simp

theorem make_of (P : Program) (r : List (List Char)) (h : behindMainWord (wordsSigns P.initOrder.toList) = "cut".toList :: r) : P.make = some .cut := by
  unfold Program.make
  rw [h]
  simp

theorem head_enter : Try.prog.mayEnter = true := by
  obtain ⟨r, h⟩ := head_cut
  exact enter_of _ r h head_later head_reflect head_door
theorem head_lifts : Try.prog.liftsFinal = false := by
  obtain ⟨r, h⟩ := head_cut
  exact lifts_of _ r h
theorem head_make : Try.prog.make = some .cut := by
  obtain ⟨r, h⟩ := head_cut
  exact make_of _ r h

end Go.Proofs.Ytpjkhedodlnloaa
