/- The listed variable rootOfMinusOne: its block. -/
import Derived.Test.YtdcbpilibaigmaaDoorRt
import Derived.Test.YtdcbpilibaigmaaDoorLaid
namespace Go.Proofs.YtdcbpilibaigmaaDoor
open Go.RowKit

theorem arr_root {W : World} (h : laidMetH Tryd.prog Rows.fieldRootsRow.laid W) : Arr W 1 (el (rep iN)) := by
  rw [rep_iN]
  exact arr_of_laid (P := Tryd.prog) (name := "portcullis/portcullisref3.rootOfMinusOne") (k := .i64) (zs := [0xa0b0, 0x4a0e, 0x1b27, 0xc4ee, 0xe478, 0xad2f, 0x1806, 0x2f43, 0xd7a7, 0x3dfb, 0x99, 0x2b4d, 0xdf0b, 0x4fc1, 0x2480, 0x2b83])
    (t := 57) (e := 3) (n := 16) (by kernel_rfl) (by kernel_rfl) (by kernel_rfl) Tryd.underlying57 Tryd.underlying3 (by kernel_rfl) (by kernel_rfl) (by decide) h

end Go.Proofs.YtdcbpilibaigmaaDoor
