/- What the rows' lists give of the table of the powers of ten. -/
import Derived.Test.YtjhclopdcbnmkaaGreatDoorCB
import Derived.Test.YtjhclopdcbnmkaaGreatDoorS5
set_option linter.unusedSimpArgs false
set_option linter.unusedVariables false
namespace Go.Proofs.YtjhclopdcbnmkaaGreatDoor
open Go.ChangeShapes Go.WideShapes Go.ChangeAt Go.RowKit

theorem pow_laid {W : World} (h : laidMetH Tryz.prog rowLaid W) : PowAt W := by
  have h1 : laidMet Tryz.prog rowLaid W := h
  have h2 := laidMet_tail (laidMet_tail h1)
  exact Lib.tabIs_of_head (g := 2) (t := 172) (e := 22) (n := 20) (by kernel_rfl) (by kernel_rfl) Tryz.underlying172 Tryz.underlying22 (by kernel_rfl) (by kernel_rfl) h2
end Go.Proofs.YtjhclopdcbnmkaaGreatDoor
