/- What the rows' lists give of the table of the powers of ten. -/
import Derived.Test.YtjhclopdcbnmkaaDoorCB
import Derived.Test.YtjhclopdcbnmkaaDoorS5
set_option linter.unusedSimpArgs false
set_option linter.unusedVariables false
namespace Go.Proofs.YtjhclopdcbnmkaaDoor
open Go.ChangeShapes Go.WideShapes Go.ChangeAt Go.RowKit

theorem pow_laid {W : World} (h : laidMetH Tryd.prog rowLaid W) : PowAt W := by
  have h1 : laidMet Tryd.prog rowLaid W := h
  have h2 := laidMet_tail (laidMet_tail h1)
  exact Lib.tabIs_of_head (g := 2) (t := 146) (e := 22) (n := 20) (by kernel_rfl) (by kernel_rfl) Tryd.underlying146 Tryd.underlying22 (by kernel_rfl) (by kernel_rfl) h2
end Go.Proofs.YtjhclopdcbnmkaaDoor
