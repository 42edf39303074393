/- What the rows' lists give, and a world in which all that is listed lies. -/
import Derived.Test.YtaelkjffidjcjaaDoorCards
import Derived.Test.YtaelkjffidjcjaaDoorTie
import Derived.Test.YtaelkjffidjcjaaDoorOr
import Derived.Test.YtaelkjffidjcjaaDoorTz
import Derived.WalkKit
import Derived.ProofKit
import Derived.OpenShut
import Derived.Deep.DeepHandedRow
import Derived.Lib.LaidTab
import Derived.ChangeMaps5
set_option linter.unusedSimpArgs false
set_option linter.unusedVariables false
namespace Go.Proofs.YtaelkjffidjcjaaDoor
open Go.ChangeShapes Go.WideShapes Go.ChangeAt Go.RowKit

theorem laidMet_tail {P : Program} {x : String × DataW Unit} {l : List (String × DataW Unit)} {W : World} (h : laidMet P (x :: l) W) : laidMet P l W := by
  obtain ⟨n, d⟩ := x
  obtain ⟨ps, ⟨g, t, cs, fuel, p, q, -, -, -, -, hr, rfl⟩, hnd, hc⟩ := h
  exact ⟨q, hr, (List.nodup_append.1 hnd).2.1, fun b off hb => hc b off (by simp [hb])⟩
/-- The rows' list. -/
abbrev rowLaid : List (String × DataW Unit) := [("math/bits.deBruijn32tab", Rows.laid_math_bits_deBruijn32tab), ("math/bits.deBruijn64tab", Rows.laid_math_bits_deBruijn64tab), ("internal/strconv.uint64pow10", Rows.laid_internal_strconv_uint64pow10), ("unicode/utf8.acceptRanges", Rows.laid_unicode_utf8_acceptRanges), ("strconv.ErrRange", Rows.laid_strconv_ErrRange), ("strconv.ErrSyntax", Rows.laid_strconv_ErrSyntax), ("unicode/utf8.first", Rows.laid_unicode_utf8_first)]
theorem tab_laid {W : World} (h : laidMetH Tryd.prog rowLaid W) : TabAt 0 Lib.deBruijn64tab W := by
  have h1 : laidMet Tryd.prog rowLaid W := h
  have h2 := laidMet_tail h1
  have h3 : Lib.TabIs Tryd.prog W "math/bits.deBruijn64tab" .u8 (Lib.deBruijn64tab.map fun n : Nat => (n : Int)) :=
    Lib.tabIs_of_head (g := 0) (t := 109) (e := 5) (n := 64) (by kernel_rfl) (by kernel_rfl) Tryd.underlying109 Tryd.underlying5 (by kernel_rfl) (by kernel_rfl) h2
  intro j hj
  have := h3.cell (g := 0) (by kernel_rfl) j (by simpa using hj)
  rw [this]
  simp [List.getD_eq_getElem?_getD, hj]

abbrev synS : ByteArray := { data := #[105, 110, 118, 97, 108, 105, 100, 32, 115, 121, 110, 116, 97, 120] }
abbrev rngS : ByteArray := { data := #[118, 97, 108, 117, 101, 32, 111, 117, 116, 32, 111, 102, 32, 114, 97, 110, 103, 101] }
/-- The cells of a datum that is laid: numbers, and arrays and structs of numbers. -/
def cellsOfData : Nat → DataW Unit → List Value
  | 0, _ => []
  | _ + 1, .lit (.int k n) => [.int k n]
  | f + 1, .agg l => l.flatMap (cellsOfData f)
  | _ + 1, _ => []
def putCells (g : Nat) (cs : List Value) (h : Array Obj) : Array Obj := h.modify g fun
  | .cells _ t frozen => .cells cs.toArray t frozen
  | o => o
/-- So many blocks has the settled world. -/
noncomputable def low : Nat := (World.holding Tryd.prog default ⟨#[], #[], []⟩).heap.size
/-- The settled world with two blocks more, each an errors.errorString; the variables hold what their initialisers lay. -/
noncomputable def laidWorld (os : Os) : World :=
  let w0 := World.holding Tryd.prog os ⟨#[.cells #[.string synS] 181, .cells #[.string rngS] 181], #[], []⟩
  { w0 with heap := putCells 0 (cellsOfData 3 Rows.laid_math_bits_deBruijn64tab) (putCells 2 (cellsOfData 3 Rows.laid_internal_strconv_uint64pow10) (putCells 3 [.iface 179 (.pointer (some ⟨low, 0, none⟩))]
      (putCells 4 [.iface 179 (.pointer (some ⟨low + 1, 0, none⟩))] (putCells 5 (cellsOfData 3 Rows.laid_math_bits_deBruijn32tab) (putCells 6 (cellsOfData 3 Rows.laid_unicode_utf8_first)
      (putCells 7 (cellsOfData 3 Rows.laid_unicode_utf8_acceptRanges) w0.heap)))))) }
abbrev rxZero : Value := .agg #[.int .i64 0, .int .i64 0, .int .i64 0, .int .u64 0, .int .u64 0, .int .u64 0, .int .u64 0, .slice none 0 0]
theorem laid_met (os : Os) : laidMet Tryd.prog rowLaid ((laidWorld os).forCall (fun _ _ => 0) ⟨#[], #[rxZero, .string ⟨#[]⟩, .int .i64 0], []⟩).memory :=
  laidMet_of_run' 8 (by kernel_rfl) (by kernel_rfl)
end Go.Proofs.YtaelkjffidjcjaaDoor
