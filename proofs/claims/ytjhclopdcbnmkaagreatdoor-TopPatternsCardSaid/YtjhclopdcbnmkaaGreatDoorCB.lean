/- CB, merged: Laid2 CardB Two. -/
import Derived.Test.YtjhclopdcbnmkaaGreatDoorCards
import Derived.Test.YtjhclopdcbnmkaaGreatDoorTie
import Derived.Test.YtjhclopdcbnmkaaGreatDoorB2b
import Derived.Test.YtjhclopdcbnmkaaGreatDoorB4
import Derived.WalkKit
import Derived.ProofKit
import Derived.OpenShut
import Derived.Deep.DeepHandedRow
import Derived.Lib.LaidTab
import Derived.ChangeMaps5
import Derived.Carry
set_option linter.unusedSimpArgs false
set_option linter.unusedVariables false
/- What the rows' lists give, and a world in which all that is listed lies. -/
namespace Go.Proofs.YtjhclopdcbnmkaaGreatDoor
open Go.ChangeShapes Go.WideShapes Go.ChangeAt Go.RowKit

theorem laidMet_tail {P : Program} {x : String × DataW Unit} {l : List (String × DataW Unit)} {W : World} (h : laidMet P (x :: l) W) : laidMet P l W := by
  obtain ⟨n, d⟩ := x
  obtain ⟨ps, ⟨g, t, cs, fuel, p, q, -, -, -, -, hr, rfl⟩, hnd, hc⟩ := h
  exact ⟨q, hr, (List.nodup_append.1 hnd).2.1, fun b off hb => hc b off (by simp [hb])⟩
/-- The rows' list. -/
abbrev rowLaid : List (String × DataW Unit) := [("math/bits.deBruijn32tab", Rows.laid_math_bits_deBruijn32tab), ("math/bits.deBruijn64tab", Rows.laid_math_bits_deBruijn64tab), ("internal/strconv.uint64pow10", Rows.laid_internal_strconv_uint64pow10), ("unicode/utf8.acceptRanges", Rows.laid_unicode_utf8_acceptRanges), ("strconv.ErrRange", Rows.laid_strconv_ErrRange), ("strconv.ErrSyntax", Rows.laid_strconv_ErrSyntax), ("unicode/utf8.first", Rows.laid_unicode_utf8_first)]
theorem tab_laid {W : World} (h : laidMetH Tryz.prog rowLaid W) : TabAt 0 Lib.deBruijn64tab W := by
  have h1 : laidMet Tryz.prog rowLaid W := h
  have h2 := laidMet_tail h1
  have h3 : Lib.TabIs Tryz.prog W "math/bits.deBruijn64tab" .u8 (Lib.deBruijn64tab.map fun n : Nat => (n : Int)) :=
    Lib.tabIs_of_head (g := 0) (t := 151) (e := 5) (n := 64) (by kernel_rfl) (by kernel_rfl) Tryz.underlying151 Tryz.underlying5 (by kernel_rfl) (by kernel_rfl) h2
  intro j hj
  have := h3.cell (g := 0) (by kernel_rfl) j (by simpa using hj)
  rw [this]
  simp [List.getD_eq_getElem?_getD, hj]

abbrev synS : ByteArray := { data := #[105, 110, 118, 97, 108, 105, 100, 32, 115, 121, 110, 116, 97, 120] }
abbrev rngS : ByteArray := { data := #[118, 97, 108, 117, 101, 32, 111, 117, 116, 32, 111, 102, 32, 114, 97, 110, 103, 101] }
/-- The cells of a datum that is laid: numbers, and arrays and structs of numbers. -/
def cellsOfData : Nat → DataW Unit → List Value
  | 0, _ => []
  | _ + 1, .lit (.int k n) => [.int k n]
  | f + 1, .agg l => l.flatMap (cellsOfData f)
  | _ + 1, _ => []
def putCells (g : Nat) (cs : List Value) (h : Array Obj) : Array Obj := h.modify g fun
  | .cells _ t frozen => .cells cs.toArray t frozen
  | o => o
/-- So many blocks has the settled world. -/
noncomputable def low : Nat := (World.holding Tryz.prog default ⟨#[], #[], []⟩).heap.size
/-- The settled world with two blocks more, each an errors.errorString; the variables hold what their initialisers lay. -/
noncomputable def laidWorld (os : Os) : World :=
  let w0 := World.holding Tryz.prog os ⟨#[.cells #[.string synS] 202, .cells #[.string rngS] 202], #[], []⟩
  { w0 with heap := putCells 0 (cellsOfData 3 Rows.laid_math_bits_deBruijn64tab) (putCells 2 (cellsOfData 3 Rows.laid_internal_strconv_uint64pow10) (putCells 3 [.iface 200 (.pointer (some ⟨low, 0, none⟩))]
      (putCells 4 [.iface 200 (.pointer (some ⟨low + 1, 0, none⟩))] (putCells 5 (cellsOfData 3 Rows.laid_math_bits_deBruijn32tab) (putCells 6 (cellsOfData 3 Rows.laid_unicode_utf8_first)
      (putCells 7 (cellsOfData 3 Rows.laid_unicode_utf8_acceptRanges) w0.heap)))))) }
abbrev rxZero : Value := .agg #[.int .i64 0, .int .i64 0, .int .i64 0, .int .u64 0, .int .u64 0, .int .u64 0, .int .u64 0, .slice none 0 0]
theorem laid_met (os : Os) : laidMet Tryz.prog rowLaid ((laidWorld os).forCall (fun _ _ => 0) ⟨#[], #[rxZero, .string ⟨#[]⟩, .int .i64 0], []⟩).memory :=
  laidMet_of_run' 8 (by kernel_rfl) (by kernel_rfl)
end Go.Proofs.YtjhclopdcbnmkaaGreatDoor

/- What all cards share: an expression among the arguments, opened; an argument that reads as before. -/
namespace Go.Proofs.YtjhclopdcbnmkaaGreatDoor
open Go.ChangeShapes Go.WideShapes Go.ChangeAt Go.RowKit
open Go.ChangeMaps (open_string shut_string)

theorem own : ownKnob Tryz.prog.godebug = none := by kernel_rfl
theorem laidOut : laidOutB Tryz.prog = true := by kernel_rfl

set_option maxRecDepth 100000 in
/-- An expression among the arguments. -/
theorem open_rx {H : Type} {enc : TypeId × Value → H} {W : World} {base : Nat} {sp : Nat → Bool} {held : Bool} {v : Value} {d : DataW H} {p : List MemPlace}
    (hok : Value.okWide Tryz.prog W .any base 26 v) (h : DataW.Trod enc Tryz.prog W 0 sp held 26 v d p) (hw : ∀ n ∈ d.weights Tryz.prog 26, n ≤ reachBytes) : ∃ X : RxA, v = X.val ∧ X.In W W.heap.size := by
  obtain ⟨fuel, hf⟩ := h
  obtain ⟨X, hX, hin⟩ := open_regex fuel _ _ hf hw
  simp only [Value.okWide, Tryz.underlying26] at hok
  obtain ⟨cs, rfl, -, -⟩ := hok
  refine ⟨X, ?_, hin⟩
  simp only [Value.cells] at hX
  rw [RxA.val, ← hX]
/-- An argument reads as before. -/
theorem back {H : Type} {enc : TypeId × Value → H} {W W' : World} {t : TypeId} {v : Value} {d : DataW H} {p : List MemPlace} (hr : Tryz.prog.readableRec t = true) (hrow : t < Tryz.prog.types.size)
    (h : DataW.Trod enc Tryz.prog W 0 (fun _ => true) true t v d p) (hb : Below W.heap.size W W') (hlt : ∀ x ∈ p, x.block < W.heap.size) : DataW.Trod enc Tryz.prog W' 0 (fun b => decide (b < W.heap.size)) true t v d p :=
  Below.trod laidOut hr hrow h hb hlt
end Go.Proofs.YtjhclopdcbnmkaaGreatDoor

/- Two numbers among the arguments. -/
namespace Go.Proofs.YtjhclopdcbnmkaaGreatDoor
open Go.ChangeShapes Go.WideShapes Go.ChangeAt Go.RowKit

theorem cellsTwo : Tryz.prog.cellsOf 61 = 2 := by kernel_rfl
theorem list2 {α : Type} {l : List α} (h : l.length = 2) : ∃ a b, l = [a, b] := by
  match l, h with
  | [a, b], _ => exact ⟨a, b, rfl⟩
set_option maxRecDepth 100000 in
/-- Two numbers among the arguments. -/
theorem open_two {H : Type} {enc : TypeId × Value → H} {W : World} {base : Nat} {sp : Nat → Bool} {held : Bool} {v : Value} {d : DataW H} {p : List MemPlace}
    (hok : Value.okWide Tryz.prog W .any base 61 v) (h : DataW.Trod enc Tryz.prog W 0 sp held 61 v d p) : ∃ a b : Int, v = .agg #[.int .i64 a, .int .i64 b] ∧ I64 a ∧ I64 b := by
  obtain ⟨fuel, hf⟩ := h
  obtain ⟨xs, m, -, -, hl, hxl, hx⟩ := DataW.trod_array Tryz.underlying61 hf
  have z0 := hx 0 (by omega)
  have z1 := hx 1 (by omega)
  clear hx hf
  simp only [Value.okWide, Tryz.underlying61] at hok
  obtain ⟨cs, rfl, hcs, -⟩ := hok
  simp only [Value.cells] at z0 z1 hl
  rw [cellsTwo] at hl
  obtain ⟨c0, c1, hc⟩ := list2 hl
  rw [hc] at z0 z1
  obtain ⟨y0, y1, rfl⟩ := list2 hxl
  simp only [cellsInt, Nat.zero_mul, Nat.one_mul, List.drop_zero, List.drop_succ_cons, List.take_succ_cons, List.take_zero, List.getElem?_cons_zero, List.getElem?_cons_succ] at z0 z1
  obtain ⟨a, ha, -, ha'⟩ := DataW.trod_int Tryz.underlying3 z0
  obtain ⟨b, hb, -, hb'⟩ := DataW.trod_int Tryz.underlying3 z1
  simp only [List.cons.injEq, and_true] at ha hb
  subst ha; subst hb
  refine ⟨a, b, ?_, i64_of_wf ha', i64_of_wf hb'⟩
  congr 1
  apply Array.toList_inj.1
  exact hc
end Go.Proofs.YtjhclopdcbnmkaaGreatDoor
