/- What all cards share: an expression among the arguments, opened; an argument that reads as before. -/
import Derived.Test.YtaelkjffidjcjaaDoorLaid2
import Derived.Test.YtaelkjffidjcjaaDoorOr
import Derived.Carry
import Derived.Test.YtaelkjffidjcjaaDoorCards
import Derived.Test.YtaelkjffidjcjaaDoorTie
import Derived.WalkKit
import Derived.Deep.DeepHandedRow
import Derived.Lib.LaidTab
set_option linter.unusedSimpArgs false
set_option linter.unusedVariables false
namespace Go.Proofs.YtaelkjffidjcjaaDoor
open Go.ChangeShapes Go.WideShapes Go.ChangeAt Go.RowKit
open Go.ChangeMaps (open_string shut_string)

theorem own : ownKnob Tryd.prog.godebug = none := by kernel_rfl
theorem laidOut : laidOutB Tryd.prog = true := by kernel_rfl

set_option maxRecDepth 100000 in
/-- An expression among the arguments. -/
theorem open_rx {H : Type} {enc : TypeId × Value → H} {W : World} {base : Nat} {sp : Nat → Bool} {held : Bool} {v : Value} {d : DataW H} {p : List MemPlace}
    (hok : Value.okWide Tryd.prog W .any base 26 v) (h : DataW.Trod enc Tryd.prog W 0 sp held 26 v d p) (hw : ∀ n ∈ d.weights Tryd.prog 26, n ≤ reachBytes) : ∃ X : RxA, v = X.val ∧ X.In W W.heap.size := by
  obtain ⟨fuel, hf⟩ := h
  obtain ⟨X, hX, hin⟩ := open_regex fuel _ _ hf hw
  simp only [Value.okWide, Tryd.underlying26] at hok
  obtain ⟨cs, rfl, -, -⟩ := hok
  refine ⟨X, ?_, hin⟩
  simp only [Value.cells] at hX
  rw [RxA.val, ← hX]
/-- An argument reads as before. -/
theorem back {H : Type} {enc : TypeId × Value → H} {W W' : World} {t : TypeId} {v : Value} {d : DataW H} {p : List MemPlace} (hr : Tryd.prog.readableRec t = true) (hrow : t < Tryd.prog.types.size)
    (h : DataW.Trod enc Tryd.prog W 0 (fun _ => true) true t v d p) (hb : Below W.heap.size W W') (hlt : ∀ x ∈ p, x.block < W.heap.size) : DataW.Trod enc Tryd.prog W' 0 (fun b => decide (b < W.heap.size)) true t v d p :=
  Below.trod laidOut hr hrow h hb hlt
end Go.Proofs.YtaelkjffidjcjaaDoor
