/- Two numbers among the arguments. -/
import Derived.Test.YtaelkjffidjcjaaDoorCardB
set_option linter.unusedSimpArgs false
set_option linter.unusedVariables false
namespace Go.Proofs.YtaelkjffidjcjaaDoor
open Go.ChangeShapes Go.WideShapes Go.ChangeAt Go.RowKit

theorem cellsTwo : Tryd.prog.cellsOf 41 = 2 := by kernel_rfl
theorem list2 {α : Type} {l : List α} (h : l.length = 2) : ∃ a b, l = [a, b] := by
  match l, h with
  | [a, b], _ => exact ⟨a, b, rfl⟩
set_option maxRecDepth 100000 in
/-- Two numbers among the arguments. -/
theorem open_two {H : Type} {enc : TypeId × Value → H} {W : World} {base : Nat} {sp : Nat → Bool} {held : Bool} {v : Value} {d : DataW H} {p : List MemPlace}
    (hok : Value.okWide Tryd.prog W .any base 41 v) (h : DataW.Trod enc Tryd.prog W 0 sp held 41 v d p) : ∃ a b : Int, v = .agg #[.int .i64 a, .int .i64 b] ∧ I64 a ∧ I64 b := by
  obtain ⟨fuel, hf⟩ := h
  obtain ⟨xs, m, -, -, hl, hxl, hx⟩ := DataW.trod_array Tryd.underlying41 hf
  have z0 := hx 0 (by omega)
  have z1 := hx 1 (by omega)
  clear hx hf
  simp only [Value.okWide, Tryd.underlying41] at hok
  obtain ⟨cs, rfl, hcs, -⟩ := hok
  simp only [Value.cells] at z0 z1 hl
  rw [cellsTwo] at hl
  obtain ⟨c0, c1, hc⟩ := list2 hl
  rw [hc] at z0 z1
  obtain ⟨y0, y1, rfl⟩ := list2 hxl
  simp only [cellsInt, Nat.zero_mul, Nat.one_mul, List.drop_zero, List.drop_succ_cons, List.take_succ_cons, List.take_zero, List.getElem?_cons_zero, List.getElem?_cons_succ] at z0 z1
  obtain ⟨a, ha, -, ha'⟩ := DataW.trod_int Tryd.underlying3 z0
  obtain ⟨b, hb, -, hb'⟩ := DataW.trod_int Tryd.underlying3 z1
  simp only [List.cons.injEq, and_true] at ha hb
  subst ha; subst hb
  refine ⟨a, b, ?_, i64_of_wf ha', i64_of_wf hb'⟩
  congr 1
  apply Array.toList_inj.1
  exact hc
end Go.Proofs.YtaelkjffidjcjaaDoor
