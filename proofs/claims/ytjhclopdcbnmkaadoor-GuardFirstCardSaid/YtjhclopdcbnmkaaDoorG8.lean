/- The walk of GuardHides. -/
import Derived.Test.YtjhclopdcbnmkaaDoorG7
set_option linter.unusedSimpArgs false
set_option linter.unusedVariables false
namespace Go.Proofs.YtjhclopdcbnmkaaDoor
open Go.RowKit PX

def hv (P Q : ByteArray) : RuV := ⟨1, 0, 2, P, Q⟩
def hb (P Q : ByteArray) : Rul := ⟨1, 0, 2, P.data.toList, Q.data.toList⟩
theorem hv_bare (P Q : ByteArray) : [hv P Q].map RuV.bare = [hb P Q] := rfl
theorem hv_in (w : World) (P Q : ByteArray) : RulesIn (w.alloc (.cells #[.int .i64 1, .int .i64 0, .int .i64 2, .string P, .string Q] 50)) (some ⟨w.heap.size, 0, none⟩) 1 [hv P Q] := by
  refine ⟨Nat.le_refl _, by omega, .inr ⟨w.heap.size, 0, rfl, lt_of_block (alloc_block w _), fun i hi j hj => ?_⟩⟩
  rw [cell_of_block (alloc_block w _)]
  have hi3 : i < 1 := hi
  obtain rfl : i = 0 := by omega
  rcases (by omega : j = 0 ∨ j = 1 ∨ j = 2 ∨ j = 3 ∨ j = 4) with rfl | rfl | rfl | rfl | rfl <;> rfl
theorem hb_check (P Q : ByteArray) : checkG [hb P Q] 2 = checkG [hb P Q] 8 := by
  unfold checkG
  simp [Rul.okB, hb]
theorem hdec {P Q S : ByteArray} {D : Int × Int × List UInt8 × Int} (hD : decideG [hb P Q] 1 0 S.data.toList = D) (w : World) (a : Option Addr) (h : RulesIn w a 1 [hv P Q]) (hT : TabAt 0 Lib.deBruijn64tab w) :
    Calls Tryd.prog 17 #[.slice a 1 1, .int .i64 1, .int .i64 0, .string S] w fun e w' => e = .returned (.tuple #[.agg #[.int .i64 D.1, .int .i64 D.2.1, .string ⟨D.2.2.1.toArray⟩], .int .i64 D.2.2.2]) ∧ Later w w' := by
  rw [← hD]
  exact decide_any w a 1 [hv P Q] 1 0 S h hT
theorem hchk {P Q : ByteArray} {c : Int} (hc : checkG [hb P Q] 8 = c) (w : World) (a : Option Addr) (h : RulesIn w a 1 [hv P Q]) :
    Calls Tryd.prog 27 #[.slice a 1 1, .int .i64 2] w fun e w' => e = .returned (.int .i64 c) ∧ Later w w' := by
  rw [← hc, ← hb_check]
  exact check_any w a 1 [hv P Q] 2 h
theorem hof {S : ByteArray} {x : Rx} (h : parseR S.data.toList = .inl x) (w : World) :
    Calls Tryd.prog 19 #[.string S] w fun e w' => ∃ p, e = .returned (.tuple #[.pointer (some ⟨p, 0, none⟩), .int .i64 0]) ∧ w.heap.size ≤ p ∧ Machine w' p x ∧ Below w.heap.size w w' :=
  of_good w S x h (by obtain ⟨h1, h2⟩ := parseR_form h; unfold checkR; rw [if_pos h1, if_neg (by omega)])
theorem hb_ok {P Q : ByteArray} (h : checkG [hb P Q] 8 = 0) : (∃ x, parseR P.data.toList = .inl x) ∧ ∃ y, parseR Q.data.toList = .inl y := by
  obtain ⟨-, h1, h2⟩ := okB_parts ((checkG_all h).2 _ (List.mem_cons_self ..))
  exact ⟨h1, h2 rfl⟩
theorem hb_none {P Q : ByteArray} {x : Rx} (hx : parseR P.data.toList = .inl x) {s : List UInt8} (h : inB x.lang s = false) : firstG 1 0 s 0 [hb P Q] = none := by
  simp only [firstG]
  rw [takes_is (r := hb P Q) (fr := 1) (tu := 0) rfl rfl hx, h]
  rfl
theorem hb_some {P Q : ByteArray} {x : Rx} (hx : parseR P.data.toList = .inl x) {s : List UInt8} (h : inB x.lang s = true) : firstG 1 0 s 0 [hb P Q] = some (0, hb P Q) := by
  simp only [firstG]
  rw [takes_is (r := hb P Q) (fr := 1) (tu := 0) rfl rfl hx, h]
  rfl
end Go.Proofs.YtjhclopdcbnmkaaDoor

