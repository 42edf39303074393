/- The law's place; the hash's Chain; the walk of AuditBytes. -/
import Derived.Test.YtfpbocjmlhcgiaaGreatDoorAU16
set_option linter.unusedSimpArgs false
set_option linter.unusedVariables false
namespace Go.Proofs.YtfpbocjmlhcgiaaGreatDoor
open Go.RowKit PJ Go.Maps

set_option maxRecDepth 100000 in
theorem lplace_any (w : World) (x : Int) (hx : -9223372036854775808 ≤ x ∧ x ≤ 9223372036854775807) :
    Calls Tryz.prog 10 #[.int .i64 x, .int .i64 12] w fun e w' => e = .returned (.int .i64 (x % 12)) ∧ w = w' := by
  have ht : x.tmod 12 = x % 12 - (if 0 ≤ x ∨ (12 : Int) ∣ x then 0 else 12) := by
    rw [Int.tmod_eq_emod]
    split <;> rfl
  rcases Int.lt_or_le (x.tmod 12) 0 with h | h
  · have e : x.tmod 12 + 12 = x % 12 := by split at ht <;> omega
    have h2 := Int.emod_lt_of_pos x (show (0 : Int) < 12 by omega)
    have h3 := Int.emod_nonneg x (show (12 : Int) ≠ 0 by omega)
    have hwr : IntKind.i64.wrap (x.tmod 12) = x.tmod 12 := by rw [IntKind.wrap_i64]; omega
    have hwr2 : IntKind.i64.wrap (x.tmod 12 + 12) = x.tmod 12 + 12 := by rw [IntKind.wrap_i64]; omega
    clear ht
    go_enter Tryz.func10, Tryz.ntmps10
    go_wp2_with fail
    go_ret
    exact ⟨rfl, rfl⟩
  · have e : x.tmod 12 = x % 12 := by split at ht <;> omega
    have h2 := Int.emod_lt_of_pos x (show (0 : Int) < 12 by omega)
    have hwr : IntKind.i64.wrap (x.tmod 12) = x.tmod 12 := by rw [IntKind.wrap_i64]; omega
    clear ht
    go_enter Tryz.func10, Tryz.ntmps10
    go_wp2_with fail
    go_ret
    exact ⟨rfl, rfl⟩
end Go.Proofs.YtfpbocjmlhcgiaaGreatDoor
