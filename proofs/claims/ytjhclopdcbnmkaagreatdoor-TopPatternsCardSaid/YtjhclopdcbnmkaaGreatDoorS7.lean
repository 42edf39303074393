/- The walk of the printer's pattern, whole. (Printed by wip/gen_s6.py.) -/
import Derived.Test.YtjhclopdcbnmkaaGreatDoorS6k1
import Derived.Test.YtjhclopdcbnmkaaGreatDoorS6k2
import Derived.Test.YtjhclopdcbnmkaaGreatDoorS6k3
set_option linter.unusedSimpArgs false
set_option linter.unusedVariables false
namespace Go.Proofs.YtjhclopdcbnmkaaGreatDoor
open Go.RowKit PX

theorem pattern_any : ∀ X : RxA, PatOf X := by
  intro X
  induction X using RxA.ind with
  | h k mn mx s0 s1 s2 s3 a cap l ih =>
    intro w B hB hin hf hbig hP
    rcases rx_kinds hf with rfl | rfl | rfl | rfl
    · have hin' := hin
      simp only [RxA.In] at hin'
      obtain ⟨⟨-, -, -, h0⟩, -⟩ := hin'
      refine (pattern_0 w mn mx s0 s1 s2 s3 a cap l.length h0).mono ?_
      rintro e w' ⟨rfl, hl⟩
      refine ⟨?_, hl⟩
      simp [RxA.bare, Rx.text]
    · exact pattern_1 mn mx s0 s1 s2 s3 a cap l ih w B hB hin hf hbig hP
    · exact pattern_2 mn mx s0 s1 s2 s3 a cap l ih w B hB hin hf hbig hP
    · exact pattern_3 mn mx s0 s1 s2 s3 a cap l ih w B hB hin hf hbig hP
end Go.Proofs.YtjhclopdcbnmkaaGreatDoor
