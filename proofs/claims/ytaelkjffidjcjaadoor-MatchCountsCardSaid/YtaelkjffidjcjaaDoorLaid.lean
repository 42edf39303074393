/- laid: every expression that may be; the sets. -/
import Derived.Test.YtaelkjffidjcjaaDoorLaidC
set_option linter.unusedSimpArgs false
set_option linter.unusedVariables false
namespace Go.Proofs.YtaelkjffidjcjaaDoor
open Go.RowKit PX

theorem laid_any (x : RxA) : LaidOK x := by
  induction x using RxA.ind with
  | h k mn mx s0 s1 s2 s3 a cap l ih =>
    by_cases hf : (RxA.node k mn mx s0 s1 s2 s3 a cap l).bare.formB = true
    · have h := ((formB_iff _ _ _ _ _ _ _ _).1 (by simpa only [RxA.bare] using hf)).1
      rcases h with ⟨rfl, -, -, -, -⟩ | ⟨rfl, -⟩ | ⟨rfl, -⟩ | ⟨rfl, -, -, h0, -, -, h1⟩
      · exact laid_set mn mx s0 s1 s2 s3 a cap l
      · exact laid_seq mn mx s0 s1 s2 s3 a cap l ih
      · exact laid_alt mn mx s0 s1 s2 s3 a cap l ih
      · by_cases hm : mx = -1
        · subst hm
          by_cases hn : mn = 0
          · subst hn; exact laid_repA0 s0 s1 s2 s3 a cap l ih
          · obtain ⟨L, rfl⟩ : ∃ L : Nat, mn = (L : Int) + 1 := ⟨(mn - 1).toNat, by omega⟩
            exact laid_repA1 L s0 s1 s2 s3 a cap l ih
        · exact laid_repB mn mx s0 s1 s2 s3 a cap l hm ih
    · intro w base p B v ws g next _ _ _ _ hf'
      exact absurd hf' hf
end Go.Proofs.YtaelkjffidjcjaaDoor
