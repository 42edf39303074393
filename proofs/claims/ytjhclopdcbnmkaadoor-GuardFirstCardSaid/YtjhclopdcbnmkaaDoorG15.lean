/- GuardFirst answers true. -/
import Derived.Test.YtjhclopdcbnmkaaDoorG11
import Derived.Test.YtjhclopdcbnmkaaDoorCR
set_option linter.unusedSimpArgs false
set_option linter.unusedVariables false
namespace Go.Proofs.YtjhclopdcbnmkaaDoor
open Go.RowKit PX

theorem first_any (w : World) (a : Option Addr) (cap : Nat) (l : List RuV) (fr tu lv : Int) (S : ByteArray) (hR : RulesIn w a cap l) (hT : TabAt 0 Lib.deBruijn64tab w) :
    Calls Tryd.prog 7 #[.slice a l.length cap, .agg #[.int .i64 fr, .int .i64 tu, .int .i64 lv], .string S] w fun e w' => e = .returned (.bool true) ∧ Later w w' := by
  by_cases hc1 : checkG (l.map RuV.bare) 8 = 0
  · by_cases hs : S.size ≤ 200
    · have hs' : S.data.toList.length ≤ 200 := by rw [ba_len]; exact hs
      cases hf : firstG fr tu S.data.toList 0 (l.map RuV.bare) with
      | some p =>
        obtain ⟨n, q⟩ := p
        exact first_ok w a cap l fr tu lv S ⟨(outG q S.data.toList).toArray⟩ n q.act hR hc1 hs ((decide_some hc1 hs' hf).trans (by simp)) hT
      | none => exact first_ok w a cap l fr tu lv S ⟨#[]⟩ (-1) 0 hR hc1 hs (decide_none hc1 hs' hf) hT
    · exact first_bad w a cap l fr tu lv S 201 hR rfl (decide_long hc1 (by rw [ba_len]; omega)) hT
  · exact first_bad w a cap l fr tu lv S _ hR (by rw [bne_iff_ne]; exact hc1) (decide_bad hc1) hT
end Go.Proofs.YtjhclopdcbnmkaaDoor
