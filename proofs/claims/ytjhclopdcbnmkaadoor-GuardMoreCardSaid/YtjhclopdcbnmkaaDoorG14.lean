/- GuardMore answers true. -/
import Derived.Test.YtjhclopdcbnmkaaDoorG13
import Derived.Test.YtjhclopdcbnmkaaDoorCR
set_option linter.unusedSimpArgs false
set_option linter.unusedVariables false
namespace Go.Proofs.YtjhclopdcbnmkaaDoor
open Go.RowKit PX

theorem ba_toList (l : List UInt8) : (⟨l.toArray⟩ : ByteArray).data.toList = l := by simp
theorem bne_of {c : Int} (h : c ≠ 0) : (c != 0) = true := by rw [bne_iff_ne]; exact h
theorem more_any (w : World) (a : Option Addr) (cap : Nat) (l : List RuV) (r : RuV) (S : ByteArray) (hR : RulesIn w a cap l) (hl : (l.length + 1) * 56 ≤ 140737488355328) (hT : TabAt 0 Lib.deBruijn64tab w) :
    Calls Tryd.prog 8 #[.slice a l.length cap, r.val, .string S] w fun e w' => e = .returned (.bool true) ∧ Later w w' := by
  obtain ⟨rf, rt, ra, rp, rq⟩ := r
  have eLR : (l ++ [(⟨rf, rt, ra, rp, rq⟩ : RuV)]).map RuV.bare = l.map RuV.bare ++ [(⟨rf, rt, ra, rp.data.toList, rq.data.toList⟩ : Rul)] := by simp [RuV.bare]
  have e1 : ([(⟨rf, rt, ra, rp, rq⟩ : RuV)]).map RuV.bare = [(⟨rf, rt, ra, rp.data.toList, rq.data.toList⟩ : Rul)] := rfl
  by_cases hc1 : checkG (l.map RuV.bare) 8 = 0
  · by_cases hs : S.size ≤ 200
    · have hs' : S.data.toList.length ≤ 200 := by rw [ba_len]; exact hs
      by_cases hc2 : checkG (l.map RuV.bare ++ [(⟨rf, rt, ra, rp.data.toList, rq.data.toList⟩ : Rul)]) 8 = 0
      · have hc3 := (checkG_more hc2).2
        obtain ⟨-, ⟨x, hx⟩, -⟩ := okB_parts ((checkG_all hc3).2 _ (List.mem_cons_self ..))
        have htk : (⟨rf, rt, ra, rp.data.toList, rq.data.toList⟩ : Rul).takes rf rt S.data.toList = inB x.lang S.data.toList := takes_is rfl rfl hx
        cases hf : firstG rf rt S.data.toList 0 (l.map RuV.bare) with
        | some p =>
          obtain ⟨n, q⟩ := p
          exact more_hit w a cap l rf rt ra rp rq S ⟨(outG q S.data.toList).toArray⟩ n q.act (by omega) ((decide_some hc1 hs' hf).trans (by rw [ba_toList])) (by rw [eLR]; exact (decide_some hc2 hs' (more_same hf)).trans (by rw [ba_toList])) hR hl hT
        | none =>
          have hd1 := decide_none hc1 hs' hf
          cases hi : inB x.lang S.data.toList with
          | false =>
            refine more_no w a cap l rf rt ra rp rq S x hx hs hi hd1 ?_ hR hl hT
            rw [eLR]
            exact decide_none hc2 hs' (by rw [more_new hf, htk, hi]; rfl)
          | true =>
            refine more_new' w a cap l rf rt ra rp rq S x ⟨(outG ⟨rf, rt, ra, rp.data.toList, rq.data.toList⟩ S.data.toList).toArray⟩ ra hx hs hi hd1 ?_ ?_ hR hl hT
            · rw [eLR]
              refine (decide_some (i := (l.map RuV.bare).length) (r := ⟨rf, rt, ra, rp.data.toList, rq.data.toList⟩) hc2 hs' (by rw [more_new hf, htk, hi]; rfl)).trans ?_
              rw [ba_toList, List.length_map]
            · rw [e1]
              refine (decide_some (i := 0) (r := ⟨rf, rt, ra, rp.data.toList, rq.data.toList⟩) hc3 hs' (by rw [firstG_one, htk, hi]; rfl)).trans ?_
              rw [ba_toList]
              rfl
      · have hd2 := decide_bad (fr := rf) (tu := rt) (s := S.data.toList) hc2
        cases hf : firstG rf rt S.data.toList 0 (l.map RuV.bare) with
        | some p =>
          obtain ⟨n, q⟩ := p
          exact more_mid w a cap l rf rt ra rp rq S ⟨(outG q S.data.toList).toArray⟩ n q.act _ (bne_of hc2) ((decide_some hc1 hs' hf).trans (by rw [ba_toList])) (by rw [eLR]; exact hd2) hR hl hT
        | none =>
          exact more_mid w a cap l rf rt ra rp rq S ⟨#[]⟩ (-1) 0 _ (bne_of hc2) (decide_none hc1 hs' hf) (by rw [eLR]; exact hd2) hR hl hT
    · have hs' : 200 < S.data.toList.length := by rw [ba_len]; omega
      by_cases hc2 : checkG (l.map RuV.bare ++ [(⟨rf, rt, ra, rp.data.toList, rq.data.toList⟩ : Rul)]) 8 = 0
      · exact more_bad w a cap l rf rt ra rp rq S 201 201 rfl rfl (decide_long hc1 hs') (by rw [eLR]; exact decide_long hc2 hs') hR hl hT
      · exact more_bad w a cap l rf rt ra rp rq S 201 _ rfl (bne_of hc2) (decide_long hc1 hs') (by rw [eLR]; exact decide_bad hc2) hR hl hT
  · have hc2 : checkG (l.map RuV.bare ++ [(⟨rf, rt, ra, rp.data.toList, rq.data.toList⟩ : Rul)]) 8 ≠ 0 := fun h => hc1 (checkG_more h).1
    exact more_bad w a cap l rf rt ra rp rq S _ _ (bne_of hc1) (bne_of hc2) (decide_bad hc1) (by rw [eLR]; exact decide_bad hc2) hR hl hT
end Go.Proofs.YtjhclopdcbnmkaaDoor
