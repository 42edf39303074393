/- The walk of GuardMore. (Printed by wip/gen_more.py.) -/
import Derived.Test.YtjhclopdcbnmkaaDoorG12
import Derived.BigQuiet
set_option linter.unusedSimpArgs false
set_option linter.unusedVariables false
namespace Go.Proofs.YtjhclopdcbnmkaaDoor
open Go.RowKit PX

set_option maxRecDepth 100000 in
set_option maxHeartbeats 2000000 in
theorem more_bad (w : World) (a : Option Addr) (cap : Nat) (l : List RuV) (rf rt ra : Int) (rp rq S : ByteArray) (c1 c2 : Int) (hn1 : (c1 != 0) = true) (hn2 : (c2 != 0) = true) (hD1 : decideG (l.map RuV.bare) rf rt S.data.toList = (0, 0, [], c1)) (hD2 : decideG ((l ++ [(⟨rf, rt, ra, rp, rq⟩ : RuV)]).map RuV.bare) rf rt S.data.toList = (0, 0, [], c2)) (hR : RulesIn w a cap l) (hl : (l.length + 1) * 56 ≤ 140737488355328) (hT : TabAt 0 Lib.deBruijn64tab w) :
    Calls Tryd.prog 8 #[.slice a l.length cap, .agg #[.int .i64 rf, .int .i64 rt, .int .i64 ra, .string rp, .string rq], .string S] w fun e w' => e = .returned (.bool true) ∧ Later w w' := by
  obtain ⟨m, hm⟩ : ∃ m, l.length = m := ⟨_, rfl⟩
  obtain ⟨W0, hW0⟩ : ∃ W0, (w.alloc (.cells #[.int .i64 rf, .int .i64 rt, .int .i64 ra, .string rp, .string rq] 50)) = W0 := ⟨_, rfl⟩
  have h0 : Later w W0 := by rw [← hW0]; exact (Later.refl w).alloc _
  have HRA : Hid (∀ w1, Later W0 w1 → RulesIn w1 a cap l) := Lib.hid (fun w1 h1 => hR.later (h0.trans h1))
  have HT := Lib.hid (fun w1 (h1 : Later w w1) => TabAt.below hT h1)
  have HFIX := Lib.hid (fun w1 (h1 : Later w w1) => gfixed_any w1 (TabAt.below hT h1))
  have HB0 : Hid (∀ w1, Later W0 w1 → w1.heap[w.heap.size]? = some (.cells #[.int .i64 rf, .int .i64 rt, .int .i64 ra, .string rp, .string rq] 50 (0, 0))) := Lib.hid (fun w1 h1 => by
    have h2 : W0.heap[w.heap.size]? = some (.cells #[.int .i64 rf, .int .i64 rt, .int .i64 ra, .string rp, .string rq] 50 (0, 0)) := by rw [← hW0]; exact alloc_block w _
    exact h1.block h2)
  have HD1 := Lib.hid (fun w1 (h1 : Later W0 w1) => (show Calls Tryd.prog 17 #[.slice a m cap, .int .i64 rf, .int .i64 rt, .string S] w1 fun e w' => e = .returned (.tuple #[.agg #[.int .i64 0, .int .i64 0, .string ⟨#[]⟩], .int .i64 c1]) ∧ Later w1 w' from by
    have h2 := decide_any w1 a cap l rf rt S (HRA.out w1 h1) (HT.out w1 (h0.trans h1))
    rw [hm, hD1] at h2
    exact h2))
  have HD2 := Lib.hid (fun w1 a' cap' (h1 : Later W0 w1) (hr : RulesIn w1 a' cap' (l ++ [(⟨rf, rt, ra, rp, rq⟩ : RuV)])) => (show Calls Tryd.prog 17 #[.slice a' (m + 1) cap', .int .i64 rf, .int .i64 rt, .string S] w1 fun e w' => e = .returned (.tuple #[.agg #[.int .i64 0, .int .i64 0, .string ⟨#[]⟩], .int .i64 c2]) ∧ Later w1 w' from by
    have h2 := decide_any w1 a' cap' (l ++ [(⟨rf, rt, ra, rp, rq⟩ : RuV)]) rf rt S hr (HT.out w1 (h0.trans h1))
    rw [List.length_append, List.length_singleton, hm, hD2] at h2
    exact h2))
  have HM := Lib.hid hm
  have hlm : (m + 1) * 56 ≤ 140737488355328 := by omega
  have HLM := Lib.hid hlm
  have hlm2 : (([] : List RuV).length + l.length) * 56 ≤ 140737488355328 := by rw [hm]; simp only [List.length_nil]; omega
  have HLM2 := Lib.hid hlm2
  have HW0 := Lib.hid hW0
  rw [hm]
  clear hT hR hl hm hlm hlm2 hW0 hD1 hD2
  have p0 : W0.cell? ⟨w.heap.size, 0, none⟩ = some (.int .i64 rf) := cell_of_block (HB0.out W0 (Later.refl _)) 0
  have p1 : W0.cell? ⟨w.heap.size, 1, none⟩ = some (.int .i64 rt) := cell_of_block (HB0.out W0 (Later.refl _)) 1
  have p2 : W0.cell? ⟨w.heap.size, 2, none⟩ = some (.int .i64 ra) := cell_of_block (HB0.out W0 (Later.refl _)) 2
  have p3 : W0.cell? ⟨w.heap.size, 3, none⟩ = some (.string rp) := cell_of_block (HB0.out W0 (Later.refl _)) 3
  have p4 : W0.cell? ⟨w.heap.size, 4, none⟩ = some (.string rq) := cell_of_block (HB0.out W0 (Later.refl _)) 4
  have hsz0 : w.heap.size + 1 = W0.heap.size := by rw [← HW0.out]; simp
  have HSZ := Lib.hid hsz0
  have hlt0 : w.heap.size < W0.heap.size := by omega
  clear hsz0
  go_enter Tryd.func8, Tryd.ntmps8
  go_upto_region 1 with fail
  rw [HW0.out]
  go_cut [7] from 18 to 23 (fun v wx => ∃ a' cap', v = .slice a' (m + 1) cap' ∧ RulesIn wx a' cap' (l ++ [(⟨rf, rt, ra, rp, rq⟩ : RuV)]) ∧ Later W0 wx)
  case first =>
    go_region_law (first
      | (refine step_rules_onto rfl (.tmp 18) (.tmp 19) rfl (W0 := W0) (by repeat (first | assumption | exact Later.refl _ | refine Later.alloc ?_ _ | refine Later.drew ?_ | refine Later.trans ?_ (by assumption))) _ [] l (by rfl) (own_empty (by first | exact alloc_block _ _ | exact alloc_block' _ _ _ (by simp) | exact alloc_old (alloc_block _ _) _) (by simp)) a m cap HM.out (by rfl) (HRA.out _ (by repeat (first | assumption | exact Later.refl _ | refine Later.alloc ?_ _ | refine Later.drew ?_ | refine Later.trans ?_ (by assumption)))) HLM2.out ?_
         intro v1 w1 hown1 hl1 hk1
         have p0 : w1.cell? ⟨w.heap.size, 0, none⟩ = some (.int .i64 rf) := cell_of_block (HB0.out w1 hl1) 0
         have p1 : w1.cell? ⟨w.heap.size, 1, none⟩ = some (.int .i64 rt) := cell_of_block (HB0.out w1 hl1) 1
         have p2 : w1.cell? ⟨w.heap.size, 2, none⟩ = some (.int .i64 ra) := cell_of_block (HB0.out w1 hl1) 2
         have p3 : w1.cell? ⟨w.heap.size, 3, none⟩ = some (.string rp) := cell_of_block (HB0.out w1 hl1) 3
         have p4 : w1.cell? ⟨w.heap.size, 4, none⟩ = some (.string rq) := cell_of_block (HB0.out w1 hl1) 4
         have HO1 := Lib.hid hown1
         have HK1 := Lib.hid hk1
         clear hown1 hk1)
      | (refine step_rules_onto rfl (.tmp 20) (.tmp 22) rfl (W0 := W0) (by repeat (first | assumption | exact Later.refl _ | refine Later.alloc ?_ _ | refine Later.drew ?_ | refine Later.trans ?_ (by assumption))) _ l [(⟨rf, rt, ra, rp, rq⟩ : RuV)] (by rfl) (by first | exact HO1.out | exact HO1.out.alloc _) _ 1 1 rfl (by rfl) (rule_block (by first | exact alloc_block _ _ | exact alloc_block' _ _ _ (by simp) | (exact HK1.out _ _ (by first | exact alloc_block' _ _ _ (by simp) | exact alloc_old (alloc_block _ _) _ | exact alloc_block _ _) (by simp [Value.ownBlock])))) (by rw [HM.out]; exact HLM.out) ?_
         intro v2 w2 hown2 hl2 hk2
         have HO2 := Lib.hid hown2
         clear hown2 hk2)
      | fail)
    all_goals
      go_wp2_with fail
      go_meet
      case rel =>
        obtain ⟨a2, cap2, rfl, hin2⟩ := rules_of_row HO2.out
        exact ⟨a2, cap2, by rw [List.length_append, HM.out]; rfl, hin2, hl2⟩
  case rest =>
    clear hlt0
    obtain ⟨a2, cap2, rfl, hr2, hlc⟩ := hcut
    have HR2 := Lib.hid (fun w1 (h1 : Later wc w1) => hr2.later h1)
    clear hr2
    clear p0 p1 p2 p3 p4
    have p0 : wc.cell? ⟨w.heap.size, 0, none⟩ = some (.int .i64 rf) := cell_of_block (HB0.out wc hlc) 0
    have p1 : wc.cell? ⟨w.heap.size, 1, none⟩ = some (.int .i64 rt) := cell_of_block (HB0.out wc hlc) 1
    have p3 : wc.cell? ⟨w.heap.size, 3, none⟩ = some (.string rp) := cell_of_block (HB0.out wc hlc) 3
    go_wp2_with (first
      | (go_at_call 17; (with_reducible refine (HD1.out _ (by repeat (first | assumption | exact Later.refl _ | refine Later.alloc ?_ _ | refine Later.drew ?_ | refine Later.trans ?_ (by assumption)))).mono ?_); rintro e w3 ⟨rfl, hl3⟩; have HE3 := Lib.hid (alloc_block w3 (.cells #[.int .i64 0, .int .i64 0, .string ⟨#[]⟩] 46)); have h03 : Later W0 (w3.alloc (.cells #[.int .i64 0, .int .i64 0, .string ⟨#[]⟩] 46)) := (hlc.trans hl3).alloc _; have g0 : (w3.alloc (.cells #[.int .i64 0, .int .i64 0, .string ⟨#[]⟩] 46)).cell? ⟨w.heap.size, 0, none⟩ = some (.int .i64 rf) := cell_of_block (HB0.out _ h03) 0; have g1 : (w3.alloc (.cells #[.int .i64 0, .int .i64 0, .string ⟨#[]⟩] 46)).cell? ⟨w.heap.size, 1, none⟩ = some (.int .i64 rt) := cell_of_block (HB0.out _ h03) 1; have g3 : (w3.alloc (.cells #[.int .i64 0, .int .i64 0, .string ⟨#[]⟩] 46)).cell? ⟨w.heap.size, 3, none⟩ = some (.string rp) := cell_of_block (HB0.out _ h03) 3; clear HD1)
      | (go_at_call 17; (with_reducible refine (HD2.out _ _ _ (by repeat (first | assumption | exact Later.refl _ | refine Later.alloc ?_ _ | refine Later.drew ?_ | refine Later.trans ?_ (by assumption))) (HR2.out _ (by repeat (first | assumption | exact Later.refl _ | refine Later.alloc ?_ _ | refine Later.drew ?_ | refine Later.trans ?_ (by assumption))))).mono ?_); rintro e w4 ⟨rfl, hl4⟩; have HE4 := Lib.hid (alloc_block w4 (.cells #[.int .i64 0, .int .i64 0, .string ⟨#[]⟩] 46)); have h34 : Later (w3.alloc (.cells #[.int .i64 0, .int .i64 0, .string ⟨#[]⟩] 46)) (w4.alloc (.cells #[.int .i64 0, .int .i64 0, .string ⟨#[]⟩] 46)) := hl4.alloc _; have HE34 := Lib.hid (h34.block HE3.out); have d0 : (w4.alloc (.cells #[.int .i64 0, .int .i64 0, .string ⟨#[]⟩] 46)).cell? ⟨w3.heap.size, 0, none⟩ = some (.int .i64 0) := cell_of_block (HE34.out) 0; have d1 : (w4.alloc (.cells #[.int .i64 0, .int .i64 0, .string ⟨#[]⟩] 46)).cell? ⟨w3.heap.size, 1, none⟩ = some (.int .i64 0) := cell_of_block (HE34.out) 1; have d2 : (w4.alloc (.cells #[.int .i64 0, .int .i64 0, .string ⟨#[]⟩] 46)).cell? ⟨w3.heap.size, 2, none⟩ = some (.string ⟨#[]⟩) := cell_of_block (HE34.out) 2; have k0 : (w4.alloc (.cells #[.int .i64 0, .int .i64 0, .string ⟨#[]⟩] 46)).cell? ⟨w.heap.size, 0, none⟩ = some (.int .i64 rf) := cell_of_block (HB0.out _ (h03.trans h34)) 0; have k1 : (w4.alloc (.cells #[.int .i64 0, .int .i64 0, .string ⟨#[]⟩] 46)).cell? ⟨w.heap.size, 1, none⟩ = some (.int .i64 rt) := cell_of_block (HB0.out _ (h03.trans h34)) 1; have k3 : (w4.alloc (.cells #[.int .i64 0, .int .i64 0, .string ⟨#[]⟩] 46)).cell? ⟨w.heap.size, 3, none⟩ = some (.string rp) := cell_of_block (HB0.out _ (h03.trans h34)) 3; clear HD2)
      | (go_at_call 18; (with_reducible refine (HFIX.out _ (by repeat (first | assumption | exact Later.refl _ | refine Later.alloc ?_ _ | refine Later.drew ?_ | refine Later.trans ?_ (by assumption)))).mono ?_); rintro e w5 ⟨rfl, hl5⟩)
      | fail)
    go_ret
    exact ⟨rfl, (by repeat (first | assumption | exact Later.refl _ | refine Later.alloc ?_ _ | refine Later.drew ?_ | refine Later.trans ?_ (by assumption)))⟩
set_option maxRecDepth 100000 in
set_option maxHeartbeats 2000000 in
theorem more_mid (w : World) (a : Option Addr) (cap : Nat) (l : List RuV) (rf rt ra : Int) (rp rq S : ByteArray) (OUT : ByteArray) (f0 ac c2 : Int) (hn2 : (c2 != 0) = true) (hD1 : decideG (l.map RuV.bare) rf rt S.data.toList = (f0, ac, OUT.data.toList, 0)) (hD2 : decideG ((l ++ [(⟨rf, rt, ra, rp, rq⟩ : RuV)]).map RuV.bare) rf rt S.data.toList = (0, 0, [], c2)) (hR : RulesIn w a cap l) (hl : (l.length + 1) * 56 ≤ 140737488355328) (hT : TabAt 0 Lib.deBruijn64tab w) :
    Calls Tryd.prog 8 #[.slice a l.length cap, .agg #[.int .i64 rf, .int .i64 rt, .int .i64 ra, .string rp, .string rq], .string S] w fun e w' => e = .returned (.bool true) ∧ Later w w' := by
  obtain ⟨m, hm⟩ : ∃ m, l.length = m := ⟨_, rfl⟩
  obtain ⟨W0, hW0⟩ : ∃ W0, (w.alloc (.cells #[.int .i64 rf, .int .i64 rt, .int .i64 ra, .string rp, .string rq] 50)) = W0 := ⟨_, rfl⟩
  have h0 : Later w W0 := by rw [← hW0]; exact (Later.refl w).alloc _
  have HRA : Hid (∀ w1, Later W0 w1 → RulesIn w1 a cap l) := Lib.hid (fun w1 h1 => hR.later (h0.trans h1))
  have HT := Lib.hid (fun w1 (h1 : Later w w1) => TabAt.below hT h1)
  have HFIX := Lib.hid (fun w1 (h1 : Later w w1) => gfixed_any w1 (TabAt.below hT h1))
  have HB0 : Hid (∀ w1, Later W0 w1 → w1.heap[w.heap.size]? = some (.cells #[.int .i64 rf, .int .i64 rt, .int .i64 ra, .string rp, .string rq] 50 (0, 0))) := Lib.hid (fun w1 h1 => by
    have h2 : W0.heap[w.heap.size]? = some (.cells #[.int .i64 rf, .int .i64 rt, .int .i64 ra, .string rp, .string rq] 50 (0, 0)) := by rw [← hW0]; exact alloc_block w _
    exact h1.block h2)
  have HD1 := Lib.hid (fun w1 (h1 : Later W0 w1) => (show Calls Tryd.prog 17 #[.slice a m cap, .int .i64 rf, .int .i64 rt, .string S] w1 fun e w' => e = .returned (.tuple #[.agg #[.int .i64 f0, .int .i64 ac, .string OUT], .int .i64 0]) ∧ Later w1 w' from by
    have h2 := decide_any w1 a cap l rf rt S (HRA.out w1 h1) (HT.out w1 (h0.trans h1))
    rw [hm, hD1] at h2
    exact h2))
  have HD2 := Lib.hid (fun w1 a' cap' (h1 : Later W0 w1) (hr : RulesIn w1 a' cap' (l ++ [(⟨rf, rt, ra, rp, rq⟩ : RuV)])) => (show Calls Tryd.prog 17 #[.slice a' (m + 1) cap', .int .i64 rf, .int .i64 rt, .string S] w1 fun e w' => e = .returned (.tuple #[.agg #[.int .i64 0, .int .i64 0, .string ⟨#[]⟩], .int .i64 c2]) ∧ Later w1 w' from by
    have h2 := decide_any w1 a' cap' (l ++ [(⟨rf, rt, ra, rp, rq⟩ : RuV)]) rf rt S hr (HT.out w1 (h0.trans h1))
    rw [List.length_append, List.length_singleton, hm, hD2] at h2
    exact h2))
  have HM := Lib.hid hm
  have hlm : (m + 1) * 56 ≤ 140737488355328 := by omega
  have HLM := Lib.hid hlm
  have hlm2 : (([] : List RuV).length + l.length) * 56 ≤ 140737488355328 := by rw [hm]; simp only [List.length_nil]; omega
  have HLM2 := Lib.hid hlm2
  have HW0 := Lib.hid hW0
  rw [hm]
  clear hT hR hl hm hlm hlm2 hW0 hD1 hD2
  have p0 : W0.cell? ⟨w.heap.size, 0, none⟩ = some (.int .i64 rf) := cell_of_block (HB0.out W0 (Later.refl _)) 0
  have p1 : W0.cell? ⟨w.heap.size, 1, none⟩ = some (.int .i64 rt) := cell_of_block (HB0.out W0 (Later.refl _)) 1
  have p2 : W0.cell? ⟨w.heap.size, 2, none⟩ = some (.int .i64 ra) := cell_of_block (HB0.out W0 (Later.refl _)) 2
  have p3 : W0.cell? ⟨w.heap.size, 3, none⟩ = some (.string rp) := cell_of_block (HB0.out W0 (Later.refl _)) 3
  have p4 : W0.cell? ⟨w.heap.size, 4, none⟩ = some (.string rq) := cell_of_block (HB0.out W0 (Later.refl _)) 4
  have hsz0 : w.heap.size + 1 = W0.heap.size := by rw [← HW0.out]; simp
  have HSZ := Lib.hid hsz0
  have hlt0 : w.heap.size < W0.heap.size := by omega
  clear hsz0
  go_enter Tryd.func8, Tryd.ntmps8
  go_upto_region 1 with fail
  rw [HW0.out]
  go_cut [7] from 18 to 23 (fun v wx => ∃ a' cap', v = .slice a' (m + 1) cap' ∧ RulesIn wx a' cap' (l ++ [(⟨rf, rt, ra, rp, rq⟩ : RuV)]) ∧ Later W0 wx)
  case first =>
    go_region_law (first
      | (refine step_rules_onto rfl (.tmp 18) (.tmp 19) rfl (W0 := W0) (by repeat (first | assumption | exact Later.refl _ | refine Later.alloc ?_ _ | refine Later.drew ?_ | refine Later.trans ?_ (by assumption))) _ [] l (by rfl) (own_empty (by first | exact alloc_block _ _ | exact alloc_block' _ _ _ (by simp) | exact alloc_old (alloc_block _ _) _) (by simp)) a m cap HM.out (by rfl) (HRA.out _ (by repeat (first | assumption | exact Later.refl _ | refine Later.alloc ?_ _ | refine Later.drew ?_ | refine Later.trans ?_ (by assumption)))) HLM2.out ?_
         intro v1 w1 hown1 hl1 hk1
         have p0 : w1.cell? ⟨w.heap.size, 0, none⟩ = some (.int .i64 rf) := cell_of_block (HB0.out w1 hl1) 0
         have p1 : w1.cell? ⟨w.heap.size, 1, none⟩ = some (.int .i64 rt) := cell_of_block (HB0.out w1 hl1) 1
         have p2 : w1.cell? ⟨w.heap.size, 2, none⟩ = some (.int .i64 ra) := cell_of_block (HB0.out w1 hl1) 2
         have p3 : w1.cell? ⟨w.heap.size, 3, none⟩ = some (.string rp) := cell_of_block (HB0.out w1 hl1) 3
         have p4 : w1.cell? ⟨w.heap.size, 4, none⟩ = some (.string rq) := cell_of_block (HB0.out w1 hl1) 4
         have HO1 := Lib.hid hown1
         have HK1 := Lib.hid hk1
         clear hown1 hk1)
      | (refine step_rules_onto rfl (.tmp 20) (.tmp 22) rfl (W0 := W0) (by repeat (first | assumption | exact Later.refl _ | refine Later.alloc ?_ _ | refine Later.drew ?_ | refine Later.trans ?_ (by assumption))) _ l [(⟨rf, rt, ra, rp, rq⟩ : RuV)] (by rfl) (by first | exact HO1.out | exact HO1.out.alloc _) _ 1 1 rfl (by rfl) (rule_block (by first | exact alloc_block _ _ | exact alloc_block' _ _ _ (by simp) | (exact HK1.out _ _ (by first | exact alloc_block' _ _ _ (by simp) | exact alloc_old (alloc_block _ _) _ | exact alloc_block _ _) (by simp [Value.ownBlock])))) (by rw [HM.out]; exact HLM.out) ?_
         intro v2 w2 hown2 hl2 hk2
         have HO2 := Lib.hid hown2
         clear hown2 hk2)
      | fail)
    all_goals
      go_wp2_with fail
      go_meet
      case rel =>
        obtain ⟨a2, cap2, rfl, hin2⟩ := rules_of_row HO2.out
        exact ⟨a2, cap2, by rw [List.length_append, HM.out]; rfl, hin2, hl2⟩
  case rest =>
    clear hlt0
    obtain ⟨a2, cap2, rfl, hr2, hlc⟩ := hcut
    have HR2 := Lib.hid (fun w1 (h1 : Later wc w1) => hr2.later h1)
    clear hr2
    clear p0 p1 p2 p3 p4
    have p0 : wc.cell? ⟨w.heap.size, 0, none⟩ = some (.int .i64 rf) := cell_of_block (HB0.out wc hlc) 0
    have p1 : wc.cell? ⟨w.heap.size, 1, none⟩ = some (.int .i64 rt) := cell_of_block (HB0.out wc hlc) 1
    have p3 : wc.cell? ⟨w.heap.size, 3, none⟩ = some (.string rp) := cell_of_block (HB0.out wc hlc) 3
    go_wp2_with (first
      | (go_at_call 17; (with_reducible refine (HD1.out _ (by repeat (first | assumption | exact Later.refl _ | refine Later.alloc ?_ _ | refine Later.drew ?_ | refine Later.trans ?_ (by assumption)))).mono ?_); rintro e w3 ⟨rfl, hl3⟩; have HE3 := Lib.hid (alloc_block w3 (.cells #[.int .i64 f0, .int .i64 ac, .string OUT] 46)); have h03 : Later W0 (w3.alloc (.cells #[.int .i64 f0, .int .i64 ac, .string OUT] 46)) := (hlc.trans hl3).alloc _; have g0 : (w3.alloc (.cells #[.int .i64 f0, .int .i64 ac, .string OUT] 46)).cell? ⟨w.heap.size, 0, none⟩ = some (.int .i64 rf) := cell_of_block (HB0.out _ h03) 0; have g1 : (w3.alloc (.cells #[.int .i64 f0, .int .i64 ac, .string OUT] 46)).cell? ⟨w.heap.size, 1, none⟩ = some (.int .i64 rt) := cell_of_block (HB0.out _ h03) 1; have g3 : (w3.alloc (.cells #[.int .i64 f0, .int .i64 ac, .string OUT] 46)).cell? ⟨w.heap.size, 3, none⟩ = some (.string rp) := cell_of_block (HB0.out _ h03) 3; clear HD1)
      | (go_at_call 17; (with_reducible refine (HD2.out _ _ _ (by repeat (first | assumption | exact Later.refl _ | refine Later.alloc ?_ _ | refine Later.drew ?_ | refine Later.trans ?_ (by assumption))) (HR2.out _ (by repeat (first | assumption | exact Later.refl _ | refine Later.alloc ?_ _ | refine Later.drew ?_ | refine Later.trans ?_ (by assumption))))).mono ?_); rintro e w4 ⟨rfl, hl4⟩; have HE4 := Lib.hid (alloc_block w4 (.cells #[.int .i64 0, .int .i64 0, .string ⟨#[]⟩] 46)); have h34 : Later (w3.alloc (.cells #[.int .i64 f0, .int .i64 ac, .string OUT] 46)) (w4.alloc (.cells #[.int .i64 0, .int .i64 0, .string ⟨#[]⟩] 46)) := hl4.alloc _; have HE34 := Lib.hid (h34.block HE3.out); have d0 : (w4.alloc (.cells #[.int .i64 0, .int .i64 0, .string ⟨#[]⟩] 46)).cell? ⟨w3.heap.size, 0, none⟩ = some (.int .i64 f0) := cell_of_block (HE34.out) 0; have d1 : (w4.alloc (.cells #[.int .i64 0, .int .i64 0, .string ⟨#[]⟩] 46)).cell? ⟨w3.heap.size, 1, none⟩ = some (.int .i64 ac) := cell_of_block (HE34.out) 1; have d2 : (w4.alloc (.cells #[.int .i64 0, .int .i64 0, .string ⟨#[]⟩] 46)).cell? ⟨w3.heap.size, 2, none⟩ = some (.string OUT) := cell_of_block (HE34.out) 2; have k0 : (w4.alloc (.cells #[.int .i64 0, .int .i64 0, .string ⟨#[]⟩] 46)).cell? ⟨w.heap.size, 0, none⟩ = some (.int .i64 rf) := cell_of_block (HB0.out _ (h03.trans h34)) 0; have k1 : (w4.alloc (.cells #[.int .i64 0, .int .i64 0, .string ⟨#[]⟩] 46)).cell? ⟨w.heap.size, 1, none⟩ = some (.int .i64 rt) := cell_of_block (HB0.out _ (h03.trans h34)) 1; have k3 : (w4.alloc (.cells #[.int .i64 0, .int .i64 0, .string ⟨#[]⟩] 46)).cell? ⟨w.heap.size, 3, none⟩ = some (.string rp) := cell_of_block (HB0.out _ (h03.trans h34)) 3; clear HD2)
      | (go_at_call 18; (with_reducible refine (HFIX.out _ (by repeat (first | assumption | exact Later.refl _ | refine Later.alloc ?_ _ | refine Later.drew ?_ | refine Later.trans ?_ (by assumption)))).mono ?_); rintro e w5 ⟨rfl, hl5⟩)
      | fail)
    go_ret
    exact ⟨rfl, (by repeat (first | assumption | exact Later.refl _ | refine Later.alloc ?_ _ | refine Later.drew ?_ | refine Later.trans ?_ (by assumption)))⟩
set_option maxRecDepth 100000 in
set_option maxHeartbeats 2000000 in
theorem more_hit (w : World) (a : Option Addr) (cap : Nat) (l : List RuV) (rf rt ra : Int) (rp rq S : ByteArray) (OUT : ByteArray) (f0 ac : Int) (hf0 : (0 : Int) ≤ f0) (hD1 : decideG (l.map RuV.bare) rf rt S.data.toList = (f0, ac, OUT.data.toList, 0)) (hD2 : decideG ((l ++ [(⟨rf, rt, ra, rp, rq⟩ : RuV)]).map RuV.bare) rf rt S.data.toList = (f0, ac, OUT.data.toList, 0)) (hR : RulesIn w a cap l) (hl : (l.length + 1) * 56 ≤ 140737488355328) (hT : TabAt 0 Lib.deBruijn64tab w) :
    Calls Tryd.prog 8 #[.slice a l.length cap, .agg #[.int .i64 rf, .int .i64 rt, .int .i64 ra, .string rp, .string rq], .string S] w fun e w' => e = .returned (.bool true) ∧ Later w w' := by
  obtain ⟨m, hm⟩ : ∃ m, l.length = m := ⟨_, rfl⟩
  obtain ⟨W0, hW0⟩ : ∃ W0, (w.alloc (.cells #[.int .i64 rf, .int .i64 rt, .int .i64 ra, .string rp, .string rq] 50)) = W0 := ⟨_, rfl⟩
  have h0 : Later w W0 := by rw [← hW0]; exact (Later.refl w).alloc _
  have HRA : Hid (∀ w1, Later W0 w1 → RulesIn w1 a cap l) := Lib.hid (fun w1 h1 => hR.later (h0.trans h1))
  have HT := Lib.hid (fun w1 (h1 : Later w w1) => TabAt.below hT h1)
  have HFIX := Lib.hid (fun w1 (h1 : Later w w1) => gfixed_any w1 (TabAt.below hT h1))
  have HB0 : Hid (∀ w1, Later W0 w1 → w1.heap[w.heap.size]? = some (.cells #[.int .i64 rf, .int .i64 rt, .int .i64 ra, .string rp, .string rq] 50 (0, 0))) := Lib.hid (fun w1 h1 => by
    have h2 : W0.heap[w.heap.size]? = some (.cells #[.int .i64 rf, .int .i64 rt, .int .i64 ra, .string rp, .string rq] 50 (0, 0)) := by rw [← hW0]; exact alloc_block w _
    exact h1.block h2)
  have HD1 := Lib.hid (fun w1 (h1 : Later W0 w1) => (show Calls Tryd.prog 17 #[.slice a m cap, .int .i64 rf, .int .i64 rt, .string S] w1 fun e w' => e = .returned (.tuple #[.agg #[.int .i64 f0, .int .i64 ac, .string OUT], .int .i64 0]) ∧ Later w1 w' from by
    have h2 := decide_any w1 a cap l rf rt S (HRA.out w1 h1) (HT.out w1 (h0.trans h1))
    rw [hm, hD1] at h2
    exact h2))
  have HD2 := Lib.hid (fun w1 a' cap' (h1 : Later W0 w1) (hr : RulesIn w1 a' cap' (l ++ [(⟨rf, rt, ra, rp, rq⟩ : RuV)])) => (show Calls Tryd.prog 17 #[.slice a' (m + 1) cap', .int .i64 rf, .int .i64 rt, .string S] w1 fun e w' => e = .returned (.tuple #[.agg #[.int .i64 f0, .int .i64 ac, .string OUT], .int .i64 0]) ∧ Later w1 w' from by
    have h2 := decide_any w1 a' cap' (l ++ [(⟨rf, rt, ra, rp, rq⟩ : RuV)]) rf rt S hr (HT.out w1 (h0.trans h1))
    rw [List.length_append, List.length_singleton, hm, hD2] at h2
    exact h2))
  have HM := Lib.hid hm
  have hlm : (m + 1) * 56 ≤ 140737488355328 := by omega
  have HLM := Lib.hid hlm
  have hlm2 : (([] : List RuV).length + l.length) * 56 ≤ 140737488355328 := by rw [hm]; simp only [List.length_nil]; omega
  have HLM2 := Lib.hid hlm2
  have HW0 := Lib.hid hW0
  rw [hm]
  clear hT hR hl hm hlm hlm2 hW0 hD1 hD2
  have p0 : W0.cell? ⟨w.heap.size, 0, none⟩ = some (.int .i64 rf) := cell_of_block (HB0.out W0 (Later.refl _)) 0
  have p1 : W0.cell? ⟨w.heap.size, 1, none⟩ = some (.int .i64 rt) := cell_of_block (HB0.out W0 (Later.refl _)) 1
  have p2 : W0.cell? ⟨w.heap.size, 2, none⟩ = some (.int .i64 ra) := cell_of_block (HB0.out W0 (Later.refl _)) 2
  have p3 : W0.cell? ⟨w.heap.size, 3, none⟩ = some (.string rp) := cell_of_block (HB0.out W0 (Later.refl _)) 3
  have p4 : W0.cell? ⟨w.heap.size, 4, none⟩ = some (.string rq) := cell_of_block (HB0.out W0 (Later.refl _)) 4
  have hsz0 : w.heap.size + 1 = W0.heap.size := by rw [← HW0.out]; simp
  have HSZ := Lib.hid hsz0
  have hlt0 : w.heap.size < W0.heap.size := by omega
  clear hsz0
  go_enter Tryd.func8, Tryd.ntmps8
  go_upto_region 1 with fail
  rw [HW0.out]
  go_cut [7] from 18 to 23 (fun v wx => ∃ a' cap', v = .slice a' (m + 1) cap' ∧ RulesIn wx a' cap' (l ++ [(⟨rf, rt, ra, rp, rq⟩ : RuV)]) ∧ Later W0 wx)
  case first =>
    go_region_law (first
      | (refine step_rules_onto rfl (.tmp 18) (.tmp 19) rfl (W0 := W0) (by repeat (first | assumption | exact Later.refl _ | refine Later.alloc ?_ _ | refine Later.drew ?_ | refine Later.trans ?_ (by assumption))) _ [] l (by rfl) (own_empty (by first | exact alloc_block _ _ | exact alloc_block' _ _ _ (by simp) | exact alloc_old (alloc_block _ _) _) (by simp)) a m cap HM.out (by rfl) (HRA.out _ (by repeat (first | assumption | exact Later.refl _ | refine Later.alloc ?_ _ | refine Later.drew ?_ | refine Later.trans ?_ (by assumption)))) HLM2.out ?_
         intro v1 w1 hown1 hl1 hk1
         have p0 : w1.cell? ⟨w.heap.size, 0, none⟩ = some (.int .i64 rf) := cell_of_block (HB0.out w1 hl1) 0
         have p1 : w1.cell? ⟨w.heap.size, 1, none⟩ = some (.int .i64 rt) := cell_of_block (HB0.out w1 hl1) 1
         have p2 : w1.cell? ⟨w.heap.size, 2, none⟩ = some (.int .i64 ra) := cell_of_block (HB0.out w1 hl1) 2
         have p3 : w1.cell? ⟨w.heap.size, 3, none⟩ = some (.string rp) := cell_of_block (HB0.out w1 hl1) 3
         have p4 : w1.cell? ⟨w.heap.size, 4, none⟩ = some (.string rq) := cell_of_block (HB0.out w1 hl1) 4
         have HO1 := Lib.hid hown1
         have HK1 := Lib.hid hk1
         clear hown1 hk1)
      | (refine step_rules_onto rfl (.tmp 20) (.tmp 22) rfl (W0 := W0) (by repeat (first | assumption | exact Later.refl _ | refine Later.alloc ?_ _ | refine Later.drew ?_ | refine Later.trans ?_ (by assumption))) _ l [(⟨rf, rt, ra, rp, rq⟩ : RuV)] (by rfl) (by first | exact HO1.out | exact HO1.out.alloc _) _ 1 1 rfl (by rfl) (rule_block (by first | exact alloc_block _ _ | exact alloc_block' _ _ _ (by simp) | (exact HK1.out _ _ (by first | exact alloc_block' _ _ _ (by simp) | exact alloc_old (alloc_block _ _) _ | exact alloc_block _ _) (by simp [Value.ownBlock])))) (by rw [HM.out]; exact HLM.out) ?_
         intro v2 w2 hown2 hl2 hk2
         have HO2 := Lib.hid hown2
         clear hown2 hk2)
      | fail)
    all_goals
      go_wp2_with fail
      go_meet
      case rel =>
        obtain ⟨a2, cap2, rfl, hin2⟩ := rules_of_row HO2.out
        exact ⟨a2, cap2, by rw [List.length_append, HM.out]; rfl, hin2, hl2⟩
  case rest =>
    clear hlt0
    obtain ⟨a2, cap2, rfl, hr2, hlc⟩ := hcut
    have HR2 := Lib.hid (fun w1 (h1 : Later wc w1) => hr2.later h1)
    clear hr2
    clear p0 p1 p2 p3 p4
    have p0 : wc.cell? ⟨w.heap.size, 0, none⟩ = some (.int .i64 rf) := cell_of_block (HB0.out wc hlc) 0
    have p1 : wc.cell? ⟨w.heap.size, 1, none⟩ = some (.int .i64 rt) := cell_of_block (HB0.out wc hlc) 1
    have p3 : wc.cell? ⟨w.heap.size, 3, none⟩ = some (.string rp) := cell_of_block (HB0.out wc hlc) 3
    go_wp2_with (first
      | (go_at_call 17; (with_reducible refine (HD1.out _ (by repeat (first | assumption | exact Later.refl _ | refine Later.alloc ?_ _ | refine Later.drew ?_ | refine Later.trans ?_ (by assumption)))).mono ?_); rintro e w3 ⟨rfl, hl3⟩; have HE3 := Lib.hid (alloc_block w3 (.cells #[.int .i64 f0, .int .i64 ac, .string OUT] 46)); have h03 : Later W0 (w3.alloc (.cells #[.int .i64 f0, .int .i64 ac, .string OUT] 46)) := (hlc.trans hl3).alloc _; have g0 : (w3.alloc (.cells #[.int .i64 f0, .int .i64 ac, .string OUT] 46)).cell? ⟨w.heap.size, 0, none⟩ = some (.int .i64 rf) := cell_of_block (HB0.out _ h03) 0; have g1 : (w3.alloc (.cells #[.int .i64 f0, .int .i64 ac, .string OUT] 46)).cell? ⟨w.heap.size, 1, none⟩ = some (.int .i64 rt) := cell_of_block (HB0.out _ h03) 1; have g3 : (w3.alloc (.cells #[.int .i64 f0, .int .i64 ac, .string OUT] 46)).cell? ⟨w.heap.size, 3, none⟩ = some (.string rp) := cell_of_block (HB0.out _ h03) 3; clear HD1)
      | (go_at_call 17; (with_reducible refine (HD2.out _ _ _ (by repeat (first | assumption | exact Later.refl _ | refine Later.alloc ?_ _ | refine Later.drew ?_ | refine Later.trans ?_ (by assumption))) (HR2.out _ (by repeat (first | assumption | exact Later.refl _ | refine Later.alloc ?_ _ | refine Later.drew ?_ | refine Later.trans ?_ (by assumption))))).mono ?_); rintro e w4 ⟨rfl, hl4⟩; have HE4 := Lib.hid (alloc_block w4 (.cells #[.int .i64 f0, .int .i64 ac, .string OUT] 46)); have h34 : Later (w3.alloc (.cells #[.int .i64 f0, .int .i64 ac, .string OUT] 46)) (w4.alloc (.cells #[.int .i64 f0, .int .i64 ac, .string OUT] 46)) := hl4.alloc _; have HE34 := Lib.hid (h34.block HE3.out); have d0 : (w4.alloc (.cells #[.int .i64 f0, .int .i64 ac, .string OUT] 46)).cell? ⟨w3.heap.size, 0, none⟩ = some (.int .i64 f0) := cell_of_block (HE34.out) 0; have d1 : (w4.alloc (.cells #[.int .i64 f0, .int .i64 ac, .string OUT] 46)).cell? ⟨w3.heap.size, 1, none⟩ = some (.int .i64 ac) := cell_of_block (HE34.out) 1; have d2 : (w4.alloc (.cells #[.int .i64 f0, .int .i64 ac, .string OUT] 46)).cell? ⟨w3.heap.size, 2, none⟩ = some (.string OUT) := cell_of_block (HE34.out) 2; have k0 : (w4.alloc (.cells #[.int .i64 f0, .int .i64 ac, .string OUT] 46)).cell? ⟨w.heap.size, 0, none⟩ = some (.int .i64 rf) := cell_of_block (HB0.out _ (h03.trans h34)) 0; have k1 : (w4.alloc (.cells #[.int .i64 f0, .int .i64 ac, .string OUT] 46)).cell? ⟨w.heap.size, 1, none⟩ = some (.int .i64 rt) := cell_of_block (HB0.out _ (h03.trans h34)) 1; have k3 : (w4.alloc (.cells #[.int .i64 f0, .int .i64 ac, .string OUT] 46)).cell? ⟨w.heap.size, 3, none⟩ = some (.string rp) := cell_of_block (HB0.out _ (h03.trans h34)) 3; clear HD2)
      | (go_at_call 18; (with_reducible refine (HFIX.out _ (by repeat (first | assumption | exact Later.refl _ | refine Later.alloc ?_ _ | refine Later.drew ?_ | refine Later.trans ?_ (by assumption)))).mono ?_); rintro e w5 ⟨rfl, hl5⟩)
      | fail)
    go_ret
    exact ⟨rfl, (by repeat (first | assumption | exact Later.refl _ | refine Later.alloc ?_ _ | refine Later.drew ?_ | refine Later.trans ?_ (by assumption)))⟩
set_option maxRecDepth 100000 in
set_option maxHeartbeats 2000000 in
theorem more_no (w : World) (a : Option Addr) (cap : Nat) (l : List RuV) (rf rt ra : Int) (rp rq S : ByteArray) (x : Rx) (hx : parseR rp.data.toList = .inl x) (hs : S.size ≤ 200) (hi : inB x.lang S.data.toList = false) (hD1 : decideG (l.map RuV.bare) rf rt S.data.toList = (-1, 0, [], 0)) (hD2 : decideG ((l ++ [(⟨rf, rt, ra, rp, rq⟩ : RuV)]).map RuV.bare) rf rt S.data.toList = (-1, 0, [], 0)) (hR : RulesIn w a cap l) (hl : (l.length + 1) * 56 ≤ 140737488355328) (hT : TabAt 0 Lib.deBruijn64tab w) :
    Calls Tryd.prog 8 #[.slice a l.length cap, .agg #[.int .i64 rf, .int .i64 rt, .int .i64 ra, .string rp, .string rq], .string S] w fun e w' => e = .returned (.bool true) ∧ Later w w' := by
  obtain ⟨m, hm⟩ : ∃ m, l.length = m := ⟨_, rfl⟩
  obtain ⟨W0, hW0⟩ : ∃ W0, (w.alloc (.cells #[.int .i64 rf, .int .i64 rt, .int .i64 ra, .string rp, .string rq] 50)) = W0 := ⟨_, rfl⟩
  have h0 : Later w W0 := by rw [← hW0]; exact (Later.refl w).alloc _
  have HRA : Hid (∀ w1, Later W0 w1 → RulesIn w1 a cap l) := Lib.hid (fun w1 h1 => hR.later (h0.trans h1))
  have HT := Lib.hid (fun w1 (h1 : Later w w1) => TabAt.below hT h1)
  have HFIX := Lib.hid (fun w1 (h1 : Later w w1) => gfixed_any w1 (TabAt.below hT h1))
  have HB0 : Hid (∀ w1, Later W0 w1 → w1.heap[w.heap.size]? = some (.cells #[.int .i64 rf, .int .i64 rt, .int .i64 ra, .string rp, .string rq] 50 (0, 0))) := Lib.hid (fun w1 h1 => by
    have h2 : W0.heap[w.heap.size]? = some (.cells #[.int .i64 rf, .int .i64 rt, .int .i64 ra, .string rp, .string rq] 50 (0, 0)) := by rw [← hW0]; exact alloc_block w _
    exact h1.block h2)
  have HD1 := Lib.hid (fun w1 (h1 : Later W0 w1) => (show Calls Tryd.prog 17 #[.slice a m cap, .int .i64 rf, .int .i64 rt, .string S] w1 fun e w' => e = .returned (.tuple #[.agg #[.int .i64 (-1), .int .i64 0, .string ⟨#[]⟩], .int .i64 0]) ∧ Later w1 w' from by
    have h2 := decide_any w1 a cap l rf rt S (HRA.out w1 h1) (HT.out w1 (h0.trans h1))
    rw [hm, hD1] at h2
    exact h2))
  have HD2 := Lib.hid (fun w1 a' cap' (h1 : Later W0 w1) (hr : RulesIn w1 a' cap' (l ++ [(⟨rf, rt, ra, rp, rq⟩ : RuV)])) => (show Calls Tryd.prog 17 #[.slice a' (m + 1) cap', .int .i64 rf, .int .i64 rt, .string S] w1 fun e w' => e = .returned (.tuple #[.agg #[.int .i64 (-1), .int .i64 0, .string ⟨#[]⟩], .int .i64 0]) ∧ Later w1 w' from by
    have h2 := decide_any w1 a' cap' (l ++ [(⟨rf, rt, ra, rp, rq⟩ : RuV)]) rf rt S hr (HT.out w1 (h0.trans h1))
    rw [List.length_append, List.length_singleton, hm, hD2] at h2
    exact h2))
  have HOF := Lib.hid (fun w1 => hof hx w1)
  have HIS := Lib.hid (fun w1 p (h : MX w1 p x) => (show Calls Tryd.prog 20 #[.pointer (some ⟨p, 0, none⟩), .string S] w1 fun e w' => e = .returned (.tuple #[.bool false, .int .i64 0]) ∧ Later w1 w' from by rw [← hi]; exact is_in w1 p x h S (by omega)))
  have HM := Lib.hid hm
  have hlm : (m + 1) * 56 ≤ 140737488355328 := by omega
  have HLM := Lib.hid hlm
  have hlm2 : (([] : List RuV).length + l.length) * 56 ≤ 140737488355328 := by rw [hm]; simp only [List.length_nil]; omega
  have HLM2 := Lib.hid hlm2
  have HW0 := Lib.hid hW0
  rw [hm]
  clear hT hR hl hm hlm hlm2 hW0 hD1 hD2 hx hi
  have p0 : W0.cell? ⟨w.heap.size, 0, none⟩ = some (.int .i64 rf) := cell_of_block (HB0.out W0 (Later.refl _)) 0
  have p1 : W0.cell? ⟨w.heap.size, 1, none⟩ = some (.int .i64 rt) := cell_of_block (HB0.out W0 (Later.refl _)) 1
  have p2 : W0.cell? ⟨w.heap.size, 2, none⟩ = some (.int .i64 ra) := cell_of_block (HB0.out W0 (Later.refl _)) 2
  have p3 : W0.cell? ⟨w.heap.size, 3, none⟩ = some (.string rp) := cell_of_block (HB0.out W0 (Later.refl _)) 3
  have p4 : W0.cell? ⟨w.heap.size, 4, none⟩ = some (.string rq) := cell_of_block (HB0.out W0 (Later.refl _)) 4
  have hsz0 : w.heap.size + 1 = W0.heap.size := by rw [← HW0.out]; simp
  have HSZ := Lib.hid hsz0
  have hlt0 : w.heap.size < W0.heap.size := by omega
  clear hsz0
  go_enter Tryd.func8, Tryd.ntmps8
  go_upto_region 1 with fail
  rw [HW0.out]
  go_cut [7] from 18 to 23 (fun v wx => ∃ a' cap', v = .slice a' (m + 1) cap' ∧ RulesIn wx a' cap' (l ++ [(⟨rf, rt, ra, rp, rq⟩ : RuV)]) ∧ Later W0 wx)
  case first =>
    go_region_law (first
      | (refine step_rules_onto rfl (.tmp 18) (.tmp 19) rfl (W0 := W0) (by repeat (first | assumption | exact Later.refl _ | refine Later.alloc ?_ _ | refine Later.drew ?_ | refine Later.trans ?_ (by assumption))) _ [] l (by rfl) (own_empty (by first | exact alloc_block _ _ | exact alloc_block' _ _ _ (by simp) | exact alloc_old (alloc_block _ _) _) (by simp)) a m cap HM.out (by rfl) (HRA.out _ (by repeat (first | assumption | exact Later.refl _ | refine Later.alloc ?_ _ | refine Later.drew ?_ | refine Later.trans ?_ (by assumption)))) HLM2.out ?_
         intro v1 w1 hown1 hl1 hk1
         have p0 : w1.cell? ⟨w.heap.size, 0, none⟩ = some (.int .i64 rf) := cell_of_block (HB0.out w1 hl1) 0
         have p1 : w1.cell? ⟨w.heap.size, 1, none⟩ = some (.int .i64 rt) := cell_of_block (HB0.out w1 hl1) 1
         have p2 : w1.cell? ⟨w.heap.size, 2, none⟩ = some (.int .i64 ra) := cell_of_block (HB0.out w1 hl1) 2
         have p3 : w1.cell? ⟨w.heap.size, 3, none⟩ = some (.string rp) := cell_of_block (HB0.out w1 hl1) 3
         have p4 : w1.cell? ⟨w.heap.size, 4, none⟩ = some (.string rq) := cell_of_block (HB0.out w1 hl1) 4
         have HO1 := Lib.hid hown1
         have HK1 := Lib.hid hk1
         clear hown1 hk1)
      | (refine step_rules_onto rfl (.tmp 20) (.tmp 22) rfl (W0 := W0) (by repeat (first | assumption | exact Later.refl _ | refine Later.alloc ?_ _ | refine Later.drew ?_ | refine Later.trans ?_ (by assumption))) _ l [(⟨rf, rt, ra, rp, rq⟩ : RuV)] (by rfl) (by first | exact HO1.out | exact HO1.out.alloc _) _ 1 1 rfl (by rfl) (rule_block (by first | exact alloc_block _ _ | exact alloc_block' _ _ _ (by simp) | (exact HK1.out _ _ (by first | exact alloc_block' _ _ _ (by simp) | exact alloc_old (alloc_block _ _) _ | exact alloc_block _ _) (by simp [Value.ownBlock])))) (by rw [HM.out]; exact HLM.out) ?_
         intro v2 w2 hown2 hl2 hk2
         have HO2 := Lib.hid hown2
         clear hown2 hk2)
      | fail)
    all_goals
      go_wp2_with fail
      go_meet
      case rel =>
        obtain ⟨a2, cap2, rfl, hin2⟩ := rules_of_row HO2.out
        exact ⟨a2, cap2, by rw [List.length_append, HM.out]; rfl, hin2, hl2⟩
  case rest =>
    clear hlt0
    obtain ⟨a2, cap2, rfl, hr2, hlc⟩ := hcut
    have HR2 := Lib.hid (fun w1 (h1 : Later wc w1) => hr2.later h1)
    clear hr2
    clear p0 p1 p2 p3 p4
    have p0 : wc.cell? ⟨w.heap.size, 0, none⟩ = some (.int .i64 rf) := cell_of_block (HB0.out wc hlc) 0
    have p1 : wc.cell? ⟨w.heap.size, 1, none⟩ = some (.int .i64 rt) := cell_of_block (HB0.out wc hlc) 1
    have p3 : wc.cell? ⟨w.heap.size, 3, none⟩ = some (.string rp) := cell_of_block (HB0.out wc hlc) 3
    go_wp2_with (first
      | (go_at_call 17; (with_reducible refine (HD1.out _ (by repeat (first | assumption | exact Later.refl _ | refine Later.alloc ?_ _ | refine Later.drew ?_ | refine Later.trans ?_ (by assumption)))).mono ?_); rintro e w3 ⟨rfl, hl3⟩; have HE3 := Lib.hid (alloc_block w3 (.cells #[.int .i64 (-1), .int .i64 0, .string ⟨#[]⟩] 46)); have h03 : Later W0 (w3.alloc (.cells #[.int .i64 (-1), .int .i64 0, .string ⟨#[]⟩] 46)) := (hlc.trans hl3).alloc _; have g0 : (w3.alloc (.cells #[.int .i64 (-1), .int .i64 0, .string ⟨#[]⟩] 46)).cell? ⟨w.heap.size, 0, none⟩ = some (.int .i64 rf) := cell_of_block (HB0.out _ h03) 0; have g1 : (w3.alloc (.cells #[.int .i64 (-1), .int .i64 0, .string ⟨#[]⟩] 46)).cell? ⟨w.heap.size, 1, none⟩ = some (.int .i64 rt) := cell_of_block (HB0.out _ h03) 1; have g3 : (w3.alloc (.cells #[.int .i64 (-1), .int .i64 0, .string ⟨#[]⟩] 46)).cell? ⟨w.heap.size, 3, none⟩ = some (.string rp) := cell_of_block (HB0.out _ h03) 3; clear HD1)
      | (go_at_call 17; (with_reducible refine (HD2.out _ _ _ (by repeat (first | assumption | exact Later.refl _ | refine Later.alloc ?_ _ | refine Later.drew ?_ | refine Later.trans ?_ (by assumption))) (HR2.out _ (by repeat (first | assumption | exact Later.refl _ | refine Later.alloc ?_ _ | refine Later.drew ?_ | refine Later.trans ?_ (by assumption))))).mono ?_); rintro e w4 ⟨rfl, hl4⟩; have HE4 := Lib.hid (alloc_block w4 (.cells #[.int .i64 (-1), .int .i64 0, .string ⟨#[]⟩] 46)); have h34 : Later (w3.alloc (.cells #[.int .i64 (-1), .int .i64 0, .string ⟨#[]⟩] 46)) (w4.alloc (.cells #[.int .i64 (-1), .int .i64 0, .string ⟨#[]⟩] 46)) := hl4.alloc _; have HE34 := Lib.hid (h34.block HE3.out); have d0 : (w4.alloc (.cells #[.int .i64 (-1), .int .i64 0, .string ⟨#[]⟩] 46)).cell? ⟨w3.heap.size, 0, none⟩ = some (.int .i64 (-1)) := cell_of_block (HE34.out) 0; have d1 : (w4.alloc (.cells #[.int .i64 (-1), .int .i64 0, .string ⟨#[]⟩] 46)).cell? ⟨w3.heap.size, 1, none⟩ = some (.int .i64 0) := cell_of_block (HE34.out) 1; have d2 : (w4.alloc (.cells #[.int .i64 (-1), .int .i64 0, .string ⟨#[]⟩] 46)).cell? ⟨w3.heap.size, 2, none⟩ = some (.string ⟨#[]⟩) := cell_of_block (HE34.out) 2; have k0 : (w4.alloc (.cells #[.int .i64 (-1), .int .i64 0, .string ⟨#[]⟩] 46)).cell? ⟨w.heap.size, 0, none⟩ = some (.int .i64 rf) := cell_of_block (HB0.out _ (h03.trans h34)) 0; have k1 : (w4.alloc (.cells #[.int .i64 (-1), .int .i64 0, .string ⟨#[]⟩] 46)).cell? ⟨w.heap.size, 1, none⟩ = some (.int .i64 rt) := cell_of_block (HB0.out _ (h03.trans h34)) 1; have k3 : (w4.alloc (.cells #[.int .i64 (-1), .int .i64 0, .string ⟨#[]⟩] 46)).cell? ⟨w.heap.size, 3, none⟩ = some (.string rp) := cell_of_block (HB0.out _ (h03.trans h34)) 3; clear HD2)
      | (go_at_call 19; (with_reducible refine (HOF.out _).mono ?_); rintro e w5 ⟨p5, rfl, hp5, hm5, hb5⟩; have hl5 := Later.of hb5; have HM5 := Lib.hid (MX.mk hm5 (HT.out w5 (by repeat (first | assumption | exact Later.refl _ | refine Later.alloc ?_ _ | refine Later.drew ?_ | refine Later.trans ?_ (by assumption))))); clear hb5 hm5 hp5)
      | (go_at_call 20; (with_reducible refine (HIS.out _ _ HM5.out).mono ?_); rintro e w6 ⟨rfl, hl6⟩; have h46 : Later (w4.alloc (.cells #[.int .i64 (-1), .int .i64 0, .string ⟨#[]⟩] 46)) w6 := hl5.trans hl6; have HE46 := Lib.hid (h46.block HE4.out); have HE36 := Lib.hid (h46.block HE34.out); have e0 : w6.cell? ⟨w4.heap.size, 0, none⟩ = some (.int .i64 (-1)) := cell_of_block (HE46.out) 0; have e1 : w6.cell? ⟨w4.heap.size, 1, none⟩ = some (.int .i64 0) := cell_of_block (HE46.out) 1; have e2 : w6.cell? ⟨w4.heap.size, 2, none⟩ = some (.string ⟨#[]⟩) := cell_of_block (HE46.out) 2; have d0 : w6.cell? ⟨w3.heap.size, 0, none⟩ = some (.int .i64 (-1)) := cell_of_block (HE36.out) 0; have d1 : w6.cell? ⟨w3.heap.size, 1, none⟩ = some (.int .i64 0) := cell_of_block (HE36.out) 1; have d2 : w6.cell? ⟨w3.heap.size, 2, none⟩ = some (.string ⟨#[]⟩) := cell_of_block (HE36.out) 2)
      | (go_at_call 18; (with_reducible refine (HFIX.out _ (by repeat (first | assumption | exact Later.refl _ | refine Later.alloc ?_ _ | refine Later.drew ?_ | refine Later.trans ?_ (by assumption)))).mono ?_); rintro e w7 ⟨rfl, hl7⟩)
      | fail)
    go_ret
    exact ⟨rfl, (by repeat (first | assumption | exact Later.refl _ | refine Later.alloc ?_ _ | refine Later.drew ?_ | refine Later.trans ?_ (by assumption)))⟩
set_option maxRecDepth 100000 in
set_option maxHeartbeats 2000000 in
theorem more_new' (w : World) (a : Option Addr) (cap : Nat) (l : List RuV) (rf rt ra : Int) (rp rq S : ByteArray) (x : Rx) (OUT : ByteArray) (ac : Int) (hx : parseR rp.data.toList = .inl x) (hs : S.size ≤ 200) (hi : inB x.lang S.data.toList = true) (hD1 : decideG (l.map RuV.bare) rf rt S.data.toList = (-1, 0, [], 0)) (hD2 : decideG ((l ++ [(⟨rf, rt, ra, rp, rq⟩ : RuV)]).map RuV.bare) rf rt S.data.toList = ((l.length : Int), ac, OUT.data.toList, 0)) (hD3 : decideG ([(⟨rf, rt, ra, rp, rq⟩ : RuV)].map RuV.bare) rf rt S.data.toList = (0, ac, OUT.data.toList, 0)) (hR : RulesIn w a cap l) (hl : (l.length + 1) * 56 ≤ 140737488355328) (hT : TabAt 0 Lib.deBruijn64tab w) :
    Calls Tryd.prog 8 #[.slice a l.length cap, .agg #[.int .i64 rf, .int .i64 rt, .int .i64 ra, .string rp, .string rq], .string S] w fun e w' => e = .returned (.bool true) ∧ Later w w' := by
  obtain ⟨m, hm⟩ : ∃ m, l.length = m := ⟨_, rfl⟩
  rw [hm] at hD2
  obtain ⟨W0, hW0⟩ : ∃ W0, (w.alloc (.cells #[.int .i64 rf, .int .i64 rt, .int .i64 ra, .string rp, .string rq] 50)) = W0 := ⟨_, rfl⟩
  have h0 : Later w W0 := by rw [← hW0]; exact (Later.refl w).alloc _
  have HRA : Hid (∀ w1, Later W0 w1 → RulesIn w1 a cap l) := Lib.hid (fun w1 h1 => hR.later (h0.trans h1))
  have HT := Lib.hid (fun w1 (h1 : Later w w1) => TabAt.below hT h1)
  have HFIX := Lib.hid (fun w1 (h1 : Later w w1) => gfixed_any w1 (TabAt.below hT h1))
  have HB0 : Hid (∀ w1, Later W0 w1 → w1.heap[w.heap.size]? = some (.cells #[.int .i64 rf, .int .i64 rt, .int .i64 ra, .string rp, .string rq] 50 (0, 0))) := Lib.hid (fun w1 h1 => by
    have h2 : W0.heap[w.heap.size]? = some (.cells #[.int .i64 rf, .int .i64 rt, .int .i64 ra, .string rp, .string rq] 50 (0, 0)) := by rw [← hW0]; exact alloc_block w _
    exact h1.block h2)
  have HD1 := Lib.hid (fun w1 (h1 : Later W0 w1) => (show Calls Tryd.prog 17 #[.slice a m cap, .int .i64 rf, .int .i64 rt, .string S] w1 fun e w' => e = .returned (.tuple #[.agg #[.int .i64 (-1), .int .i64 0, .string ⟨#[]⟩], .int .i64 0]) ∧ Later w1 w' from by
    have h2 := decide_any w1 a cap l rf rt S (HRA.out w1 h1) (HT.out w1 (h0.trans h1))
    rw [hm, hD1] at h2
    exact h2))
  have HD2 := Lib.hid (fun w1 a' cap' (h1 : Later W0 w1) (hr : RulesIn w1 a' cap' (l ++ [(⟨rf, rt, ra, rp, rq⟩ : RuV)])) => (show Calls Tryd.prog 17 #[.slice a' (m + 1) cap', .int .i64 rf, .int .i64 rt, .string S] w1 fun e w' => e = .returned (.tuple #[.agg #[.int .i64 m, .int .i64 ac, .string OUT], .int .i64 0]) ∧ Later w1 w' from by
    have h2 := decide_any w1 a' cap' (l ++ [(⟨rf, rt, ra, rp, rq⟩ : RuV)]) rf rt S hr (HT.out w1 (h0.trans h1))
    rw [List.length_append, List.length_singleton, hm, hD2] at h2
    exact h2))
  have HOF := Lib.hid (fun w1 => hof hx w1)
  have HIS := Lib.hid (fun w1 p (h : MX w1 p x) => (show Calls Tryd.prog 20 #[.pointer (some ⟨p, 0, none⟩), .string S] w1 fun e w' => e = .returned (.tuple #[.bool true, .int .i64 0]) ∧ Later w1 w' from by rw [← hi]; exact is_in w1 p x h S (by omega)))
  have HD3 := Lib.hid (fun w1 a' (h1 : Later W0 w1) (hr : RulesIn w1 a' 1 [(⟨rf, rt, ra, rp, rq⟩ : RuV)]) => (show Calls Tryd.prog 17 #[.slice a' 1 1, .int .i64 rf, .int .i64 rt, .string S] w1 fun e w' => e = .returned (.tuple #[.agg #[.int .i64 0, .int .i64 ac, .string OUT], .int .i64 0]) ∧ Later w1 w' from by
    have h2 := decide_any w1 a' 1 [(⟨rf, rt, ra, rp, rq⟩ : RuV)] rf rt S hr (HT.out w1 (h0.trans h1))
    rw [List.length_singleton, hD3] at h2
    exact h2))
  have HM := Lib.hid hm
  have hlm : (m + 1) * 56 ≤ 140737488355328 := by omega
  have HLM := Lib.hid hlm
  have hlm2 : (([] : List RuV).length + l.length) * 56 ≤ 140737488355328 := by rw [hm]; simp only [List.length_nil]; omega
  have HLM2 := Lib.hid hlm2
  have HW0 := Lib.hid hW0
  rw [hm]
  clear hT hR hl hm hlm hlm2 hW0 hD1 hD2 hD3 hx hi
  have p0 : W0.cell? ⟨w.heap.size, 0, none⟩ = some (.int .i64 rf) := cell_of_block (HB0.out W0 (Later.refl _)) 0
  have p1 : W0.cell? ⟨w.heap.size, 1, none⟩ = some (.int .i64 rt) := cell_of_block (HB0.out W0 (Later.refl _)) 1
  have p2 : W0.cell? ⟨w.heap.size, 2, none⟩ = some (.int .i64 ra) := cell_of_block (HB0.out W0 (Later.refl _)) 2
  have p3 : W0.cell? ⟨w.heap.size, 3, none⟩ = some (.string rp) := cell_of_block (HB0.out W0 (Later.refl _)) 3
  have p4 : W0.cell? ⟨w.heap.size, 4, none⟩ = some (.string rq) := cell_of_block (HB0.out W0 (Later.refl _)) 4
  have hsz0 : w.heap.size + 1 = W0.heap.size := by rw [← HW0.out]; simp
  have HSZ := Lib.hid hsz0
  have hlt0 : w.heap.size < W0.heap.size := by omega
  clear hsz0
  go_enter Tryd.func8, Tryd.ntmps8
  go_upto_region 1 with fail
  rw [HW0.out]
  go_cut [7] from 18 to 23 (fun v wx => ∃ a' cap', v = .slice a' (m + 1) cap' ∧ RulesIn wx a' cap' (l ++ [(⟨rf, rt, ra, rp, rq⟩ : RuV)]) ∧ Later W0 wx)
  case first =>
    go_region_law (first
      | (refine step_rules_onto rfl (.tmp 18) (.tmp 19) rfl (W0 := W0) (by repeat (first | assumption | exact Later.refl _ | refine Later.alloc ?_ _ | refine Later.drew ?_ | refine Later.trans ?_ (by assumption))) _ [] l (by rfl) (own_empty (by first | exact alloc_block _ _ | exact alloc_block' _ _ _ (by simp) | exact alloc_old (alloc_block _ _) _) (by simp)) a m cap HM.out (by rfl) (HRA.out _ (by repeat (first | assumption | exact Later.refl _ | refine Later.alloc ?_ _ | refine Later.drew ?_ | refine Later.trans ?_ (by assumption)))) HLM2.out ?_
         intro v1 w1 hown1 hl1 hk1
         have p0 : w1.cell? ⟨w.heap.size, 0, none⟩ = some (.int .i64 rf) := cell_of_block (HB0.out w1 hl1) 0
         have p1 : w1.cell? ⟨w.heap.size, 1, none⟩ = some (.int .i64 rt) := cell_of_block (HB0.out w1 hl1) 1
         have p2 : w1.cell? ⟨w.heap.size, 2, none⟩ = some (.int .i64 ra) := cell_of_block (HB0.out w1 hl1) 2
         have p3 : w1.cell? ⟨w.heap.size, 3, none⟩ = some (.string rp) := cell_of_block (HB0.out w1 hl1) 3
         have p4 : w1.cell? ⟨w.heap.size, 4, none⟩ = some (.string rq) := cell_of_block (HB0.out w1 hl1) 4
         have HO1 := Lib.hid hown1
         have HK1 := Lib.hid hk1
         clear hown1 hk1)
      | (refine step_rules_onto rfl (.tmp 20) (.tmp 22) rfl (W0 := W0) (by repeat (first | assumption | exact Later.refl _ | refine Later.alloc ?_ _ | refine Later.drew ?_ | refine Later.trans ?_ (by assumption))) _ l [(⟨rf, rt, ra, rp, rq⟩ : RuV)] (by rfl) (by first | exact HO1.out | exact HO1.out.alloc _) _ 1 1 rfl (by rfl) (rule_block (by first | exact alloc_block _ _ | exact alloc_block' _ _ _ (by simp) | (exact HK1.out _ _ (by first | exact alloc_block' _ _ _ (by simp) | exact alloc_old (alloc_block _ _) _ | exact alloc_block _ _) (by simp [Value.ownBlock])))) (by rw [HM.out]; exact HLM.out) ?_
         intro v2 w2 hown2 hl2 hk2
         have HO2 := Lib.hid hown2
         clear hown2 hk2)
      | fail)
    all_goals
      go_wp2_with fail
      go_meet
      case rel =>
        obtain ⟨a2, cap2, rfl, hin2⟩ := rules_of_row HO2.out
        exact ⟨a2, cap2, by rw [List.length_append, HM.out]; rfl, hin2, hl2⟩
  case rest =>
    clear hlt0
    obtain ⟨a2, cap2, rfl, hr2, hlc⟩ := hcut
    have HR2 := Lib.hid (fun w1 (h1 : Later wc w1) => hr2.later h1)
    clear hr2
    clear p0 p1 p2 p3 p4
    have p0 : wc.cell? ⟨w.heap.size, 0, none⟩ = some (.int .i64 rf) := cell_of_block (HB0.out wc hlc) 0
    have p1 : wc.cell? ⟨w.heap.size, 1, none⟩ = some (.int .i64 rt) := cell_of_block (HB0.out wc hlc) 1
    have p3 : wc.cell? ⟨w.heap.size, 3, none⟩ = some (.string rp) := cell_of_block (HB0.out wc hlc) 3
    go_wp2_with (first
      | (go_at_call 17; (with_reducible refine (HD1.out _ (by repeat (first | assumption | exact Later.refl _ | refine Later.alloc ?_ _ | refine Later.drew ?_ | refine Later.trans ?_ (by assumption)))).mono ?_); rintro e w3 ⟨rfl, hl3⟩; have HE3 := Lib.hid (alloc_block w3 (.cells #[.int .i64 (-1), .int .i64 0, .string ⟨#[]⟩] 46)); have h03 : Later W0 (w3.alloc (.cells #[.int .i64 (-1), .int .i64 0, .string ⟨#[]⟩] 46)) := (hlc.trans hl3).alloc _; have g0 : (w3.alloc (.cells #[.int .i64 (-1), .int .i64 0, .string ⟨#[]⟩] 46)).cell? ⟨w.heap.size, 0, none⟩ = some (.int .i64 rf) := cell_of_block (HB0.out _ h03) 0; have g1 : (w3.alloc (.cells #[.int .i64 (-1), .int .i64 0, .string ⟨#[]⟩] 46)).cell? ⟨w.heap.size, 1, none⟩ = some (.int .i64 rt) := cell_of_block (HB0.out _ h03) 1; have g3 : (w3.alloc (.cells #[.int .i64 (-1), .int .i64 0, .string ⟨#[]⟩] 46)).cell? ⟨w.heap.size, 3, none⟩ = some (.string rp) := cell_of_block (HB0.out _ h03) 3; clear HD1)
      | (go_at_call 17; (with_reducible refine (HD2.out _ _ _ (by repeat (first | assumption | exact Later.refl _ | refine Later.alloc ?_ _ | refine Later.drew ?_ | refine Later.trans ?_ (by assumption))) (HR2.out _ (by repeat (first | assumption | exact Later.refl _ | refine Later.alloc ?_ _ | refine Later.drew ?_ | refine Later.trans ?_ (by assumption))))).mono ?_); rintro e w4 ⟨rfl, hl4⟩; have HE4 := Lib.hid (alloc_block w4 (.cells #[.int .i64 m, .int .i64 ac, .string OUT] 46)); have h34 : Later (w3.alloc (.cells #[.int .i64 (-1), .int .i64 0, .string ⟨#[]⟩] 46)) (w4.alloc (.cells #[.int .i64 m, .int .i64 ac, .string OUT] 46)) := hl4.alloc _; have HE34 := Lib.hid (h34.block HE3.out); have d0 : (w4.alloc (.cells #[.int .i64 m, .int .i64 ac, .string OUT] 46)).cell? ⟨w3.heap.size, 0, none⟩ = some (.int .i64 (-1)) := cell_of_block (HE34.out) 0; have d1 : (w4.alloc (.cells #[.int .i64 m, .int .i64 ac, .string OUT] 46)).cell? ⟨w3.heap.size, 1, none⟩ = some (.int .i64 0) := cell_of_block (HE34.out) 1; have d2 : (w4.alloc (.cells #[.int .i64 m, .int .i64 ac, .string OUT] 46)).cell? ⟨w3.heap.size, 2, none⟩ = some (.string ⟨#[]⟩) := cell_of_block (HE34.out) 2; have k0 : (w4.alloc (.cells #[.int .i64 m, .int .i64 ac, .string OUT] 46)).cell? ⟨w.heap.size, 0, none⟩ = some (.int .i64 rf) := cell_of_block (HB0.out _ (h03.trans h34)) 0; have k1 : (w4.alloc (.cells #[.int .i64 m, .int .i64 ac, .string OUT] 46)).cell? ⟨w.heap.size, 1, none⟩ = some (.int .i64 rt) := cell_of_block (HB0.out _ (h03.trans h34)) 1; have k3 : (w4.alloc (.cells #[.int .i64 m, .int .i64 ac, .string OUT] 46)).cell? ⟨w.heap.size, 3, none⟩ = some (.string rp) := cell_of_block (HB0.out _ (h03.trans h34)) 3; clear HD2)
      | (go_at_call 19; (with_reducible refine (HOF.out _).mono ?_); rintro e w5 ⟨p5, rfl, hp5, hm5, hb5⟩; have hl5 := Later.of hb5; have HM5 := Lib.hid (MX.mk hm5 (HT.out w5 (by repeat (first | assumption | exact Later.refl _ | refine Later.alloc ?_ _ | refine Later.drew ?_ | refine Later.trans ?_ (by assumption))))); clear hb5 hm5 hp5)
      | (go_at_call 20; (with_reducible refine (HIS.out _ _ HM5.out).mono ?_); rintro e w6 ⟨rfl, hl6⟩; have h46 : Later (w4.alloc (.cells #[.int .i64 m, .int .i64 ac, .string OUT] 46)) w6 := hl5.trans hl6; have HE46 := Lib.hid (h46.block HE4.out); have HE36 := Lib.hid (h46.block HE34.out); have e0 : w6.cell? ⟨w4.heap.size, 0, none⟩ = some (.int .i64 m) := cell_of_block (HE46.out) 0; have e1 : w6.cell? ⟨w4.heap.size, 1, none⟩ = some (.int .i64 ac) := cell_of_block (HE46.out) 1; have e2 : w6.cell? ⟨w4.heap.size, 2, none⟩ = some (.string OUT) := cell_of_block (HE46.out) 2; have d0 : w6.cell? ⟨w3.heap.size, 0, none⟩ = some (.int .i64 (-1)) := cell_of_block (HE36.out) 0; have d1 : w6.cell? ⟨w3.heap.size, 1, none⟩ = some (.int .i64 0) := cell_of_block (HE36.out) 1; have d2 : w6.cell? ⟨w3.heap.size, 2, none⟩ = some (.string ⟨#[]⟩) := cell_of_block (HE36.out) 2; have hlt6 : w.heap.size < w6.heap.size := lt_of_block (HB0.out _ ((h03.trans h34).trans h46)); have k0 : w6.cell? ⟨w.heap.size, 0, none⟩ = some (.int .i64 rf) := cell_of_block (HB0.out _ ((h03.trans h34).trans h46)) 0; have k1 : w6.cell? ⟨w.heap.size, 1, none⟩ = some (.int .i64 rt) := cell_of_block (HB0.out _ ((h03.trans h34).trans h46)) 1; have k2 : w6.cell? ⟨w.heap.size, 2, none⟩ = some (.int .i64 ra) := cell_of_block (HB0.out _ ((h03.trans h34).trans h46)) 2; have k3 : w6.cell? ⟨w.heap.size, 3, none⟩ = some (.string rp) := cell_of_block (HB0.out _ ((h03.trans h34).trans h46)) 3; have k4 : w6.cell? ⟨w.heap.size, 4, none⟩ = some (.string rq) := cell_of_block (HB0.out _ ((h03.trans h34).trans h46)) 4)
      | (go_at_call 17; (with_reducible refine (HD3.out (w6.alloc (.cells #[.int .i64 rf, .int .i64 rt, .int .i64 ra, .string rp, .string rq] 50)) _ (by repeat (first | assumption | exact Later.refl _ | refine Later.alloc ?_ _ | refine Later.drew ?_ | refine Later.trans ?_ (by assumption))) (rule_block (alloc_block w6 _))).mono ?_); rintro e w7 ⟨rfl, hl7⟩; have h67 : Later w6 w7 := (show Later w6 (w6.alloc (.cells #[.int .i64 rf, .int .i64 rt, .int .i64 ra, .string rp, .string rq] 50)) from (Later.refl w6).alloc _).trans hl7; have HE7 := Lib.hid (alloc_block w7 (.cells #[.int .i64 0, .int .i64 ac, .string OUT] 46)); have h68 : Later w6 (w7.alloc (.cells #[.int .i64 0, .int .i64 ac, .string OUT] 46)) := h67.alloc _; have HE48 := Lib.hid (h68.block HE46.out); have f0 : (w7.alloc (.cells #[.int .i64 0, .int .i64 ac, .string OUT] 46)).cell? ⟨w4.heap.size, 0, none⟩ = some (.int .i64 m) := cell_of_block (HE48.out) 0; have f1 : (w7.alloc (.cells #[.int .i64 0, .int .i64 ac, .string OUT] 46)).cell? ⟨w4.heap.size, 1, none⟩ = some (.int .i64 ac) := cell_of_block (HE48.out) 1; have f2 : (w7.alloc (.cells #[.int .i64 0, .int .i64 ac, .string OUT] 46)).cell? ⟨w4.heap.size, 2, none⟩ = some (.string OUT) := cell_of_block (HE48.out) 2; have o0 : (w7.alloc (.cells #[.int .i64 0, .int .i64 ac, .string OUT] 46)).cell? ⟨w7.heap.size, 0, none⟩ = some (.int .i64 0) := cell_of_block (HE7.out) 0; have o1 : (w7.alloc (.cells #[.int .i64 0, .int .i64 ac, .string OUT] 46)).cell? ⟨w7.heap.size, 1, none⟩ = some (.int .i64 ac) := cell_of_block (HE7.out) 1; have o2 : (w7.alloc (.cells #[.int .i64 0, .int .i64 ac, .string OUT] 46)).cell? ⟨w7.heap.size, 2, none⟩ = some (.string OUT) := cell_of_block (HE7.out) 2)
      | (go_at_call 18; (with_reducible refine (HFIX.out _ (by repeat (first | assumption | exact Later.refl _ | refine Later.alloc ?_ _ | refine Later.drew ?_ | refine Later.trans ?_ (by assumption)))).mono ?_); rintro e w9 ⟨rfl, hl9⟩)
      | fail)
    go_ret
    exact ⟨rfl, (by repeat (first | assumption | exact Later.refl _ | refine Later.alloc ?_ _ | refine Later.drew ?_ | refine Later.trans ?_ (by assumption)))⟩
end Go.Proofs.YtjhclopdcbnmkaaDoor

