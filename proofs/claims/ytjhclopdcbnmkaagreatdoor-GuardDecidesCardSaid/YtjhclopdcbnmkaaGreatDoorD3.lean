/- GuardDecides answers true. -/
import Derived.Test.YtjhclopdcbnmkaaGreatDoorD2
import Derived.Test.YtjhclopdcbnmkaaGreatDoorCR
import Derived.Deep.RegionHeld3
set_option linter.unusedSimpArgs false
set_option linter.unusedVariables false
namespace Go.Proofs.YtjhclopdcbnmkaaGreatDoor
open Go.RowKit PX

set_option maxRecDepth 100000 in
set_option maxHeartbeats 4000000 in
theorem decides_any (w : World) (a : Option Addr) (cap : Nat) (l : List RuV) (fr tu lv : Int) (S : ByteArray) (hR : RulesIn w a cap l) (hT : TabAt 0 Lib.deBruijn64tab w) :
    Calls Tryz.prog 5 #[.slice a l.length cap, .agg #[.int .i64 fr, .int .i64 tu, .int .i64 lv], .string S] w fun e w' => e = .returned (.bool true) ∧ Later w w' := by
  obtain ⟨w0, hw0⟩ : ∃ w0, w.alloc (.cells #[.int .i64 fr, .int .i64 tu, .int .i64 lv] 40) = w0 := ⟨_, rfl⟩
  have hl0 : Later w w0 := by rw [← hw0]; exact (Later.refl w).alloc _
  have hp0 : w0.heap[w.heap.size]? = some (.cells #[.int .i64 fr, .int .i64 tu, .int .i64 lv] 40 (0, 0)) := by rw [← hw0]; exact alloc_block w _
  obtain ⟨m, hm⟩ : ∃ m, l.length = m := ⟨_, rfl⟩
  obtain ⟨⟨f0, ac, O, er⟩, hD⟩ : ∃ D, decideG (l.map RuV.bare) fr tu S.data.toList = D := ⟨_, rfl⟩
  obtain ⟨c, hc⟩ : ∃ c, checkG (l.map RuV.bare) lv = c := ⟨_, rfl⟩
  obtain ⟨OUT, hO⟩ : ∃ OUT : ByteArray, (⟨O.toArray⟩ : ByteArray) = OUT := ⟨_, rfl⟩
  have HFIX := Lib.hid (fun w1 (h1 : Later w w1) => gfixed_any w1 (TabAt.below hT h1))
  have HD1 := Lib.hid (fun w1 (h1 : Later w w1) => (show Calls Tryz.prog 17 #[.slice a m cap, .int .i64 fr, .int .i64 tu, .string S] w1 fun e w' => e = .returned (.tuple #[.agg #[.int .i64 f0, .int .i64 ac, .string OUT], .int .i64 er]) ∧ Later w1 w' from by
    have h2 := decide_any w1 a cap l fr tu S (hR.later h1) (TabAt.below hT h1)
    rw [hm, hD] at h2
    rw [← hO]
    exact h2))
  have HD2 := Lib.hid (fun w1 (h1 : Later w w1) => (show Calls Tryz.prog 18 #[.slice a m cap, .int .i64 fr, .int .i64 tu, .string S] w1 fun e w' => e = .returned (.tuple #[.int .i64 f0, .int .i64 ac, .string OUT, .int .i64 er]) ∧ Later w1 w' from by
    have h2 := rdecide20_any w1 a cap l fr tu S (hR.later h1)
    rw [hm, hD] at h2
    rw [← hO]
    exact h2))
  have HC1 := Lib.hid (fun w1 (h1 : Later w w1) => (show Calls Tryz.prog 19 #[.slice a m cap, .int .i64 lv] w1 fun e w' => e = .returned (.int .i64 c) ∧ Later w1 w' from by
    have h2 := check_any w1 a cap l lv (hR.later h1)
    rw [hm, hc] at h2
    exact h2))
  have HC2 := Lib.hid (fun w1 (h1 : Later w w1) => (show Calls Tryz.prog 20 #[.slice a m cap, .int .i64 lv] w1 fun e w' => e = .returned (.int .i64 c) ∧ Later w1 w' from by
    have h2 := rcheck20_any w1 a cap l lv (hR.later h1)
    rw [hm, hc] at h2
    exact h2))
  have HPX := Lib.hid (fun w' (h' : Later w0 w') => show w'.cell? ⟨w.heap.size, 0, none⟩ = some (.int .i64 fr) ∧ w'.cell? ⟨w.heap.size, 1, none⟩ = some (.int .i64 tu) ∧ w'.cell? ⟨w.heap.size, 2, none⟩ = some (.int .i64 lv) ∧ w.heap.size < w'.heap.size from
    ⟨cell_of_block (h'.block hp0) 0, cell_of_block (h'.block hp0) 1, cell_of_block (h'.block hp0) 2, lt_of_block (h'.block hp0)⟩)
  have HW0 := Lib.hid hw0
  have HL0 := Lib.hid hl0
  rw [hm]
  clear hT hR hw0 hp0 hm hD hc hO
  go_enter Tryz.func5, Tryz.ntmps5
  go_upto_region 1 with fail
  rw [HW0.out]
  obtain ⟨p0, p1, p2, plt⟩ := HPX.out w0 (Later.refl _)
  go_upto_region 3 with (first
    | (go_at_call 17; (with_reducible refine (HD1.out _ HL0.out).mono ?_); rintro e w1 ⟨rfl, hl1⟩; clear p0 p1 p2 plt; obtain ⟨p0, p1, p2, plt⟩ := HPX.out w1 hl1)
    | (go_at_call 18; (with_reducible refine (HD2.out _ (HL0.out.trans (hl1.alloc _))).mono ?_); rintro e w2 ⟨rfl, hl2⟩)
    | fail)
  have hb1 := hl2.block (alloc_block w1 (.cells #[.int .i64 f0, .int .i64 ac, .string OUT] 42))
  have h02 : Later w0 w2 := hl1.trans (((Later.refl w1).alloc _).trans hl2)
  have HSX := Lib.hid (fun w' (h' : Later w2 w') => show w'.cell? ⟨w1.heap.size, 0, none⟩ = some (.int .i64 f0) ∧ w'.cell? ⟨w1.heap.size, 1, none⟩ = some (.int .i64 ac) ∧ w'.cell? ⟨w1.heap.size, 2, none⟩ = some (.string OUT) ∧ w'.cell? ⟨w.heap.size, 2, none⟩ = some (.int .i64 lv) from
    ⟨cell_of_block (h'.block hb1) 0, cell_of_block (h'.block hb1) 1, cell_of_block (h'.block hb1) 2, (HPX.out w' (h02.trans h')).2.2.1⟩)
  have HL2 := Lib.hid (HL0.out.trans h02)
  have hl02 := HL2.out
  clear p0 p1 p2 plt hb1 hl1 hl2 h02 hl0
  obtain ⟨s0, s1, s2, s3⟩ := HSX.out w2 (Later.refl _)
  go_region_held3 (fun w' => w'.cell? ⟨w1.heap.size, 0, none⟩ = some (.int .i64 f0) ∧ w'.cell? ⟨w1.heap.size, 1, none⟩ = some (.int .i64 ac) ∧ w'.cell? ⟨w1.heap.size, 2, none⟩ = some (.string OUT) ∧ w'.cell? ⟨w.heap.size, 2, none⟩ = some (.int .i64 lv))
    (exact HSX.out _ (by repeat (first | assumption | exact Later.refl _ | refine Later.drew ?_ | refine Later.trans ?_ (by assumption))))
    (first
      | (go_at_call 19; (with_reducible refine (HC1.out _ (by repeat (first | assumption | exact Later.refl _ | refine Later.drew ?_ | refine Later.trans ?_ (by assumption)))).mono ?_); rintro e w4 ⟨rfl, hl4⟩)
      | (go_at_call 20; (with_reducible refine (HC2.out _ (by repeat (first | assumption | exact Later.refl _ | refine Later.drew ?_ | refine Later.trans ?_ (by assumption)))).mono ?_); rintro e w5 ⟨rfl, hl5⟩)
      | (go_at_call 21; (with_reducible refine (HFIX.out _ (by repeat (first | assumption | exact Later.refl _ | refine Later.drew ?_ | refine Later.trans ?_ (by assumption)))).mono ?_); rintro e w6 ⟨rfl, hl6⟩)
      | fail)
  all_goals
    go_wp2_with fail
    go_ret
    exact ⟨rfl, (by repeat (first | assumption | exact Later.refl _ | refine Later.drew ?_ | refine Later.trans ?_ (by assumption)))⟩
end Go.Proofs.YtjhclopdcbnmkaaGreatDoor
