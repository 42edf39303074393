/- RegexChecks answers true. (Printed by wip/gen_k6.py.) -/
import Derived.Test.YtjhclopdcbnmkaaGreatDoorK5
import Derived.Test.YtjhclopdcbnmkaaGreatDoorS9
import Derived.Deep.RegionHeld3
set_option linter.unusedSimpArgs false
set_option linter.unusedVariables false
namespace Go.Proofs.YtjhclopdcbnmkaaGreatDoor
open Go.RowKit PX

set_option maxRecDepth 100000 in
set_option maxHeartbeats 4000000 in
theorem checks_any (w : World) (X : RxA) (hin : X.In w w.heap.size) (hP : PowAt w) :
    Calls Tryz.prog 3 #[X.val] w fun e w' => e = .returned (.bool true) ∧ Later w w' := by
  obtain ⟨w0, hw0⟩ : ∃ w0, w.alloc (.cells X.cells.toArray 26) = w0 := ⟨_, rfl⟩
  have hl0 : Later w w0 := by rw [← hw0]; exact (Later.refl w).alloc _
  have hx0 : w0.heap[w.heap.size]? = some (.cells X.cells.toArray 26 (0, 0)) := by rw [← hw0]; exact alloc_block w _
  have hxi := in_later8 hin hl0
  have HFIX := Lib.hid (fun w1 (h1 : Later w0 w1) => fixed05_any w1 (hP.later (hl0.trans h1)))
  obtain ⟨x, hxb⟩ : ∃ x, X.bare = x := ⟨_, rfl⟩
  obtain ⟨PE, hPE⟩ : ∃ PE, printE x = PE := ⟨_, rfl⟩
  obtain ⟨CE, hCE⟩ : ∃ CE, checkR x = CE := ⟨_, rfl⟩
  obtain ⟨SZ, hSZ⟩ : ∃ SZ, sizeR x = SZ := ⟨_, rfl⟩
  obtain ⟨PS, hPS⟩ : ∃ PS : ByteArray, (⟨(printS x).toArray⟩ : ByteArray) = PS := ⟨_, rfl⟩
  have HP1 := Lib.hid (fun w1 (h1 : Later w0 w1) => (show Calls Tryz.prog 7 #[X.val] w1 fun e w' => e = .returned (.tuple #[.string PS, .int .i64 PE]) ∧ Later w1 w' from by
    have h := print_any w1 X (in_later8 hxi h1) (hP.later (hl0.trans h1))
    rw [hxb] at h
    rw [hPE, hPS] at h
    exact h))
  have HP2 := Lib.hid (fun w1 (h1 : Later w0 w1) => (show Calls Tryz.prog 8 #[X.val] w1 fun e w' => e = .returned (.tuple #[.string PS, .int .i64 PE]) ∧ Later w1 w' from by
    have h := rprint_any w1 X (in_later8 hxi h1)
    rw [hxb] at h
    rw [hPE, hPS] at h
    exact h))
  have HC1 := Lib.hid (fun w1 (h1 : Later w0 w1) => (show Calls Tryz.prog 10 #[X.val] w1 fun e w' => e = .returned (.int .i64 CE) ∧ Later w1 w' from by
    have h := pcheck_any X w1 w1.heap.size (Nat.le_refl _) (in_later8 hxi h1)
    rw [hxb] at h
    rw [hCE] at h
    exact h))
  have HC2 := Lib.hid (fun w1 (h1 : Later w0 w1) => (show Calls Tryz.prog 11 #[X.val] w1 fun e w' => e = .returned (.int .i64 CE) ∧ Later w1 w' from by
    have h := rcheck_any X w1 w1.heap.size (Nat.le_refl _) (in_later8 hxi h1)
    rw [hxb] at h
    rw [hCE] at h
    exact h))
  have HS1 := Lib.hid (fun w1 (h1 : Later w0 w1) => (show Calls Tryz.prog 12 #[X.val] w1 fun e w' => e = .returned (.int .i64 SZ) ∧ Later w1 w' from by
    have h := psizeF_any X w1 w1.heap.size (Nat.le_refl _) (in_later8 hxi h1)
    rw [hxb] at h
    rw [hSZ] at h
    exact h))
  have HS2 := Lib.hid (fun w1 (h1 : Later w0 w1) => (show Calls Tryz.prog 13 #[X.val] w1 fun e w' => e = .returned (.int .i64 SZ) ∧ Later w1 w' from by
    have h := rsizeF_any X w1 w1.heap.size (Nat.le_refl _) (in_later8 hxi h1)
    rw [hxb] at h
    rw [hSZ] at h
    exact h))
  clear hin hP hxi hxb hPE hPS hCE hSZ
  obtain ⟨k, mn, mx, s0, s1, s2, s3, a, cap, l⟩ := X
  simp only [RxA.val, RxA.cells] at HP1 HP2 HC1 HC2 HS1 HS2 hx0 hw0 ⊢
  have HSX := Lib.hid (fun w' (h' : Later w0 w') => show w'.cell? ⟨w.heap.size, 0, none⟩ = some (.int .i64 k) ∧ w'.cell? ⟨w.heap.size, 1, none⟩ = some (.int .i64 mn) ∧ w'.cell? ⟨w.heap.size, 2, none⟩ = some (.int .i64 mx) ∧ w'.cell? ⟨w.heap.size, 3, none⟩ = some (.int .u64 s0) ∧ w'.cell? ⟨w.heap.size, 4, none⟩ = some (.int .u64 s1) ∧ w'.cell? ⟨w.heap.size, 5, none⟩ = some (.int .u64 s2) ∧ w'.cell? ⟨w.heap.size, 6, none⟩ = some (.int .u64 s3) ∧ w'.cell? ⟨w.heap.size, 7, none⟩ = some (.slice a l.length cap) from
    ⟨cell_of_block (h'.block hx0) 0, cell_of_block (h'.block hx0) 1, cell_of_block (h'.block hx0) 2, cell_of_block (h'.block hx0) 3, cell_of_block (h'.block hx0) 4, cell_of_block (h'.block hx0) 5, cell_of_block (h'.block hx0) 6, cell_of_block (h'.block hx0) 7⟩)
  have HL0 := Lib.hid hl0
  have HW0 := Lib.hid hw0
  clear hl0 hw0 hx0
  go_enter Tryz.func3, Tryz.ntmps3
  go_upto_region 1 with fail
  rw [HW0.out]
  obtain ⟨d0, d1, d2, d3, d4, d5, d6, d7⟩ := HSX.out w0 (Later.refl _)
  go_upto_region 3 with (first
    | (go_at_call 7; (with_reducible refine (HP1.out _ (Later.refl _)).mono ?_); rintro e w1 ⟨rfl, hl1⟩; clear d0 d1 d2 d3 d4 d5 d6 d7; obtain ⟨d0, d1, d2, d3, d4, d5, d6, d7⟩ := HSX.out w1 hl1)
    | (go_at_call 8; (with_reducible refine (HP2.out _ hl1).mono ?_); rintro e w2 ⟨rfl, hl2⟩)
    | fail)
  have h02 : Later w0 w2 := hl1.trans hl2
  have HL2 := Lib.hid (HL0.out.trans h02)
  clear d0 d1 d2 d3 d4 d5 d6 d7 hl1 hl2
  obtain ⟨d0, d1, d2, d3, d4, d5, d6, d7⟩ := HSX.out w2 h02
  have HSY := Lib.hid (fun w' (h' : Later w2 w') => HSX.out w' (h02.trans h'))
  have HL02 := h02
  clear HP1 HP2 HW0 HL0 HSX
  go_region_held3 (fun w' => w'.cell? ⟨w.heap.size, 0, none⟩ = some (.int .i64 k) ∧ w'.cell? ⟨w.heap.size, 1, none⟩ = some (.int .i64 mn) ∧ w'.cell? ⟨w.heap.size, 2, none⟩ = some (.int .i64 mx) ∧ w'.cell? ⟨w.heap.size, 3, none⟩ = some (.int .u64 s0) ∧ w'.cell? ⟨w.heap.size, 4, none⟩ = some (.int .u64 s1) ∧ w'.cell? ⟨w.heap.size, 5, none⟩ = some (.int .u64 s2) ∧ w'.cell? ⟨w.heap.size, 6, none⟩ = some (.int .u64 s3) ∧ w'.cell? ⟨w.heap.size, 7, none⟩ = some (.slice a l.length cap))
    (exact HSY.out _ (by repeat (first | assumption | exact Later.refl _ | refine Later.drew ?_ | refine Later.trans ?_ (by assumption))))
    (first
      | (go_at_call 10; (with_reducible refine (HC1.out _ (by repeat (first | assumption | exact Later.refl _ | refine Later.drew ?_ | refine Later.trans ?_ (by assumption)))).mono ?_); rintro e w4 ⟨rfl, hlw4⟩)
      | (go_at_call 11; (with_reducible refine (HC2.out _ (by repeat (first | assumption | exact Later.refl _ | refine Later.drew ?_ | refine Later.trans ?_ (by assumption)))).mono ?_); rintro e w5 ⟨rfl, hlw5⟩)
      | (go_at_call 12; (with_reducible refine (HS1.out _ (by repeat (first | assumption | exact Later.refl _ | refine Later.drew ?_ | refine Later.trans ?_ (by assumption)))).mono ?_); rintro e w6 ⟨rfl, hlw6⟩)
      | (go_at_call 13; (with_reducible refine (HS2.out _ (by repeat (first | assumption | exact Later.refl _ | refine Later.drew ?_ | refine Later.trans ?_ (by assumption)))).mono ?_); rintro e w7 ⟨rfl, hlw7⟩)
      | (go_at_call 9; (with_reducible refine (HFIX.out _ (by repeat (first | assumption | exact Later.refl _ | refine Later.drew ?_ | refine Later.trans ?_ (by assumption)))).mono ?_); rintro e w8 ⟨rfl, hlw8⟩)
      | fail)
  all_goals
    go_wp2_with fail
    go_ret
    exact ⟨rfl, HL2.out.trans (by repeat (first | assumption | exact Later.refl _ | refine Later.drew ?_ | refine Later.trans ?_ (by assumption)))⟩
end Go.Proofs.YtjhclopdcbnmkaaGreatDoor
