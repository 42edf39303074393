/- The fixed calls of the layer regex answer true. (Printed by wip/gen_s9.py.) -/
import Derived.Test.YtjhclopdcbnmkaaGreatDoorS8
set_option linter.unusedSimpArgs false
set_option linter.unusedVariables false
namespace Go.Proofs.YtjhclopdcbnmkaaGreatDoor
open Go.RowKit PX

theorem zero_in (w : World) (k : Int) (hk : I64 k) : (RxA.node k 0 0 0 0 0 0 none 0 []).In w w.heap.size := by
  simp only [RxA.In]
  refine ⟨⟨hk, ?_, ?_, ?_, ?_, ?_, ?_⟩, by simp, by simp, by simp, .inl trivial⟩
  all_goals first | (unfold I64; omega) | (unfold U64; omega)
theorem zero_check : checkR (RxA.node 0 0 0 0 0 0 0 none 0 []).bare = 52 := by rfl
theorem alt_check : checkR (RxA.node 2 0 0 0 0 0 0 none 0 []).bare = 52 := by rfl
set_option maxRecDepth 100000 in
set_option maxHeartbeats 2000000 in
theorem fixed05_any (w : World) (hP : PowAt w) : Calls Tryz.prog 9 #[] w fun e w' => e = .returned (.bool true) ∧ Later w w' := by
  have HPO := Lib.hid (fun w1 (h1 : Later w w1) => hP.later h1)
  have HP1 := Lib.hid (fun w1 => parse_good w1 ⟨#[120, 40, 91, 99, 98, 93, 124, 92, 120, 52, 49, 123, 50, 44, 125, 41, 42]⟩ xe parse_xe)
  have HP2 := Lib.hid (fun w1 => parse_wrong w1 ⟨#[97, 42, 42]⟩ 50 parse_bad1)
  have HP3 := Lib.hid (fun w1 => parse_wrong w1 ⟨#[40, 40, 97, 123, 49, 53, 125, 41, 123, 49, 53, 125, 41, 123, 49, 53, 125]⟩ 51 parse_bad2)
  have HPR := Lib.hid (fun w1 (X : RxA) (hX : xe = X.bare) (hin : X.In w1 w1.heap.size) (h1 : Later w w1) => (show Calls Tryz.prog 7 #[X.val] w1 fun e w' => e = .returned (.tuple #[.string ⟨#[120, 40, 91, 98, 99, 93, 124, 65, 123, 50, 44, 125, 41, 42]⟩, .int .i64 0]) ∧ Later w1 w' from by
    have h := print_any w1 X hin (HPO.out w1 h1)
    have he : printE X.bare = 0 := by rw [← hX, printE_good xe_check, xe_text]; rfl
    rw [he] at h
    have hs : printS X.bare = [120, 40, 91, 98, 99, 93, 124, 65, 123, 50, 44, 125, 41, 42] := by unfold printS; rw [he, if_pos rfl, ← hX, xe_text]
    rw [hs] at h
    exact h))
  have HPZ := Lib.hid (fun w1 (h1 : Later w w1) => (show Calls Tryz.prog 7 #[.agg #[.int .i64 2, .int .i64 0, .int .i64 0, .int .u64 0, .int .u64 0, .int .u64 0, .int .u64 0, .slice none 0 0]] w1 fun e w' => e = .returned (.tuple #[.string ⟨#[]⟩, .int .i64 52]) ∧ Later w1 w' from by
    have h := print_any w1 (RxA.node 2 0 0 0 0 0 0 none 0 []) (zero_in w1 2 (by unfold I64; omega)) (HPO.out w1 h1)
    have he : printE (RxA.node 2 0 0 0 0 0 0 none 0 []).bare = 52 := by rw [printE_bad (by rw [alt_check]; decide), alt_check]
    have hs : printS (RxA.node 2 0 0 0 0 0 0 none 0 []).bare = [] := by unfold printS; rw [he, if_neg (by decide)]
    rw [he, hs] at h
    exact h))
  have HSZ := Lib.hid (fun w1 (X : RxA) (hX : xe = X.bare) (hin : X.In w1 w1.heap.size) => (show Calls Tryz.prog 12 #[X.val] w1 fun e w' => e = .returned (.int .i64 8) ∧ Later w1 w' from by
    have h := psizeF_any X w1 w1.heap.size (Nat.le_refl _) hin
    rw [← hX, xe_size] at h
    exact h))
  have HCK := Lib.hid (fun w1 (X : RxA) (hX : xe = X.bare) (hin : X.In w1 w1.heap.size) => (show Calls Tryz.prog 10 #[X.val] w1 fun e w' => e = .returned (.int .i64 0) ∧ Later w1 w' from by
    have h := pcheck_any X w1 w1.heap.size (Nat.le_refl _) hin
    rw [← hX, xe_check] at h
    exact h))
  have HCZ := Lib.hid (fun w1 => (show Calls Tryz.prog 10 #[.agg #[.int .i64 0, .int .i64 0, .int .i64 0, .int .u64 0, .int .u64 0, .int .u64 0, .int .u64 0, .slice none 0 0]] w1 fun e w' => e = .returned (.int .i64 52) ∧ Later w1 w' from by
    have h := pcheck_any (RxA.node 0 0 0 0 0 0 0 none 0 []) w1 w1.heap.size (Nat.le_refl _) (zero_in w1 0 (by unfold I64; omega))
    rw [zero_check] at h
    exact h))
  clear hP
  go_enter Tryz.func9, Tryz.ntmps9
  go_wp2_with (first
    | (go_at_call 14; (with_reducible refine (HP1.out _).mono ?_); rintro e w1 ⟨k, mn, mx, s0, s1, s2, s3, a, cap, l, hX, rfl, hin, hb1⟩; have h01 := Later.of hb1; have HX := Lib.hid hX; have h11 : Later w1 (w1.alloc (.cells #[.int .i64 k, .int .i64 mn, .int .i64 mx, .int .u64 s0, .int .u64 s1, .int .u64 s2, .int .u64 s3, .slice a l.length cap] 26)) := (Later.refl w1).alloc _; have HIN := Lib.hid (in_later8 hin h11); have HE1 := Lib.hid (alloc_block w1 (.cells #[.int .i64 k, .int .i64 mn, .int .i64 mx, .int .u64 s0, .int .u64 s1, .int .u64 s2, .int .u64 s3, .slice a l.length cap] 26)); have HPX := Lib.hid (show Calls Tryz.prog 7 #[.agg #[.int .i64 k, .int .i64 mn, .int .i64 mx, .int .u64 s0, .int .u64 s1, .int .u64 s2, .int .u64 s3, .slice a l.length cap]] (w1.alloc (.cells #[.int .i64 k, .int .i64 mn, .int .i64 mx, .int .u64 s0, .int .u64 s1, .int .u64 s2, .int .u64 s3, .slice a l.length cap] 26)) fun e w' => e = .returned (.tuple #[.string ⟨#[120, 40, 91, 98, 99, 93, 124, 65, 123, 50, 44, 125, 41, 42]⟩, .int .i64 0]) ∧ Later (w1.alloc (.cells #[.int .i64 k, .int .i64 mn, .int .i64 mx, .int .u64 s0, .int .u64 s1, .int .u64 s2, .int .u64 s3, .slice a l.length cap] 26)) w' from HPR.out _ (RxA.node k mn mx s0 s1 s2 s3 a cap l) HX.out HIN.out (by repeat (first | assumption | exact Later.refl _ | refine Later.alloc ?_ _ | refine Later.drew ?_ | refine Later.drewN ?_ _ | refine Later.trans ?_ (by assumption)))); clear hX hin hb1)
    | (go_at_call 7; (with_reducible refine HPX.out.mono ?_); rintro e w2 ⟨rfl, h12⟩)
    | (go_at_call 14; (with_reducible refine (HP2.out _).mono ?_); rintro e w3 ⟨rfl, hb3⟩; have h23 := Later.of hb3; clear hb3; have h33 : Later w3 (w3.alloc (.cells #[.int .i64 0, .int .i64 0, .int .i64 0, .int .u64 0, .int .u64 0, .int .u64 0, .int .u64 0, .slice none 0 0] 26)) := (Later.refl w3).alloc _)
    | (go_at_call 14; (with_reducible refine (HP3.out _).mono ?_); rintro e w4 ⟨rfl, hb4⟩; have h34 := Later.of hb4; clear hb4; have h44 : Later w4 (w4.alloc (.cells #[.int .i64 0, .int .i64 0, .int .i64 0, .int .u64 0, .int .u64 0, .int .u64 0, .int .u64 0, .slice none 0 0] 26)) := (Later.refl w4).alloc _)
    | (go_at_call 7; (with_reducible refine (HPZ.out _ (by repeat (first | assumption | exact Later.refl _ | refine Later.alloc ?_ _ | refine Later.drew ?_ | refine Later.drewN ?_ _ | refine Later.trans ?_ (by assumption)))).mono ?_); rintro e w5 ⟨rfl, h45⟩; have h15 : Later (w1.alloc (.cells #[.int .i64 k, .int .i64 mn, .int .i64 mx, .int .u64 s0, .int .u64 s1, .int .u64 s2, .int .u64 s3, .slice a l.length cap] 26)) w5 := (by repeat (first | assumption | exact Later.refl _ | refine Later.alloc ?_ _ | refine Later.drew ?_ | refine Later.drewN ?_ _ | refine Later.trans ?_ (by assumption))); have HE5 := Lib.hid (h15.block HE1.out); have HIN5 := Lib.hid (in_later8 HIN.out h15); have d0 : w5.cell? ⟨w1.heap.size, 0, none⟩ = some (.int .i64 k) := cell_of_block HE5.out 0; have d1 : w5.cell? ⟨w1.heap.size, 1, none⟩ = some (.int .i64 mn) := cell_of_block HE5.out 1; have d2 : w5.cell? ⟨w1.heap.size, 2, none⟩ = some (.int .i64 mx) := cell_of_block HE5.out 2; have d3 : w5.cell? ⟨w1.heap.size, 3, none⟩ = some (.int .u64 s0) := cell_of_block HE5.out 3; have d4 : w5.cell? ⟨w1.heap.size, 4, none⟩ = some (.int .u64 s1) := cell_of_block HE5.out 4; have d5 : w5.cell? ⟨w1.heap.size, 5, none⟩ = some (.int .u64 s2) := cell_of_block HE5.out 5; have d6 : w5.cell? ⟨w1.heap.size, 6, none⟩ = some (.int .u64 s3) := cell_of_block HE5.out 6; have d7 : w5.cell? ⟨w1.heap.size, 7, none⟩ = some (.slice a l.length cap) := cell_of_block HE5.out 7; have HSX := Lib.hid (show Calls Tryz.prog 12 #[.agg #[.int .i64 k, .int .i64 mn, .int .i64 mx, .int .u64 s0, .int .u64 s1, .int .u64 s2, .int .u64 s3, .slice a l.length cap]] w5 fun e w' => e = .returned (.int .i64 8) ∧ Later w5 w' from HSZ.out _ (RxA.node k mn mx s0 s1 s2 s3 a cap l) HX.out HIN5.out))
    | (go_at_call 12; (with_reducible refine HSX.out.mono ?_); rintro e w6 ⟨rfl, h56⟩; have HE6 := Lib.hid (h56.block HE5.out); have HIN6 := Lib.hid (in_later8 HIN5.out h56); have d0 : w6.cell? ⟨w1.heap.size, 0, none⟩ = some (.int .i64 k) := cell_of_block HE6.out 0; have d1 : w6.cell? ⟨w1.heap.size, 1, none⟩ = some (.int .i64 mn) := cell_of_block HE6.out 1; have d2 : w6.cell? ⟨w1.heap.size, 2, none⟩ = some (.int .i64 mx) := cell_of_block HE6.out 2; have d3 : w6.cell? ⟨w1.heap.size, 3, none⟩ = some (.int .u64 s0) := cell_of_block HE6.out 3; have d4 : w6.cell? ⟨w1.heap.size, 4, none⟩ = some (.int .u64 s1) := cell_of_block HE6.out 4; have d5 : w6.cell? ⟨w1.heap.size, 5, none⟩ = some (.int .u64 s2) := cell_of_block HE6.out 5; have d6 : w6.cell? ⟨w1.heap.size, 6, none⟩ = some (.int .u64 s3) := cell_of_block HE6.out 6; have d7 : w6.cell? ⟨w1.heap.size, 7, none⟩ = some (.slice a l.length cap) := cell_of_block HE6.out 7; have HCX := Lib.hid (show Calls Tryz.prog 10 #[.agg #[.int .i64 k, .int .i64 mn, .int .i64 mx, .int .u64 s0, .int .u64 s1, .int .u64 s2, .int .u64 s3, .slice a l.length cap]] w6 fun e w' => e = .returned (.int .i64 0) ∧ Later w6 w' from HCK.out _ (RxA.node k mn mx s0 s1 s2 s3 a cap l) HX.out HIN6.out))
    | (go_at_call 10; (with_reducible refine HCX.out.mono ?_); rintro e w7 ⟨rfl, h67⟩)
    | (go_at_call 10; (with_reducible refine (HCZ.out _).mono ?_); rintro e w8 ⟨rfl, h78⟩)
    | fail)
  go_ret
  exact ⟨rfl, (by repeat (first | assumption | exact Later.refl _ | refine Later.alloc ?_ _ | refine Later.drew ?_ | refine Later.drewN ?_ _ | refine Later.trans ?_ (by assumption)))⟩
end Go.Proofs.YtjhclopdcbnmkaaGreatDoor

