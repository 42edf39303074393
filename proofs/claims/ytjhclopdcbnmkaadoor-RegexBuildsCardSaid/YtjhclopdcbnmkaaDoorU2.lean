/- The walk of castellanlaw05.told. (Printed by wip/gen_u2.py.) -/
import Derived.Test.YtjhclopdcbnmkaaDoorS9
import Derived.Test.YtjhclopdcbnmkaaDoorT1
import Derived.Test.YtjhclopdcbnmkaaDoorU1
set_option linter.unusedSimpArgs false
set_option linter.unusedVariables false
namespace Go.Proofs.YtjhclopdcbnmkaaDoor
open Go.RowKit PX

set_option maxRecDepth 100000 in
set_option maxHeartbeats 4000000 in
theorem law_told (w : World) (S : ByteArray) (X : RxA) (hin : X.In w w.heap.size) (h : parseR S.data.toList = if 128 < S.data.toList.length ∨ checkR X.bare ≠ 0 then .inr 51 else .inl X.bare) :
    Calls Tryd.prog 15 #[.string S, X.val] w fun e w' => e = .returned (.bool true) ∧ Later w w' := by
  obtain ⟨k, mn, mx, s0, s1, s2, s3, a, cap, l⟩ := X
  obtain ⟨n, hn⟩ : ∃ n, checkR (RxA.node k mn mx s0 s1 s2 s3 a cap l).bare = n := ⟨_, rfl⟩
  have HIN := Lib.hid hin
  have HC := Lib.hid (fun w1 (h1 : Later w w1) => (show Calls Tryd.prog 11 #[.agg #[.int .i64 k, .int .i64 mn, .int .i64 mx, .int .u64 s0, .int .u64 s1, .int .u64 s2, .int .u64 s3, .slice a l.length cap]] w1 fun e w' => e = .returned (.int .i64 n) ∧ Later w1 w' from by
    have h := pcheck_any (RxA.node k mn mx s0 s1 s2 s3 a cap l) w1 w1.heap.size (Nat.le_refl _) (in_later8 HIN.out h1)
    rw [hn] at h
    exact h))
  rw [hn] at h
  clear hin
  simp only [RxA.val, RxA.cells]
  obtain ⟨w0, hw0⟩ : ∃ w0, w.alloc (.cells #[.int .i64 k, .int .i64 mn, .int .i64 mx, .int .u64 s0, .int .u64 s1, .int .u64 s2, .int .u64 s3, .slice a l.length cap] 26) = w0 := ⟨_, rfl⟩
  have hl0 : Later w w0 := by rw [← hw0]; exact (Later.refl w).alloc _
  have hb0 : w0.heap[w.heap.size]? = some (.cells #[.int .i64 k, .int .i64 mn, .int .i64 mx, .int .u64 s0, .int .u64 s1, .int .u64 s2, .int .u64 s3, .slice a l.length cap] 26 (0, 0)) := by rw [← hw0]; exact alloc_block w _
  obtain ⟨b, hb⟩ : ∃ b, w.heap.size = b := ⟨_, rfl⟩
  rw [hb] at hb0
  have HB0 := Lib.hid hb0
  have HW0 := Lib.hid hw0
  have HL0 := Lib.hid hl0
  have HBE := Lib.hid hb
  clear hb0 hw0 hl0 hb
  have hbad : ∀ w1 : World, parseR S.data.toList = .inr 51 → Calls Tryd.prog 12 #[.string S] w1 fun e w' => e = .returned (.tuple #[.agg #[.int .i64 0, .int .i64 0, .int .i64 0, .int .u64 0, .int .u64 0, .int .u64 0, .int .u64 0, .slice none 0 0], .int .i64 51]) ∧ Below w1.heap.size w1 w' := fun w1 h1 => parse_wrong w1 S 51 h1
  by_cases hs : 128 < S.size
  · have HP := Lib.hid (fun w1 => hbad w1 (by rw [h, if_pos (.inl hs)]))
    have hsI : 128 < (S.size : Int) := by omega
    have hsD : decide (128 < (S.size : Int)) = true := by simp; omega
    clear h hbad hs hn
    go_enter Tryd.func15, Tryd.ntmps15
    go_upto_region 1 with fail
    rw [HW0.out, HBE.out]
    have hl0 := HL0.out
    go_wp2_with (first
      | (go_at_call 12; (with_reducible refine (HP.out _).mono ?_); rintro e w1 ⟨rfl, hb1⟩; have hl1 := Later.of hb1; clear hb1; have h11 : Later w1 (w1.alloc (.cells #[.int .i64 0, .int .i64 0, .int .i64 0, .int .u64 0, .int .u64 0, .int .u64 0, .int .u64 0, .slice none 0 0] 26)) := (Later.refl w1).alloc _)
      | fail)
    go_ret
    exact ⟨rfl, (by repeat (first | assumption | exact Later.refl _ | refine Later.alloc ?_ _ | refine Later.drew ?_ | refine Later.drewN ?_ _ | refine Later.trans ?_ (by assumption)))⟩
  · have hsI : ¬ 128 < (S.size : Int) := by omega
    have hsD : decide (128 < (S.size : Int)) = false := by simp; omega
    by_cases hc : n = 0
    · subst hc
      have HPN := Lib.hid hn
      have HP := Lib.hid (fun w1 => parse_good w1 S _ (h.trans (if_neg (by rintro (h | h); exact hs h; exact h rfl))))
      clear h hbad hs hn
      go_enter Tryd.func15, Tryd.ntmps15
      go_upto_region 1 with fail
      rw [HW0.out, HBE.out]
      have hl0 := HL0.out
      go_wp2_with (first
        | (go_at_call 12; (with_reducible refine (HP.out _).mono ?_); rintro e w1 ⟨yk, ymn, ymx, ys0, ys1, ys2, ys3, ya, ycap, yl, yX, rfl, yin, hb1⟩; have hl1 := Later.of hb1; clear hb1; have h11 : Later w1 (w1.alloc (.cells #[.int .i64 yk, .int .i64 ymn, .int .i64 ymx, .int .u64 ys0, .int .u64 ys1, .int .u64 ys2, .int .u64 ys3, .slice ya yl.length ycap] 26)) := (Later.refl w1).alloc _; have K0 := (hl1.trans h11).block HB0.out; have c0 : (w1.alloc (.cells #[.int .i64 yk, .int .i64 ymn, .int .i64 ymx, .int .u64 ys0, .int .u64 ys1, .int .u64 ys2, .int .u64 ys3, .slice ya yl.length ycap] 26)).cell? ⟨b, 0, none⟩ = some (.int .i64 k) := cell_of_block K0 0; have c1 : (w1.alloc (.cells #[.int .i64 yk, .int .i64 ymn, .int .i64 ymx, .int .u64 ys0, .int .u64 ys1, .int .u64 ys2, .int .u64 ys3, .slice ya yl.length ycap] 26)).cell? ⟨b, 1, none⟩ = some (.int .i64 mn) := cell_of_block K0 1; have c2 : (w1.alloc (.cells #[.int .i64 yk, .int .i64 ymn, .int .i64 ymx, .int .u64 ys0, .int .u64 ys1, .int .u64 ys2, .int .u64 ys3, .slice ya yl.length ycap] 26)).cell? ⟨b, 2, none⟩ = some (.int .i64 mx) := cell_of_block K0 2; have c3 : (w1.alloc (.cells #[.int .i64 yk, .int .i64 ymn, .int .i64 ymx, .int .u64 ys0, .int .u64 ys1, .int .u64 ys2, .int .u64 ys3, .slice ya yl.length ycap] 26)).cell? ⟨b, 3, none⟩ = some (.int .u64 s0) := cell_of_block K0 3; have c4 : (w1.alloc (.cells #[.int .i64 yk, .int .i64 ymn, .int .i64 ymx, .int .u64 ys0, .int .u64 ys1, .int .u64 ys2, .int .u64 ys3, .slice ya yl.length ycap] 26)).cell? ⟨b, 4, none⟩ = some (.int .u64 s1) := cell_of_block K0 4; have c5 : (w1.alloc (.cells #[.int .i64 yk, .int .i64 ymn, .int .i64 ymx, .int .u64 ys0, .int .u64 ys1, .int .u64 ys2, .int .u64 ys3, .slice ya yl.length ycap] 26)).cell? ⟨b, 5, none⟩ = some (.int .u64 s2) := cell_of_block K0 5; have c6 : (w1.alloc (.cells #[.int .i64 yk, .int .i64 ymn, .int .i64 ymx, .int .u64 ys0, .int .u64 ys1, .int .u64 ys2, .int .u64 ys3, .slice ya yl.length ycap] 26)).cell? ⟨b, 6, none⟩ = some (.int .u64 s3) := cell_of_block K0 6; have c7 : (w1.alloc (.cells #[.int .i64 yk, .int .i64 ymn, .int .i64 ymx, .int .u64 ys0, .int .u64 ys1, .int .u64 ys2, .int .u64 ys3, .slice ya yl.length ycap] 26)).cell? ⟨b, 7, none⟩ = some (.slice a l.length cap) := cell_of_block K0 7; have cl := lt_of_block K0; have HK0 := Lib.hid K0; have HY := Lib.hid (in_later8 yin h11); have HYX := Lib.hid yX; have HKY := Lib.hid (alloc_block w1 (.cells #[.int .i64 yk, .int .i64 ymn, .int .i64 ymx, .int .u64 ys0, .int .u64 ys1, .int .u64 ys2, .int .u64 ys3, .slice ya yl.length ycap] 26)); clear yin yX K0)
        | (go_at_call 11; (with_reducible refine (HC.out _ (by repeat (first | assumption | exact Later.refl _ | refine Later.alloc ?_ _ | refine Later.drew ?_ | refine Later.drewN ?_ _ | refine Later.trans ?_ (by assumption)))).mono ?_); rintro e w2 ⟨rfl, hl2⟩ ; have K2 := hl2.block HK0.out; have Y2 := hl2.block HKY.out; have d0 : w2.cell? ⟨b, 0, none⟩ = some (.int .i64 k) := cell_of_block K2 0; have d1 : w2.cell? ⟨b, 1, none⟩ = some (.int .i64 mn) := cell_of_block K2 1; have d2 : w2.cell? ⟨b, 2, none⟩ = some (.int .i64 mx) := cell_of_block K2 2; have d3 : w2.cell? ⟨b, 3, none⟩ = some (.int .u64 s0) := cell_of_block K2 3; have d4 : w2.cell? ⟨b, 4, none⟩ = some (.int .u64 s1) := cell_of_block K2 4; have d5 : w2.cell? ⟨b, 5, none⟩ = some (.int .u64 s2) := cell_of_block K2 5; have d6 : w2.cell? ⟨b, 6, none⟩ = some (.int .u64 s3) := cell_of_block K2 6; have d7 : w2.cell? ⟨b, 7, none⟩ = some (.slice a l.length cap) := cell_of_block K2 7; have dl := lt_of_block K2; have e0 : w2.cell? ⟨w1.heap.size, 0, none⟩ = some (.int .i64 yk) := cell_of_block Y2 0; have e1 : w2.cell? ⟨w1.heap.size, 1, none⟩ = some (.int .i64 ymn) := cell_of_block Y2 1; have e2 : w2.cell? ⟨w1.heap.size, 2, none⟩ = some (.int .i64 ymx) := cell_of_block Y2 2; have e3 : w2.cell? ⟨w1.heap.size, 3, none⟩ = some (.int .u64 ys0) := cell_of_block Y2 3; have e4 : w2.cell? ⟨w1.heap.size, 4, none⟩ = some (.int .u64 ys1) := cell_of_block Y2 4; have e5 : w2.cell? ⟨w1.heap.size, 5, none⟩ = some (.int .u64 ys2) := cell_of_block Y2 5; have e6 : w2.cell? ⟨w1.heap.size, 6, none⟩ = some (.int .u64 ys3) := cell_of_block Y2 6; have e7 : w2.cell? ⟨w1.heap.size, 7, none⟩ = some (.slice ya yl.length ycap) := cell_of_block Y2 7; have el := lt_of_block Y2; clear K2 Y2; have HSM := Lib.hid (show Calls Tryd.prog 13 #[.agg #[.int .i64 yk, .int .i64 ymn, .int .i64 ymx, .int .u64 ys0, .int .u64 ys1, .int .u64 ys2, .int .u64 ys3, .slice ya yl.length ycap], .agg #[.int .i64 k, .int .i64 mn, .int .i64 mx, .int .u64 s0, .int .u64 s1, .int .u64 s2, .int .u64 s3, .slice a l.length cap]] w2 fun e w' => e = .returned (.bool true) ∧ Later w2 w' from same_true (RxA.node yk ymn ymx ys0 ys1 ys2 ys3 ya ycap yl) (RxA.node k mn mx s0 s1 s2 s3 a cap l) _ (in_later8 HY.out hl2) (in_later8 HIN.out (hl0.trans ((hl1.trans h11).trans hl2))) HYX.out.symm))
        | (go_at_call 13; (with_reducible refine HSM.out.mono ?_); rintro e w3 ⟨rfl, hl3⟩)
        | fail)
      go_ret
      exact ⟨rfl, (by repeat (first | assumption | exact Later.refl _ | refine Later.alloc ?_ _ | refine Later.drew ?_ | refine Later.drewN ?_ _ | refine Later.trans ?_ (by assumption)))⟩
    · have HP := Lib.hid (fun w1 => hbad w1 (by rw [h, if_pos (.inr hc)]))
      have hnz : (n != 0) = true := by rw [bne_iff_ne]; exact hc
      clear h hbad hs hn
      go_enter Tryd.func15, Tryd.ntmps15
      go_upto_region 1 with fail
      rw [HW0.out, HBE.out]
      have hl0 := HL0.out
      go_wp2_with (first
        | (go_at_call 12; (with_reducible refine (HP.out _).mono ?_); rintro e w1 ⟨rfl, hb1⟩; have hl1 := Later.of hb1; clear hb1; have h11 : Later w1 (w1.alloc (.cells #[.int .i64 0, .int .i64 0, .int .i64 0, .int .u64 0, .int .u64 0, .int .u64 0, .int .u64 0, .slice none 0 0] 26)) := (Later.refl w1).alloc _; have K0 := (hl1.trans h11).block HB0.out; have c0 : (w1.alloc (.cells #[.int .i64 0, .int .i64 0, .int .i64 0, .int .u64 0, .int .u64 0, .int .u64 0, .int .u64 0, .slice none 0 0] 26)).cell? ⟨b, 0, none⟩ = some (.int .i64 k) := cell_of_block K0 0; have c1 : (w1.alloc (.cells #[.int .i64 0, .int .i64 0, .int .i64 0, .int .u64 0, .int .u64 0, .int .u64 0, .int .u64 0, .slice none 0 0] 26)).cell? ⟨b, 1, none⟩ = some (.int .i64 mn) := cell_of_block K0 1; have c2 : (w1.alloc (.cells #[.int .i64 0, .int .i64 0, .int .i64 0, .int .u64 0, .int .u64 0, .int .u64 0, .int .u64 0, .slice none 0 0] 26)).cell? ⟨b, 2, none⟩ = some (.int .i64 mx) := cell_of_block K0 2; have c3 : (w1.alloc (.cells #[.int .i64 0, .int .i64 0, .int .i64 0, .int .u64 0, .int .u64 0, .int .u64 0, .int .u64 0, .slice none 0 0] 26)).cell? ⟨b, 3, none⟩ = some (.int .u64 s0) := cell_of_block K0 3; have c4 : (w1.alloc (.cells #[.int .i64 0, .int .i64 0, .int .i64 0, .int .u64 0, .int .u64 0, .int .u64 0, .int .u64 0, .slice none 0 0] 26)).cell? ⟨b, 4, none⟩ = some (.int .u64 s1) := cell_of_block K0 4; have c5 : (w1.alloc (.cells #[.int .i64 0, .int .i64 0, .int .i64 0, .int .u64 0, .int .u64 0, .int .u64 0, .int .u64 0, .slice none 0 0] 26)).cell? ⟨b, 5, none⟩ = some (.int .u64 s2) := cell_of_block K0 5; have c6 : (w1.alloc (.cells #[.int .i64 0, .int .i64 0, .int .i64 0, .int .u64 0, .int .u64 0, .int .u64 0, .int .u64 0, .slice none 0 0] 26)).cell? ⟨b, 6, none⟩ = some (.int .u64 s3) := cell_of_block K0 6; have c7 : (w1.alloc (.cells #[.int .i64 0, .int .i64 0, .int .i64 0, .int .u64 0, .int .u64 0, .int .u64 0, .int .u64 0, .slice none 0 0] 26)).cell? ⟨b, 7, none⟩ = some (.slice a l.length cap) := cell_of_block K0 7; have cl := lt_of_block K0; clear K0)
        | (go_at_call 11; (with_reducible refine (HC.out _ (by repeat (first | assumption | exact Later.refl _ | refine Later.alloc ?_ _ | refine Later.drew ?_ | refine Later.drewN ?_ _ | refine Later.trans ?_ (by assumption)))).mono ?_); rintro e w2 ⟨rfl, hl2⟩ )
        | fail)
      go_ret
      exact ⟨rfl, (by repeat (first | assumption | exact Later.refl _ | refine Later.alloc ?_ _ | refine Later.drew ?_ | refine Later.drewN ?_ _ | refine Later.trans ?_ (by assumption)))⟩
end Go.Proofs.YtjhclopdcbnmkaaDoor
