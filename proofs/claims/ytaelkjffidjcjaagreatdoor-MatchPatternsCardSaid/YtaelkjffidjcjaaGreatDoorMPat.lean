/- The walk of MatchPatterns. -/
import Derived.Test.YtaelkjffidjcjaaGreatDoorRIs
import Derived.Test.YtaelkjffidjcjaaGreatDoorQ13
set_option linter.unusedSimpArgs false
set_option linter.unusedVariables false
namespace Go.Proofs.YtaelkjffidjcjaaGreatDoor
open Go.RowKit PX

theorem rparse_good (w : World) (S : ByteArray) (x : Rx) (h : parseR S.data.toList = .inl x) : Calls Tryz.prog 7 #[.string S] w fun e w' =>
    ∃ k mn mx s0 s1 s2 s3 a cap l, x = (RxA.node k mn mx s0 s1 s2 s3 a cap l).bare ∧ e = .returned (.tuple #[.agg #[.int .i64 k, .int .i64 mn, .int .i64 mx, .int .u64 s0, .int .u64 s1, .int .u64 s2, .int .u64 s3, .slice a l.length cap], .int .i64 0]) ∧
      (RxA.node k mn mx s0 s1 s2 s3 a cap l).In w' w'.heap.size ∧ Later w w' := by
  refine (rparse_any w S).mono ?_
  rintro e w' ⟨hb, ⟨X, hX, he, hi⟩ | ⟨n, hn, -⟩⟩
  · obtain ⟨k, mn, mx, s0, s1, s2, s3, a, cap, l⟩ := X
    rw [h] at hX
    exact ⟨k, mn, mx, s0, s1, s2, s3, a, cap, l, Sum.inl.inj hX, he, hi, hb⟩
  · rw [h] at hn; cases hn
theorem rparse_wrong (w : World) (S : ByteArray) (n : Int) (h : parseR S.data.toList = .inr n) : Calls Tryz.prog 7 #[.string S] w fun e w' =>
    e = .returned (.tuple #[.agg #[.int .i64 0, .int .i64 0, .int .i64 0, .int .u64 0, .int .u64 0, .int .u64 0, .int .u64 0, .slice none 0 0], .int .i64 n]) ∧ Later w w' := by
  refine (rparse_any w S).mono ?_
  rintro e w' ⟨hb, ⟨X, hX, -, -⟩ | ⟨m, hm, he⟩⟩
  · rw [h] at hX; cases hX
  · rw [h] at hm
    obtain rfl := Sum.inr.inj hm
    exact ⟨he, hb⟩
theorem check_read {s : List UInt8} {x : Rx} (h : parseR s = .inl x) : checkR x = 0 := by
  obtain ⟨h1, h2⟩ := parseR_form h
  unfold checkR
  rw [if_pos h1, if_neg (by omega)]
theorem is_says (w : World) (p : Nat) (x : Rx) (h : MX w p x) (S : ByteArray) (hs : S.size ≤ 256) :
    Calls Tryz.prog 9 #[.pointer (some ⟨p, 0, none⟩), .string S] w fun e w' => e = .returned (.tuple #[.bool (inB x.lang S.data.toList), .int .i64 0]) ∧ Later w w' := by
  refine (is_any w p x S h.m h.t).mono ?_
  rintro e w' ⟨hb, ⟨h1, rfl⟩ | ⟨h1, r, rfl, hr⟩⟩
  · omega
  · refine ⟨?_, hb⟩
    rw [show r = inB x.lang S.data.toList from by rw [Bool.eq_iff_iff, hr, inB_iff]]

set_option maxRecDepth 100000 in
set_option maxHeartbeats 2000000 in
theorem patterns_any (w : World) (P S : ByteArray) (hT : TabAt 0 Lib.deBruijn64tab w) :
    Calls Tryz.prog 3 #[.string P, .string S] w fun e w' => e = .returned (.bool true) ∧ Later w w' := by
  have HFIX := Lib.hid (fun w1 (h1 : Later w w1) => fixed_any w1 (TabAt.below hT h1))
  have HT := Lib.hid hT
  clear hT
  cases hp : parseR P.data.toList with
  | inr n =>
    have HOF := Lib.hid (of_wrong w P n hp)
    have HRP := Lib.hid (fun w1 => rparse_wrong w1 P n hp)
    have hn : (n != 0) = true := by
      rcases parseR_err hp with rfl | rfl <;> rfl
    clear hp
    go_enter Tryz.func3, Tryz.ntmps3
    go_wp2_with (first
      | (go_at_call 6; (with_reducible refine HOF.out.mono ?_); rintro e w1 ⟨rfl, hb1⟩; have hl1 := Later.of hb1; clear hb1)
      | (go_at_call 7; (with_reducible refine (HRP.out _).mono ?_); rintro e w2 ⟨rfl, hl2⟩)
      | (go_at_call 8; (with_reducible refine (HFIX.out _ (by repeat (first | assumption | exact Later.refl _ | refine Later.alloc ?_ _ | refine Later.trans ?_ (by assumption)))).mono ?_); rintro e w3 ⟨rfl, hb3⟩; have hl3 := Later.of hb3; clear hb3)
      | fail)
    go_ret
    exact ⟨rfl, (by repeat (first | assumption | exact Later.refl _ | refine Later.alloc ?_ _ | refine Later.trans ?_ (by assumption)))⟩
  | inl x =>
    have hc := check_read hp
    have HOF := Lib.hid (of_good w P x hp hc)
    have HRP := Lib.hid (fun w1 => rparse_good w1 P x hp)
    have HC := Lib.hid hc
    clear hp hc
    by_cases hs : S.size ≤ 256
    · have hs2 : ¬ (256 : Int) < S.size := by omega
      have HIS := Lib.hid (fun w1 p (h : MX w1 p x) => is_says w1 p x h S hs)
      have HRI := Lib.hid (fun w1 (X : RxA) (hX : x = X.bare) (hin : X.In w1 w1.heap.size) => show Calls Tryz.prog 10 #[X.val, .string S] w1 fun e w' => e = .returned (.bool (inB x.lang S.data.toList)) ∧ Later w1 w' from by
        rw [hX]
        exact ris_any w1 X S hs hin (by rw [← hX]; exact HC.out))
      clear hs
      go_enter Tryz.func3, Tryz.ntmps3
      go_wp2_with (first
        | (go_at_call 6; (with_reducible refine HOF.out.mono ?_); rintro e w1 ⟨p, rfl, hpl, hm, hb1⟩; have HM1 := Lib.hid (MX.mk hm (TabAt.below HT.out hb1)); have hl1 := Later.of hb1; clear hb1 hm)
        | (go_at_call 7; (with_reducible refine (HRP.out _).mono ?_); rintro e w2 ⟨k, mn, mx, s0, s1, s2, s3, a, cap, l, hX, rfl, hin, hl2⟩; have HX := Lib.hid hX; have HIN := Lib.hid hin; have HE := Lib.hid (alloc_block w2 (.cells #[.int .i64 k, .int .i64 mn, .int .i64 mx, .int .u64 s0, .int .u64 s1, .int .u64 s2, .int .u64 s3, .slice a l.length cap] 30)); have ha2 : Later w2 (w2.alloc (.cells #[.int .i64 k, .int .i64 mn, .int .i64 mx, .int .u64 s0, .int .u64 s1, .int .u64 s2, .int .u64 s3, .slice a l.length cap] 30)) := (Later.refl w2).alloc _; clear hX hin)
        | (go_at_call 8; (with_reducible refine (HFIX.out _ (by repeat (first | assumption | exact Later.refl _ | refine Later.alloc ?_ _ | refine Later.trans ?_ (by assumption)))).mono ?_); rintro e w3 ⟨rfl, hb3⟩; have hl3 := Later.of hb3; clear hb3)
        | (go_at_call 9; (with_reducible refine (HIS.out _ p (HM1.out.later (by repeat (first | assumption | exact Later.refl _ | refine Later.alloc ?_ _ | refine Later.trans ?_ (by assumption))))).mono ?_); rintro e w4 ⟨rfl, hl4⟩; have hl24 : Later (w2.alloc (.cells #[.int .i64 k, .int .i64 mn, .int .i64 mx, .int .u64 s0, .int .u64 s1, .int .u64 s2, .int .u64 s3, .slice a l.length cap] 30)) w4 := (by repeat (first | assumption | exact Later.refl _ | refine Later.alloc ?_ _ | refine Later.trans ?_ (by assumption))); have hE4 := hl24.block HE.out; have q0 : w4.cell? ⟨w2.heap.size, 0, none⟩ = some (.int .i64 k) := cell_of_block hE4 0; have q1 : w4.cell? ⟨w2.heap.size, 1, none⟩ = some (.int .i64 mn) := cell_of_block hE4 1; have q2 : w4.cell? ⟨w2.heap.size, 2, none⟩ = some (.int .i64 mx) := cell_of_block hE4 2; have q3 : w4.cell? ⟨w2.heap.size, 3, none⟩ = some (.int .u64 s0) := cell_of_block hE4 3; have q4 : w4.cell? ⟨w2.heap.size, 4, none⟩ = some (.int .u64 s1) := cell_of_block hE4 4; have q5 : w4.cell? ⟨w2.heap.size, 5, none⟩ = some (.int .u64 s2) := cell_of_block hE4 5; have q6 : w4.cell? ⟨w2.heap.size, 6, none⟩ = some (.int .u64 s3) := cell_of_block hE4 6; have q7 : w4.cell? ⟨w2.heap.size, 7, none⟩ = some (.slice a l.length cap) := cell_of_block hE4 7; clear hE4)
        | (go_at_call 10; refine (HRI.out _ (RxA.node k mn mx s0 s1 s2 s3 a cap l) HX.out ((HIN.out.below (Later.trans ha2 hl24).out (Nat.le_refl _)).later (Below.size (Later.trans ha2 hl24).out) (fun _ _ _ => rfl))).mono ?_; rintro e w5 ⟨rfl, hl5⟩)
        | fail)
      go_ret
      exact ⟨rfl, (by repeat (first | assumption | exact Later.refl _ | refine Later.alloc ?_ _ | refine Later.trans ?_ (by assumption)))⟩
    · have hs2 : (256 : Int) < S.size := by omega
      clear hs
      go_enter Tryz.func3, Tryz.ntmps3
      go_wp2_with (first
        | (go_at_call 6; (with_reducible refine HOF.out.mono ?_); rintro e w1 ⟨p, rfl, hpl, hm, hb1⟩; have hl1 := Later.of hb1; clear hb1 hm)
        | (go_at_call 7; (with_reducible refine (HRP.out _).mono ?_); rintro e w2 ⟨k, mn, mx, s0, s1, s2, s3, a, cap, l, hX, rfl, hin, hl2⟩; clear hX hin)
        | (go_at_call 8; (with_reducible refine (HFIX.out _ (by repeat (first | assumption | exact Later.refl _ | refine Later.alloc ?_ _ | refine Later.trans ?_ (by assumption)))).mono ?_); rintro e w3 ⟨rfl, hb3⟩; have hl3 := Later.of hb3; clear hb3)
        | fail)
      go_ret
      exact ⟨rfl, (by repeat (first | assumption | exact Later.refl _ | refine Later.alloc ?_ _ | refine Later.trans ?_ (by assumption)))⟩
end Go.Proofs.YtaelkjffidjcjaaGreatDoor
