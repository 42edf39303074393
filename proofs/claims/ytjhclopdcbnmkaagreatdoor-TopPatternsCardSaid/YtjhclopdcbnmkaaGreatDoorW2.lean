/- The walks of castellantop's rest and patternsFixed. -/
import Derived.Test.YtjhclopdcbnmkaaGreatDoorW1
import Derived.Test.YtjhclopdcbnmkaaGreatDoorS9
import Derived.BigGuardPart
set_option linter.unusedSimpArgs false
set_option linter.unusedVariables false
namespace Go.Proofs.YtjhclopdcbnmkaaGreatDoor
open Go.RowKit PX

theorem tmod_neg {n m : Int} (h : n < 0) : n.tmod m = -((-n) % m) := by
  have e : n = -(-n) := by omega
  conv => lhs; rw [e]
  rw [Int.neg_tmod, Int.tmod_eq_emod_of_nonneg (by omega)]
set_option maxRecDepth 100000 in
theorem rest_any (w : World) (n m : Int) (hn : I64 n) (hm : m = 8 ∨ m = 7 ∨ m = 3) :
    Calls Tryz.prog 23 #[.int .i64 n, .int .i64 m] w fun e w' => e = .returned (.int .i64 (n % m)) ∧ w = w' := by
  unfold I64 at hn
  by_cases h : 0 ≤ n
  · rcases hm with rfl | rfl | rfl
    all_goals
      go_enter Tryz.func23, Tryz.ntmps23
      go_wp2
      go_ret
      exact ⟨rfl, rfl⟩
  · have hneg : n < 0 := by omega
    rcases hm with rfl | rfl | rfl
    · have ht := tmod_neg (m := 8) hneg
      rcases (by omega : (n.tmod 8 < 0 ∧ -8 < n.tmod 8 ∧ n.tmod 8 + 8 = n % 8) ∨ (¬ n.tmod 8 < 0 ∧ n.tmod 8 = n % 8)) with ⟨h1, h2, h3⟩ | ⟨h1, h3⟩
      all_goals
        have H3 := Lib.hid h3
        clear ht h3
        go_enter Tryz.func23, Tryz.ntmps23
        go_wp2
        go_ret
        exact ⟨ret_int H3.out, rfl⟩
    · have ht := tmod_neg (m := 7) hneg
      rcases (by omega : (n.tmod 7 < 0 ∧ -7 < n.tmod 7 ∧ n.tmod 7 + 7 = n % 7) ∨ (¬ n.tmod 7 < 0 ∧ n.tmod 7 = n % 7)) with ⟨h1, h2, h3⟩ | ⟨h1, h3⟩
      all_goals
        have H3 := Lib.hid h3
        clear ht h3
        go_enter Tryz.func23, Tryz.ntmps23
        go_wp2
        go_ret
        exact ⟨ret_int H3.out, rfl⟩
    · have ht := tmod_neg (m := 3) hneg
      rcases (by omega : (n.tmod 3 < 0 ∧ -3 < n.tmod 3 ∧ n.tmod 3 + 3 = n % 3) ∨ (¬ n.tmod 3 < 0 ∧ n.tmod 3 = n % 3)) with ⟨h1, h2, h3⟩ | ⟨h1, h3⟩
      all_goals
        have H3 := Lib.hid h3
        clear ht h3
        go_enter Tryz.func23, Tryz.ntmps23
        go_wp2
        go_ret
        exact ⟨ret_int H3.out, rfl⟩
theorem new_topW (w : World) (X : RxA) (hin : X.In w w.heap.size) (hc : checkR X.bare = 0) :
    Calls Tryz.prog 40 #[X.val] w fun e w' => ∃ p, e = .returned (.tuple #[.pointer (some ⟨p, 0, none⟩), .int .i64 0]) ∧ Machine w' p X.bare ∧ Later w w' := by
  refine (new_any X w w.heap.size (Nat.le_refl _) hin).mono ?_
  rintro e w' ⟨hb, ⟨-, p, rfl, -, hM⟩ | ⟨hn, -⟩⟩
  · exact ⟨p, rfl, hM, hb⟩
  · exact absurd hc hn
theorem is_topW (w : World) (p : Nat) (x : Rx) (s : ByteArray) (h : Machine w p x) (hT : TabAt 0 Lib.deBruijn64tab w) (hs : s.size ≤ 256) (hl : x.lang s.data.toList) :
    Calls Tryz.prog 37 #[.pointer (some ⟨p, 0, none⟩), .string s] w fun e w' => e = .returned (.tuple #[.bool true, .int .i64 0]) ∧ Later w w' := by
  refine (is_any w p x s h hT).mono ?_
  rintro e w' ⟨hb, ⟨h1, -⟩ | ⟨-, r, rfl, hr⟩⟩
  · omega
  · obtain rfl : r = true := hr.2 hl
    exact ⟨rfl, hb⟩
abbrev tpB1 : ByteArray := ⟨#[111, 107, 124, 91, 48, 45, 57, 93, 43]⟩
abbrev tpB2 : ByteArray := ⟨#[91, 49, 45, 54, 93]⟩
def tvl : List RuV := [⟨1, 0, 2, tpB1, tpB2⟩]
theorem tdec_says (w : World) (b : Nat) (h : w.heap[b]? = some (.cells #[.int .i64 1, .int .i64 0, .int .i64 2, .string tpB1, .string tpB2] 56 (0, 0))) (hT : TabAt 0 Lib.deBruijn64tab w) :
    Calls Tryz.prog 17 #[.slice (some ⟨b, 0, none⟩) 1 1, .int .i64 1, .int .i64 0, .string ⟨#[49, 55]⟩] w fun e w' => e = .returned (.tuple #[.agg #[.int .i64 0, .int .i64 2, .string ⟨#[42, 55]⟩], .int .i64 0]) ∧ Later w w' := by
  have hR : RulesIn w (some ⟨b, 0, none⟩) 1 tvl := by
    refine ⟨by decide, by decide, .inr ⟨b, 0, rfl, lt_of_block h, fun i hi j hj => ?_⟩⟩
    obtain rfl : i = 0 := by have : tvl.length = 1 := rfl; omega
    rw [show 0 + 0 * 5 + j = j by omega, cell_of_block h j]
    rcases (by omega : j = 0 ∨ j = 1 ∨ j = 2 ∨ j = 3 ∨ j = 4) with rfl | rfl | rfl | rfl | rfl <;> rfl
  have h2 := decide_any w (some ⟨b, 0, none⟩) 1 tvl 1 0 ⟨#[49, 55]⟩ hR hT
  rw [show decideG (tvl.map RuV.bare) 1 0 (⟨#[49, 55]⟩ : ByteArray).data.toList = (0, 2, [42, 55], 0) from tdecide] at h2
  exact h2
set_option maxRecDepth 100000 in
set_option maxHeartbeats 2000000 in
theorem tfixed_any (w : World) (hT : TabAt 0 Lib.deBruijn64tab w) (hP : PowAt w) : Calls Tryz.prog 22 #[] w fun e w' => e = .returned (.bool true) ∧ Later w w' := by
  have HT := Lib.hid (fun w1 (h1 : Later w w1) => TabAt.below hT h1)
  have HP := Lib.hid (fun w1 (h1 : Later w w1) => hP.later h1)
  clear hT hP
  have HPA := Lib.hid (fun w1 => parse_good w1 tpB1 tx1 tparse1)
  have HDE := Lib.hid tdec_says
  go_enter Tryz.func22, Tryz.ntmps22
  go_upto_region 2 with (first
    | (go_at_call 14; (with_reducible refine (HPA.out _).mono ?_); rintro e w1 ⟨k, mn, mx, s0, s1, s2, s3, a, cap, l, hX, rfl, hin, hb1⟩; have hl1 := Later.of hb1; clear hb1; have HX := Lib.hid hX; have HIN := Lib.hid hin; clear hX hin)
    | fail)
  obtain ⟨w2, hw2⟩ : ∃ w2, w1.alloc (.cells #[.int .i64 k, .int .i64 mn, .int .i64 mx, .int .u64 s0, .int .u64 s1, .int .u64 s2, .int .u64 s3, .slice a l.length cap] 26) = w2 := ⟨_, rfl⟩
  rw [hw2]
  have hl2 : Later w1 w2 := by rw [← hw2]; exact (Later.refl w1).alloc _
  have hb2 : w2.heap[w1.heap.size]? = some (.cells #[.int .i64 k, .int .i64 mn, .int .i64 mx, .int .u64 s0, .int .u64 s1, .int .u64 s2, .int .u64 s3, .slice a l.length cap] 26 (0, 0)) := by rw [← hw2]; exact alloc_block w1 _
  have hin2 := in_later8 HIN.out hl2
  have HSX := Lib.hid (fun w' (h' : Later w2 w') => show w'.cell? ⟨w1.heap.size, 0, none⟩ = some (.int .i64 k) ∧ w'.cell? ⟨w1.heap.size, 1, none⟩ = some (.int .i64 mn) ∧ w'.cell? ⟨w1.heap.size, 2, none⟩ = some (.int .i64 mx) ∧ w'.cell? ⟨w1.heap.size, 3, none⟩ = some (.int .u64 s0) ∧ w'.cell? ⟨w1.heap.size, 4, none⟩ = some (.int .u64 s1) ∧ w'.cell? ⟨w1.heap.size, 5, none⟩ = some (.int .u64 s2) ∧ w'.cell? ⟨w1.heap.size, 6, none⟩ = some (.int .u64 s3) ∧ w'.cell? ⟨w1.heap.size, 7, none⟩ = some (.slice a l.length cap) from
    ⟨cell_of_block (h'.block hb2) 0, cell_of_block (h'.block hb2) 1, cell_of_block (h'.block hb2) 2, cell_of_block (h'.block hb2) 3, cell_of_block (h'.block hb2) 4, cell_of_block (h'.block hb2) 5, cell_of_block (h'.block hb2) 6, cell_of_block (h'.block hb2) 7⟩)
  have HPR := Lib.hid (fun w' (h' : Later w2 w') => (show Calls Tryz.prog 7 #[.agg #[.int .i64 k, .int .i64 mn, .int .i64 mx, .int .u64 s0, .int .u64 s1, .int .u64 s2, .int .u64 s3, .slice a l.length cap]] w' fun e w'' => e = .returned (.tuple #[.string tpB1, .int .i64 0]) ∧ Later w' w'' from by
    have h := print_any w' (RxA.node k mn mx s0 s1 s2 s3 a cap l) (in_later8 hin2 h') (HP.out w' (hl1.trans (hl2.trans h')))
    rw [← HX.out, tprintS, tprintE] at h
    exact h))
  have HNW := Lib.hid (fun w' (h' : Later w2 w') => (show Calls Tryz.prog 40 #[.agg #[.int .i64 k, .int .i64 mn, .int .i64 mx, .int .u64 s0, .int .u64 s1, .int .u64 s2, .int .u64 s3, .slice a l.length cap]] w' fun e w'' => ∃ p, e = .returned (.tuple #[.pointer (some ⟨p, 0, none⟩), .int .i64 0]) ∧ Machine w'' p tx1 ∧ Later w' w'' from by
    have h := new_topW w' (RxA.node k mn mx s0 s1 s2 s3 a cap l) (in_later8 hin2 h') (by rw [← HX.out]; exact tcheck1)
    rw [← HX.out] at h
    exact h))
  clear hw2 hb2 hin2
  obtain ⟨d0, d1, d2, d3, d4, d5, d6, d7⟩ := HSX.out w2 (Later.refl _)
  go_upto_region 6 with (first
    | (go_at_call 7; (with_reducible refine (HPR.out _ (Later.refl _)).mono ?_); rintro e w3 ⟨rfl, hl3⟩; clear d0 d1 d2 d3 d4 d5 d6 d7; obtain ⟨d0, d1, d2, d3, d4, d5, d6, d7⟩ := HSX.out w3 hl3)
    | (go_at_call 40; (with_reducible refine (HNW.out _ hl3).mono ?_); rintro e w4 ⟨p, rfl, hM, hl4⟩; have HM := Lib.hid hM; clear hM)
    | fail)
  have h04 : Later w w4 := hl1.trans (hl2.trans (hl3.trans hl4))
  have HIS := Lib.hid (is_topW w4 p tx1 ⟨#[49, 55]⟩ HM.out (HT.out _ h04) (by decide) tlang)
  clear d0 d1 d2 d3 d4 d5 d6 d7 hl1 hl2 hl3 hl4
  go_wp2_with (first
    | (go_at_call 37; (with_reducible refine HIS.out.mono ?_); rintro e w5 ⟨rfl, hl5⟩)
    | (go_at_call 17; (with_reducible refine (HDE.out _ w5.heap.size (alloc_block w5 _) (HT.out _ ((h04.trans hl5).alloc _))).mono ?_); rintro e w6 ⟨rfl, hl6⟩)
    | fail)
  go_ret
  exact ⟨rfl, (by repeat (first | assumption | exact Later.refl _ | refine Later.alloc ?_ _ | refine Later.drew ?_ | refine Later.trans ?_ (by assumption)))⟩
end Go.Proofs.YtjhclopdcbnmkaaGreatDoor
