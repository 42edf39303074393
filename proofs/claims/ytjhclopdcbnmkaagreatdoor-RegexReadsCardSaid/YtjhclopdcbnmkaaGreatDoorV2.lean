/- RegexReads. -/
import Derived.Test.YtjhclopdcbnmkaaGreatDoorS9
import Derived.Test.YtjhclopdcbnmkaaGreatDoorT1
import Derived.Test.YtjhclopdcbnmkaaGreatDoorQ13
set_option linter.unusedSimpArgs false
set_option linter.unusedVariables false
namespace Go.Proofs.YtjhclopdcbnmkaaGreatDoor
open Go.RowKit PX

theorem rparse_good2 (w : World) (S : ByteArray) (x : Rx) (h : parseR S.data.toList = .inl x) : Calls Tryz.prog 15 #[.string S] w fun e w' =>
    ∃ k mn mx s0 s1 s2 s3 a cap l, x = (RxA.node k mn mx s0 s1 s2 s3 a cap l).bare ∧ e = .returned (.tuple #[.agg #[.int .i64 k, .int .i64 mn, .int .i64 mx, .int .u64 s0, .int .u64 s1, .int .u64 s2, .int .u64 s3, .slice a l.length cap], .int .i64 0]) ∧
      (RxA.node k mn mx s0 s1 s2 s3 a cap l).In w' w'.heap.size ∧ Later w w' := by
  refine (rparse_any w S).mono ?_
  rintro e w' ⟨hb, ⟨X, hX, he, hi⟩ | ⟨n, hn, -⟩⟩
  · obtain ⟨k, mn, mx, s0, s1, s2, s3, a, cap, l⟩ := X
    rw [h] at hX
    exact ⟨k, mn, mx, s0, s1, s2, s3, a, cap, l, Sum.inl.inj hX, he, hi, hb⟩
  · rw [h] at hn; cases hn
theorem rparse_wrong2 (w : World) (S : ByteArray) (n : Int) (h : parseR S.data.toList = .inr n) : Calls Tryz.prog 15 #[.string S] w fun e w' =>
    e = .returned (.tuple #[.agg #[.int .i64 0, .int .i64 0, .int .i64 0, .int .u64 0, .int .u64 0, .int .u64 0, .int .u64 0, .slice none 0 0], .int .i64 n]) ∧ Later w w' := by
  refine (rparse_any w S).mono ?_
  rintro e w' ⟨hb, ⟨X, hX, -, -⟩ | ⟨m, hm, he⟩⟩
  · rw [h] at hX; cases hX
  · rw [h] at hm
    obtain rfl := Sum.inr.inj hm
    exact ⟨he, hb⟩
set_option maxRecDepth 100000 in
set_option maxHeartbeats 2000000 in
theorem reads_any (w : World) (S : ByteArray) (hP : PowAt w) :
    Calls Tryz.prog 4 #[.string S] w fun e w' => e = .returned (.bool true) ∧ Later w w' := by
  have HFIX := Lib.hid (fun w1 (h1 : Later w w1) => fixed05_any w1 (hP.later h1))
  clear hP
  cases hp : parseR S.data.toList with
  | inr n =>
    have HP1 := Lib.hid (fun w1 => parse_wrong w1 S n hp)
    have HP2 := Lib.hid (fun w1 => rparse_wrong2 w1 S n hp)
    have HSM := Lib.hid (fun w1 => (show Calls Tryz.prog 16 #[.agg #[.int .i64 0, .int .i64 0, .int .i64 0, .int .u64 0, .int .u64 0, .int .u64 0, .int .u64 0, .slice none 0 0], .agg #[.int .i64 0, .int .i64 0, .int .i64 0, .int .u64 0, .int .u64 0, .int .u64 0, .int .u64 0, .slice none 0 0]] w1 fun e w' => e = .returned (.bool true) ∧ Later w1 w' from
      same_true (RxA.node 0 0 0 0 0 0 0 none 0 []) (RxA.node 0 0 0 0 0 0 0 none 0 []) w1 (zero_in w1 0 (by unfold I64; omega)) (zero_in w1 0 (by unfold I64; omega)) rfl))
    have HE := Lib.hid (fun w1 w2 (h : Later (w1.alloc (.cells #[.int .i64 0, .int .i64 0, .int .i64 0, .int .u64 0, .int .u64 0, .int .u64 0, .int .u64 0, .slice none 0 0] 26)) w2) => h.block (alloc_block w1 (.cells #[.int .i64 0, .int .i64 0, .int .i64 0, .int .u64 0, .int .u64 0, .int .u64 0, .int .u64 0, .slice none 0 0] 26)))
    clear hp
    go_enter Tryz.func4, Tryz.ntmps4
    go_wp2_with (first
      | (go_at_call 14; (with_reducible refine (HP1.out _).mono ?_); rintro e w1 ⟨rfl, hb1⟩; have hl1 := Later.of hb1; clear hb1)
      | (go_at_call 15; (with_reducible refine (HP2.out _).mono ?_); rintro e w2 ⟨rfl, hl2⟩)
      | (go_at_call 9; (with_reducible refine (HFIX.out _ (by repeat (first | assumption | exact Later.refl _ | refine Later.alloc ?_ _ | refine Later.drew ?_ | refine Later.trans ?_ (by assumption)))).mono ?_); rintro e w3 ⟨rfl, hl3⟩; have hE2 := HE.out w2 w3 hl3; have hE1 := HE.out w1 w3 (hl2.trans (((Later.refl w2).alloc _).trans hl3)); obtain ⟨d0, d1, d2, d3, d4, d5, d6, d7⟩ : w3.cell? ⟨w1.heap.size, 0, none⟩ = some (.int .i64 0) ∧ w3.cell? ⟨w1.heap.size, 1, none⟩ = some (.int .i64 0) ∧ w3.cell? ⟨w1.heap.size, 2, none⟩ = some (.int .i64 0) ∧ w3.cell? ⟨w1.heap.size, 3, none⟩ = some (.int .u64 0) ∧ w3.cell? ⟨w1.heap.size, 4, none⟩ = some (.int .u64 0) ∧ w3.cell? ⟨w1.heap.size, 5, none⟩ = some (.int .u64 0) ∧ w3.cell? ⟨w1.heap.size, 6, none⟩ = some (.int .u64 0) ∧ w3.cell? ⟨w1.heap.size, 7, none⟩ = some (.slice none 0 0) := ⟨cell_of_block hE1 0, cell_of_block hE1 1, cell_of_block hE1 2, cell_of_block hE1 3, cell_of_block hE1 4, cell_of_block hE1 5, cell_of_block hE1 6, cell_of_block hE1 7⟩; obtain ⟨e0, e1, e2, e3, e4, e5, e6, e7⟩ : w3.cell? ⟨w2.heap.size, 0, none⟩ = some (.int .i64 0) ∧ w3.cell? ⟨w2.heap.size, 1, none⟩ = some (.int .i64 0) ∧ w3.cell? ⟨w2.heap.size, 2, none⟩ = some (.int .i64 0) ∧ w3.cell? ⟨w2.heap.size, 3, none⟩ = some (.int .u64 0) ∧ w3.cell? ⟨w2.heap.size, 4, none⟩ = some (.int .u64 0) ∧ w3.cell? ⟨w2.heap.size, 5, none⟩ = some (.int .u64 0) ∧ w3.cell? ⟨w2.heap.size, 6, none⟩ = some (.int .u64 0) ∧ w3.cell? ⟨w2.heap.size, 7, none⟩ = some (.slice none 0 0) := ⟨cell_of_block hE2 0, cell_of_block hE2 1, cell_of_block hE2 2, cell_of_block hE2 3, cell_of_block hE2 4, cell_of_block hE2 5, cell_of_block hE2 6, cell_of_block hE2 7⟩; clear hE1 hE2)
      | (go_at_call 16; (with_reducible refine (HSM.out _).mono ?_); rintro e w4 ⟨rfl, hl4⟩)
      | fail)
    go_ret
    exact ⟨rfl, (by repeat (first | assumption | exact Later.refl _ | refine Later.alloc ?_ _ | refine Later.drew ?_ | refine Later.trans ?_ (by assumption)))⟩
  | inl x =>
    have HP1 := Lib.hid (fun w1 => parse_good w1 S x hp)
    have HP2 := Lib.hid (fun w1 => rparse_good2 w1 S x hp)
    clear hp
    go_enter Tryz.func4, Tryz.ntmps4
    go_wp2_with (first
      | (go_at_call 14; (with_reducible refine (HP1.out _).mono ?_); rintro e w1 ⟨k, mn, mx, s0, s1, s2, s3, a, cap, l, hX, rfl, hin, hb1⟩; have hl1 := Later.of hb1; have HX := Lib.hid hX; have HIN := Lib.hid hin; have HE1 := Lib.hid (alloc_block w1 (.cells #[.int .i64 k, .int .i64 mn, .int .i64 mx, .int .u64 s0, .int .u64 s1, .int .u64 s2, .int .u64 s3, .slice a l.length cap] 26)); clear hb1 hX hin)
      | (go_at_call 15; (with_reducible refine (HP2.out _).mono ?_); rintro e w2 ⟨k', mn', mx', s0', s1', s2', s3', a', cap', l', hX', rfl, hin', hl2⟩; have HX' := Lib.hid hX'; have HIN' := Lib.hid hin'; have HE2 := Lib.hid (alloc_block w2 (.cells #[.int .i64 k', .int .i64 mn', .int .i64 mx', .int .u64 s0', .int .u64 s1', .int .u64 s2', .int .u64 s3', .slice a' l'.length cap'] 26)); clear hX' hin')
      | (go_at_call 9; (with_reducible refine (HFIX.out _ (by repeat (first | assumption | exact Later.refl _ | refine Later.alloc ?_ _ | refine Later.drew ?_ | refine Later.trans ?_ (by assumption)))).mono ?_); rintro e w3 ⟨rfl, hl3⟩; have hE2 := hl3.block HE2.out; have h13 := hl2.trans (((Later.refl w2).alloc (.cells #[.int .i64 k', .int .i64 mn', .int .i64 mx', .int .u64 s0', .int .u64 s1', .int .u64 s2', .int .u64 s3', .slice a' l'.length cap'] 26)).trans hl3); have hE1 := h13.block HE1.out; obtain ⟨d0, d1, d2, d3, d4, d5, d6, d7⟩ : w3.cell? ⟨w1.heap.size, 0, none⟩ = some (.int .i64 k) ∧ w3.cell? ⟨w1.heap.size, 1, none⟩ = some (.int .i64 mn) ∧ w3.cell? ⟨w1.heap.size, 2, none⟩ = some (.int .i64 mx) ∧ w3.cell? ⟨w1.heap.size, 3, none⟩ = some (.int .u64 s0) ∧ w3.cell? ⟨w1.heap.size, 4, none⟩ = some (.int .u64 s1) ∧ w3.cell? ⟨w1.heap.size, 5, none⟩ = some (.int .u64 s2) ∧ w3.cell? ⟨w1.heap.size, 6, none⟩ = some (.int .u64 s3) ∧ w3.cell? ⟨w1.heap.size, 7, none⟩ = some (.slice a l.length cap) := ⟨cell_of_block hE1 0, cell_of_block hE1 1, cell_of_block hE1 2, cell_of_block hE1 3, cell_of_block hE1 4, cell_of_block hE1 5, cell_of_block hE1 6, cell_of_block hE1 7⟩; obtain ⟨e0, e1, e2, e3, e4, e5, e6, e7⟩ : w3.cell? ⟨w2.heap.size, 0, none⟩ = some (.int .i64 k') ∧ w3.cell? ⟨w2.heap.size, 1, none⟩ = some (.int .i64 mn') ∧ w3.cell? ⟨w2.heap.size, 2, none⟩ = some (.int .i64 mx') ∧ w3.cell? ⟨w2.heap.size, 3, none⟩ = some (.int .u64 s0') ∧ w3.cell? ⟨w2.heap.size, 4, none⟩ = some (.int .u64 s1') ∧ w3.cell? ⟨w2.heap.size, 5, none⟩ = some (.int .u64 s2') ∧ w3.cell? ⟨w2.heap.size, 6, none⟩ = some (.int .u64 s3') ∧ w3.cell? ⟨w2.heap.size, 7, none⟩ = some (.slice a' l'.length cap') := ⟨cell_of_block hE2 0, cell_of_block hE2 1, cell_of_block hE2 2, cell_of_block hE2 3, cell_of_block hE2 4, cell_of_block hE2 5, cell_of_block hE2 6, cell_of_block hE2 7⟩; have HSM := Lib.hid (show Calls Tryz.prog 16 #[.agg #[.int .i64 k, .int .i64 mn, .int .i64 mx, .int .u64 s0, .int .u64 s1, .int .u64 s2, .int .u64 s3, .slice a l.length cap], .agg #[.int .i64 k', .int .i64 mn', .int .i64 mx', .int .u64 s0', .int .u64 s1', .int .u64 s2', .int .u64 s3', .slice a' l'.length cap']] w3 fun e w' => e = .returned (.bool true) ∧ Later w3 w' from same_true (RxA.node k mn mx s0 s1 s2 s3 a cap l) (RxA.node k' mn' mx' s0' s1' s2' s3' a' cap' l') w3 (in_later8 HIN.out (((Later.refl w1).alloc _).trans h13)) (in_later8 HIN'.out (((Later.refl w2).alloc _).trans hl3)) (HX.out.symm.trans HX'.out)); clear hE1 hE2)
      | (go_at_call 16; (with_reducible refine HSM.out.mono ?_); rintro e w4 ⟨rfl, hl4⟩)
      | fail)
    go_ret
    exact ⟨rfl, (by repeat (first | assumption | exact Later.refl _ | refine Later.alloc ?_ _ | refine Later.drew ?_ | refine Later.trans ?_ (by assumption)))⟩
end Go.Proofs.YtjhclopdcbnmkaaGreatDoor
