/- The walk of Of. -/
import Derived.Test.YtaelkjffidjcjaaDoorParse
import Derived.Test.YtaelkjffidjcjaaDoorPairs
set_option linter.unusedSimpArgs false
set_option linter.unusedVariables false
namespace Go.Proofs.YtaelkjffidjcjaaDoor
open Go.RowKit PX

theorem parse_good (w : World) (S : ByteArray) (x : Rx) (h : parseR S.data.toList = .inl x) : Calls Tryd.prog 32 #[.string S] w fun e w' =>
    ∃ k mn mx s0 s1 s2 s3 a cap l, x = (RxA.node k mn mx s0 s1 s2 s3 a cap l).bare ∧ e = .returned (.tuple #[.agg #[.int .i64 k, .int .i64 mn, .int .i64 mx, .int .u64 s0, .int .u64 s1, .int .u64 s2, .int .u64 s3, .slice a l.length cap], .int .i64 0]) ∧
      (RxA.node k mn mx s0 s1 s2 s3 a cap l).In w' w'.heap.size ∧ Below w.heap.size w w' := by
  refine (parse_any w S).mono ?_
  rintro e w' ⟨hb, ⟨X, hX, he, hi⟩ | ⟨n, hn, -⟩⟩
  · obtain ⟨k, mn, mx, s0, s1, s2, s3, a, cap, l⟩ := X
    rw [h] at hX
    exact ⟨k, mn, mx, s0, s1, s2, s3, a, cap, l, Sum.inl.inj hX, he, hi, hb⟩
  · rw [h] at hn; cases hn
theorem parse_wrong (w : World) (S : ByteArray) (n : Int) (h : parseR S.data.toList = .inr n) : Calls Tryd.prog 32 #[.string S] w fun e w' =>
    e = .returned (.tuple #[.agg #[.int .i64 0, .int .i64 0, .int .i64 0, .int .u64 0, .int .u64 0, .int .u64 0, .int .u64 0, .slice none 0 0], .int .i64 n]) ∧ Below w.heap.size w w' := by
  refine (parse_any w S).mono ?_
  rintro e w' ⟨hb, ⟨X, hX, -, -⟩ | ⟨m, hm, he⟩⟩
  · rw [h] at hX; cases hX
  · rw [h] at hm
    obtain rfl := Sum.inr.inj hm
    exact ⟨he, hb⟩
theorem parseR_err {l : List UInt8} {n : Int} (h : parseR l = .inr n) : n = 50 ∨ n = 51 := by
  unfold parseR at h
  split at h
  · right; exact (Sum.inr.inj h).symm
  · split at h
    · left; exact (Sum.inr.inj h).symm
    · split at h
      · split at h
        · right; exact (Sum.inr.inj h).symm
        · cases h
      · left; exact (Sum.inr.inj h).symm

set_option maxRecDepth 100000 in
set_option maxHeartbeats 1000000 in
theorem of_wrong (w : World) (S : ByteArray) (n : Int) (h : parseR S.data.toList = .inr n) :
    Calls Tryd.prog 39 #[.string S] w fun e w' => e = .returned (.tuple #[.pointer none, .int .i64 n]) ∧ Below w.heap.size w w' := by
  have HP := Lib.hid (parse_wrong w S n h)
  have hn : (n != 0) = true := by
    rcases parseR_err h with rfl | rfl <;> rfl
  clear h
  go_enter Tryd.func39, Tryd.ntmps39
  go_wp2_with (go_at_call 32; refine HP.out.mono ?_; rintro e w1 ⟨rfl, hb1⟩)
  go_ret2
  exact ⟨rfl, hb1.alloc hb1.size _⟩

set_option maxRecDepth 100000 in
set_option maxHeartbeats 1000000 in
theorem of_good (w : World) (S : ByteArray) (x : Rx) (h : parseR S.data.toList = .inl x) (hc : checkR x = 0) :
    Calls Tryd.prog 39 #[.string S] w fun e w' => ∃ p, e = .returned (.tuple #[.pointer (some ⟨p, 0, none⟩), .int .i64 0]) ∧ w.heap.size ≤ p ∧ Machine w' p x ∧ Below w.heap.size w w' := by
  have HP := Lib.hid (parse_good w S x h)
  have HC := Lib.hid hc; clear hc h
  go_enter Tryd.func39, Tryd.ntmps39
  go_wp2_with (first
    | (go_at_call 32; refine HP.out.mono ?_; rintro e w1 ⟨k, mn, mx, s0, s1, s2, s3, a, cap, l, hX, rfl, hi, hb1⟩
       have HI := Lib.hid hi
       have HX := Lib.hid hX
       clear hi hX)
    | (go_at_call 14
       refine (new_any (RxA.node k mn mx s0 s1 s2 s3 a cap l) _ w1.heap.size (by simp) (HI.out.below (Below.alloc (Below.refl w1.heap.size w1) (Nat.le_refl _) _) (Nat.le_refl _))).mono ?_
       rintro e w2 ⟨hb2, ⟨-, p, rfl, hp, hm⟩ | ⟨hc', -⟩⟩
       rotate_left
       exact absurd (HX.out ▸ HC.out) hc'))
  go_ret2
  have hs1 := hb1.size
  refine ⟨p, rfl, by simp at hp; omega, HX.out ▸ hm, (hb1.alloc hs1 _).trans (hb2.mono (by simp; omega))⟩
end Go.Proofs.YtaelkjffidjcjaaDoor
