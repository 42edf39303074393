/- The walks of fits, in, SamePairs. -/
import Derived.Test.YtaelkjffidjcjaaDoorHits
set_option linter.unusedSimpArgs false
set_option linter.unusedVariables false
namespace Go.Proofs.YtaelkjffidjcjaaDoor
open Go.RowKit PX

set_option maxRecDepth 100000 in
set_option maxHeartbeats 2000000 in
theorem fits_any (x : RxA) (w : World) (B : Nat) (hB : B ≤ w.heap.size) (hin : x.In w B) :
    Calls Tryd.prog 20 #[x.val] w fun e w' => Below w.heap.size w w' ∧
      ((checkR x.bare = 0 ∧ ∃ p, e = .returned (.pointer (some ⟨p, 0, none⟩)) ∧ w.heap.size ≤ p ∧ Machine w' p x.bare) ∨ (checkR x.bare ≠ 0 ∧ e = .returned (.pointer none))) := by
  have hnew := new_any x (w.alloc (.cells x.cells.toArray 26)) B (by simp; omega) (in_box _ hB hin)
  have hbb := (Below.refl w.heap.size w).alloc (Nat.le_refl _) (.cells x.cells.toArray 26)
  have hsz : (w.alloc (.cells x.cells.toArray 26)).heap.size = w.heap.size + 1 := by simp
  obtain ⟨k, mn, mx, s0, s1, s2, s3, a, cap, l⟩ := x
  simp only [RxA.val, RxA.cells] at hnew hbb hsz ⊢
  have HNEW := Lib.hid hnew; clear hnew
  have HBB := Lib.hid hbb; clear hbb
  have HSZ := Lib.hid hsz; clear hsz
  by_cases hc : checkR (RxA.node k mn mx s0 s1 s2 s3 a cap l).bare = 0
  · have hn2 : Calls Tryd.prog 14 #[.agg #[.int .i64 k, .int .i64 mn, .int .i64 mx, .int .u64 s0, .int .u64 s1, .int .u64 s2, .int .u64 s3, .slice a l.length cap]] (w.alloc (.cells #[.int .i64 k, .int .i64 mn, .int .i64 mx, .int .u64 s0, .int .u64 s1, .int .u64 s2, .int .u64 s3, .slice a l.length cap] 26)) fun e w' =>
        ∃ p, e = .returned (.tuple #[.pointer (some ⟨p, 0, none⟩), .int .i64 0]) ∧ w.heap.size ≤ p ∧ Machine w' p (RxA.node k mn mx s0 s1 s2 s3 a cap l).bare ∧ Below w.heap.size w w' := by
      refine HNEW.out.mono ?_
      rintro e w' ⟨hb, ⟨-, p, he, hp, hm⟩ | ⟨hc', -⟩⟩
      · rw [HSZ.out] at hp hb
        exact ⟨p, he, by omega, hm, HBB.out.trans (hb.mono (by omega))⟩
      · exact absurd hc hc'
    have HN2 := Lib.hid hn2; clear hn2 HNEW
    have HC := Lib.hid hc; clear hc
    go_enter Tryd.func20, Tryd.ntmps20
    go_wp2_with (go_at_call 14; refine HN2.out.mono ?_; rintro e w1 ⟨p, rfl, hp, hm, hb1⟩)
    go_ret
    exact ⟨hb1, .inl ⟨HC.out, p, rfl, hp, hm⟩⟩
  · have hn2 : Calls Tryd.prog 14 #[.agg #[.int .i64 k, .int .i64 mn, .int .i64 mx, .int .u64 s0, .int .u64 s1, .int .u64 s2, .int .u64 s3, .slice a l.length cap]] (w.alloc (.cells #[.int .i64 k, .int .i64 mn, .int .i64 mx, .int .u64 s0, .int .u64 s1, .int .u64 s2, .int .u64 s3, .slice a l.length cap] 26)) fun e w' =>
        e = .returned (.tuple #[.pointer none, .int .i64 (checkR (RxA.node k mn mx s0 s1 s2 s3 a cap l).bare)]) ∧ Below w.heap.size w w' := by
      refine HNEW.out.mono ?_
      rintro e w' ⟨hb, ⟨hc', -⟩ | ⟨-, he⟩⟩
      · exact absurd hc' hc
      · rw [HSZ.out] at hb
        exact ⟨he, HBB.out.trans (hb.mono (by omega))⟩
    have HN2 := Lib.hid hn2; clear hn2 HNEW
    have HC := Lib.hid hc; clear hc
    go_enter Tryd.func20, Tryd.ntmps20
    go_wp2_with (go_at_call 14; refine HN2.out.mono ?_; rintro e w1 ⟨rfl, hb1⟩)
    go_ret
    exact ⟨hb1, .inr ⟨HC.out, rfl⟩⟩

set_option maxRecDepth 100000 in
set_option maxHeartbeats 2000000 in
theorem in_any (w : World) (p : Nat) (x : Rx) (s : ByteArray) (h : Machine w p x) (hT : TabAt 0 Lib.deBruijn64tab w) :
    Calls Tryd.prog 21 #[.pointer (some ⟨p, 0, none⟩), .string s] w fun e w' => Below w.heap.size w w' ∧ ∃ r : Bool, e = .returned (.bool r) ∧ (r = true ↔ s.size ≤ 256 ∧ x.lang s.data.toList) := by
  have hI : Calls Tryd.prog 17 #[.pointer (some ⟨p, 0, none⟩), .string s] w fun e w' => ∃ (r : Bool) (n : Int), e = .returned (.tuple #[.bool r, .int .i64 n]) ∧ Below w.heap.size w w' ∧ ((r && n == 0) = true ↔ s.size ≤ 256 ∧ x.lang s.data.toList) := by
    refine (is_any w p x s h hT).mono ?_
    rintro e w' ⟨hb, ⟨h1, rfl⟩ | ⟨h1, r, rfl, hr⟩⟩
    · exact ⟨false, 60, rfl, hb, by constructor; intro h; cases h; intro h; omega⟩
    · exact ⟨r, 0, rfl, hb, by simpa [h1] using hr⟩
  have HI := Lib.hid hI; clear hI
  go_enter Tryd.func21, Tryd.ntmps21
  go_wp2_with (go_at_call 17; refine HI.out.mono ?_; rintro e w1 ⟨r, n, rfl, hb1, hr⟩; have HR := Lib.hid hr; clear hr; cases r)
  all_goals
    go_ret
    refine ⟨hb1, _, rfl, ?_⟩
    rw [← HR.out]
    simp
end Go.Proofs.YtaelkjffidjcjaaDoor
