/- Size and Check, the program's and the reference's. -/
import Derived.Test.YtaelkjffidjcjaaDoorFormQ
set_option linter.unusedSimpArgs false
set_option linter.unusedVariables false
namespace Go.Proofs.YtaelkjffidjcjaaDoor
open Go.RowKit PX

def sizeR (x : Rx) : Int := if x.formB then x.sizeI else 0
def checkR (x : Rx) : Int := if x.formB then (if 256 < x.sizeI then 51 else 0) else 52

/-- One cell-wise box of a node keeps what lies below. -/
theorem in_boxed {w : World} {B : Nat} {x : RxA} (o : Obj) (hB : B ≤ w.heap.size) (h : x.In w B) : x.In (w.alloc o) B :=
  h.below ((Below.refl w.heap.size w).alloc (Nat.le_refl _) _) hB

def SizeFOf (f : Nat) : Prop := ∀ (x : RxA) (w : World) (B : Nat), B ≤ w.heap.size → x.In w B →
    Calls Tryd.prog f #[x.val] w fun e w' => e = .returned (.int .i64 (sizeR x.bare)) ∧ Below w.heap.size w w'
def CheckOf (f : Nat) : Prop := ∀ (x : RxA) (w : World) (B : Nat), B ≤ w.heap.size → x.In w B →
    Calls Tryd.prog f #[x.val] w fun e w' => e = .returned (.int .i64 (checkR x.bare)) ∧ Below w.heap.size w w'

set_option maxHeartbeats 1000000 in
theorem psizeF_any : SizeFOf 34 := by
  intro x w B hB hin
  cases hf : x.bare.formB
  all_goals
    have HF := Lib.hid hf; clear hf
    obtain ⟨k, mn, mx, s0, s1, s2, s3, a, cap, l⟩ := x
    have HIN := Lib.hid (in_boxed (.cells #[.int .i64 k, .int .i64 mn, .int .i64 mx, .int .u64 s0, .int .u64 s1, .int .u64 s2, .int .u64 s3, .slice a l.length cap] 26) hB hin); clear hin
    show Calls Tryd.prog 34 #[.agg #[.int .i64 k, .int .i64 mn, .int .i64 mx, .int .u64 s0, .int .u64 s1, .int .u64 s2, .int .u64 s3, .slice a l.length cap]] w _
    go_enter Tryd.func34, Tryd.ntmps34
    go_wp2_with fail
    refine (pform_any _ _ B (by simp; omega) HIN.out).mono ?_
    rintro e w1 ⟨rfl, hb1⟩
    rw [HF.out]
    have hws := hb1.size
    simp only [World.size_alloc] at hws
    have hbw : Below w.heap.size w w1 := ((Below.refl _ _).alloc (Nat.le_refl _) _).trans (hb1.mono (by simp))
    have c0 := laid_cell hb1 (by simp) 0 (.int .i64 k) rfl
    have c1 := laid_cell hb1 (by simp) 1 (.int .i64 mn) rfl
    have c2 := laid_cell hb1 (by simp) 2 (.int .i64 mx) rfl
    have c3 := laid_cell hb1 (by simp) 3 (.int .u64 s0) rfl
    have c4 := laid_cell hb1 (by simp) 4 (.int .u64 s1) rfl
    have c5 := laid_cell hb1 (by simp) 5 (.int .u64 s2) rfl
    have c6 := laid_cell hb1 (by simp) 6 (.int .u64 s3) rfl
    have c7 := laid_cell hb1 (by simp) 7 (.slice a l.length cap) rfl
    go_wp2_with fail
  · go_ret
    exact ⟨ret_int (by rw [sizeR, HF.out]; rfl), hbw⟩
  · refine (psize_any _ w1 B (by omega) (HIN.out.below hb1 (by simp; omega)) (tame_of_form _ HF.out)).mono ?_
    rintro e w2 ⟨rfl, hb2⟩
    go_wp2_with fail
    go_ret
    exact ⟨ret_int (by rw [sizeR, HF.out]; rfl), hbw.trans (hb2.mono (by omega))⟩

set_option maxHeartbeats 1000000 in
theorem pcheck_any : CheckOf 31 := by
  intro x w B hB hin
  have hbd := sizeI_bd x.bare
  have hcase : (sizeR x.bare = 0 ∧ checkR x.bare = 52) ∨ (∃ n : Int, sizeR x.bare = n ∧ (n == 0) = false ∧ decide (256 < n) = true ∧ checkR x.bare = 51) ∨ (∃ n : Int, sizeR x.bare = n ∧ (n == 0) = false ∧ decide (256 < n) = false ∧ checkR x.bare = 0) := by
    unfold sizeR checkR
    cases x.bare.formB
    · exact .inl ⟨rfl, rfl⟩
    · simp only [if_true]
      by_cases h : 256 < x.bare.sizeI
      · exact .inr (.inl ⟨_, rfl, by rw [beq_eq_false_iff_ne]; omega, by simpa using h, by rw [if_pos h]⟩)
      · exact .inr (.inr ⟨_, rfl, by rw [beq_eq_false_iff_ne]; omega, by simpa using h, by rw [if_neg h]⟩)
  clear hbd
  have hs := Lib.hid (psizeF_any x)
  rcases hcase with ⟨h1, h2⟩ | ⟨n, h1, n1, n2, h2⟩ | ⟨n, h1, n1, n2, h2⟩
  all_goals
    have H1 := Lib.hid h1; clear h1
    have H2 := Lib.hid h2; clear h2
    obtain ⟨k, mn, mx, s0, s1, s2, s3, a, cap, l⟩ := x
    have HIN := Lib.hid (in_boxed (.cells #[.int .i64 k, .int .i64 mn, .int .i64 mx, .int .u64 s0, .int .u64 s1, .int .u64 s2, .int .u64 s3, .slice a l.length cap] 26) hB hin); clear hin
    show Calls Tryd.prog 31 #[.agg #[.int .i64 k, .int .i64 mn, .int .i64 mx, .int .u64 s0, .int .u64 s1, .int .u64 s2, .int .u64 s3, .slice a l.length cap]] w _
    go_enter Tryd.func31, Tryd.ntmps31
    go_wp2_with fail
    refine (hs.out _ B (by simp; omega) HIN.out).mono ?_
    rintro e w1 ⟨rfl, hb1⟩
    rw [H1.out]
    have hbw : Below w.heap.size w w1 := ((Below.refl _ _).alloc (Nat.le_refl _) _).trans (hb1.mono (by simp))
    clear hb1
    go_wp2_with fail
    go_ret
    exact ⟨ret_int H2.out.symm, hbw⟩

set_option maxHeartbeats 1000000 in
theorem rcheck_any : CheckOf 16 := by
  intro x w B hB hin
  have hcase : (x.bare.formB = false ∧ checkR x.bare = 52) ∨ (x.bare.formB = true ∧ decide (256 < x.bare.sizeI) = true ∧ checkR x.bare = 51) ∨ (x.bare.formB = true ∧ decide (256 < x.bare.sizeI) = false ∧ checkR x.bare = 0) := by
    unfold checkR
    cases x.bare.formB
    · exact .inl ⟨rfl, rfl⟩
    · simp only [if_true]
      by_cases h : 256 < x.bare.sizeI
      · exact .inr (.inl ⟨by trivial, by simpa using h, by rw [if_pos h]⟩)
      · exact .inr (.inr ⟨by trivial, by simpa using h, by rw [if_neg h]⟩)
  rcases hcase with ⟨hf, h2⟩ | ⟨hf, hn, h2⟩ | ⟨hf, hn, h2⟩
  all_goals
    have HF := Lib.hid hf; clear hf
    have H2 := Lib.hid h2; clear h2
    obtain ⟨k, mn, mx, s0, s1, s2, s3, a, cap, l⟩ := x
    have HIN := Lib.hid (in_boxed (.cells #[.int .i64 k, .int .i64 mn, .int .i64 mx, .int .u64 s0, .int .u64 s1, .int .u64 s2, .int .u64 s3, .slice a l.length cap] 26) hB hin); clear hin
    show Calls Tryd.prog 16 #[.agg #[.int .i64 k, .int .i64 mn, .int .i64 mx, .int .u64 s0, .int .u64 s1, .int .u64 s2, .int .u64 s3, .slice a l.length cap]] w _
    go_enter Tryd.func16, Tryd.ntmps16
    go_wp2_with fail
    refine (rform_any _ _ B (by simp; omega) HIN.out).mono ?_
    rintro e w1 ⟨rfl, hb1⟩
    rw [HF.out]
    have hws := hb1.size
    simp only [World.size_alloc] at hws
    have hbw : Below w.heap.size w w1 := ((Below.refl _ _).alloc (Nat.le_refl _) _).trans (hb1.mono (by simp))
    have c0 := laid_cell hb1 (by simp) 0 (.int .i64 k) rfl
    have c1 := laid_cell hb1 (by simp) 1 (.int .i64 mn) rfl
    have c2 := laid_cell hb1 (by simp) 2 (.int .i64 mx) rfl
    have c3 := laid_cell hb1 (by simp) 3 (.int .u64 s0) rfl
    have c4 := laid_cell hb1 (by simp) 4 (.int .u64 s1) rfl
    have c5 := laid_cell hb1 (by simp) 5 (.int .u64 s2) rfl
    have c6 := laid_cell hb1 (by simp) 6 (.int .u64 s3) rfl
    have c7 := laid_cell hb1 (by simp) 7 (.slice a l.length cap) rfl
    go_wp2_with fail
  · go_ret
    exact ⟨ret_int H2.out.symm, hbw⟩
  all_goals
    refine (rsize_any _ w1 B (by omega) (HIN.out.below hb1 (by simp; omega)) (tame_of_form _ HF.out)).mono ?_
    rintro e w2 ⟨rfl, hb2⟩
    go_wp2_with fail
    go_ret
    exact ⟨ret_int H2.out.symm, hbw.trans (hb2.mono (by omega))⟩
end Go.Proofs.YtaelkjffidjcjaaDoor
