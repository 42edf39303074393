/- The walk of SamePairs. -/
import Derived.Test.YtaelkjffidjcjaaDoorFits
set_option linter.unusedSimpArgs false
set_option linter.unusedVariables false
namespace Go.Proofs.YtaelkjffidjcjaaDoor
open Go.RowKit PX

theorem below_drewN {B : Nat} {a w : World} (h : Below B a w) (n : Nat) : Below B a (w.drewN n) := ⟨h.os, h.tape, h.output, h.size, h.block⟩
theorem sizeInt (w : World) : (sizeOf 3).run Tryd.prog w = .ok 1 w := by kernel_rfl
def same2 (a0 a1 b0 b1 : Int) : Bool := decide (a0 = b0 ∧ a1 = b1)
@[go_sem high] theorem run_eq2 (w : World) (a0 a1 b0 b1 : Int) : (Op.equalIn 10000 41 (.agg #[.int .i64 a0, .int .i64 a1]) (.agg #[.int .i64 b0, .int .i64 b1])).run Tryd.prog w = .ok (same2 a0 a1 b0 b1) w := by
  have h := eqArr_int (w := w) (d := 9998) Tryd.underlying41 Tryd.underlying3 sizeInt #[.int .i64 a0, .int .i64 a1] #[.int .i64 b0, .int .i64 b1] [a0, a1] [b0, b1] rfl rfl rfl rfl
  have e : decide ([a0, a1] = [b0, b1]) = same2 a0 a1 b0 b1 := by simp [same2]
  rw [e] at h
  exact h

/-- Pairs as they are read. -/
def PairsAt (w : World) (v : Value) (l : List (Nat × Nat)) : Prop := ∃ a cap, v = .slice a l.length cap ∧ (l = [] ∨ ∃ b, a = some ⟨b, 0, none⟩ ∧ ∀ i q, l[i]? = some q → w.cell? ⟨b, i * 2, none⟩ = some (.int .i64 (q.1 : Int)) ∧ w.cell? ⟨b, i * 2 + 1, none⟩ = some (.int .i64 (q.2 : Int)))

theorem pairCells_get : ∀ (l : List (Nat × Nat)) (i : Nat) (q : Nat × Nat), l[i]? = some q → (pairCells l)[i * 2]? = some (.int .i64 (q.1 : Int)) ∧ (pairCells l)[i * 2 + 1]? = some (.int .i64 (q.2 : Int))
  | x :: l, 0, q, h => by
    simp only [List.getElem?_cons_zero, Option.some.injEq] at h
    subst h
    simp [pairCells]
  | x :: l, i + 1, q, h => by
    simp only [List.getElem?_cons_succ] at h
    have := pairCells_get l i q h
    have e : pairCells (x :: l) = .int .i64 (x.1 : Int) :: .int .i64 (x.2 : Int) :: pairCells l := by simp [pairCells]
    rw [e, show (i + 1) * 2 = i * 2 + 1 + 1 by omega, List.getElem?_cons_succ, List.getElem?_cons_succ, List.getElem?_cons_succ, List.getElem?_cons_succ]
    exact this
theorem pairs_of_row {w : World} {base : Nat} {v : Value} {l : List (Nat × Nat)} (h : w.ownsRow base 41 2 v l.length (pairCells l)) : PairsAt w v l := by
  rcases h.2 with ⟨rfl, h0⟩ | ⟨g, cap, cur, rfl, hr⟩
  · have : l = [] := List.eq_nil_of_length_eq_zero h0
    subst this
    exact ⟨none, 0, rfl, .inl rfl⟩
  · refine ⟨some ⟨g, 0, none⟩, cap, rfl, .inr ⟨g, rfl, fun i q hq => ?_⟩⟩
    have hil : i < l.length := (List.getElem?_eq_some_iff.1 hq).1
    have hp := pairCells_get l i q hq
    rw [h.cellAt (i * 2) (by omega), h.cellAt (i * 2 + 1) (by omega)]
    exact hp

set_option maxRecDepth 100000 in
set_option maxHeartbeats 2000000 in
theorem samePairs_any (w : World) (v1 v2 : Value) (l1 l2 : List (Nat × Nat)) (h1 : PairsAt w v1 l1) (h2 : PairsAt w v2 l2) (hl : l1.length ≤ 100000) :
    Calls Tryd.prog 28 #[v1, v2] w fun e w' => e = .returned (.bool (decide (l1 = l2))) ∧ Below w.heap.size w w' := by
  obtain ⟨a1, c1, rfl, hc1⟩ := h1
  obtain ⟨a2, c2, rfl, hc2⟩ := h2
  by_cases hll : l1.length = l2.length
  · have HC1 := Lib.hid hc1; clear hc1
    have HC2 := Lib.hid hc2; clear hc2
    have HLL := Lib.hid hll
    rw [← hll]
    clear hll
    obtain ⟨n, hn⟩ : ∃ n, Hid (l1.length = n) := ⟨_, Lib.hid rfl⟩
    rw [hn.out] at hl ⊢
    go_enter Tryd.func28, Tryd.ntmps28
    go_wp2_with fail
    go_loopw [5] (fun i wr => ∃ k : Nat, k ≤ n ∧ i = .int .i64 k ∧ l1.take k = l2.take k ∧ Below w.heap.size w wr) (fun i _ => n - (intOf i).toNat)
    case atStart => exact ⟨0, by omega, rfl, rfl, Below.refl _ _⟩
    case round =>
      obtain ⟨k, hk, rfl, htk, hbl⟩ := hrel
      have HTK := Lib.hid htk; clear htk
      by_cases hke : k = n
      · subst hke
        go_wp2_with fail
        go_ret
        refine ⟨ret_bool ?_, hbl⟩
        have h := HTK.out
        rw [List.take_of_length_le (by have := hn.out; omega), List.take_of_length_le (by have := hn.out; have := HLL.out; omega)] at h
        exact (decide_eq_true h).symm
      · have hkl : k < l1.length := by have := hn.out; omega
        have hkl2 : k < l2.length := by have := HLL.out; omega
        obtain ⟨b1, rfl, hb1⟩ := (HC1.out).resolve_left (by rintro rfl; simp at hkl)
        obtain ⟨b2, rfl, hb2⟩ := (HC2.out).resolve_left (by rintro rfl; simp at hkl2)
        have p1 := hb1 k l1[k] (List.getElem?_eq_getElem hkl)
        have p2 := hb2 k l2[k] (List.getElem?_eq_getElem hkl2)
        obtain ⟨q1, hq1⟩ : ∃ q1, Hid (l1[k] = q1) := ⟨_, Lib.hid rfl⟩
        obtain ⟨q2, hq2⟩ : ∃ q2, Hid (l2[k] = q2) := ⟨_, Lib.hid rfl⟩
        rw [hq1.out] at p1
        rw [hq2.out] at p2
        have lt1 := World.block_lt_of_cell? _ _ p1.1
        have lt2 := World.block_lt_of_cell? _ _ p2.1
        have d0 := (hbl.cell (p := ⟨b1, k * 2, none⟩) lt1).trans p1.1
        have d1 := (hbl.cell (p := ⟨b1, k * 2 + 1, none⟩) lt1).trans p1.2
        have d2 := (hbl.cell (p := ⟨b2, k * 2, none⟩) lt2).trans p2.1
        have d3 := (hbl.cell (p := ⟨b2, k * 2 + 1, none⟩) lt2).trans p2.2
        clear hb1 hb2 p1 p2
        have hkn : (k : Int) < (n : Int) := by omega
        cases hs : same2 q1.1 q1.2 q2.1 q2.2
        · go_wp2_with fail
          go_quiet (fail)
          go_wp2_with fail
          go_ret
          refine ⟨ret_bool ?_, below_drewN hbl _⟩
          refine (decide_eq_false ?_).symm
          intro h
          have h3 : l1[k] = l2[k] := by simp only [h]
          rw [hq1.out, hq2.out] at h3
          subst h3
          simp [same2] at hs
        · go_wp2_with fail
          go_quiet (fail)
          go_wp2_with fail
          go_roundw
          case measure => simp only [intOf]; omega
          case rel =>
            refine ⟨k + 1, by omega, by simp, ?_, below_drewN hbl _⟩
            rw [List.take_succ_eq_append_getElem hkl, List.take_succ_eq_append_getElem hkl2, HTK.out, hq1.out, hq2.out]
            have : q1 = q2 := by
              simp only [same2, decide_eq_true_eq] at hs
              exact Prod.ext (by omega) (by omega)
            rw [this]
  · have hne : ((l1.length : Int) == (l2.length : Int)) = false := by simp; omega
    go_enter Tryd.func28, Tryd.ntmps28
    go_wp2_with fail
    go_ret
    exact ⟨ret_bool (decide_eq_false (by rintro rfl; exact hll rfl)).symm, Below.refl _ _⟩
end Go.Proofs.YtaelkjffidjcjaaDoor
