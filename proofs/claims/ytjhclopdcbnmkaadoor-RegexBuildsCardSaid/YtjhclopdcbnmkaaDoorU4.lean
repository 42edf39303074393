/- castellanlaw05.rows: of any expression. -/
import Derived.Test.YtjhclopdcbnmkaaDoorU3b
set_option linter.unusedSimpArgs false
set_option linter.unusedVariables false
namespace Go.Proofs.YtjhclopdcbnmkaaDoor
open Go.RowKit PX

theorem rxCells_get5 : ∀ (l : List RxA) (i : Nat) (hi : i < l.length) (j : Nat) (hj : j < 8), (rxCells l)[i * 8 + j]? = l[i].cells[j]?
  | x :: l, 0, hi, j, hj => by
    show (x.cells ++ rxCells l)[0 * 8 + j]? = _
    rw [show 0 * 8 + j = j by omega, List.getElem?_append_left (by rw [cells_len]; exact hj)]
    rfl
  | x :: l, i + 1, hi, j, hj => by
    show (x.cells ++ rxCells l)[(i + 1) * 8 + j]? = _
    rw [List.getElem?_append_right (by rw [cells_len]; omega), cells_len, show (i + 1) * 8 + j - 8 = i * 8 + j by omega]
    exact rxCells_get5 l i (by simpa using hi) j hj
theorem law_rows (w : World) (X Y : RxA) (hx : X.In w w.heap.size) (hy : Y.In w w.heap.size) (hf : X.bare.formB = true) (hlen : X.bare.list.length ≤ 1000) :
    Calls Tryd.prog 16 #[X.val, Y.val] w fun e w' => ∃ p c L, e = .returned (.slice p L.length c) ∧ (RxA.node 2 0 0 0 0 0 0 p c L).In w' w'.heap.size ∧ bareAll L = rowsOf X.bare ++ [X.bare] ++ [Y.bare] ∧ Later w w' := by
  obtain ⟨k, mn, mx, s0, s1, s2, s3, a, cap, l⟩ := X
  obtain ⟨yk, ymn, ymx, t0, t1, t2, t3, ya, ycap, yl⟩ := Y
  by_cases hk : k = 2
  · subst hk
    have hx' := hx
    simp only [RxA.In] at hx'
    have hll : (bareAll l).length = l.length := by rw [bareAll_eq, List.length_map]
    have h2 := (alt_parts hf).2.1
    rw [hll] at h2
    have hlen' : l.length ≤ 1000 := by
      have h : (bareAll l).length ≤ 1000 := hlen
      rw [hll] at h; exact h
    rcases hx'.2.2.2.2 with rfl | ⟨b, o, rfl, hb, hin⟩
    · simp at h2
    · refine (rows_alt w mn mx s0 s1 s2 s3 b o cap l yk ymn ymx t0 t1 t2 t3 ya ycap yl hx hy (by omega) hlen' (fun j u hu => ?_) hb (fun Z hZ => ?_)).mono ?_
      · have hj : j < (rxCells l).length := (List.getElem?_eq_some_iff.1 hu).1
        rw [rxCells_length] at hj
        have hi : j / 8 < l.length := Nat.div_lt_of_lt_mul (by omega)
        have h8 := (RxA.In.get hin (j / 8) hi).1 (j % 8) (Nat.mod_lt _ (by decide))
        rw [show o + j / 8 * 8 + j % 8 = o + j by omega] at h8
        rw [h8, ← hu]
        have := rxCells_get5 l (j / 8) hi (j % 8) (Nat.mod_lt _ (by decide))
        rw [show j / 8 * 8 + j % 8 = j by omega] at this
        exact this.symm
      · obtain ⟨i, hi, rfl⟩ := List.getElem_of_mem hZ
        exact (RxA.In.get hin i hi).2
      · rintro e w' ⟨p, c, rfl, h1, h3⟩
        refine ⟨p, c, _, rfl, h1, ?_, h3⟩
        simp [bareAll_eq, rowsOf, RxA.bare, Rx.kind, Rx.list]
  · refine (rows_other w k mn mx s0 s1 s2 s3 a cap l yk ymn ymx t0 t1 t2 t3 ya ycap yl hx hy hk).mono ?_
    rintro e w' ⟨p, c, rfl, h1, h3⟩
    refine ⟨p, c, _, rfl, h1, ?_, h3⟩
    simp [bareAll_eq, rowsOf, RxA.bare, Rx.kind, Rx.list, hk]
end Go.Proofs.YtjhclopdcbnmkaaDoor
