/- The printer's rows: a set's pattern. -/
import Derived.Test.YtjhclopdcbnmkaaGreatDoorS2
set_option linter.unusedSimpArgs false
set_option linter.unusedVariables false
namespace Go.Proofs.YtjhclopdcbnmkaaGreatDoor.PX

theorem esc_len (b : Nat) : (escB b).length ≤ 4 := by
  unfold escB
  split
  · simp
  split <;> simp
theorem runT_len (p : Nat × Nat) : (runT p).length ≤ 9 := by
  have h1 := esc_len p.1
  have h2 := esc_len p.2
  unfold runT
  split
  · omega
  split
  · rw [List.length_append]; omega
  · rw [List.length_append, List.length_cons]; omega
/-- All words full: the set of all bytes. -/
theorem all_of_count {q : Q4} (h : q.wide) (hc : countRuns q.runs = 256) : q = Q4.all := by
  obtain ⟨h1, h2⟩ := qruns_spec q
  apply Q4.ext_has h all_wide
  intro b hb
  rw [all_has hb, ← h2 b hb]
  exact countRuns_all h1 hc b (by omega) hb
theorem all_text : Q4.all.text = [46] := by decide +kernel
/-- Where the printing of a set stands, at byte k: T is written, many bytes were told. -/
def RowsAt (q : Q4) (k : Nat) (T : List UInt8) (many : Nat) : Prop :=
  ∃ f, 256 ≤ f + k ∧ runsT q.runs = T ++ runsT (runs (hasN q.has) f k) ∧ countRuns q.runs = many + countRuns (runs (hasN q.has) f k) ∧ T.length ≤ 9 * k ∧ many ≤ k
theorem rowsAt_start (q : Q4) : RowsAt q 0 [] 0 := ⟨256, by omega, rfl, by rw [Nat.zero_add]; rfl, by simp, by omega⟩
theorem rowsAt_skip {q : Q4} {k : Nat} {T : List UInt8} {many : Nat} (h : RowsAt q k T many) (hk : k < 256) (hh : hasN q.has k = false) : RowsAt q (k + 1) T many := by
  obtain ⟨f, h1, h2, h3, h4, h5⟩ := h
  obtain ⟨f, rfl⟩ : ∃ g, f = g + 1 := ⟨f - 1, by omega⟩
  simp only [runs, hh, if_false, Bool.false_eq_true] at h2 h3
  exact ⟨f, by omega, h2, h3, by omega, by omega⟩
theorem rowsAt_run {q : Q4} {k : Nat} {T : List UInt8} {many : Nat} (h : RowsAt q k T many) (hk : k < 256) (hh : hasN q.has k = true) :
    RowsAt q (runEnd (hasN q.has) 256 k + 1) (T ++ runT (k, runEnd (hasN q.has) 256 k)) (many + (runEnd (hasN q.has) 256 k + 1 - k)) := by
  obtain ⟨f, h1, h2, h3, h4, h5⟩ := h
  obtain ⟨i1, i2, -, -⟩ := runEnd_spec (hasN q.has) (hasN_big _) 256 k hk hh (by omega)
  obtain ⟨f, rfl⟩ : ∃ g, f = g + 1 := ⟨f - 1, by omega⟩
  simp only [runs, hh, if_true, runsT, countRuns] at h2 h3
  have := runT_len (k, runEnd (hasN q.has) 256 k)
  exact ⟨f, by omega, by rw [h2, List.append_assoc], by omega, by rw [List.length_append]; omega, by omega⟩
theorem rowsAt_end {q : Q4} {T : List UInt8} {many : Nat} (h : RowsAt q 256 T many) : runsT q.runs = T ∧ countRuns q.runs = many := by
  obtain ⟨f, h1, h2, h3, h4, h5⟩ := h
  have hr : runs (hasN q.has) f 256 = [] := by
    cases f with
    | zero => rfl
    | succ f =>
      obtain ⟨j1, j2⟩ := runs_spec (hasN q.has) (hasN_big _) (f + 1) 256 (by omega)
      cases hq : runs (hasN q.has) (f + 1) 256 with
      | nil => rfl
      | cons p l =>
        rw [hq] at j1
        have := j1.1
        have := j1.2.1
        have := j1.2.2.1
        omega
  rw [hr] at h2 h3
  simp only [runsT, List.append_nil, countRuns, Nat.add_zero] at h2 h3
  exact ⟨h2, h3⟩
end Go.Proofs.YtjhclopdcbnmkaaGreatDoor.PX
namespace Go.Proofs.YtjhclopdcbnmkaaGreatDoor
open Go.RowKit PX

theorem wide_u64 {q : Q4} (hq : U64 q.a ∧ U64 q.b ∧ U64 q.c ∧ U64 q.d) : q.wide := by
  unfold U64 at hq
  unfold Q4.wide
  omega
theorem BAt.later {B b : Nat} {l : List UInt8} {w w' : World} (h : BAt B b l w) (hl : Later w w') : BAt B b l w' := by
  have key : ∀ p, Lib.BuilderAt 127 5 B b p (Lib.byteCells l) w → Lib.BuilderAt 127 5 B b p (Lib.byteCells l) w' := by
    rintro p ⟨h1, v, h2, h3, h4⟩
    refine ⟨h1, v, hl.block h2, ⟨h3.1, ?_⟩, h4⟩
    rcases h3.2 with h0 | ⟨g, cap, cur, hv, hg, hh, hr⟩
    · exact .inl h0
    · exact .inr ⟨g, cap, cur, hv, hg, hl.block hh, hr⟩
  rcases h with h | h
  · exact .inl (key _ h)
  · exact .inr (key _ h)
theorem below_later {B : Nat} {a b c : World} (h : Below B a b) (hB : B ≤ a.heap.size) (hl : Later b c) : Below B a c := h.trans (hl.out.mono (Nat.le_trans hB h.size))
theorem told_at (w : World) (k : Nat) (hk : k < 256) : Calls Tryz.prog 71 #[.int .i64 (k : Int)] w fun e w' => e = .returned (.string ⟨(escB k).toArray⟩) ∧ Later w w' := by
  have h := ptold_any w (UInt8.ofNat k)
  rw [toNat_of hk] at h
  exact h
theorem rows_lit (w : World) (q : Q4) : same4 q.a q.b q.c q.d 18446744073709551615 18446744073709551615 18446744073709551615 18446744073709551615 = true → q = Q4.all := by
  intro h
  obtain ⟨a, b, c, d⟩ := q
  unfold same4 at h
  rw [decide_eq_true_iff] at h
  obtain ⟨rfl, rfl, rfl, rfl⟩ := h
  rfl
theorem rows_not (q : Q4) (hw : q.wide) (h : same4 q.a q.b q.c q.d 18446744073709551615 18446744073709551615 18446744073709551615 18446744073709551615 = false) : countRuns q.runs ≠ 256 := by
  intro hc
  rw [all_of_count hw hc] at h
  exact absurd h (by decide)
theorem rowsAt_le {q : Q4} {k : Nat} {T : List UInt8} {many : Nat} (h : RowsAt q k T many) : T.length ≤ 9 * k ∧ many ≤ k := by
  obtain ⟨f, -, -, -, h4, h5⟩ := h
  exact ⟨h4, h5⟩
end Go.Proofs.YtjhclopdcbnmkaaGreatDoor
