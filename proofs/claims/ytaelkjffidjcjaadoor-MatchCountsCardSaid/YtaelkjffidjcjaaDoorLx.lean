/- Plain laws on languages of joined expressions. -/
import Derived.Test.YtaelkjffidjcjaaDoorPx
set_option linter.unusedSimpArgs false
set_option linter.unusedVariables false
namespace Go.Proofs.YtaelkjffidjcjaaDoor.PX

theorem seq2_lang (a b : Rx) (s : List UInt8) : (Rx.node 1 0 0 0 0 0 0 [a, b]).lang s ↔ ∃ i, i ≤ s.length ∧ a.lang (s.take i) ∧ b.lang (s.drop i) := by
  rw [Rx.lang]
  simp only [langSeq, show ¬ ((1 : Int) = 0) by decide, if_false, if_true]
  constructor
  · rintro ⟨u, v, rfl, hu, u', v', rfl, hv, rfl⟩
    refine ⟨u.length, by simp, ?_, ?_⟩
    · simpa using hu
    · simpa using hv
  · rintro ⟨i, hi, ha, hb⟩
    exact ⟨s.take i, s.drop i, (List.take_append_drop i s).symm, ha, s.drop i, [], by simp, hb, rfl⟩
theorem alt2_lang (a b : Rx) (s : List UInt8) : (Rx.node 2 0 0 0 0 0 0 [a, b]).lang s ↔ a.lang s ∨ b.lang s := by
  rw [Rx.lang]
  simp only [langAlt, show ¬ ((2 : Int) = 0) by decide, show ¬ ((2 : Int) = 1) by decide, if_false, if_true, or_false]
theorem rep_lang (a : Rx) (mn mx : Int) (s : List UInt8) : (Rx.node 3 mn mx 0 0 0 0 [a]).lang s ↔ ∃ k : Nat, mn ≤ k ∧ (mx = -1 ∨ (k : Int) ≤ mx) ∧ Pow a.lang k s := by
  rw [Rx.lang]
  simp only [langRep, show ¬ ((3 : Int) = 0) by decide, show ¬ ((3 : Int) = 1) by decide, show ¬ ((3 : Int) = 2) by decide, if_false]
theorem many_lang (a : Rx) (s : List UInt8) : (Rx.node 3 0 (-1) 0 0 0 0 [a]).lang s ↔ s = [] ∨ ∃ i, 0 < i ∧ i ≤ s.length ∧ a.lang (s.take i) ∧ (Rx.node 3 0 (-1) 0 0 0 0 [a]).lang (s.drop i) := by
  constructor
  · rw [rep_lang]
    rintro ⟨k, -, -, h⟩
    induction k generalizing s with
    | zero => exact .inl h
    | succ k ih =>
      obtain ⟨u, v, rfl, hu, hv⟩ := h
      cases u with
      | nil => exact ih v hv
      | cons c u =>
        refine .inr ⟨(c :: u).length, by simp, by simp, ?_, ?_⟩
        · simpa using hu
        · rw [rep_lang]
          exact ⟨k, by omega, .inl rfl, by simpa using hv⟩
  · rintro (rfl | ⟨i, h0, hi, ha, hb⟩)
    · rw [rep_lang]; exact ⟨0, by omega, .inl rfl, rfl⟩
    · rw [rep_lang] at hb ⊢
      obtain ⟨k, -, -, hk⟩ := hb
      exact ⟨k + 1, by omega, .inl rfl, s.take i, s.drop i, (List.take_append_drop i s).symm, ha, hk⟩

/-- A number of times is a row of as many. -/
theorem langSeq_replicate (a : Rx) : ∀ (k : Nat) (s : List UInt8), langSeq (List.replicate k a) s ↔ Pow a.lang k s
  | 0, s => by simp [langSeq, Pow]
  | k + 1, s => by
    rw [List.replicate_succ]
    simp only [langSeq, Pow, langSeq_replicate a k]
theorem row_lang (l : List Rx) (s : List UInt8) : (Rx.node 1 0 0 0 0 0 0 l).lang s ↔ langSeq l s := by
  rw [Rx.lang]
  simp only [show ¬ ((1 : Int) = 0) by decide, if_false, if_true]

/-- What two loops over the places of a cut find. -/
theorem sub_take (s : List UInt8) (i : Nat) : sub s 0 i = s.take i := by simp [sub]
theorem sub_drop (s : List UInt8) (i : Nat) : sub s i s.length = s.drop i := by simp [sub]

/-- Hits, one by one. -/
theorem hitsFrom_get {L : List UInt8 → Prop} {s : List UInt8} : ∀ {l : List (Nat × Nat)} {f i : Nat}, HitsFrom L s f l → i ≤ l.length → HitsFrom L s (if i = 0 then f else (l.getD (i - 1) (0, 0)).2) (l.drop i)
  | l, f, 0, h, _ => by simpa using h
  | [], f, i + 1, h, hi => by simp at hi
  | p :: l, f, i + 1, h, hi => by
    cases h with
    | cons hh hr =>
      have := hitsFrom_get (i := i) hr (by simpa using hi)
      cases i with
      | zero => simpa using this
      | succ i => simpa using this

/-- so many times, and a row. -/
theorem rep_form {e : Rx} {mn mx : Int} : (Rx.node 3 mn mx 0 0 0 0 [e]).formB = true ↔ (0 ≤ mn ∧ mn ≤ 15 ∧ mx ≤ 15 ∧ (mx = -1 ∨ mn ≤ mx)) ∧ e.formB = true := by
  rw [formB_iff]
  simp only [Shape, List.length_singleton, formAll, Bool.and_true]
  constructor
  · rintro ⟨h, h2⟩; exact ⟨by omega, h2⟩
  · rintro ⟨⟨h1, h3, h4, h5⟩, h2⟩; exact ⟨.inr (.inr (.inr ⟨trivial, ⟨trivial, trivial, trivial, trivial⟩, trivial, h1, h3, h4, h5⟩)), h2⟩
theorem rep_big (e : Rx) (mn mx : Int) : (Rx.node 3 mn mx 0 0 0 0 [e]).big = 1 + max (max 1 mn) mx * e.big := by
  simp only [Rx.big, bigAll, times, if_true, Int.add_zero]
theorem bigAll_replicate (e : Rx) : ∀ k : Nat, bigAll (List.replicate k e) = k * e.big
  | 0 => by simp [bigAll]
  | k + 1 => by rw [List.replicate_succ]; simp only [bigAll, bigAll_replicate e k]; rw [show ((k + 1 : Nat) : Int) = (k : Int) + 1 by omega, Int.add_mul]; omega
theorem row_big (e : Rx) (k : Nat) : (Rx.node 1 0 0 0 0 0 0 (List.replicate k e)).big = 1 + k * e.big := by
  simp only [Rx.big, times, show ¬ ((1 : Int) = 3) by decide, if_false, bigAll_replicate, Int.one_mul]
theorem formAll_replicate (e : Rx) (h : e.formB = true) : ∀ k : Nat, formAll (List.replicate k e) = true
  | 0 => rfl
  | k + 1 => by rw [List.replicate_succ]; simp [formAll, h, formAll_replicate e h k]
theorem row_form {e : Rx} (h : e.formB = true) {k : Nat} (hk : 2 ≤ k) : (Rx.node 1 0 0 0 0 0 0 (List.replicate k e)).formB = true := by
  rw [formB_iff]
  refine ⟨?_, formAll_replicate e h k⟩
  rw [List.length_replicate]
  exact .inr (.inl ⟨rfl, ⟨rfl, rfl, rfl, rfl⟩, by omega, rfl, rfl⟩)
end Go.Proofs.YtaelkjffidjcjaaDoor.PX
