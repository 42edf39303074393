/- Plain laws of the document's printer: the bytes of a set counted one by one; parts put together one by one. -/
import Derived.Test.YtjhclopdcbnmkaaGreatDoorS5
set_option linter.unusedSimpArgs false
set_option linter.unusedVariables false
namespace Go.Proofs.YtjhclopdcbnmkaaGreatDoor.PX

theorem runEnd_ge (has : Nat → Bool) : ∀ f b, b ≤ runEnd has f b
  | 0, b => Nat.le_refl _
  | f + 1, b => by
    unfold runEnd
    split
    · have := runEnd_ge has f (b + 1); omega
    · exact Nat.le_refl _
theorem runEnd_stop {has : Nat → Bool} (hb : ∀ b, 256 ≤ b → has b = false) : ∀ f b, 256 ≤ b → runEnd has f b = b
  | 0, b, _ => rfl
  | f + 1, b, h => by unfold runEnd; rw [if_neg (by rw [hb (b + 1) (by omega)]; decide)]
theorem runEnd_fuel {has : Nat → Bool} (hb : ∀ b, 256 ≤ b → has b = false) : ∀ f g b, 256 ≤ f + b → 256 ≤ g + b → runEnd has f b = runEnd has g b
  | 0, g, b, h, _ => by rw [runEnd_stop hb 0 b (by omega), runEnd_stop hb g b (by omega)]
  | f + 1, 0, b, _, h => by rw [runEnd_stop hb _ b (by omega), runEnd_stop hb 0 b (by omega)]
  | f + 1, g + 1, b, h1, h2 => by
    unfold runEnd
    by_cases h : has (b + 1) = true
    · rw [if_pos h, if_pos h]; exact runEnd_fuel hb f g (b + 1) (by omega) (by omega)
    · rw [if_neg h, if_neg h]
theorem runs_stop {has : Nat → Bool} (hb : ∀ b, 256 ≤ b → has b = false) : ∀ f b, 256 ≤ b → runs has f b = []
  | 0, b, _ => rfl
  | f + 1, b, h => by unfold runs; rw [if_neg (by rw [hb b h]; decide)]; exact runs_stop hb f (b + 1) (by omega)
theorem runs_fuel {has : Nat → Bool} (hb : ∀ b, 256 ≤ b → has b = false) : ∀ f g b, 256 ≤ f + b → 256 ≤ g + b → runs has f b = runs has g b
  | 0, g, b, h, _ => by rw [runs_stop hb 0 b (by omega), runs_stop hb g b (by omega)]
  | f + 1, 0, b, _, h => by rw [runs_stop hb _ b (by omega), runs_stop hb 0 b (by omega)]
  | f + 1, g + 1, b, h1, h2 => by
    unfold runs
    have hge := runEnd_ge has 256 b
    by_cases h : has b = true
    · rw [if_pos h, if_pos h, runs_fuel hb f g (runEnd has 256 b + 1) (by omega) (by omega)]
    · rw [if_neg h, if_neg h]; exact runs_fuel hb f g (b + 1) (by omega) (by omega)
theorem runs_yes {has : Nat → Bool} (f k : Nat) (h : has k = true) : runs has (f + 1) k = (k, runEnd has 256 k) :: runs has f (runEnd has 256 k + 1) := by
  show (if has k then _ else _) = _
  rw [if_pos h]
theorem runs_no {has : Nat → Bool} (f k : Nat) (h : ¬ has k = true) : runs has (f + 1) k = runs has f (k + 1) := by
  show (if has k then _ else _) = _
  rw [if_neg h]
theorem count_step {has : Nat → Bool} (hb : ∀ b, 256 ≤ b → has b = false) (k : Nat) (hk : k < 256) : countRuns (runs has 256 k) = (if has k then 1 else 0) + countRuns (runs has 256 (k + 1)) := by
  rw [runs_fuel hb 256 (256 + 1) k (by omega) (by omega)]
  by_cases h : has k = true
  · rw [runs_yes 256 k h, if_pos h]
    by_cases h1 : has (k + 1) = true
    · have e2 : runEnd has 256 k = runEnd has 256 (k + 1) := by
        have e : runEnd has (255 + 1) k = runEnd has 255 (k + 1) := by
          show (if has (k + 1) then _ else _) = _
          rw [if_pos h1]
        rw [show (256 : Nat) = 255 + 1 from rfl, e]
        exact runEnd_fuel hb 255 (255 + 1) (k + 1) (by omega) (by omega)
      have hge := runEnd_ge has 256 (k + 1)
      have e3 := runs_yes (has := has) 255 (k + 1) h1
      rw [show (255 : Nat) + 1 = 256 from rfl] at e3
      rw [e2, e3]
      simp only [countRuns]
      rw [runs_fuel hb 255 256 (runEnd has 256 (k + 1) + 1) (by omega) (by omega)]
      omega
    · have e2 : runEnd has (255 + 1) k = k := by
        show (if has (k + 1) then _ else _) = _
        rw [if_neg h1]
      rw [show (255 : Nat) + 1 = 256 from rfl] at e2
      rw [e2]
      simp only [countRuns]
      omega
  · rw [runs_no 256 k h, if_neg h, Nat.zero_add]
/-- Where the counting of a set's bytes stands. -/
def ManyAt (q : Q4) (k many last : Nat) : Prop :=
  countRuns q.runs = many + countRuns (runs (hasN q.has) 256 k) ∧ many ≤ k ∧ last < 256 ∧ (1 ≤ many → hasN q.has last = true)
theorem manyAt_start (q : Q4) : ManyAt q 0 0 0 := ⟨by rw [Nat.zero_add]; rfl, by omega, by omega, by omega⟩
theorem manyAt_yes {q : Q4} {k many last : Nat} (h : ManyAt q k many last) (hk : k < 256) (hh : hasN q.has k = true) : ManyAt q (k + 1) (many + 1) k := by
  obtain ⟨h1, h2, h3, h4⟩ := h
  rw [count_step (hasN_big _) k hk, if_pos hh] at h1
  exact ⟨by omega, by omega, hk, fun _ => hh⟩
theorem manyAt_no {q : Q4} {k many last : Nat} (h : ManyAt q k many last) (hk : k < 256) (hh : hasN q.has k = false) : ManyAt q (k + 1) many last := by
  obtain ⟨h1, h2, h3, h4⟩ := h
  rw [count_step (hasN_big _) k hk, if_neg (by rw [hh]; decide)] at h1
  exact ⟨by omega, by omega, h3, h4⟩
theorem manyAt_le {q : Q4} {k many last : Nat} (h : ManyAt q k many last) : many ≤ k ∧ last < 256 := ⟨h.2.1, h.2.2.1⟩
theorem manyAt_end {q : Q4} {many last : Nat} (h : ManyAt q 256 many last) : countRuns q.runs = many := by
  obtain ⟨h1, -⟩ := h
  rw [runs_stop (hasN_big _) 256 256 (by omega)] at h1
  simpa [countRuns] using h1
theorem count_pos {b : Nat} {p : Nat × Nat} {l : List (Nat × Nat)} (h : Rising b (p :: l)) : 1 ≤ countRuns (p :: l) := by
  have := h.2.1
  simp only [countRuns]
  omega
theorem one_text {q : Q4} {last : Nat} (h : ManyAt q 256 1 last) : runsT q.runs = escB last := by
  have hc := manyAt_end h
  obtain ⟨-, -, h3, h4⟩ := h
  have hh := h4 (Nat.le_refl _)
  obtain ⟨r1, r2⟩ := runs_spec (hasN q.has) (hasN_big _) 256 0 (by omega)
  have hin := (r2 last (by omega)).2 hh
  change Rising 0 q.runs at r1
  change inRuns q.runs last at hin
  cases hq : q.runs with
  | nil => rw [hq] at hc; simp [countRuns] at hc
  | cons p l =>
    rw [hq] at hc r1 hin
    have hp := r1.2.1
    cases l with
    | cons p' l' =>
      have := count_pos r1.2.2.2
      rw [countRuns] at hc
      omega
    | nil =>
      simp only [countRuns] at hc
      obtain ⟨p', hm, g1, g2⟩ := hin
      rw [List.mem_singleton] at hm
      subst hm
      have e1 : p'.2 = p'.1 := by omega
      have e2 : last = p'.1 := by omega
      simp only [runsT, List.append_nil]
      unfold runT
      rw [if_pos e1, e2]

/-! parts of a pattern, put together one by one -/
def barT (k : Int) : List UInt8 := if k = 2 then [124] else []
def accMore (k : Int) : List Rx → List UInt8
  | [] => []
  | x :: l => barT k ++ elemT k x ++ accMore k l
def accT (k : Int) : List Rx → List UInt8
  | [] => []
  | x :: l => elemT k x ++ accMore k l
theorem accMore_snoc (k : Int) (x : Rx) : ∀ l, accMore k (l ++ [x]) = accMore k l ++ (barT k ++ elemT k x)
  | [] => by simp [accMore]
  | y :: l => by simp only [List.cons_append, accMore, accMore_snoc k x l, List.append_assoc]
theorem accT_snoc (k : Int) (x : Rx) (l : List Rx) (h : l ≠ []) : accT k (l ++ [x]) = accT k l ++ (barT k ++ elemT k x) := by
  cases l with
  | nil => exact absurd rfl h
  | cons y l => simp only [List.cons_append, accT, accMore_snoc, List.append_assoc]
theorem accT_one (k : Int) (x : Rx) : accT k [x] = elemT k x := by simp [accT, accMore]
theorem accMore_seq : ∀ l : List Rx, accMore 1 l = textSeq l
  | [] => rfl
  | x :: l => by
    have e1 : textSeq (x :: l) = pieceT x ++ textSeq l := rfl
    rw [e1, ← accMore_seq l]
    rfl
theorem accT_seq (l : List Rx) : accT 1 l = textSeq l := by
  cases l with
  | nil => rfl
  | cons x l =>
    have e1 : textSeq (x :: l) = pieceT x ++ textSeq l := rfl
    rw [e1, ← accMore_seq l]
    rfl
theorem accMore_alt : ∀ l : List Rx, accMore 2 l = textMore l
  | [] => rfl
  | x :: l => by
    have e3 : textMore (x :: l) = 124 :: (rowT x ++ textMore l) := rfl
    rw [e3, ← accMore_alt l]
    rfl
theorem accT_alt (l : List Rx) : accT 2 l = textAlt l := by
  cases l with
  | nil => rfl
  | cons x l =>
    have e2 : textAlt (x :: l) = rowT x ++ textMore l := rfl
    rw [e2, ← accMore_alt l]
    rfl
theorem elem_len (k : Int) (x : Rx) : (elemT k x).length ≤ x.text.length + 2 := by
  unfold elemT
  split
  · exact piece_len x
  split
  · exact row_len x
  · exact atom_len x
theorem barT_len (k : Int) : (barT k).length ≤ 1 := by unfold barT; split <;> simp
theorem acc_len (k : Int) : ∀ l : List Rx, formAll l = true → ((accMore k l).length : Int) ≤ 2500 * bigAll l ∧ ((accT k l).length : Int) ≤ 2500 * bigAll l
  | [], _ => by simp [accMore, accT, bigAll]
  | x :: l, hf => by
    simp only [formAll, Bool.and_eq_true] at hf
    have h1 := text_len x hf.1
    obtain ⟨h2, h3⟩ := acc_len k l hf.2
    have h5 := elem_len k x
    have h6 := barT_len k
    simp only [accMore, accT, List.length_append, bigAll]
    omega
theorem bigAll_take : ∀ (l : List Rx) (j : Nat), bigAll (l.take j) ≤ bigAll l
  | l, 0 => by have := bigAll_nonneg l; simpa [bigAll] using this
  | [], j + 1 => by simp [bigAll]
  | x :: l, j + 1 => by
    have := bigAll_take l j
    simp only [List.take_succ_cons, bigAll]
    omega
theorem formAll_take {l : List Rx} (h : formAll l = true) (j : Nat) : formAll (l.take j) = true := by
  rw [formAll_iff] at h ⊢
  exact fun z hz => h z (List.mem_of_mem_take hz)
theorem acc_take {k : Int} {l : List Rx} (h : formAll l = true) (j : Nat) : ((accT k (l.take j)).length : Int) ≤ 2500 * bigAll l := by
  have h1 := (acc_len k _ (formAll_take h j)).2
  have h2 := bigAll_take l j
  omega
end Go.Proofs.YtjhclopdcbnmkaaGreatDoor.PX
