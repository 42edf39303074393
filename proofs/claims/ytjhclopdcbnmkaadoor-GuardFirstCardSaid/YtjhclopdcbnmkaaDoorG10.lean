/- Plain laws for GuardFirst and GuardMore: rules put behind others, and the own rules of two levels. -/
import Derived.Test.YtjhclopdcbnmkaaDoorG5
set_option linter.unusedSimpArgs false
set_option linter.unusedVariables false
namespace Go.Proofs.YtjhclopdcbnmkaaDoor.PX

theorem firstG_append (fr tu : Int) (s : List UInt8) (m : List Rul) : ∀ (l : List Rul) (i : Nat),
    firstG fr tu s i (l ++ m) = match firstG fr tu s i l with | some x => some x | none => firstG fr tu s (i + l.length) m
  | [], i => by simp [firstG]
  | r :: rs, i => by
    simp only [List.cons_append, firstG]
    by_cases h : r.takes fr tu s = true
    · rw [if_pos h, if_pos h]
    · rw [if_neg h, if_neg h, firstG_append fr tu s m rs (i + 1), List.length_cons, show i + 1 + rs.length = i + (rs.length + 1) by omega]
theorem firstG_one (fr tu : Int) (s : List UInt8) (r : Rul) (i : Nat) : firstG fr tu s i [r] = if r.takes fr tu s then some (i, r) else none := by
  simp [firstG]
theorem firstG_lt {fr tu : Int} {s : List UInt8} {r : Rul} {k : Nat} : ∀ {l : List Rul} {i : Nat}, firstG fr tu s i l = some (k, r) → i ≤ k ∧ l[k - i]? = some r
  | [], i, h => by simp [firstG] at h
  | q :: l, i, h => by
    simp only [firstG] at h
    by_cases hq : q.takes fr tu s = true
    · rw [if_pos hq] at h
      simp only [Option.some.injEq, Prod.mk.injEq] at h
      obtain ⟨rfl, rfl⟩ := h
      simp
    · rw [if_neg hq] at h
      obtain ⟨h1, h2⟩ := firstG_lt h
      refine ⟨by omega, ?_⟩
      rw [show k - i = (k - (i + 1)) + 1 by omega, List.getElem?_cons_succ]
      exact h2
theorem firstG_get {fr tu : Int} {s : List UInt8} {r : Rul} {k : Nat} {l : List Rul} (h : firstG fr tu s 0 l = some (k, r)) : l[k]? = some r := (firstG_lt h).2
/-- Of those two levels? -/
def Rul.of (r : Rul) (fr tu : Int) : Bool := decide (r.fr = fr) && decide (r.tu = tu)
/-- The own rules of two levels, up to the first that takes the text. -/
noncomputable def ownG (fr tu : Int) (s : List UInt8) : List Rul → List Rul
  | [] => []
  | r :: rs => if r.of fr tu then (if r.takes fr tu s then [r] else r :: ownG fr tu s rs) else ownG fr tu s rs
theorem takes_of {r : Rul} {fr tu : Int} {s : List UInt8} (h : r.takes fr tu s = true) : r.of fr tu = true := by
  unfold Rul.takes at h
  unfold Rul.of
  simp only [Bool.and_eq_true] at h ⊢
  exact h.1
theorem ownG_snoc (fr tu : Int) (s : List UInt8) (r : Rul) : ∀ (l : List Rul) (i : Nat),
    ownG fr tu s (l ++ [r]) = if (firstG fr tu s i l).isNone && r.of fr tu then ownG fr tu s l ++ [r] else ownG fr tu s l
  | [], i => by
    simp only [List.nil_append, ownG, firstG, Option.isNone_none, Bool.true_and]
    by_cases h : r.of fr tu = true
    · rw [if_pos h, if_pos h]
      split <;> rfl
    · rw [if_neg h, if_neg h]
  | q :: l, i => by
    have ih := ownG_snoc fr tu s r l (i + 1)
    by_cases hq : q.takes fr tu s = true
    · simp [ownG, firstG, hq, takes_of hq]
    · by_cases ho : q.of fr tu = true
      · simp only [List.cons_append, ownG, firstG, hq, ho, if_true, if_false, Bool.false_eq_true, ih]
        cases firstG fr tu s (i + 1) l <;> cases r.of fr tu <;> simp
      · simp only [List.cons_append, ownG, firstG, hq, ho, if_true, if_false, Bool.false_eq_true, ih]
theorem ownG_mem {fr tu : Int} {s : List UInt8} : ∀ {l : List Rul} {r : Rul}, r ∈ ownG fr tu s l → r ∈ l
  | q :: l, r, h => by
    simp only [ownG] at h
    split at h
    · split at h
      · simp at h; simp [h]
      · rcases List.mem_cons.1 h with rfl | h
        · simp
        · exact List.mem_cons_of_mem _ (ownG_mem h)
    · exact List.mem_cons_of_mem _ (ownG_mem h)
theorem ownG_length (fr tu : Int) (s : List UInt8) : ∀ l : List Rul, (ownG fr tu s l).length ≤ l.length
  | [] => by simp [ownG]
  | q :: l => by
    have := ownG_length fr tu s l
    simp only [ownG]
    split
    · split
      · simp
      · simp only [List.length_cons]; omega
    · simp only [List.length_cons]; omega
theorem checkG_of {l : List Rul} {n : Int} (hn : ¬ (n < 1 ∨ 8 < n)) (h1 : l.length ≤ 32) (h2 : ∀ r ∈ l, r.okB n = true) : checkG l n = 0 := by
  unfold checkG
  rw [if_neg hn, if_pos]
  simp only [Bool.and_eq_true, List.all_eq_true, decide_eq_true_eq]
  exact ⟨h2, h1⟩
theorem checkG_own {fr tu : Int} {s : List UInt8} {l : List Rul} (h : checkG l 8 = 0) : checkG (ownG fr tu s l) 8 = 0 := by
  obtain ⟨h1, h2⟩ := checkG_all h
  exact checkG_of (by omega) (by have := ownG_length fr tu s l; omega) (fun r hr => h2 r (ownG_mem hr))
/-- The rule that takes the text is the last of the own ones. -/
theorem firstG_own {fr tu : Int} {s : List UInt8} {r : Rul} : ∀ {l : List Rul} {i j k : Nat}, firstG fr tu s i l = some (k, r) → ∃ n, firstG fr tu s j (ownG fr tu s l) = some (j + n, r) ∧ (ownG fr tu s l).length = n + 1
  | [], i, j, k, h => by simp [firstG] at h
  | q :: l, i, j, k, h => by
    simp only [firstG] at h
    simp only [ownG]
    by_cases hq : q.takes fr tu s = true
    · rw [if_pos hq] at h
      simp only [Option.some.injEq, Prod.mk.injEq] at h
      obtain ⟨rfl, rfl⟩ := h
      rw [if_pos (takes_of hq), if_pos hq]
      exact ⟨0, by rw [firstG_one, if_pos hq]; rfl, rfl⟩
    · rw [if_neg hq] at h
      by_cases ho : q.of fr tu = true
      · rw [if_pos ho, if_neg hq]
        obtain ⟨n, h1, h2⟩ := firstG_own (j := j + 1) h
        refine ⟨n + 1, ?_, by simp [h2]⟩
        simp only [firstG]
        rw [if_neg hq, h1, show j + 1 + n = j + (n + 1) by omega]
      · rw [if_neg ho]
        exact firstG_own h
theorem decide_own {l : List Rul} {fr tu : Int} {s : List UInt8} {k : Nat} {r : Rul} (h : checkG l 8 = 0) (hs : s.length ≤ 200) (hf : firstG fr tu s 0 l = some (k, r)) :
    decideG (ownG fr tu s l) fr tu s = ((((ownG fr tu s l).length : Int) - 1), r.act, outG r s, 0) := by
  obtain ⟨n, h1, h2⟩ := firstG_own (j := 0) hf
  rw [decide_some (checkG_own h) hs h1, h2]
  simp
/-! what goes out -/
theorem outG_drop {r : Rul} {s : List UInt8} (h : r.act = 0) : outG r s = [] := by unfold outG; rw [if_pos h]
theorem outG_pass {r : Rul} {s : List UInt8} (h : r.act = 1) : outG r s = s := by unfold outG; rw [if_neg (by omega), if_pos h]
theorem outG_length {r : Rul} {s : List UInt8} (h : r.act ≠ 0) : (outG r s).length = s.length := by
  unfold outG
  rw [if_neg h]
  split
  · rfl
  · exact starsFrom_length _ _ _
theorem outG_byte {r : Rul} {s : List UInt8} (h : r.act ≠ 0) (i : Nat) (hi : i < s.length) : (outG r s).getD i 0 = s.getD i 0 ∨ (outG r s).getD i 0 = 42 := by
  unfold outG
  rw [if_neg h]
  split
  · exact .inl rfl
  · rw [List.getD_eq_getElem?_getD, List.getD_eq_getElem?_getD, starsFrom_get, List.getElem?_eq_getElem hi]
    simp only [Option.map_some, Option.getD_some]
    split
    · exact .inr rfl
    · exact .inl rfl
/-! a rule more (GuardMore) -/
theorem checkG_more {l : List Rul} {r : Rul} (h : checkG (l ++ [r]) 8 = 0) : checkG l 8 = 0 ∧ checkG [r] 8 = 0 := by
  obtain ⟨h1, h2⟩ := checkG_all h
  simp only [List.length_append, List.length_cons, List.length_nil] at h1
  exact ⟨checkG_of (by omega) (by omega) (fun q hq => h2 q (by simp [hq])), checkG_of (by omega) (by simp) (fun q hq => h2 q (by simp at hq; simp [hq]))⟩
theorem more_same {l : List Rul} {r : Rul} {fr tu : Int} {s : List UInt8} {x : Nat × Rul} (hf : firstG fr tu s 0 l = some x) : firstG fr tu s 0 (l ++ [r]) = some x := by
  rw [firstG_append, hf]
theorem more_new {l : List Rul} {r : Rul} {fr tu : Int} {s : List UInt8} (hf : firstG fr tu s 0 l = none) : firstG fr tu s 0 (l ++ [r]) = if r.takes fr tu s then some (l.length, r) else none := by
  rw [firstG_append, hf]
  simp only [Nat.zero_add]
  exact firstG_one ..
end Go.Proofs.YtjhclopdcbnmkaaDoor.PX
