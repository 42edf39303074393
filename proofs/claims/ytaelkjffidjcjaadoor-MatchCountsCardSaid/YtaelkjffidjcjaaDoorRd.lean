/- Plain facts on patterns as they are read: what is left is shorter. -/
import Derived.Test.YtaelkjffidjcjaaDoorMem
set_option linter.unusedSimpArgs false
set_option linter.unusedVariables false
namespace Go.Proofs.YtaelkjffidjcjaaDoor.PX

theorem starts_cons {c : UInt8} : ∀ {s : List UInt8}, starts c s = true → s = c :: s.tail
  | [], h => by cases h
  | d :: r, h => by simp only [starts, beq_iff_eq] at h; subst h; rfl
theorem tail_le (s : List UInt8) : s.tail.length ≤ s.length := by simp
theorem starts_tail {c : UInt8} {s : List UInt8} (h : starts c s = true) : s.tail.length + 1 = s.length := by
  rw [starts_cons h]; simp
theorem hexv_lt {c : UInt8} {n : Nat} (h : hexv c = some n) : n < 16 := by
  unfold hexv at h
  split at h
  · cases h; omega
  · split at h
    · cases h; omega
    · split at h
      · cases h; omega
      · cases h
theorem one_lt {but : List UInt8} : ∀ {s : List UInt8} {x : Nat} {r : List UInt8}, one but s = some (x, r) → r.length < s.length ∧ x < 256
  | [], x, r, h => by simp [one] at h
  | c :: t, x, r, h => by
    simp only [one] at h
    split at h
    · cases t with
      | nil => cases h
      | cons d t' =>
        simp only at h
        split at h
        · match t', h with
          | [], h => cases h
          | [_], h => cases h
          | a :: b :: t'', h =>
            simp only at h
            split at h
            · rename_i x' y' hx hy
              cases h
              have := hexv_lt hx; have := hexv_lt hy
              exact ⟨by simp <;> omega, by omega⟩
            · cases h
        · split at h
          · cases h; exact ⟨by simp <;> omega, UInt8.toNat_lt _⟩
          · cases h
    · split at h
      · cases h
      · cases h; exact ⟨by simp, UInt8.toNat_lt _⟩
theorem classOne_lt {q : Q4} {s : List UInt8} {q' : Q4} {r : List UInt8} (h : classOne q s = some (q', r)) : r.length < s.length := by
  unfold classOne at h
  split at h
  · cases h
  · rename_i a t h1
    have l1 := one_lt h1
    split at h
    · rename_i hs
      have l0 := starts_tail hs
      split at h
      · cases h
      · rename_i b t' h2
        have l2 := one_lt h2
        split at h
        · cases h; omega
        · cases h
    · cases h; omega
theorem classLoop_lt : ∀ {f : Nat} {q : Q4} {s : List UInt8} {q' : Q4} {r : List UInt8}, classLoop f q s = some (q', r) → r.length < s.length
  | 0, _, _, _, _, h => by cases h
  | f + 1, q, s, q', r, h => by
    simp only [classLoop] at h
    split at h
    · cases h
    · rename_i q1 r1 h1
      have l1 := classOne_lt h1
      split at h
      · rename_i hs
        have := starts_tail hs
        cases h; omega
      · have := classLoop_lt h; omega
theorem classR_lt {f : Nat} {s : List UInt8} {q : Q4} {r : List UInt8} (h : classR f s = some (q, r)) : r.length < s.length := by
  unfold classR at h
  split at h
  · cases h
  · rename_i q1 r1 h1
    have l1 := classLoop_lt h1
    have hr : r = r1 := by
      simp only at h
      generalize (if starts 94 s = true then q1.not else q1) = q2 at h
      by_cases hq : q2.isNone = true
      · rw [if_pos hq] at h; cases h
      · rw [if_neg hq] at h; cases h; rfl
    subst hr
    split at l1
    · rename_i hs; have := starts_tail hs; omega
    · omega
theorem number_lt {s : List UInt8} {m : Nat} {r : List UInt8} (h : number s = some (m, r)) : r.length < s.length ∧ m ≤ 15 := by
  match s, h with
  | [], h => cases h
  | [a], h =>
    simp only [number] at h
    by_cases hd : digitB a = true
    · rw [if_pos hd] at h
      simp only [digitB, decide_eq_true_eq] at hd
      cases h; exact ⟨by simp, by omega⟩
    · rw [if_neg hd] at h; cases h
  | a :: b :: t, h =>
    simp only [number] at h
    split at h
    · rename_i ha
      simp only [digitB, decide_eq_true_eq] at ha
      split at h
      · split at h
        · cases h
        · split at h
          · split at h
            · cases h
            · split at h
              · cases h; exact ⟨by simp <;> omega, by omega⟩
              · cases h
          · split at h
            · cases h; exact ⟨by simp, by omega⟩
            · cases h
      · cases h; exact ⟨by simp, by omega⟩
    · cases h
theorem counts_lt {s : List UInt8} {m n : Int} {r : List UInt8} (h : counts s = some (m, n, r)) : r.length < s.length ∧ (0 ≤ m ∧ m ≤ 15) ∧ (-1 ≤ n ∧ n ≤ 15) := by
  unfold counts at h
  split at h
  · cases h
  · rename_i m' r1 h1
    have l1 := number_lt h1
    split at h
    · rename_i h44
      have l44 := starts_tail h44
      split at h
      · rename_i h125
        have l125 := starts_tail h125
        cases h; exact ⟨by omega, by omega, by omega⟩
      · split at h
        · cases h
        · rename_i n' r2 h2
          have l2 := number_lt h2
          split at h
          · rename_i h3
            have l3 := starts_tail h3.2
            cases h; exact ⟨by omega, by omega, by omega⟩
          · cases h
    · split at h
      · rename_i h125
        have l125 := starts_tail h125
        cases h; exact ⟨by omega, by omega, by omega⟩
      · cases h
theorem sign_le {x : Rx} {s : List UInt8} {y : Rx} {r : List UInt8} (h : sign x s = some (y, r)) : r.length ≤ s.length := by
  unfold sign at h
  have := tail_le s
  split at h
  · cases h; omega
  · split at h
    · cases h; omega
    · split at h
      · cases h; omega
      · split at h
        · split at h
          · cases h
          · rename_i m n r1 h1
            have := counts_lt h1
            cases h; omega
        · cases h; omega

theorem read_le (f : Nat) : (∀ (l row : List Rx) (s : List UInt8) (x : Rx) (r : List UInt8), altR f l row s = some (x, r) → r.length ≤ s.length) ∧
    (∀ (s : List UInt8) (x : Rx) (r : List UInt8), pieceR f s = some (x, r) → r.length < s.length) ∧
    (∀ (s : List UInt8) (x : Rx) (r : List UInt8), atomR f s = some (x, r) → r.length < s.length) := by
  induction f with
  | zero => exact ⟨fun _ _ _ _ _ h => by simp [altR] at h, fun _ _ _ h => by simp [pieceR] at h, fun _ _ _ h => by simp [atomR] at h⟩
  | succ f ih =>
    obtain ⟨ia, ip, it⟩ := ih
    refine ⟨fun l row s x r h => ?_, fun s x r h => ?_, fun s x r h => ?_⟩
    · simp only [altR] at h
      split at h
      · split at h
        · rename_i h1
          have := starts_tail h1
          have := ia _ _ _ _ _ h
          omega
        · cases h; omega
      · split at h
        · cases h
        · rename_i y t h1
          have := ip _ _ _ h1
          have := ia _ _ _ _ _ h
          omega
    · simp only [pieceR] at h
      split at h
      · cases h
      · rename_i y t h1
        have := it _ _ _ h1
        have := sign_le h
        omega
    · simp only [atomR] at h
      split at h
      · rename_i h1; have := starts_tail h1; cases h; omega
      · split at h
        · rename_i h1
          have := starts_tail h1
          split at h
          · cases h
          · rename_i q t h2
            have := classR_lt h2
            cases h; omega
        · split at h
          · rename_i h1
            have := starts_tail h1
            split at h
            · cases h
            · rename_i y t h2
              have := ia _ _ _ _ _ h2
              split at h
              · rename_i h3
                have := starts_tail h3
                cases h; omega
              · cases h
          · split at h
            · cases h
            · rename_i b t h2
              have := (one_lt h2).1
              cases h; omega

/-- Four words, of their kind. -/
def Q4.Ok (q : Q4) : Prop := U64 q.a ∧ U64 q.b ∧ U64 q.c ∧ U64 q.d
theorem orBit_ok {w : Int} (h : U64 w) {k : Nat} (hk : k < 64) : U64 (orBit w k) := by
  unfold orBit
  obtain ⟨h1, h2⟩ := h
  have hw : w.toNat < 2 ^ 64 := by omega
  have := Nat.or_lt_two_pow hw (Nat.pow_lt_pow_right (by omega : 1 < 2) hk)
  constructor <;> omega
theorem Q4.with_ok {q : Q4} (h : q.Ok) {n : Nat} (hn : n < 256) : (q.with n).Ok := by
  obtain ⟨h1, h2, h3, h4⟩ := h
  unfold Q4.with
  split
  · exact ⟨orBit_ok h1 (by omega), h2, h3, h4⟩
  · split
    · exact ⟨h1, orBit_ok h2 (by omega), h3, h4⟩
    · split
      · exact ⟨h1, h2, orBit_ok h3 (by omega), h4⟩
      · exact ⟨h1, h2, h3, orBit_ok h4 (by omega)⟩
theorem Q4.withAll_ok : ∀ {k : Nat} {q : Q4} (_ : q.Ok) {n : Nat}, n + k ≤ 256 → (q.withAll n k).Ok
  | 0, _, h, _, _ => h
  | k + 1, _, h, n, hn => Q4.withAll_ok (Q4.with_ok h (by omega)) (by omega)
theorem Q4.none_ok : Q4.none.Ok := by unfold Q4.none; refine ⟨?_, ?_, ?_, ?_⟩ <;> constructor <;> simp
theorem Q4.all_ok : Q4.all.Ok := by unfold Q4.all; refine ⟨?_, ?_, ?_, ?_⟩ <;> constructor <;> simp
theorem Q4.not_ok {q : Q4} (h : q.Ok) : q.not.Ok := by
  obtain ⟨⟨a, b⟩, ⟨c, d⟩, ⟨e, f⟩, ⟨g, i⟩⟩ := h
  unfold Q4.not
  refine ⟨?_, ?_, ?_, ?_⟩ <;> constructor <;> simp only <;> omega
theorem classOne_ok {q : Q4} (hq : q.Ok) {s : List UInt8} {q' : Q4} {r : List UInt8} (h : classOne q s = some (q', r)) : q'.Ok := by
  unfold classOne at h
  split at h
  · cases h
  · rename_i a t h1
    have l1 := one_lt h1
    split at h
    · split at h
      · cases h
      · rename_i b t' h2
        have l2 := one_lt h2
        split at h
        · cases h; exact Q4.withAll_ok hq (by omega)
        · cases h
    · cases h; exact Q4.withAll_ok hq (by omega)
theorem classLoop_ok : ∀ {f : Nat} {q : Q4} (_ : q.Ok) {s : List UInt8} {q' : Q4} {r : List UInt8}, classLoop f q s = some (q', r) → q'.Ok
  | 0, _, _, _, _, _, h => by cases h
  | f + 1, q, hq, s, q', r, h => by
    simp only [classLoop] at h
    split at h
    · cases h
    · rename_i q1 r1 h1
      have l1 := classOne_ok hq h1
      split at h
      · cases h; exact l1
      · exact classLoop_ok l1 h
theorem classR_ok {f : Nat} {s : List UInt8} {q : Q4} {r : List UInt8} (h : classR f s = some (q, r)) : q.Ok := by
  unfold classR at h
  split at h
  · cases h
  · rename_i q1 r1 h1
    have l1 := classLoop_ok Q4.none_ok h1
    have l2 : (if starts 94 s = true then q1.not else q1).Ok := by
      split
      · exact Q4.not_ok l1
      · exact l1
    simp only at h
    generalize (if starts 94 s = true then q1.not else q1) = q2 at h l2
    by_cases hq : q2.isNone = true
    · rw [if_pos hq] at h; cases h
    · rw [if_neg hq] at h; cases h; exact l2
end Go.Proofs.YtaelkjffidjcjaaDoor.PX
