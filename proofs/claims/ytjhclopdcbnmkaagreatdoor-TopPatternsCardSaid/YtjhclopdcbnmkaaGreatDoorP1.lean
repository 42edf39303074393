/- Plain laws of patterns as they are printed, no program in sight: what is printed of an expression is read as that expression. -/
import Derived.Test.YtjhclopdcbnmkaaGreatDoorQ1
set_option linter.unusedSimpArgs false
set_option linter.unusedVariables false
namespace Go.Proofs.YtjhclopdcbnmkaaGreatDoor.PX

/-! bytes -/
def hexd (n : Nat) : UInt8 := if n < 10 then UInt8.ofNat (48 + n) else UInt8.ofNat (87 + n)
/-- A byte as it is told. -/
def escB (b : Nat) : List UInt8 :=
  if UInt8.ofNat b ∈ meaningL then [92, UInt8.ofNat b]
  else if 32 ≤ b ∧ b ≤ 126 then [UInt8.ofNat b]
  else [92, 120, hexd (b / 16), hexd (b % 16)]
theorem hexv_hexd : ∀ n, n < 16 → hexv (hexd n) = some n := by decide
theorem toNat_of {b : Nat} (h : b < 256) : (UInt8.ofNat b).toNat = b := by
  rw [UInt8.toNat_ofNat']; omega
theorem not_meaning {c : UInt8} (h : c ∉ meaningL) : c ≠ 92 ∧ c ≠ 46 ∧ c ≠ 91 ∧ c ≠ 93 ∧ c ≠ 40 ∧ c ≠ 41 ∧ c ≠ 124 ∧ c ≠ 42 ∧ c ≠ 43 ∧ c ≠ 63 ∧ c ≠ 123 ∧ c ≠ 125 ∧ c ≠ 94 ∧ c ≠ 45 := by
  simpa [meaningL] using h
theorem one_esc {but : List UInt8} (hb : but = butClass ∨ but = butAtom) {b : Nat} (h : b < 256) (r : List UInt8) : one but (escB b ++ r) = some (b, r) := by
  unfold escB
  split
  · rename_i hm
    simp only [List.cons_append, List.nil_append, one, if_true]
    have h120 : UInt8.ofNat b ≠ 120 := by intro e; rw [e] at hm; simp [meaningL] at hm
    rw [if_neg h120, if_pos hm, toNat_of h]
  · rename_i hm
    have hn := not_meaning hm
    split
    · simp only [List.cons_append, List.nil_append, one]
      rw [if_neg hn.1, if_neg, toNat_of h]
      rcases hb with rfl | rfl
      · simp [butClass, hn]
      · simp [butAtom, hn]
    · simp only [List.cons_append, List.nil_append, one, if_true]
      rw [hexv_hexd _ (by omega), hexv_hexd _ (by omega)]
      simp only [Option.some.injEq, Prod.mk.injEq, and_true]
      omega
/-- The first byte of a byte that is told. -/
theorem esc_head (b : Nat) : ∃ c r, escB b = c :: r ∧ (c = 92 ∨ c ∉ meaningL) := by
  unfold escB
  split
  · exact ⟨_, _, rfl, .inl rfl⟩
  · rename_i hm
    split
    · exact ⟨_, _, rfl, .inr hm⟩
    · exact ⟨_, _, rfl, .inl rfl⟩
theorem esc_starts (b : Nat) (r : List UInt8) {c : UInt8} (hc : c ∈ meaningL) (h92 : c ≠ 92) : starts c (escB b ++ r) = false := by
  obtain ⟨d, r', he, hd⟩ := esc_head b
  rw [he, List.cons_append]
  simp only [starts, beq_eq_false_iff_ne]
  rintro rfl
  rcases hd with h | h
  · exact h92 h
  · exact h hc

/-! sets -/
def hasN (has : Nat → Bool) (b : Nat) : Bool := decide (b < 256) && has b
/-- The last of a row of bytes of a set. -/
def runEnd (has : Nat → Bool) : Nat → Nat → Nat
  | 0, b => b
  | f + 1, b => if has (b + 1) then runEnd has f (b + 1) else b
/-- The rows of bytes of a set, from a byte on. -/
def runs (has : Nat → Bool) : Nat → Nat → List (Nat × Nat)
  | 0, _ => []
  | f + 1, b => if has b then (b, runEnd has 256 b) :: runs has f (runEnd has 256 b + 1) else runs has f (b + 1)
def runT (p : Nat × Nat) : List UInt8 := if p.2 = p.1 then escB p.1 else if p.2 = p.1 + 1 then escB p.1 ++ escB p.2 else escB p.1 ++ 45 :: escB p.2
def runsT : List (Nat × Nat) → List UInt8
  | [] => []
  | p :: l => runT p ++ runsT l
def Q4.has (q : Q4) (b : Nat) : Bool := hasB q.a q.b q.c q.d b
def Q4.runs (q : Q4) : List (Nat × Nat) := PX.runs (hasN q.has) 256 0
def countRuns : List (Nat × Nat) → Nat
  | [] => 0
  | p :: l => (p.2 + 1 - p.1) + countRuns l
/-- The pattern of a set. -/
def Q4.text (q : Q4) : List UInt8 :=
  if countRuns q.runs = 256 then [46]
  else if countRuns q.runs = 1 then runsT q.runs
  else 91 :: (runsT q.runs ++ [93])

theorem runEnd_spec (has : Nat → Bool) (hb : ∀ b, 256 ≤ b → has b = false) : ∀ f b, b < 256 → has b = true → 256 ≤ f + b →
    b ≤ runEnd has f b ∧ runEnd has f b < 256 ∧ (∀ k, b ≤ k → k ≤ runEnd has f b → has k = true) ∧ has (runEnd has f b + 1) = false
  | 0, b, h, hh, hf => by omega
  | f + 1, b, h, hh, hf => by
    unfold runEnd
    by_cases h1 : has (b + 1) = true
    · rw [if_pos h1]
      have hlt : b + 1 < 256 := by
        rcases Nat.lt_or_ge (b + 1) 256 with h | h
        · exact h
        · rw [hb _ h] at h1; cases h1
      obtain ⟨i1, i2, i3, i4⟩ := runEnd_spec has hb f (b + 1) hlt h1 (by omega)
      refine ⟨by omega, i2, fun k hk1 hk2 => ?_, i4⟩
      by_cases hkb : k = b
      · rw [hkb]; exact hh
      · exact i3 k (by omega) hk2
    · rw [if_neg h1]
      refine ⟨Nat.le_refl _, h, fun k hk1 hk2 => ?_, by simpa using h1⟩
      rw [show k = b by omega]; exact hh
/-- Rows that stand apart and rise, from a byte on. -/
def Rising : Nat → List (Nat × Nat) → Prop
  | _, [] => True
  | b, p :: l => b ≤ p.1 ∧ p.1 ≤ p.2 ∧ p.2 < 256 ∧ Rising (p.2 + 1) l
def inRuns (l : List (Nat × Nat)) (k : Nat) : Prop := ∃ p ∈ l, p.1 ≤ k ∧ k ≤ p.2
theorem Rising.mono {l : List (Nat × Nat)} {a b : Nat} (h : Rising b l) (hab : a ≤ b) : Rising a l := by
  cases l with
  | nil => trivial
  | cons p l => exact ⟨by have := h.1; omega, h.2⟩
theorem runs_spec (has : Nat → Bool) (hb : ∀ b, 256 ≤ b → has b = false) : ∀ f b, 256 ≤ f + b → Rising b (runs has f b) ∧ ∀ k, b ≤ k → (inRuns (runs has f b) k ↔ has k = true)
  | 0, b, hf => by
    refine ⟨trivial, fun k hk => ?_⟩
    rw [hb k (by omega)]
    constructor
    · rintro ⟨p, hp, -⟩; cases hp
    · intro h; cases h
  | f + 1, b, hf => by
    unfold runs
    by_cases h1 : has b = true
    · rw [if_pos h1]
      have hlt : b < 256 := by
        rcases Nat.lt_or_ge b 256 with h | h
        · exact h
        · rw [hb _ h] at h1; cases h1
      obtain ⟨i1, i2, i3, i4⟩ := runEnd_spec has hb 256 b hlt h1 (by omega)
      obtain ⟨j1, j2⟩ := runs_spec has hb f (runEnd has 256 b + 1) (by omega)
      refine ⟨⟨Nat.le_refl _, i1, i2, j1⟩, fun k hk => ?_⟩
      by_cases hke : k ≤ runEnd has 256 b
      · constructor
        · intro _; exact i3 k hk hke
        · intro _; exact ⟨_, List.mem_cons_self .., hk, hke⟩
      · rw [← j2 k (by omega)]
        constructor
        · rintro ⟨p, hp, h2, h3⟩
          rcases List.mem_cons.1 hp with rfl | hp
          · simp only at h3; omega
          · exact ⟨p, hp, h2, h3⟩
        · rintro ⟨p, hp, h2, h3⟩
          exact ⟨p, List.mem_cons_of_mem _ hp, h2, h3⟩
    · rw [if_neg h1]
      obtain ⟨j1, j2⟩ := runs_spec has hb f (b + 1) (by omega)
      refine ⟨j1.mono (by omega), fun k hk => ?_⟩
      by_cases hkb : k = b
      · subst hkb
        constructor
        · rintro ⟨p, hp, h2, h3⟩
          exfalso
          have : ∀ (l : List (Nat × Nat)) (c : Nat), Rising c l → ∀ p ∈ l, c ≤ p.1 := by
            intro l
            induction l with
            | nil => intro c _ p hp; cases hp
            | cons q l ih =>
              intro c hr p hp
              rcases List.mem_cons.1 hp with rfl | hp
              · exact hr.1
              · have := ih _ hr.2.2.2 p hp
                have := hr.1
                have := hr.2.1
                omega
          have := this _ _ j1 p hp
          omega
        · intro h; exact absurd h h1
      · exact j2 k (by omega)

/-! bits of words -/
theorem orBit_has (w : Int) (k n : Nat) : (orBit w k).toNat.testBit n = (w.toNat.testBit n || decide (k = n)) := by
  unfold orBit
  rw [Int.toNat_natCast, Nat.testBit_or, Nat.testBit_two_pow]
theorem or_dec (x : Bool) {p q : Prop} [Decidable p] [Decidable q] (h : p ↔ q) : (x || decide p) = (x || decide q) := by
  by_cases hp : p
  · rw [decide_eq_true hp, decide_eq_true (h.1 hp)]
  · rw [decide_eq_false hp, decide_eq_false (fun hq => hp (h.2 hq))]
theorem with_has {q : Q4} {n : Nat} (hn : n < 256) {b : Nat} (hb : b < 256) : (q.with n).has b = (q.has b || decide (n = b)) := by
  unfold Q4.has hasB word Q4.with
  rcases (by omega : n < 64 ∨ (64 ≤ n ∧ n < 128) ∨ (128 ≤ n ∧ n < 192) ∨ 192 ≤ n) with h | h | h | h
  all_goals
    rcases (by omega : b < 64 ∨ (64 ≤ b ∧ b < 128) ∨ (128 ≤ b ∧ b < 192) ∨ 192 ≤ b) with h' | h' | h' | h'
  all_goals
    first
      | rw [if_pos (by omega : n < 64)]
      | rw [if_neg (by omega : ¬ n < 64), if_pos (by omega : n < 128)]
      | rw [if_neg (by omega : ¬ n < 64), if_neg (by omega : ¬ n < 128), if_pos (by omega : n < 192)]
      | rw [if_neg (by omega : ¬ n < 64), if_neg (by omega : ¬ n < 128), if_neg (by omega : ¬ n < 192)]
    first
      | simp only [if_pos (by omega : b < 64)]
      | simp only [if_neg (by omega : ¬ b < 64), if_pos (by omega : b < 128)]
      | simp only [if_neg (by omega : ¬ b < 64), if_neg (by omega : ¬ b < 128), if_pos (by omega : b < 192)]
      | simp only [if_neg (by omega : ¬ b < 64), if_neg (by omega : ¬ b < 128), if_neg (by omega : ¬ b < 192)]
    first
      | (rw [orBit_has]
         exact or_dec _ (by omega))
      | (rw [decide_eq_false (by omega : ¬ n = b), Bool.or_false])
theorem withAll_has {b : Nat} (hb : b < 256) : ∀ (k n : Nat) (q : Q4), n + k ≤ 256 → (q.withAll n k).has b = (q.has b || decide (n ≤ b ∧ b < n + k))
  | 0, n, q, h => by
    unfold Q4.withAll
    rw [decide_eq_false (by omega), Bool.or_false]
  | k + 1, n, q, h => by
    unfold Q4.withAll
    rw [withAll_has hb k (n + 1) _ (by omega), with_has (by omega) hb, Bool.or_assoc]
    congr 1
    rw [Bool.eq_iff_iff, Bool.or_eq_true, decide_eq_true_iff, decide_eq_true_iff, decide_eq_true_iff]
    omega
/-- Words of 64 bits. -/
def Q4.wide (q : Q4) : Prop := (0 ≤ q.a ∧ q.a < 18446744073709551616) ∧ (0 ≤ q.b ∧ q.b < 18446744073709551616) ∧ (0 ≤ q.c ∧ q.c < 18446744073709551616) ∧ (0 ≤ q.d ∧ q.d < 18446744073709551616)
theorem toNat_wide {x : Int} (hx : 0 ≤ x ∧ x < 18446744073709551616) : x.toNat < 2 ^ 64 := by
  rw [show (2 : Nat) ^ 64 = 18446744073709551616 from rfl]
  omega
theorem word_ext {x y : Int} (hx : 0 ≤ x ∧ x < 18446744073709551616) (hy : 0 ≤ y ∧ y < 18446744073709551616) (h : ∀ n, n < 64 → x.toNat.testBit n = y.toNat.testBit n) : x = y := by
  have : x.toNat = y.toNat := by
    apply Nat.eq_of_testBit_eq
    intro n
    by_cases hn : n < 64
    · exact h n hn
    · have e : (2 : Nat) ^ 64 ≤ 2 ^ n := Nat.pow_le_pow_right (by omega) (by omega)
      have a1 : x.toNat < 2 ^ n := Nat.lt_of_lt_of_le (toNat_wide hx) e
      have a2 : y.toNat < 2 ^ n := Nat.lt_of_lt_of_le (toNat_wide hy) e
      rw [Nat.testBit_lt_two_pow a1, Nat.testBit_lt_two_pow a2]
  omega
theorem Q4.ext_has {p q : Q4} (hp : p.wide) (hq : q.wide) (h : ∀ b, b < 256 → p.has b = q.has b) : p = q := by
  obtain ⟨a, b, c, d⟩ := p
  obtain ⟨a', b', c', d'⟩ := q
  obtain ⟨p1, p2, p3, p4⟩ := hp
  obtain ⟨q1, q2, q3, q4⟩ := hq
  simp only at p1 p2 p3 p4 q1 q2 q3 q4
  have e1 := word_ext p1 q1 (fun n hn => by
    have := h n (by omega)
    simp only [Q4.has, hasB, word] at this
    rw [if_pos (by omega), if_pos (by omega), Nat.mod_eq_of_lt hn] at this
    exact this)
  have e2 := word_ext p2 q2 (fun n hn => by
    have := h (64 + n) (by omega)
    simp only [Q4.has, hasB, word] at this
    rw [if_neg (by omega), if_pos (by omega), if_neg (by omega), if_pos (by omega), show (64 + n) % 64 = n by omega] at this
    exact this)
  have e3 := word_ext p3 q3 (fun n hn => by
    have := h (128 + n) (by omega)
    simp only [Q4.has, hasB, word] at this
    rw [if_neg (by omega), if_neg (by omega), if_pos (by omega), if_neg (by omega), if_neg (by omega), if_pos (by omega), show (128 + n) % 64 = n by omega] at this
    exact this)
  have e4 := word_ext p4 q4 (fun n hn => by
    have := h (192 + n) (by omega)
    simp only [Q4.has, hasB, word] at this
    rw [if_neg (by omega), if_neg (by omega), if_neg (by omega), if_neg (by omega), if_neg (by omega), if_neg (by omega), show (192 + n) % 64 = n by omega] at this
    exact this)
  subst e1 e2 e3 e4
  rfl
theorem orBit_wide {w : Int} {k : Nat} (hk : k < 64) (hw : 0 ≤ w ∧ w < 18446744073709551616) : 0 ≤ orBit w k ∧ orBit w k < 18446744073709551616 := by
  unfold orBit
  have e64 : (2 : Nat) ^ 64 = 18446744073709551616 := by decide
  have : w.toNat ||| 2 ^ k < 2 ^ 64 := Nat.or_lt_two_pow (by omega) (Nat.pow_lt_pow_right (by omega) hk)
  omega
theorem with_wide {q : Q4} (h : q.wide) {n : Nat} (hn : n < 256) : (q.with n).wide := by
  obtain ⟨h1, h2, h3, h4⟩ := h
  unfold Q4.with
  split
  · exact ⟨orBit_wide (by omega) h1, h2, h3, h4⟩
  split
  · exact ⟨h1, orBit_wide (by omega) h2, h3, h4⟩
  split
  · exact ⟨h1, h2, orBit_wide (by omega) h3, h4⟩
  · exact ⟨h1, h2, h3, orBit_wide (by omega) h4⟩
theorem withAll_wide : ∀ (k n : Nat) (q : Q4), q.wide → n + k ≤ 256 → (q.withAll n k).wide
  | 0, n, q, h, _ => h
  | k + 1, n, q, h, hk => withAll_wide k (n + 1) _ (with_wide h (by omega)) (by omega)
theorem none_wide : Q4.none.wide := ⟨⟨by decide, by decide⟩, ⟨by decide, by decide⟩, ⟨by decide, by decide⟩, by decide, by decide⟩
theorem all_wide : Q4.all.wide := ⟨⟨by decide, by decide⟩, ⟨by decide, by decide⟩, ⟨by decide, by decide⟩, by decide, by decide⟩
theorem not_wide {q : Q4} (h : q.wide) : q.not.wide := by unfold Q4.wide Q4.not at *; simp only; omega
theorem none_has (b : Nat) : Q4.none.has b = false := by
  unfold Q4.has hasB word Q4.none
  simp
theorem all_has {b : Nat} (hb : b < 256) : Q4.all.has b = true := by
  have : ∀ b, b < 256 → Q4.all.has b = true := by decide +kernel
  exact this b hb
theorem withAll_add (q : Q4) : ∀ (k n m : Nat), (q.withAll n k).withAll (n + k) m = q.withAll n (k + m) := by
  intro k
  induction k generalizing q with
  | zero => intro n m; simp [Q4.withAll]
  | succ k ih =>
    intro n m
    rw [show k + 1 + m = (k + m) + 1 by omega]
    show ((q.with n).withAll (n + 1) k).withAll (n + (k + 1)) m = (q.with n).withAll (n + 1) (k + m)
    rw [show n + (k + 1) = n + 1 + k by omega]
    exact ih _ _ _
def putRuns (q : Q4) : List (Nat × Nat) → Q4
  | [] => q
  | p :: l => putRuns (q.withAll p.1 (p.2 + 1 - p.1)) l
theorem runs_lt {b : Nat} : ∀ {l : List (Nat × Nat)}, Rising b l → ∀ p ∈ l, p.1 ≤ p.2 ∧ p.2 < 256 := by
  intro l
  induction l generalizing b with
  | nil => intro _ p hp; cases hp
  | cons q l ih =>
    intro hr p hp
    rcases List.mem_cons.1 hp with rfl | hp
    · exact ⟨hr.2.1, hr.2.2.1⟩
    · exact ih hr.2.2.2 p hp
open Classical in
theorem putRuns_has {c : Nat} (hc : c < 256) : ∀ (l : List (Nat × Nat)) (q : Q4), (∀ p ∈ l, p.1 ≤ p.2 ∧ p.2 < 256) → ((putRuns q l).has c = true ↔ q.has c = true ∨ inRuns l c)
  | [], q, h => by simp [putRuns, inRuns]
  | p :: l, q, h => by
    have hp := h p (List.mem_cons_self ..)
    unfold putRuns
    rw [putRuns_has hc l _ (fun p' hp' => h p' (List.mem_cons_of_mem _ hp')), withAll_has hc _ _ _ (by omega)]
    rw [Bool.or_eq_true, decide_eq_true_iff]
    unfold inRuns
    constructor
    · rintro ((h1 | h1) | ⟨p', h1, h2⟩)
      · exact .inl h1
      · exact .inr ⟨p, List.mem_cons_self .., by omega, by omega⟩
      · exact .inr ⟨p', List.mem_cons_of_mem _ h1, h2⟩
    · rintro (h1 | ⟨p', h1, h2, h3⟩)
      · exact .inl (.inl h1)
      · rcases List.mem_cons.1 h1 with rfl | h1
        · exact .inl (.inr (by omega))
        · exact .inr ⟨p', h1, h2, h3⟩
theorem putRuns_wide : ∀ (l : List (Nat × Nat)) (q : Q4), q.wide → (∀ p ∈ l, p.1 ≤ p.2 ∧ p.2 < 256) → (putRuns q l).wide
  | [], q, h, _ => h
  | p :: l, q, h, hl => by
    have hp := hl p (List.mem_cons_self ..)
    exact putRuns_wide l _ (withAll_wide _ _ _ h (by omega)) (fun p' hp' => hl p' (List.mem_cons_of_mem _ hp'))
theorem hasN_big (has : Nat → Bool) (b : Nat) (h : 256 ≤ b) : hasN has b = false := by
  unfold hasN; rw [decide_eq_false (by omega)]; rfl
theorem qruns_spec (q : Q4) : Rising 0 q.runs ∧ ∀ k, k < 256 → (inRuns q.runs k ↔ q.has k = true) := by
  obtain ⟨h1, h2⟩ := runs_spec (hasN q.has) (hasN_big _) 256 0 (by omega)
  refine ⟨h1, fun k hk => ?_⟩
  unfold Q4.runs
  rw [h2 k (by omega)]
  unfold hasN
  rw [decide_eq_true hk, Bool.true_and]
/-- The bytes that are printed are those of the set. -/
theorem put_qruns {q : Q4} (h : q.wide) : putRuns Q4.none q.runs = q := by
  obtain ⟨h1, h2⟩ := qruns_spec q
  apply Q4.ext_has (putRuns_wide _ _ none_wide (runs_lt h1)) h
  intro b hb
  rw [Bool.eq_iff_iff, putRuns_has hb _ _ (runs_lt h1), none_has, h2 b hb]
  simp

/-! a class is read -/
theorem classOne_plain (q : Q4) {a : Nat} (ha : a < 256) {r : List UInt8} (hr : starts 45 r = false) : classOne q (escB a ++ r) = some (q.withAll a 1, r) := by
  unfold classOne
  rw [one_esc (.inl rfl) ha]
  simp only [hr, if_false, Bool.false_eq_true]
theorem classOne_row (q : Q4) {a e : Nat} (hae : a ≤ e) (he : e < 256) (r : List UInt8) : classOne q (escB a ++ 45 :: (escB e ++ r)) = some (q.withAll a (e + 1 - a), r) := by
  unfold classOne
  rw [one_esc (.inl rfl) (by omega)]
  simp only [starts, beq_self_eq_true, if_true, List.tail_cons]
  rw [one_esc (.inl rfl) he]
  simp only [if_pos hae]
def behind (l : List (Nat × Nat)) (r : List UInt8) : List UInt8 := runsT l ++ 93 :: r
theorem runT_head (p : Nat × Nat) : ∃ t, runT p = escB p.1 ++ t := by
  unfold runT
  split
  · exact ⟨[], by simp⟩
  split
  · exact ⟨_, rfl⟩
  · exact ⟨_, rfl⟩
theorem behind_starts (l : List (Nat × Nat)) (r : List UInt8) {c : UInt8} (hc : c ∈ meaningL) (h92 : c ≠ 92) (h93 : c ≠ 93) : starts c (behind l r) = false := by
  cases l with
  | nil =>
    simp only [behind, runsT, List.nil_append, starts, beq_eq_false_iff_ne]
    exact fun h => h93 h.symm
  | cons p l =>
    obtain ⟨t, ht⟩ := runT_head p
    simp only [behind, runsT, ht, List.append_assoc]
    exact esc_starts _ _ hc h92
theorem behind_93 (p : Nat × Nat) (l : List (Nat × Nat)) (r : List UInt8) : starts 93 (behind (p :: l) r) = false := by
  obtain ⟨t, ht⟩ := runT_head p
  simp only [behind, runsT, ht, List.append_assoc]
  exact esc_starts _ _ (by decide) (by decide)
theorem esc_pos (b : Nat) : 1 ≤ (escB b).length := by
  obtain ⟨c, r, h, -⟩ := esc_head b
  rw [h]; simp
theorem classLoop_runs : ∀ (l : List (Nat × Nat)) (p : Nat × Nat) (f : Nat) (q : Q4) (r : List UInt8), (∀ p' ∈ p :: l, p'.1 ≤ p'.2 ∧ p'.2 < 256) → (runsT (p :: l)).length ≤ f →
    classLoop f q (behind (p :: l) r) = some (putRuns q (p :: l), r) := by
  intro l
  induction l with
  | nil =>
    intro p f q r h hf
    obtain ⟨h1, h2⟩ := h p (List.mem_cons_self ..)
    simp only [runsT, List.append_nil] at hf
    simp only [behind, runsT, List.append_nil, putRuns]
    unfold runT at hf ⊢
    split
    · rename_i he
      rw [if_pos he] at hf
      have := esc_pos p.1
      obtain ⟨f, rfl⟩ : ∃ g, f = g + 1 := ⟨f - 1, by omega⟩
      simp only [classLoop]
      rw [classOne_plain _ (by omega) (by rfl)]
      simp only [starts, beq_self_eq_true, if_true, List.tail_cons]
      rw [show p.2 + 1 - p.1 = 1 by omega]
    split
    · rename_i hne he
      rw [if_neg hne, if_pos he] at hf
      have := esc_pos p.1
      have := esc_pos p.2
      simp only [List.length_append] at hf
      obtain ⟨f, rfl⟩ : ∃ g, f = g + 2 := ⟨f - 2, by omega⟩
      simp only [List.append_assoc, classLoop]
      rw [classOne_plain _ (by omega) (esc_starts _ _ (by decide) (by decide))]
      simp only [esc_starts p.2 (93 :: r) (c := 93) (by decide) (by decide), if_false, Bool.false_eq_true]
      rw [classOne_plain _ (by omega) (by rfl)]
      simp only [starts, beq_self_eq_true, if_true, List.tail_cons]
      rw [he, withAll_add, show p.1 + 1 + 1 - p.1 = 1 + 1 by omega]
    · rename_i hne he
      rw [if_neg hne, if_neg he] at hf
      simp only [List.length_append, List.length_cons] at hf
      obtain ⟨f, rfl⟩ : ∃ g, f = g + 1 := ⟨f - 1, by omega⟩
      simp only [List.append_assoc, List.cons_append, classLoop]
      rw [classOne_row _ h1 h2]
      simp only [starts, beq_self_eq_true, if_true, List.tail_cons]
  | cons p2 l ih =>
    intro p f q r h hf
    obtain ⟨h1, h2⟩ := h p (List.mem_cons_self ..)
    have hb45 := behind_starts (p2 :: l) r (c := 45) (by decide) (by decide) (by decide)
    have hb93 := behind_93 p2 l r
    have e : behind (p :: p2 :: l) r = runT p ++ behind (p2 :: l) r := by simp only [behind, runsT, List.append_assoc]
    rw [e]
    rw [show runsT (p :: p2 :: l) = runT p ++ runsT (p2 :: l) from rfl, List.length_append] at hf
    rw [show putRuns q (p :: p2 :: l) = putRuns (q.withAll p.1 (p.2 + 1 - p.1)) (p2 :: l) from rfl]
    have hl : ∀ p' ∈ p2 :: l, p'.1 ≤ p'.2 ∧ p'.2 < 256 := fun p' hp' => h p' (List.mem_cons_of_mem _ hp')
    unfold runT at hf ⊢
    split
    · rename_i he
      rw [if_pos he] at hf
      have := esc_pos p.1
      obtain ⟨f, rfl⟩ : ∃ g, f = g + 1 := ⟨f - 1, by omega⟩
      rw [classLoop]
      rw [classOne_plain _ (by omega) hb45]
      simp only [hb93, if_false, Bool.false_eq_true]
      rw [show p.2 + 1 - p.1 = 1 by omega]
      exact ih p2 f _ r hl (by omega)
    split
    · rename_i hne he
      rw [if_neg hne, if_pos he] at hf
      have := esc_pos p.1
      have := esc_pos p.2
      simp only [List.length_append] at hf
      obtain ⟨f, rfl⟩ : ∃ g, f = g + 2 := ⟨f - 2, by omega⟩
      simp only [List.append_assoc]
      rw [classLoop, classOne_plain _ (by omega) (esc_starts _ _ (by decide) (by decide))]
      simp only [esc_starts p.2 (behind (p2 :: l) r) (c := 93) (by decide) (by decide), if_false, Bool.false_eq_true]
      rw [classLoop, classOne_plain _ (by omega) hb45]
      simp only [hb93, if_false, Bool.false_eq_true]
      rw [he, withAll_add, show p.1 + 1 + 1 - p.1 = 1 + 1 by omega]
      exact ih p2 f _ r hl (by omega)
    · rename_i hne he
      rw [if_neg hne, if_neg he] at hf
      simp only [List.length_append, List.length_cons] at hf
      obtain ⟨f, rfl⟩ : ∃ g, f = g + 1 := ⟨f - 1, by omega⟩
      simp only [List.append_assoc, List.cons_append]
      rw [classLoop, classOne_row _ h1 h2]
      simp only [hb93, if_false, Bool.false_eq_true]
      exact ih p2 f _ r hl (by omega)
theorem none_of_runs {q : Q4} (h : q.wide) (hn : q.isNone = false) : q.runs ≠ [] := by
  intro e
  have := put_qruns h
  rw [e] at this
  simp only [putRuns] at this
  rw [← this] at hn
  simp [Q4.isNone, Q4.none] at hn
theorem class_text {q : Q4} (h : q.wide) (hn : q.isNone = false) (f : Nat) (r : List UInt8) (hf : (runsT q.runs).length ≤ f) : classR f (runsT q.runs ++ 93 :: r) = some (q, r) := by
  obtain ⟨h1, h2⟩ := qruns_spec q
  have hp := put_qruns h
  have hne := none_of_runs h hn
  have hb : starts 94 (behind q.runs r) = false := behind_starts _ _ (by decide) (by decide) (by decide)
  obtain ⟨p, l, hl⟩ : ∃ p l, q.runs = p :: l := by
    cases hq : q.runs with
    | nil => exact absurd hq hne
    | cons p l => exact ⟨p, l, rfl⟩
  unfold classR
  rw [show runsT q.runs ++ 93 :: r = behind q.runs r from rfl, hb]
  simp only [if_false, Bool.false_eq_true]
  rw [hl] at hf h1 hp ⊢
  rw [classLoop_runs l p f _ r (runs_lt h1) hf, hp]
  simp only [hn, if_false, Bool.false_eq_true]
theorem countRuns_one {b : Nat} : ∀ {l : List (Nat × Nat)}, Rising b l → countRuns l = 1 → ∃ a, l = [(a, a)] ∧ a < 256
  | [], _, h => by simp [countRuns] at h
  | p :: l, hr, h => by
    obtain ⟨h1, h2, h3, h4⟩ := hr
    simp only [countRuns] at h
    cases l with
    | nil =>
      simp only [countRuns] at h
      obtain ⟨p1, p2⟩ := p
      simp only at h h2 h3
      exact ⟨p1, by rw [show p2 = p1 by omega], by omega⟩
    | cons p' l =>
      simp only [countRuns] at h
      have := h4.2.1
      omega
theorem countRuns_le : ∀ {l : List (Nat × Nat)} {b : Nat}, Rising b l → countRuns l + b ≤ 256 ∨ l = []
  | [], _, _ => .inr rfl
  | p :: l, b, hr => by
    obtain ⟨h1, h2, h3, h4⟩ := hr
    simp only [countRuns]
    rcases countRuns_le h4 with h | rfl
    · left; omega
    · left; simp only [countRuns]; omega
theorem countRuns_all : ∀ {l : List (Nat × Nat)} {b : Nat}, Rising b l → countRuns l + b = 256 → ∀ k, b ≤ k → k < 256 → inRuns l k
  | [], b, _, h, k, h1, h2 => by simp only [countRuns] at h; omega
  | p :: l, b, hr, h, k, h1, h2 => by
    obtain ⟨g1, g2, g3, g4⟩ := hr
    simp only [countRuns] at h
    by_cases hk : k ≤ p.2
    · rcases countRuns_le g4 with h' | rfl
      · exact ⟨p, List.mem_cons_self .., by omega, hk⟩
      · simp only [countRuns] at h
        exact ⟨p, List.mem_cons_self .., by omega, hk⟩
    · have : countRuns l + (p.2 + 1) = 256 := by
        rcases countRuns_le g4 with h' | rfl
        · omega
        · simp only [countRuns] at h ⊢; omega
      obtain ⟨p', h3, h4⟩ := countRuns_all g4 this k (by omega) h2
      exact ⟨p', List.mem_cons_of_mem _ h3, h4⟩
/-- A set is read from its pattern. -/
theorem atom_set {q : Q4} (h : q.wide) (hn : q.isNone = false) (f : Nat) (r : List UInt8) : atomR (f + 1) (q.text ++ r) = some (.set q, r) := by
  obtain ⟨h1, h2⟩ := qruns_spec q
  have hp := put_qruns h
  unfold Q4.text
  split
  · rename_i h256
    have e : q = Q4.all := by
      apply Q4.ext_has h all_wide
      intro b hb
      rw [all_has hb, ← h2 b hb]
      exact countRuns_all h1 h256 b (by omega) hb
    rw [e]
    simp only [List.cons_append, List.nil_append, atomR, starts, beq_self_eq_true, if_true, List.tail_cons]
  split
  · rename_i hc
    obtain ⟨a, ha, hlt⟩ := countRuns_one h1 hc
    rw [ha] at hp ⊢
    simp only [putRuns] at hp
    simp only [runsT, runT, if_true, List.append_nil]
    unfold atomR
    rw [esc_starts _ _ (by decide) (by decide), esc_starts _ _ (by decide) (by decide), esc_starts _ _ (by decide) (by decide), one_esc (.inr rfl) hlt]
    simp only [if_false, Bool.false_eq_true]
    rw [show a + 1 - a = 1 by omega] at hp
    simp only [Q4.withAll] at hp
    rw [hp]
  · simp only [List.cons_append, List.append_assoc, List.nil_append, atomR, starts]
    rw [if_neg (by decide), if_pos (by decide), List.tail_cons, class_text h hn _ _ (by simp; omega)]
theorem text_head (q : Q4) (hn : q.runs ≠ []) (r : List UInt8) : ∃ c t, q.text ++ r = c :: t ∧ (c = 92 ∨ c = 46 ∨ c = 91 ∨ c ∉ meaningL) := by
  unfold Q4.text
  split
  · exact ⟨_, _, rfl, by simp⟩
  split
  · cases hq : q.runs with
    | nil => exact absurd hq hn
    | cons p l =>
      obtain ⟨t, ht⟩ := runT_head p
      obtain ⟨c, r', he, hc⟩ := esc_head p.1
      exact ⟨c, r' ++ (t ++ (runsT l ++ r)), by simp [runsT, ht, he], by rcases hc with h | h <;> simp [h]⟩
  · exact ⟨_, _, rfl, by simp⟩
end Go.Proofs.YtjhclopdcbnmkaaGreatDoor.PX
