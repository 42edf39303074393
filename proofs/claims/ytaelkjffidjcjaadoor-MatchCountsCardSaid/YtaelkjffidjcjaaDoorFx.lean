/- Plain facts on the expression of a(b|c)*, for the calls whose answers are fixed. -/
import Derived.Test.YtaelkjffidjcjaaDoorPx
set_option linter.unusedSimpArgs false
set_option linter.unusedVariables false
namespace Go.Proofs.YtaelkjffidjcjaaDoor.PX

def xf : Rx := .node 1 0 0 0 0 0 0 [.set (Q4.none.with 97), .rep 0 (-1) (.node 2 0 0 0 0 0 0 [.set (Q4.none.with 98), .set (Q4.none.with 99)])]
theorem parse_xf : parseR [97, 40, 98, 124, 99, 41, 42] = .inl xf := by rfl
theorem parse_open : parseR [40] = .inr 50 := by rfl

/-- The texts of a(b|c)*. -/
def textF : List UInt8 → Bool
  | 97 :: t => t.all fun c => c == 98 || c == 99
  | _ => false

theorem has_one (n : Nat) (hn : n = 97 ∨ n = 98 ∨ n = 99) (b : UInt8) : hasB (Q4.none.with n).a (Q4.none.with n).b (Q4.none.with n).c (Q4.none.with n).d b.toNat = true ↔ b.toNat = n := by
  have key : ∀ k, k < 256 → ∀ n, n = 97 ∨ n = 98 ∨ n = 99 → (hasB (Q4.none.with n).a (Q4.none.with n).b (Q4.none.with n).c (Q4.none.with n).d k = decide (k = n)) := by
    intro k hk n hn
    have h97 : ∀ k, k < 256 → (hasB (Q4.none.with 97).a (Q4.none.with 97).b (Q4.none.with 97).c (Q4.none.with 97).d k = decide (k = 97)) := by decide +kernel
    have h98 : ∀ k, k < 256 → (hasB (Q4.none.with 98).a (Q4.none.with 98).b (Q4.none.with 98).c (Q4.none.with 98).d k = decide (k = 98)) := by decide +kernel
    have h99 : ∀ k, k < 256 → (hasB (Q4.none.with 99).a (Q4.none.with 99).b (Q4.none.with 99).c (Q4.none.with 99).d k = decide (k = 99)) := by decide +kernel
    rcases hn with rfl | rfl | rfl
    · exact h97 k hk
    · exact h98 k hk
    · exact h99 k hk
  rw [key b.toNat (UInt8.toNat_lt _) n hn]
  simp
theorem pow_bc (L : List UInt8 → Prop) (hL : ∀ t, L t ↔ t = [98] ∨ t = [99]) : ∀ (k : Nat) (s : List UInt8), Pow L k s ↔ s.length = k ∧ (s.all fun c => c == 98 || c == 99) = true
  | 0, s => by
    simp only [Pow]
    constructor
    · rintro rfl; exact ⟨rfl, rfl⟩
    · rintro ⟨h, -⟩; exact List.eq_nil_of_length_eq_zero h
  | k + 1, s => by
    simp only [Pow, hL]
    constructor
    · rintro ⟨a, b, rfl, ha, hb⟩
      obtain ⟨h1, h2⟩ := (pow_bc L hL k b).1 hb
      rcases ha with rfl | rfl
      · exact ⟨by simp [h1], by simpa using h2⟩
      · exact ⟨by simp [h1], by simpa using h2⟩
    · rintro ⟨h1, h2⟩
      cases s with
      | nil => simp at h1
      | cons c t =>
        simp only [List.all_cons, Bool.and_eq_true, Bool.or_eq_true, beq_iff_eq] at h2
        refine ⟨[c], t, rfl, ?_, (pow_bc L hL k t).2 ⟨by simpa using h1, h2.2⟩⟩
        rcases h2.1 with rfl | rfl
        · exact .inl rfl
        · exact .inr rfl
theorem toNat_eq {b : UInt8} {n : Nat} (h : b.toNat = n) : b = UInt8.ofNat n := by rw [← h]; simp
theorem set_lang (n : Nat) (hn : n = 97 ∨ n = 98 ∨ n = 99) (s : List UInt8) : (Rx.set (Q4.none.with n)).lang s ↔ s = [UInt8.ofNat n] := by
  simp only [Rx.set, Rx.lang, if_true]
  constructor
  · rintro ⟨b, rfl, h⟩
    rw [has_one n hn] at h
    rw [toNat_eq h]
  · rintro rfl
    refine ⟨_, rfl, ?_⟩
    rw [has_one n hn]
    rcases hn with rfl | rfl | rfl <;> rfl
theorem xf_lang (s : List UInt8) : xf.lang s ↔ textF s = true := by
  have h1 : ∀ t, (Rx.node 2 0 0 0 0 0 0 [.set (Q4.none.with 98), .set (Q4.none.with 99)]).lang t ↔ t = [98] ∨ t = [99] := by
    intro t
    rw [Rx.lang]
    simp only [langAlt, set_lang 98 (by omega), set_lang 99 (by omega)]
    simp
  have h2 : ∀ t, (Rx.rep 0 (-1) (.node 2 0 0 0 0 0 0 [.set (Q4.none.with 98), .set (Q4.none.with 99)])).lang t ↔ (t.all fun c => c == 98 || c == 99) = true := by
    intro t
    rw [Rx.rep, Rx.lang]
    simp only [langRep, pow_bc _ h1]
    constructor
    · simp
    · intro h
      simp only [show ¬ ((3 : Int) = 0) by decide, show ¬ ((3 : Int) = 1) by decide, show ¬ ((3 : Int) = 2) by decide, if_false]
      exact ⟨t.length, by omega, .inl trivial, rfl, h⟩
  rw [xf, Rx.lang]
  simp only [langSeq, set_lang 97 (by omega), h2, show ¬ ((1 : Int) = 0) by decide, if_false, if_true]
  constructor
  · rintro ⟨a, b, rfl, rfl, a', b', rfl, h, rfl⟩
    simpa [textF] using h
  · intro h
    cases s with
    | nil => cases h
    | cons c t =>
      by_cases hc : c = 97
      · subst hc
        exact ⟨[97], t, rfl, rfl, t, [], by simp, by simpa [textF] using h, rfl⟩
      · exact absurd h (by simp [textF, hc])

theorem xf_is : xf.lang [97, 98, 99, 98] := (xf_lang _).2 rfl
theorem xf_no : ¬ xf.lang [97, 98, 32, 97] := fun h => absurd ((xf_lang _).1 h) (by decide)
theorem xf_nothing : ¬ xf.lang [] := fun h => absurd ((xf_lang _).1 h) (by decide)
theorem xf_hit : IsHit xf.lang [120, 97, 98] 0 1 3 := by
  refine ⟨by omega, by omega, by decide, (xf_lang _).2 rfl, fun k h1 h2 => by simp at h2; omega, fun c _ h1 k h2 h3 h4 => ?_⟩
  obtain rfl : c = 0 := by omega
  simp only [List.length_cons, List.length_nil] at h3
  have := (xf_lang _).1 h4
  have hk : k = 1 ∨ k = 2 ∨ k = 3 := by omega
  rcases hk with rfl | rfl | rfl <;> exact absurd this (by decide)
theorem xf_hits : HitsFrom xf.lang [97, 98, 32, 97] 0 [(0, 2), (3, 4)] := by
  refine .cons ⟨by omega, by omega, by decide, (xf_lang _).2 rfl, fun k h1 h2 h4 => ?_, fun c _ h1 => by omega⟩ (.cons ⟨by omega, by omega, by decide, (xf_lang _).2 rfl, fun k h1 h2 => by simp at h2; omega, fun c h0 h1 k h2 h3 h4 => ?_⟩ (.nil ?_))
  · simp only [List.length_cons, List.length_nil] at h2
    have := (xf_lang _).1 h4
    have hk : k = 3 ∨ k = 4 := by omega
    rcases hk with rfl | rfl <;> exact absurd this (by decide)
  · obtain rfl : c = 2 := by omega
    simp only [List.length_cons, List.length_nil] at h3
    have := (xf_lang _).1 h4
    have hk : k = 3 ∨ k = 4 := by omega
    rcases hk with rfl | rfl <;> exact absurd this (by decide)
  · intro a b h1 h2 h3
    simp only [List.length_cons, List.length_nil] at h3
    omega
end Go.Proofs.YtaelkjffidjcjaaDoor.PX
