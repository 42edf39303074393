/- Plain laws of the guard, no program in sight: languages that can be reckoned; rules, what they decide, what is hidden. -/
import Derived.Test.YtjhclopdcbnmkaaGreatDoorB1
set_option linter.unusedSimpArgs false
set_option linter.unusedVariables false
namespace Go.Proofs.YtjhclopdcbnmkaaGreatDoor.PX

/-! languages that can be reckoned: what is left behind a text of an expression -/
def remTimes (f : List UInt8 → List (List UInt8)) : Nat → List (List UInt8) → List (List UInt8)
  | 0, l => l
  | n + 1, l => remTimes f n (l.flatMap f)
def remMore (f : List UInt8 → List (List UInt8)) : Nat → List (List UInt8) → List (List UInt8)
  | 0, l => l
  | n + 1, l => l ++ remMore f n (l.flatMap f)
mutual
/-- What may be left of s behind a text of the language. -/
def Rx.rem : Rx → List UInt8 → List (List UInt8)
  | .node kind mn mx s0 s1 s2 s3 l, s =>
    if kind = 0 then (match s with | [] => [] | b :: r => if hasB s0 s1 s2 s3 b.toNat then [r] else [])
    else if kind = 1 then remSeq l s
    else if kind = 2 then remAlt l s
    else remRep l mn mx s
def remSeq : List Rx → List UInt8 → List (List UInt8)
  | [], s => [s]
  | x :: xs, s => (x.rem s).flatMap (remSeq xs)
def remAlt : List Rx → List UInt8 → List (List UInt8)
  | [], _ => []
  | x :: xs, s => x.rem s ++ remAlt xs s
def remRep : List Rx → Int → Int → List UInt8 → List (List UInt8)
  | [], _, _, _ => []
  | x :: _, mn, mx, s => if mx = -1 ∨ mn ≤ mx then remMore x.rem (if mx = -1 then s.length else (mx - mn).toNat) (remTimes x.rem mn.toNat [s]) else []
end

/-- f tells what is left behind texts of L. -/
def Rems (L : List UInt8 → Prop) (f : List UInt8 → List (List UInt8)) : Prop := ∀ s r, r ∈ f s ↔ ∃ a, s = a ++ r ∧ L a
theorem remTimes_iff {L : List UInt8 → Prop} {f : List UInt8 → List (List UInt8)} (hf : Rems L f) : ∀ (n : Nat) (l : List (List UInt8)) (r : List UInt8), r ∈ remTimes f n l ↔ ∃ s ∈ l, ∃ a, s = a ++ r ∧ Pow L n a
  | 0, l, r => by
    simp only [remTimes, Pow]
    constructor
    · intro h; exact ⟨r, h, [], rfl, rfl⟩
    · rintro ⟨s, hs, a, rfl, rfl⟩; exact hs
  | n + 1, l, r => by
    simp only [remTimes, Pow]
    rw [remTimes_iff hf n]
    constructor
    · rintro ⟨t, ht, b, rfl, hb⟩
      obtain ⟨s, hs, hts⟩ := List.mem_flatMap.1 ht
      obtain ⟨a, rfl, ha⟩ := (hf s _).1 hts
      exact ⟨_, hs, a ++ b, by simp, a, b, rfl, ha, hb⟩
    · rintro ⟨s, hs, c, rfl, a, b, rfl, ha, hb⟩
      exact ⟨b ++ r, List.mem_flatMap.2 ⟨_, hs, (hf _ _).2 ⟨a, by simp, ha⟩⟩, b, rfl, hb⟩
theorem remMore_iff {L : List UInt8 → Prop} {f : List UInt8 → List (List UInt8)} (hf : Rems L f) : ∀ (n : Nat) (l : List (List UInt8)) (r : List UInt8), r ∈ remMore f n l ↔ ∃ k, k ≤ n ∧ ∃ s ∈ l, ∃ a, s = a ++ r ∧ Pow L k a
  | 0, l, r => by
    simp only [remMore]
    constructor
    · intro h; exact ⟨0, Nat.le_refl _, r, h, [], rfl, rfl⟩
    · rintro ⟨k, hk, s, hs, a, rfl, ha⟩
      obtain rfl : k = 0 := by omega
      simp only [Pow] at ha
      subst ha; exact hs
  | n + 1, l, r => by
    simp only [remMore, List.mem_append]
    rw [remMore_iff hf n]
    constructor
    · rintro (h | ⟨k, hk, t, ht, b, rfl, hb⟩)
      · exact ⟨0, by omega, r, h, [], rfl, rfl⟩
      · obtain ⟨s, hs, hts⟩ := List.mem_flatMap.1 ht
        obtain ⟨a, rfl, ha⟩ := (hf s _).1 hts
        exact ⟨k + 1, by omega, _, hs, a ++ b, by simp, a, b, rfl, ha, hb⟩
    · rintro ⟨k, hk, s, hs, c, rfl, hc⟩
      cases k with
      | zero => simp only [Pow] at hc; subst hc; exact .inl hs
      | succ k =>
        obtain ⟨a, b, rfl, ha, hb⟩ := hc
        exact .inr ⟨k, by omega, b ++ r, List.mem_flatMap.2 ⟨_, hs, (hf _ _).2 ⟨a, by simp, ha⟩⟩, b, rfl, hb⟩
/-- More rounds than bytes: one is of no byte. -/
theorem pow_less {L : List UInt8 → Prop} : ∀ (k : Nat) (a : List UInt8), a.length ≤ k → Pow L (k + 1) a → Pow L k a
  | 0, a, h, hp => by
    have : a = [] := List.eq_nil_of_length_eq_zero (by omega)
    subst this; rfl
  | k + 1, a, h, ⟨u, v, e, hu, hv⟩ => by
    subst e
    cases u with
    | nil => exact hv
    | cons c u =>
      refine ⟨c :: u, v, rfl, hu, pow_less k v ?_ hv⟩
      simp at h; omega
theorem pow_down {L : List UInt8 → Prop} (a : List UInt8) (m : Nat) (hm : a.length ≤ m) : ∀ d, Pow L (m + d) a → Pow L m a
  | 0, h => h
  | d + 1, h => pow_down a m hm d (pow_less (m + d) a (by omega) h)
theorem pow_split2 {L : List UInt8 → Prop} (m n : Nat) (a : List UInt8) : Pow L (m + n) a ↔ ∃ u v, a = u ++ v ∧ Pow L m u ∧ Pow L n v := by
  induction m generalizing a with
  | zero => simp only [Nat.zero_add, Pow]; constructor; intro h; exact ⟨[], a, rfl, rfl, h⟩; rintro ⟨u, v, rfl, rfl, h⟩; exact h
  | succ m ih =>
    rw [show m + 1 + n = (m + n) + 1 by omega]
    simp only [Pow, ih]
    constructor
    · rintro ⟨x, y, rfl, hx, u, v, rfl, hu, hv⟩; exact ⟨x ++ u, v, by simp, ⟨x, u, rfl, hx, hu⟩, hv⟩
    · rintro ⟨w, v, rfl, ⟨x, u, rfl, hx, hu⟩, hv⟩; exact ⟨x, u ++ v, by simp, hx, u, v, rfl, hu, hv⟩

mutual
theorem Rx.rem_iff : ∀ x : Rx, x.formB = true → Rems x.lang x.rem
  | .node kind mn mx s0 s1 s2 s3 l, hx => by
    intro s r
    rw [formB_iff] at hx
    obtain ⟨hsh, hl⟩ := hx
    simp only [Rx.rem, Rx.lang]
    by_cases h0 : kind = 0
    · rw [if_pos h0]
      simp only [h0, if_true]
      constructor
      · intro h
        cases s with
        | nil => simp at h
        | cons b t =>
          simp only at h
          by_cases hb : hasB s0 s1 s2 s3 b.toNat = true
          · rw [if_pos hb] at h
            obtain rfl := List.mem_singleton.1 h
            exact ⟨[b], rfl, b, rfl, hb⟩
          · rw [if_neg hb] at h; cases h
      · rintro ⟨a, rfl, b, rfl, hb⟩
        simp [hb]
    · rw [if_neg h0]
      simp only [h0, if_false]
      by_cases h1 : kind = 1
      · simp only [h1, if_true]; exact remSeq_iff l hl s r
      · simp only [h1, if_false]
        by_cases h2 : kind = 2
        · simp only [h2, if_true]; exact remAlt_iff l hl s r
        · simp only [h2, if_false]
          have h3 : l.length = 1 ∧ 0 ≤ mn ∧ (mx = -1 ∨ mn ≤ mx) := by
            unfold Shape at hsh; omega
          exact remRep_iff l hl mn mx h3.1 h3.2.1 h3.2.2 s r
theorem remSeq_iff : ∀ l : List Rx, formAll l = true → Rems (langSeq l) (remSeq l)
  | [], _ => by
    intro s r
    simp only [remSeq, langSeq, List.mem_singleton]
    constructor
    · rintro rfl; exact ⟨[], rfl, rfl⟩
    · rintro ⟨a, rfl, rfl⟩; rfl
  | x :: xs, h => by
    intro s r
    simp only [formAll, Bool.and_eq_true] at h
    simp only [remSeq, langSeq, List.mem_flatMap]
    constructor
    · rintro ⟨t, ht, hr⟩
      obtain ⟨a, rfl, ha⟩ := (Rx.rem_iff x h.1 s t).1 ht
      obtain ⟨b, rfl, hb⟩ := (remSeq_iff xs h.2 t r).1 hr
      exact ⟨a ++ b, by simp, a, b, rfl, ha, hb⟩
    · rintro ⟨c, rfl, a, b, rfl, ha, hb⟩
      exact ⟨b ++ r, (Rx.rem_iff x h.1 _ _).2 ⟨a, by simp, ha⟩, (remSeq_iff xs h.2 _ _).2 ⟨b, rfl, hb⟩⟩
theorem remAlt_iff : ∀ l : List Rx, formAll l = true → Rems (langAlt l) (remAlt l)
  | [], _ => by
    intro s r
    simp [remAlt, langAlt]
  | x :: xs, h => by
    intro s r
    simp only [formAll, Bool.and_eq_true] at h
    simp only [remAlt, langAlt, List.mem_append]
    rw [Rx.rem_iff x h.1 s r, remAlt_iff xs h.2 s r]
    constructor
    · rintro (⟨a, e, ha⟩ | ⟨a, e, ha⟩)
      · exact ⟨a, e, .inl ha⟩
      · exact ⟨a, e, .inr ha⟩
    · rintro ⟨a, e, ha | ha⟩
      · exact .inl ⟨a, e, ha⟩
      · exact .inr ⟨a, e, ha⟩
theorem remRep_iff : ∀ l : List Rx, formAll l = true → ∀ mn mx : Int, l.length = 1 → 0 ≤ mn → (mx = -1 ∨ mn ≤ mx) → Rems (fun s => ∃ k : Nat, mn ≤ k ∧ (mx = -1 ∨ (k : Int) ≤ mx) ∧ langRep l k s) (remRep l mn mx)
  | [], _, _, _, h1, _, _ => by simp at h1
  | x :: xs, h, mn, mx, h1, h0, hm => by
    intro s r
    simp only [formAll, Bool.and_eq_true] at h
    have hx := Rx.rem_iff x h.1
    simp only [remRep]
    rw [if_pos hm, remMore_iff hx]
    simp only [langRep]
    constructor
    · rintro ⟨k, hk, t, ht, b, rfl, hb⟩
      obtain ⟨s', hs', a, e, ha⟩ := (remTimes_iff hx _ _ _).1 ht
      obtain rfl := List.mem_singleton.1 hs'
      refine ⟨a ++ b, by rw [e]; simp, mn.toNat + k, by omega, ?_, (pow_split2 _ _ _).2 ⟨a, b, rfl, ha, hb⟩⟩
      rcases hm with hm | hm
      · exact .inl hm
      · by_cases hmx : mx = -1
        · exact .inl hmx
        · rw [if_neg hmx] at hk
          right; omega
    · rintro ⟨c, rfl, k, hk1, hk2, hp⟩
      have key : ∃ j, j ≤ (if mx = -1 then (c ++ r).length else (mx - mn).toNat) ∧ Pow x.lang (mn.toNat + j) c := by
        by_cases hmx : mx = -1
        · rw [if_pos hmx]
          by_cases hkc : k ≤ mn.toNat + (c ++ r).length
          · exact ⟨k - mn.toNat, by omega, by rw [show mn.toNat + (k - mn.toNat) = k by omega]; exact hp⟩
          · refine ⟨(c ++ r).length, Nat.le_refl _, pow_down c _ (by simp; omega) (k - (mn.toNat + (c ++ r).length)) ?_⟩
            rw [show mn.toNat + (c ++ r).length + (k - (mn.toNat + (c ++ r).length)) = k by omega]; exact hp
        · rw [if_neg hmx]
          exact ⟨k - mn.toNat, by omega, by rw [show mn.toNat + (k - mn.toNat) = k by omega]; exact hp⟩
      obtain ⟨j, hj, hpj⟩ := key
      obtain ⟨u, v, rfl, hu, hv⟩ := (pow_split2 _ _ _).1 hpj
      exact ⟨j, hj, v ++ r, (remTimes_iff hx _ _ _).2 ⟨_, List.mem_singleton.2 rfl, u, by simp, hu⟩, v, rfl, hv⟩
end
/-- Is a text in the language? As it can be reckoned. -/
def Rx.isB (x : Rx) (s : List UInt8) : Bool := (x.rem s).any (·.isEmpty)
theorem Rx.isB_iff {x : Rx} (hx : x.formB = true) (s : List UInt8) : x.isB s = true ↔ x.lang s := by
  unfold Rx.isB
  rw [List.any_eq_true]
  constructor
  · rintro ⟨r, hr, he⟩
    have : r = [] := by cases r with | nil => rfl | cons _ _ => cases he
    subst this
    obtain ⟨a, rfl, ha⟩ := (x.rem_iff hx s []).1 hr
    simpa using ha
  · intro h
    exact ⟨[], (x.rem_iff hx s []).2 ⟨s, by simp, h⟩, rfl⟩
end Go.Proofs.YtjhclopdcbnmkaaGreatDoor.PX
