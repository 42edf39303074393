/- The words of a machine's states are words; a machine in memory. -/
import Derived.Test.YtaelkjffidjcjaaDoorStep
import Derived.Test.YtaelkjffidjcjaaDoorCheck
set_option linter.unusedSimpArgs false
set_option linter.unusedVariables false
namespace Go.Proofs.YtaelkjffidjcjaaDoor
open Go.RowKit PX

mutual
def Ok64 : Rx → Prop
  | .node _ _ _ s0 s1 s2 s3 l => ((0 ≤ s0 ∧ s0 < 18446744073709551616) ∧ (0 ≤ s1 ∧ s1 < 18446744073709551616) ∧ (0 ≤ s2 ∧ s2 < 18446744073709551616) ∧ (0 ≤ s3 ∧ s3 < 18446744073709551616)) ∧ Ok64All l
def Ok64All : List Rx → Prop
  | [] => True
  | x :: xs => Ok64 x ∧ Ok64All xs
end
mutual
theorem in_ok64 {w : World} {B : Nat} : ∀ {x : RxA}, x.In w B → Ok64 x.bare
  | .node .., h => by
    simp only [RxA.In, U64] at h
    simp only [RxA.bare, Ok64]
    obtain ⟨⟨_, _, _, h0, h1, h2, h3⟩, -, -, -, hl⟩ := h
    refine ⟨⟨by omega, by omega, by omega, by omega⟩, ?_⟩
    rcases hl with rfl | ⟨b, o, -, -, hl⟩
    · trivial
    · exact inL_ok64 hl
theorem inL_ok64 {w : World} {B b : Nat} : ∀ {l : List RxA} {o : Nat}, InL w B b o l → Ok64All (bareAll l)
  | [], _, _ => trivial
  | x :: xs, o, h => by
    simp only [InL] at h
    exact ⟨in_ok64 h.2.1, inL_ok64 h.2.2⟩
end

def All64 (g : List St) : Prop := ∀ st ∈ g, W64 st
theorem W64.split (f o : Nat) : W64 (St.split f o) := by simp [W64, St.split]
theorem All64.snoc {g : List St} (h : All64 g) {st : St} (hs : W64 st) : All64 (g ++ [st]) := by
  intro x hx
  simp only [List.mem_append, List.mem_singleton] at hx
  rcases hx with hx | rfl
  · exact h x hx
  · exact hs
theorem All64.set {g : List St} (h : All64 g) (i : Nat) {st : St} (hs : W64 st) : All64 (g.set i st) := by
  intro x hx
  rcases List.mem_or_eq_of_mem_set hx with hx | rfl
  · exact h x hx
  · exact hs
theorem layTimes_64 {lay : List St → Nat → List St × Nat} (hl : ∀ g next, All64 g → All64 (lay g next).1) : ∀ (n : Nat) (g : List St) (f : Nat), All64 g → All64 (layTimes lay n g f).1
  | 0, _, _, h => h
  | n + 1, g, f, h => layTimes_64 hl n _ _ (hl g f h)
theorem layMay_64 {lay : List St → Nat → List St × Nat} (hl : ∀ g next, All64 g → All64 (lay g next).1) (next : Nat) : ∀ (n : Nat) (g : List St) (f : Nat), All64 g → All64 (layMay lay next n g f).1
  | 0, _, _, h => h
  | n + 1, g, f, h => layMay_64 hl next n _ _ ((hl g f h).snoc (W64.split _ _))
theorem layRepOf_64 {lay : List St → Nat → List St × Nat} (hl : ∀ g next, All64 g → All64 (lay g next).1) (mn mx : Int) (g : List St) (next : Nat) (h : All64 g) : All64 (layRepOf lay mn mx g next).1 := by
  unfold layRepOf
  split
  · have h1 := hl _ g.length (h.snoc (W64.split 0 next))
    have h2 := h1.set g.length (W64.split (lay (g ++ [St.split 0 next]) g.length).2 next)
    split
    · exact layTimes_64 hl _ _ _ h2
    · exact h2
  · exact layTimes_64 hl _ _ _ (layMay_64 hl next _ _ _ h)
mutual
theorem lay_64 : ∀ (x : Rx), Ok64 x → ∀ g next, All64 g → All64 (x.lay g next).1
  | .node kind mn mx s0 s1 s2 s3 l, h, g, next, hg => by
    simp only [Ok64] at h
    simp only [Rx.lay]
    split
    · exact hg.snoc ⟨h.1.1, h.1.2.1, h.1.2.2.1, h.1.2.2.2⟩
    · split
      · exact laySeq_64 l h.2 g next hg
      · split
        · match l, h.2 with
          | [], _ => exact hg
          | x :: xs, h2 =>
            simp only [Ok64All] at h2
            exact layMore_64 xs h2.2 _ _ _ (lay_64 x h2.1 g next hg)
        · match l, h.2 with
          | [], _ => exact hg
          | x :: xs, h2 =>
            simp only [Ok64All] at h2
            exact layRepOf_64 (lay_64 x h2.1) mn mx g next hg
theorem laySeq_64 : ∀ (l : List Rx), Ok64All l → ∀ g next, All64 g → All64 (laySeq l g next).1
  | [], _, _, _, hg => hg
  | x :: xs, h, g, next, hg => by
    simp only [Ok64All] at h
    exact lay_64 x h.1 _ _ (laySeq_64 xs h.2 g next hg)
theorem layMore_64 : ∀ (l : List Rx), Ok64All l → ∀ g next f, All64 g → All64 (layMore l g next f).1
  | [], _, _, _, _, hg => hg
  | x :: xs, h, g, next, f, hg => by
    simp only [Ok64All] at h
    exact layMore_64 xs h.2 _ _ _ ((lay_64 x h.1 g next hg).snoc (W64.split _ _))
end
theorem machine_64 {x : Rx} (h : Ok64 x) : ∀ st ∈ x.machine.1, W64 st :=
  lay_64 x h _ _ (by intro st hst; simp only [List.mem_singleton] at hst; subst hst; simp [W64])

/-- A machine of x at block p. -/
structure Machine (w : World) (p : Nat) (x : Rx) : Prop where
  form : x.formB = true
  ok : Ok64 x
  size : x.sizeI ≤ 256
  ex : ∃ v ws, w.heap[p]? = some (.cells (v :: wv ws).toArray 68 (0, 0)) ∧ StatesAt w v x.machine.1 ∧ Words ws ∧ ∀ i, bitW ws i = true ↔ Eps x.machine.1 x.machine.2 i

theorem Machine.few {w : World} {p : Nat} {x : Rx} (h : Machine w p x) : x.machine.1.length ≤ 512 := by
  have h1 := (x.machine_ok h.form).2.2.2
  have h2 := x.sizeI_eq
  have := h.size
  omega
end Go.Proofs.YtaelkjffidjcjaaDoor
