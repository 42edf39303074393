/- Plain laws of the guard, no program in sight: rules, what they decide, what is hidden. -/
import Derived.Test.YtjhclopdcbnmkaaGreatDoorG1
import Derived.Test.YtjhclopdcbnmkaaGreatDoorQ1
set_option linter.unusedSimpArgs false
set_option linter.unusedVariables false
namespace Go.Proofs.YtjhclopdcbnmkaaGreatDoor.PX

/-- A rule. -/
structure Rul where
  fr : Int
  tu : Int
  act : Int
  pat : List UInt8
  wth : List UInt8

def isRead (s : List UInt8) : Bool := match parseR s with | .inl _ => true | .inr _ => false
/-- The language of a pattern. -/
def langP (s : List UInt8) : List UInt8 → Prop := match parseR s with | .inl x => x.lang | .inr _ => fun _ => False
def Rul.okB (r : Rul) (n : Int) : Bool := decide (0 ≤ r.fr ∧ r.fr < n ∧ 0 ≤ r.tu ∧ r.tu < n ∧ r.fr ≠ r.tu ∧ 0 ≤ r.act ∧ r.act ≤ 2) && isRead r.pat && (if r.act = 2 then isRead r.wth else r.wth.isEmpty)
/-- May rules be? The error's number. -/
def checkG (l : List Rul) (n : Int) : Int := if n < 1 ∨ 8 < n then 1 else if l.all (·.okB n) && decide (l.length ≤ 32) then 0 else 200

open Classical in
noncomputable def inL (L : List UInt8 → Prop) (s : List UInt8) : Bool := decide (L s)
theorem inL_iff {L : List UInt8 → Prop} {s : List UInt8} : inL L s = true ↔ L s := by
  unfold inL; exact @decide_eq_true_iff _ (Classical.propDecidable _)
/-- Is a rule that one? -/
noncomputable def Rul.takes (r : Rul) (fr tu : Int) (s : List UInt8) : Bool := decide (r.fr = fr) && decide (r.tu = tu) && inL (langP r.pat) s
noncomputable def firstG (fr tu : Int) (s : List UInt8) : Nat → List Rul → Option (Nat × Rul)
  | _, [] => none
  | i, r :: rs => if r.takes fr tu s then some (i, r) else firstG fr tu s (i + 1) rs
open Classical in
/-- All hits of a language in a text. -/
noncomputable def hitsG (L : List UInt8 → Prop) (s : List UInt8) : List (Nat × Nat) := if h : ∃ l, HitsFrom L s 0 l then h.choose else []
theorem hitsG_eq {L : List UInt8 → Prop} {s : List UInt8} {l : List (Nat × Nat)} (h : HitsFrom L s 0 l) : hitsG L s = l := by
  unfold hitsG
  have hx : ∃ l, HitsFrom L s 0 l := ⟨l, h⟩
  rw [dif_pos hx]
  exact hitsFrom_unique hx.choose_spec h
def starB (l : List (Nat × Nat)) (i : Nat) : Bool := l.any fun p => decide (p.1 ≤ i ∧ i < p.2)
/-- A text with stars. -/
def starsFrom (l : List (Nat × Nat)) : Nat → List UInt8 → List UInt8
  | _, [] => []
  | i, c :: s => (if starB l i then 42 else c) :: starsFrom l (i + 1) s
noncomputable def outG (r : Rul) (s : List UInt8) : List UInt8 := if r.act = 0 then [] else if r.act = 1 then s else starsFrom (hitsG (langP r.wth) s) 0 s
/-- What becomes of a payload: the rule, the action, what goes out, the error. -/
noncomputable def decideG (l : List Rul) (fr tu : Int) (s : List UInt8) : Int × Int × List UInt8 × Int :=
  if checkG l 8 ≠ 0 then (0, 0, [], checkG l 8)
  else if 200 < s.length then (0, 0, [], 201)
  else match firstG fr tu s 0 l with
    | none => (-1, 0, [], 0)
    | some (i, r) => (i, r.act, outG r s, 0)

theorem starsFrom_length (l : List (Nat × Nat)) : ∀ (s : List UInt8) (i : Nat), (starsFrom l i s).length = s.length
  | [], _ => rfl
  | c :: s, i => by simp [starsFrom, starsFrom_length l s]
theorem starsFrom_get (l : List (Nat × Nat)) : ∀ (s : List UInt8) (i k : Nat), (starsFrom l i s)[k]? = (s[k]?).map fun c => if starB l (i + k) then 42 else c
  | [], _, _ => by simp [starsFrom]
  | c :: s, i, 0 => by simp [starsFrom]
  | c :: s, i, k + 1 => by
    simp only [starsFrom, List.getElem?_cons_succ, starsFrom_get l s (i + 1) k]
    rw [show i + 1 + k = i + (k + 1) by omega]
theorem starB_nil (i : Nat) : starB [] i = false := rfl
theorem starB_snoc (l : List (Nat × Nat)) (p : Nat × Nat) (i : Nat) : starB (l ++ [p]) i = (starB l i || decide (p.1 ≤ i ∧ i < p.2)) := by simp [starB, List.any_append]
theorem starsFrom_nil : ∀ (s : List UInt8) (i : Nat), starsFrom [] i s = s
  | [], _ => rfl
  | c :: s, i => by simp [starsFrom, starB_nil, starsFrom_nil s]
/-- The hits lie in the text. -/
theorem hits_in {L : List UInt8 → Prop} {s : List UInt8} : ∀ {l : List (Nat × Nat)} {f : Nat}, HitsFrom L s f l → ∀ p ∈ l, p.1 < p.2 ∧ p.2 ≤ s.length
  | [], _, _, p, hp => by cases hp
  | q :: l, f, h, p, hp => by
    cases h with
    | cons hh hr =>
      rcases List.mem_cons.1 hp with rfl | hp
      · exact ⟨hh.2.1, hh.2.2.1⟩
      · exact hits_in hr p hp
theorem isRead_iff {s : List UInt8} : isRead s = true ↔ ∃ x, parseR s = .inl x := by
  unfold isRead
  cases parseR s <;> simp
theorem isRead_false {s : List UInt8} : isRead s = false ↔ ∃ n, parseR s = .inr n := by
  unfold isRead
  cases parseR s <;> simp
theorem langP_eq {s : List UInt8} {x : Rx} (h : parseR s = .inl x) : langP s = x.lang := by unfold langP; rw [h]
end Go.Proofs.YtjhclopdcbnmkaaGreatDoor.PX
