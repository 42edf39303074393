/- Plain facts on the calls whose answers the guard's document fixes. -/
import Derived.Test.YtjhclopdcbnmkaaGreatDoorG2
set_option linter.unusedSimpArgs false
set_option linter.unusedVariables false
namespace Go.Proofs.YtjhclopdcbnmkaaGreatDoor.PX

def noHitB (x : Rx) (s : List UInt8) (c : Nat) : Bool := (List.range (s.length + 1)).all fun k => decide (k ≤ c) || !x.isB (sub s c k)
theorem noHitB_iff {x : Rx} (hx : x.formB = true) {s : List UInt8} {c : Nat} (h : noHitB x s c = true) : ∀ k, c < k → k ≤ s.length → ¬ x.lang (sub s c k) := by
  intro k h1 h2 hl
  unfold noHitB at h
  have := List.all_eq_true.1 h k (List.mem_range.2 (by omega))
  rw [decide_eq_false (by omega), (Rx.isB_iff hx _).2 hl] at this
  cases this
def hitB (x : Rx) (s : List UInt8) (f a b : Nat) : Bool :=
  decide (f ≤ a ∧ a < b ∧ b ≤ s.length) && x.isB (sub s a b) && ((List.range (s.length + 1)).all fun k => decide (k ≤ b) || !x.isB (sub s a k)) && ((List.range a).all fun c => decide (c < f) || noHitB x s c)
theorem hitB_is {x : Rx} (hx : x.formB = true) {s : List UInt8} {f a b : Nat} (h : hitB x s f a b = true) : IsHit x.lang s f a b := by
  unfold hitB at h
  simp only [Bool.and_eq_true, decide_eq_true_eq] at h
  obtain ⟨⟨⟨⟨h1, h2, h3⟩, h4⟩, h5⟩, h6⟩ := h
  refine ⟨h1, h2, h3, (Rx.isB_iff hx _).1 h4, fun k hk1 hk2 hl => ?_, fun c hc1 hc2 k hk1 hk2 => ?_⟩
  · have := List.all_eq_true.1 h5 k (List.mem_range.2 (by omega))
    rw [decide_eq_false (by omega), (Rx.isB_iff hx _).2 hl] at this
    cases this
  · have := List.all_eq_true.1 h6 c (List.mem_range.2 hc2)
    rw [decide_eq_false (by omega), Bool.false_or] at this
    exact noHitB_iff hx this k hk1 hk2
def hitsB (x : Rx) (s : List UInt8) : Nat → List (Nat × Nat) → Bool
  | f, [] => (List.range (s.length + 1)).all fun c => decide (c < f) || noHitB x s c
  | f, (a, b) :: l => hitB x s f a b && hitsB x s b l
theorem hitsB_from {x : Rx} (hx : x.formB = true) {s : List UInt8} : ∀ {l : List (Nat × Nat)} {f : Nat}, hitsB x s f l = true → HitsFrom x.lang s f l
  | [], f, h => by
    refine .nil fun a b h1 h2 h3 => ?_
    unfold hitsB at h
    have := List.all_eq_true.1 h a (List.mem_range.2 (by omega))
    rw [decide_eq_false (by omega), Bool.false_or] at this
    exact noHitB_iff hx this b h2 h3
  | (a, b) :: l, f, h => by
    unfold hitsB at h
    rw [Bool.and_eq_true] at h
    exact .cons (hitB_is hx h.1) (hitsB_from hx h.2)

/-! the document's rules -/
def gp1 : List UInt8 := [91, 48, 45, 57, 93, 43]
def gp2 : List UInt8 := [105, 100, 61, 91, 48, 45, 57, 93, 43, 59, 46, 42]
def gp3 : List UInt8 := [111, 107]
def gx1 : Rx := .rep 1 (-1) (.set ⟨287948901175001088, 0, 0, 0⟩)
def gx2 : Rx := .node 1 0 0 0 0 0 0 [.set (Q4.none.with 105), .set (Q4.none.with 100), .set (Q4.none.with 61), gx1, .set (Q4.none.with 59), .rep 0 (-1) (.set Q4.all)]
def gx3 : Rx := .node 1 0 0 0 0 0 0 [.set (Q4.none.with 111), .set (Q4.none.with 107)]
theorem gparse1 : parseR gp1 = .inl gx1 := by rfl
theorem gparse2 : parseR gp2 = .inl gx2 := by rfl
theorem gparse3 : parseR gp3 = .inl gx3 := by rfl
def gl : List Rul := [⟨1, 0, 0, gp1, []⟩, ⟨1, 0, 2, gp2, gp1⟩, ⟨1, 0, 1, gp3, []⟩]
theorem gform1 : gx1.formB = true := (parseR_form gparse1).1
theorem gform2 : gx2.formB = true := (parseR_form gparse2).1
theorem gform3 : gx3.formB = true := (parseR_form gparse3).1
theorem gread1 : isRead gp1 = true := isRead_iff.2 ⟨_, gparse1⟩
theorem gread2 : isRead gp2 = true := isRead_iff.2 ⟨_, gparse2⟩
theorem gread3 : isRead gp3 = true := isRead_iff.2 ⟨_, gparse3⟩
theorem gcheck8 : checkG gl 8 = 0 := by
  unfold checkG gl
  simp [Rul.okB, gread1, gread2, gread3]
theorem gcheck2 : checkG gl 2 = 0 := by
  unfold checkG gl
  simp [Rul.okB, gread1, gread2, gread3]
theorem gcheck1 : checkG gl 1 = 200 := by
  unfold checkG gl
  simp [Rul.okB, gread1, gread2, gread3]
theorem gcheck0 : checkG [] 0 = 1 := by unfold checkG; rfl
theorem takes_bool {r : Rul} {fr tu : Int} {s : List UInt8} {x : Rx} (hx : parseR r.pat = .inl x) (b : Bool) (hb : x.isB s = b) : r.takes fr tu s = (decide (r.fr = fr) && decide (r.tu = tu) && b) := by
  unfold Rul.takes
  rw [langP_eq hx]
  congr 1
  rw [Bool.eq_iff_iff, inL_iff, ← hb, Rx.isB_iff (parseR_form hx).1]
def g17 : List UInt8 := [49, 55]
def gid : List UInt8 := [105, 100, 61, 49, 55, 59, 120, 57]
def gok : List UInt8 := [111, 107]
theorem gfirst17 : firstG 1 0 g17 0 gl = some (0, ⟨1, 0, 0, gp1, []⟩) := by
  unfold gl firstG
  rw [takes_bool gparse1 true (by decide +kernel)]
  rfl
theorem gfirstid : firstG 1 0 gid 0 gl = some (1, ⟨1, 0, 2, gp2, gp1⟩) := by
  unfold gl firstG
  rw [takes_bool gparse1 false (by decide +kernel)]
  unfold firstG
  rw [takes_bool gparse2 true (by decide +kernel)]
  rfl
theorem gfirstok : firstG 1 0 gok 0 gl = some (2, ⟨1, 0, 1, gp3, []⟩) := by
  unfold gl firstG
  rw [takes_bool gparse1 false (by decide +kernel)]
  unfold firstG
  rw [takes_bool gparse2 false (by decide +kernel)]
  unfold firstG
  rw [takes_bool gparse3 true (by decide +kernel)]
  rfl
theorem gfirstno : firstG 0 1 gok 0 gl = none := by
  unfold gl firstG
  rw [takes_bool gparse1 false (by decide +kernel)]
  unfold firstG
  rw [takes_bool gparse2 false (by decide +kernel)]
  unfold firstG
  rw [takes_bool gparse3 true (by decide +kernel)]
  rfl
theorem ghits : hitsG gx1.lang gid = [(3, 5), (7, 8)] := hitsG_eq (hitsB_from gform1 (by decide +kernel))
theorem gdec (s : List UInt8) (hs : s.length ≤ 200) (fr tu : Int) : decideG gl fr tu s = match firstG fr tu s 0 gl with
    | none => (-1, 0, [], 0)
    | some (i, r) => ((i : Int), r.act, outG r s, 0) := by
  unfold decideG
  rw [if_neg (by rw [gcheck8]; simp), if_neg (by omega)]
  cases firstG fr tu s 0 gl <;> rfl
theorem gdecide17 : decideG gl 1 0 g17 = (0, 0, [], 0) := by
  rw [gdec _ (by decide), gfirst17]; rfl
theorem gdecideid : decideG gl 1 0 gid = (1, 2, [105, 100, 61, 42, 42, 59, 120, 42], 0) := by
  rw [gdec _ (by decide), gfirstid]
  simp only [outG]
  rw [if_neg (by decide), if_neg (by decide), langP_eq gparse1, ghits]
  rfl
theorem gdecideok : decideG gl 1 0 gok = (2, 1, [111, 107], 0) := by
  rw [gdec _ (by decide), gfirstok]; rfl
theorem gdecideno : decideG gl 0 1 gok = (-1, 0, [], 0) := by
  rw [gdec _ (by decide), gfirstno]
end Go.Proofs.YtjhclopdcbnmkaaGreatDoor.PX
