/- What (*Machine).laid does, plain facts about it: rounds, bounds. -/
import Derived.Test.YtaelkjffidjcjaaDoorAdd
set_option linter.unusedSimpArgs false
set_option linter.unusedVariables false
namespace Go.Proofs.YtaelkjffidjcjaaDoor
open Go.RowKit PX

theorem formAll_iff : ∀ l : List Rx, formAll l = true ↔ ∀ x ∈ l, x.formB = true
  | [] => by simp [formAll]
  | x :: xs => by simp [formAll, formAll_iff xs]
theorem formAll_of_mem {x : RxA} {l : List RxA} (h : formAll (bareAll l) = true) (hx : x ∈ l) : x.bare.formB = true := by
  rw [formAll_iff, bareAll_eq] at h
  exact h _ (List.mem_map.2 ⟨x, hx, rfl⟩)
theorem formAll_drop {l : List RxA} (h : formAll (bareAll l) = true) (j : Nat) : formAll (bareAll (l.drop j)) = true := by
  rw [formAll_iff, bareAll_eq] at *
  intro x hx
  obtain ⟨y, hy, rfl⟩ := List.mem_map.1 hx
  exact h _ (List.mem_map.2 ⟨y, List.mem_of_mem_drop hy, rfl⟩)
theorem formAll_take {l : List RxA} (h : formAll (bareAll l) = true) (j : Nat) : formAll (bareAll (l.take j)) = true := by
  rw [formAll_iff, bareAll_eq] at *
  intro x hx
  obtain ⟨y, hy, rfl⟩ := List.mem_map.1 hx
  exact h _ (List.mem_map.2 ⟨y, List.mem_of_mem_take hy, rfl⟩)
theorem bigAll_append : ∀ a b : List Rx, bigAll (a ++ b) = bigAll a + bigAll b
  | [], b => by simp [bigAll]
  | x :: xs, b => by simp only [List.cons_append, bigAll]; rw [bigAll_append xs b]; omega
theorem bareAll_append (a b : List RxA) : bareAll (a ++ b) = bareAll a ++ bareAll b := by simp [bareAll_eq]
theorem bareAll_cons (x : RxA) (l : List RxA) : bareAll (x :: l) = x.bare :: bareAll l := rfl
theorem bigAll_drop (l : List RxA) (j : Nat) : bigAll (bareAll (l.drop j)) ≤ bigAll (bareAll l) := by
  have h := bigAll_append (bareAll (l.take j)) (bareAll (l.drop j))
  rw [← bareAll_append, List.take_append_drop] at h
  have := bigAll_nonneg (bareAll (l.take j))
  omega
theorem bigAll_take (l : List RxA) (j : Nat) : bigAll (bareAll (l.take j)) ≤ bigAll (bareAll l) := by
  have h := bigAll_append (bareAll (l.take j)) (bareAll (l.drop j))
  rw [← bareAll_append, List.take_append_drop] at h
  have := bigAll_nonneg (bareAll (l.drop j))
  omega

/-- A row's elements from j on. -/
def seqTo (l : List RxA) (j : Nat) (g : List St) (next : Nat) : List St × Nat := laySeq (bareAll (l.drop j)) g next
theorem seqTo_end (l : List RxA) (g : List St) (next : Nat) : seqTo l l.length g next = (g, next) := by simp [seqTo, bareAll, laySeq]
theorem seqTo_step (l : List RxA) (j : Nat) (h : j < l.length) (g : List St) (next : Nat) : seqTo l j g next = l[j].bare.lay (seqTo l (j + 1) g next).1 (seqTo l (j + 1) g next).2 := by
  unfold seqTo
  rw [List.drop_eq_getElem_cons h, bareAll_cons, laySeq]
theorem seqTo_sound {l : List RxA} (hf : formAll (bareAll l) = true) (j : Nat) {g : List St} {next : Nat} (hg : OkG g) (hn : next < g.length) : Sound g (seqTo l j g next) (2 * bigAll (bareAll (l.drop j))) :=
  laySeq_sound _ (formAll_drop hf j) g next hg hn
theorem big_drop (l : List RxA) (j : Nat) (h : j < l.length) : bigAll (bareAll (l.drop j)) = l[j].bare.big + bigAll (bareAll (l.drop (j + 1))) := by
  rw [List.drop_eq_getElem_cons h, bareAll_cons, bigAll]

/-- An alternative's further elements, the first j of them. -/
def moreTo (l : List RxA) (j : Nat) (g : List St) (next f : Nat) : List St × Nat := layMore (bareAll (l.take j)) g next f
theorem layMore_append : ∀ (l : List Rx) (x : Rx) (g : List St) (next f : Nat),
    layMore (l ++ [x]) g next f = ((x.lay (layMore l g next f).1 next).1 ++ [St.split (layMore l g next f).2 (x.lay (layMore l g next f).1 next).2], (x.lay (layMore l g next f).1 next).1.length)
  | [], x, g, next, f => rfl
  | y :: ys, x, g, next, f => by simp only [List.cons_append, layMore]; rw [layMore_append ys]
theorem moreTo_step (l : List RxA) (j : Nat) (h : j < l.length) (g : List St) (next f : Nat) :
    moreTo l (j + 1) g next f = ((l[j].bare.lay (moreTo l j g next f).1 next).1 ++ [St.split (moreTo l j g next f).2 (l[j].bare.lay (moreTo l j g next f).1 next).2], (l[j].bare.lay (moreTo l j g next f).1 next).1.length) := by
  unfold moreTo
  rw [List.take_succ_eq_append_getElem h, bareAll_append, show bareAll [l[j]] = [l[j].bare] from rfl, layMore_append]
theorem moreTo_sound {l : List RxA} (hf : formAll (bareAll l) = true) (j : Nat) {g : List St} {next f : Nat} (hg : OkG g) (hn : next < g.length) (hff : f < g.length) : Sound g (moreTo l j g next f) (2 * bigAll (bareAll (l.take j))) :=
  layMore_sound _ (formAll_take hf j) g next f hg hn hff
theorem big_take (l : List RxA) (j : Nat) (h : j < l.length) : bigAll (bareAll (l.take (j + 1))) = bigAll (bareAll (l.take j)) + l[j].bare.big := by
  rw [List.take_succ_eq_append_getElem h, bareAll_append, bigAll_append, show bareAll [l[j]] = [l[j].bare] from rfl]
  simp [bigAll]

theorem layMay_step (lay : List St → Nat → List St × Nat) (next : Nat) : ∀ (n : Nat) (g : List St) (f : Nat),
    layMay lay next (n + 1) g f = ((lay (layMay lay next n g f).1 (layMay lay next n g f).2).1 ++ [St.split (lay (layMay lay next n g f).1 (layMay lay next n g f).2).2 next], (lay (layMay lay next n g f).1 (layMay lay next n g f).2).1.length)
  | 0, g, f => rfl
  | n + 1, g, f => by rw [layMay, layMay_step lay next n]; rfl
theorem layTimes_step (lay : List St → Nat → List St × Nat) : ∀ (n : Nat) (g : List St) (f : Nat), layTimes lay (n + 1) g f = lay (layTimes lay n g f).1 (layTimes lay n g f).2
  | 0, g, f => rfl
  | n + 1, g, f => by rw [layTimes, layTimes_step lay n]; rfl

theorem MachAt.alloc {w : World} {base p : Nat} {v : Value} {ws : List Value} {g : List St} (h : MachAt w base p v ws g) (o : Obj) : MachAt (w.alloc o) base p v ws g :=
  ⟨alloc_old h.block o, h.words, h.row.alloc o, h.apart, by have := h.base; simp; omega, h.few⟩
theorem MachAt.drewN {w : World} {base p : Nat} {v : Value} {ws : List Value} {g : List St} (h : MachAt w base p v ws g) (n : Nat) : MachAt (w.drewN n) base p v ws g :=
  ⟨h.block, h.words, h.row, h.apart, h.base, h.few⟩
theorem Keeps.inn {w w' : World} {base p B : Nat} {x : RxA} (h : Keeps base p w w') (hin : x.In w B) (hB : B ≤ w.heap.size) (hb : B ≤ base) (hp : B ≤ p) : x.In w' B :=
  hin.below (h.below hB hb hp) (Nat.le_refl _)

theorem in_box {w : World} {B : Nat} {x : RxA} (o : Obj) (hB : B ≤ w.heap.size) (h : x.In w B) : x.In (w.alloc o) B :=
  h.below ((Below.refl w.heap.size w).alloc (Nat.le_refl _) _) hB
/-- What laid does with an expression. -/
def LaidOK (x : RxA) : Prop := ∀ (w : World) (base p B : Nat) (v : Value) (ws : List Value) (g : List St) (next : Nat), MachAt w base p v ws g → x.In w B → B ≤ base → B ≤ p →
    x.bare.formB = true → OkG g → next < g.length → (g.length : Int) + 2 * x.bare.big < 100000 →
    Calls Tryd.prog 38 #[.pointer (some ⟨p, 0, none⟩), x.val, .int .i64 next] w fun e w' => e = .returned (.int .i64 (x.bare.lay g next).2) ∧
      ∃ v', MachAt w' base p v' ws (x.bare.lay g next).1 ∧ Keeps base p w w'
end Go.Proofs.YtaelkjffidjcjaaDoor
