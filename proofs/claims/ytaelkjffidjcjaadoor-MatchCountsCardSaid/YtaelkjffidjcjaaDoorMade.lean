/- Expressions that a call has made: which blocks they lie in. -/
import Derived.Test.YtaelkjffidjcjaaDoorOnly
import Derived.Test.YtaelkjffidjcjaaDoorRd
import Derived.Deep.AppendLies
set_option linter.unusedSimpArgs false
set_option linter.unusedVariables false
namespace Go.Proofs.YtaelkjffidjcjaaDoor
open Go.RowKit PX

mutual
/-- The blocks in which an expression's elements lie. -/
def RxA.blocks : RxA → List Nat
  | .node _ _ _ _ _ _ _ a _ l => (match a with | some p => [p.block] | none => []) ++ blocksAll l
def blocksAll : List RxA → List Nat
  | [] => []
  | x :: xs => x.blocks ++ blocksAll xs
end
theorem blocksAll_mem : ∀ {l : List RxA} {b : Nat}, b ∈ blocksAll l ↔ ∃ x ∈ l, b ∈ x.blocks
  | [], b => by simp [blocksAll]
  | x :: xs, b => by simp [blocksAll, blocksAll_mem]
mutual
theorem RxA.In.keep {w w' : World} {B B' : Nat} : ∀ {x : RxA}, x.In w B → (∀ b ∈ x.blocks, b < B' ∧ ∀ o, w'.cell? ⟨b, o, none⟩ = w.cell? ⟨b, o, none⟩) → x.In w' B'
  | .node k mn mx s0 s1 s2 s3 a cap l, h, hk => by
    simp only [RxA.In] at h ⊢
    refine ⟨h.1, h.2.1, h.2.2.1, h.2.2.2.1, ?_⟩
    rcases h.2.2.2.2 with h | ⟨b, o, rfl, hb, hl⟩
    · exact .inl h
    · have hb' := hk b (by simp [RxA.blocks])
      exact .inr ⟨b, o, rfl, hb'.1, InL.keep hb'.2 hl (fun c hc => hk c (by simp [RxA.blocks, hc]))⟩
theorem InL.keep {w w' : World} {B B' b : Nat} (hb : ∀ o, w'.cell? ⟨b, o, none⟩ = w.cell? ⟨b, o, none⟩) : ∀ {l : List RxA} {o : Nat}, InL w B b o l → (∀ c ∈ blocksAll l, c < B' ∧ ∀ o, w'.cell? ⟨c, o, none⟩ = w.cell? ⟨c, o, none⟩) → InL w' B' b o l
  | [], _, _, _ => trivial
  | x :: xs, o, h, hk => by
    simp only [InL] at h ⊢
    exact ⟨fun j hj => (hb _).trans (h.1 j hj), RxA.In.keep h.2.1 (fun c hc => hk c (by simp [blocksAll, hc])), InL.keep hb h.2.2 (fun c hc => hk c (by simp [blocksAll, hc]))⟩
end

/-- The value is that of an expression x, made since w. -/
def Made (w w' : World) (x : Rx) (v : Value) : Prop := ∃ X : RxA, v = X.val ∧ X.bare = x ∧ X.In w' w'.heap.size ∧ ∀ b ∈ X.blocks, w.heap.size ≤ b ∧ b < w'.heap.size
/-- An expression made since block B whose blocks are none of two rows' own. -/
structure Kept (w : World) (B : Nat) (v1 v2 : Value) (X : RxA) : Prop where
  lies : X.In w w.heap.size
  far : ∀ b ∈ X.blocks, B ≤ b ∧ b < w.heap.size ∧ v1.ownBlock ≠ some b ∧ v2.ownBlock ≠ some b
theorem Kept.later {w w' : World} {B : Nat} {v1 v2 v1' v2' : Value} {X : RxA} (h : Kept w B v1 v2 X) (hs : w.heap.size ≤ w'.heap.size)
    (hb : ∀ b, B ≤ b → b < w.heap.size → v1.ownBlock ≠ some b → v2.ownBlock ≠ some b → w'.heap[b]? = w.heap[b]? ∧ v1'.ownBlock ≠ some b ∧ v2'.ownBlock ≠ some b) : Kept w' B v1' v2' X := by
  refine ⟨h.lies.keep fun b hbb => ?_, fun b hbb => ?_⟩
  · obtain ⟨h1, h2, h3, h4⟩ := h.far b hbb
    exact ⟨by omega, fun o => World.cell?_of_block (w := w) (hb b h1 h2 h3 h4).1⟩
  · obtain ⟨h1, h2, h3, h4⟩ := h.far b hbb
    have := hb b h1 h2 h3 h4
    exact ⟨h1, by omega, this.2.1, this.2.2⟩

/-- The cells of a row of expressions. -/
def rxCells : List RxA → List Value
  | [] => []
  | x :: xs => x.cells ++ rxCells xs
theorem cells_len (x : RxA) : x.cells.length = 8 := by cases x; rfl
theorem rxCells_length : ∀ l : List RxA, (rxCells l).length = l.length * 8
  | [] => rfl
  | x :: xs => by simp [rxCells, rxCells_length xs, cells_len]; omega
theorem rxCells_append : ∀ (a b : List RxA), rxCells (a ++ b) = rxCells a ++ rxCells b
  | [], _ => rfl
  | x :: a, b => by simp [rxCells, rxCells_append a b]
theorem inL_of_row {w : World} {B g : Nat} : ∀ {l : List RxA} {o : Nat}, (∀ j u, (rxCells l)[j]? = some u → w.cell? ⟨g, o + j, none⟩ = some u) → (∀ X ∈ l, X.In w B) → InL w B g o l
  | [], _, _, _ => trivial
  | x :: xs, o, h, hi => by
    simp only [InL]
    refine ⟨fun j hj => ?_, hi x (by simp), ?_⟩
    · have hl : j < x.cells.length := by rw [cells_len]; exact hj
      rw [List.getElem?_eq_getElem hl]
      apply h
      simp only [rxCells]
      rw [List.getElem?_append_left hl, List.getElem?_eq_getElem hl]
    · refine inL_of_row (fun j u hu => ?_) (fun X hX => hi X (by simp [hX]))
      rw [show o + 8 + j = o + (8 + j) by omega]
      apply h
      simp only [rxCells]
      rw [List.getElem?_append_right (by rw [cells_len]; omega), cells_len, show 8 + j - 8 = j by omega]
      exact hu

/-- One alone is itself; more, or none, are joined. -/
def joinedA (kind : Int) (a : Option Addr) (cap : Nat) : List RxA → RxA
  | [x] => x
  | l => .node kind 0 0 0 0 0 0 a cap l
theorem joinedA_bare (kind : Int) (a : Option Addr) (cap : Nat) : ∀ l : List RxA, (joinedA kind a cap l).bare = Rx.joined kind (l.map RxA.bare)
  | [] => by simp [joinedA, RxA.bare, Rx.joined, bareAll]
  | [x] => by simp [joinedA, Rx.joined]
  | x :: y :: l => by simp [joinedA, RxA.bare, Rx.joined, bareAll, bareAll_eq]
end Go.Proofs.YtaelkjffidjcjaaDoor
