/- What holds of the rows of alternative. -/
import Derived.Test.YtaelkjffidjcjaaDoorJoin
set_option linter.unusedSimpArgs false
set_option linter.unusedVariables false
namespace Go.Proofs.YtaelkjffidjcjaaDoor
open Go.RowKit PX

structure AltInv (B : Nat) (w : World) (v1 v2 : Value) (l1 l2 : List RxA) : Prop where
  own1 : w.ownsRow B 26 8 v1 l1.length (rxCells l1)
  own2 : w.ownsRow B 26 8 v2 l2.length (rxCells l2)
  apart : ∀ g, v1.ownBlock = some g → v2.ownBlock ≠ some g
  kept1 : ∀ X ∈ l1, Kept w B v1 v2 X
  kept2 : ∀ X ∈ l2, Kept w B v1 v2 X
theorem Kept.swap {w : World} {B : Nat} {v1 v2 : Value} {X : RxA} (h : Kept w B v1 v2 X) : Kept w B v2 v1 X :=
  ⟨h.lies, fun b hb => ⟨(h.far b hb).1, (h.far b hb).2.1, (h.far b hb).2.2.2, (h.far b hb).2.2.1⟩⟩
theorem AltInv.swap {B : Nat} {w : World} {v1 v2 : Value} {l1 l2 : List RxA} (h : AltInv B w v1 v2 l1 l2) : AltInv B w v2 v1 l2 l1 :=
  ⟨h.own2, h.own1, fun g h2 h1 => h.apart g h1 h2, fun X hX => (h.kept2 X hX).swap, fun X hX => (h.kept1 X hX).swap⟩
theorem Kept.only {w w' : World} {B : Nat} {v1 v2 : Value} {X : RxA} {r : Nat → Prop} (h : Kept w B v1 v2 X) (ho : Only r w w') (hr : ∀ k, r k → k < B) : Kept w' B v1 v2 X :=
  h.later ho.size fun b hb hlt h1 h2 => ⟨ho.block b hlt (fun hk => by have := hr b hk; omega), h1, h2⟩
theorem AltInv.only {B : Nat} {w w' : World} {v1 v2 : Value} {l1 l2 : List RxA} {r : Nat → Prop} (h : AltInv B w v1 v2 l1 l2) (ho : Only r w w') (hr : ∀ k, r k → k < B) : AltInv B w' v1 v2 l1 l2 :=
  ⟨ho.ownsRow h.own1 (fun k hk hrk => by have := (h.own1.lt k hk).1; have := hr k hrk; omega), ho.ownsRow h.own2 (fun k hk hrk => by have := (h.own2.lt k hk).1; have := hr k hrk; omega), h.apart,
    fun X hX => (h.kept1 X hX).only ho hr, fun X hX => (h.kept2 X hX).only ho hr⟩
theorem AltInv.start (B : Nat) (w : World) : AltInv B w (.slice none 0 0) (.slice none 0 0) [] [] :=
  ⟨⟨rfl, .inl ⟨rfl, rfl⟩⟩, ⟨rfl, .inl ⟨rfl, rfl⟩⟩, (fun g h => by cases h), (fun X hX => by cases hX), (fun X hX => by cases hX)⟩
/-- One more of the second row. -/
theorem AltInv.push {B : Nat} {w w' : World} {v1 v2 : Value} {l1 l2 : List RxA} {X : RxA} {g cap : Nat} (h : AltInv B w v1 v2 l1 l2) (hX : Kept w B v1 v2 X)
    (hown : w'.ownsRow B 26 8 (.slice (some ⟨g, 0, none⟩) (l2.length + 1) cap) (l2.length + 1) (rxCells l2 ++ X.cells)) (hg : w.grownBy w' v2.ownBlock) (hat : v2.ownBlock = some g ∨ g = w.heap.size) :
    AltInv B w' v1 (.slice (some ⟨g, 0, none⟩) (l2.length + 1) cap) l1 (l2 ++ [X]) := by
  have ho : Only (fun k => v2.ownBlock = some k) w w' := Only.grown (Only.refl _ w) hg (fun k hk => .inl hk)
  have hk : ∀ Y, Kept w B v1 v2 Y → Kept w' B v1 (.slice (some ⟨g, 0, none⟩) (l2.length + 1) cap) Y := fun Y hY =>
    hY.later ho.size fun b hb hlt h1 h2 => ⟨ho.block b hlt h2, h1, fun he => by
      have he : g = b := by simpa [Value.ownBlock] using he
      subst he
      rcases hat with h' | h'
      · exact h2 h'
      · omega⟩
  refine ⟨ho.ownsRow h.own1 (fun k h1 h2 => h.apart k h1 h2), ?_, fun k h1 h2 => ?_, fun Y hY => hk Y (h.kept1 Y hY), fun Y hY => ?_⟩
  · rw [rxCells_append, show rxCells [X] = X.cells by simp [rxCells], List.length_append, List.length_singleton]
    exact hown
  · have he : g = k := by simpa [Value.ownBlock] using h2
    subst he
    rcases hat with h' | h'
    · exact h.apart g h1 h'
    · have := (h.own1.lt g h1).2; omega
  · rcases List.mem_append.1 hY with hY | hY
    · exact hk Y (h.kept2 Y hY)
    · obtain rfl := List.mem_singleton.1 hY
      exact hk _ hX
/-- The second row joined to an expression. -/
theorem AltInv.join {B : Nat} {w : World} {v1 : Value} {l1 l2 : List RxA} {a : Option Addr} {cap : Nat} (kind : Int) (hkd : I64 kind) (h : AltInv B w v1 (.slice a l2.length cap) l1 l2) (hl : l2.length ≤ 1000) :
    Kept w B v1 (.slice none 0 0) (joinedA kind a cap l2) := by
  have hlone : ∀ x, l2 = [x] → Kept w B v1 (.slice none 0 0) x := fun x hx =>
    (h.kept2 x (by simp [hx])).later (Nat.le_refl _) fun b _ _ h1 _ => ⟨rfl, h1, fun h => by cases h⟩
  have hnode : Kept w B v1 (.slice none 0 0) (.node kind 0 0 0 0 0 0 a cap l2) := by
    obtain ⟨a', cap', he, hc1, hc2, ha⟩ := row_value h.own2
    simp only [Value.slice.injEq, true_and] at he
    obtain ⟨rfl, rfl⟩ := he
    have hblk : ∀ b ∈ (RxA.node kind 0 0 0 0 0 0 a cap l2).blocks, (∃ g, a = some ⟨g, 0, none⟩ ∧ b = g ∧ B ≤ g ∧ g < w.heap.size ∧ (Value.slice a l2.length cap).ownBlock = some g) ∨ ∃ Y ∈ l2, b ∈ Y.blocks := by
      intro b hb
      simp only [RxA.blocks, List.mem_append] at hb
      rcases hb with hb | hb
      · rcases ha with ⟨-, rfl⟩ | ⟨g, rfl, h1, h2, h3⟩
        · simp at hb
        · exact .inl ⟨g, rfl, by simpa using hb, h1, h2, h3⟩
      · exact .inr (blocksAll_mem.1 hb)
    refine ⟨?_, fun b hb => ?_⟩
    · simp only [RxA.In]
      refine ⟨⟨hkd, ⟨by omega, by omega⟩, ⟨by omega, by omega⟩, ⟨by omega, by omega⟩, ⟨by omega, by omega⟩, ⟨by omega, by omega⟩, ⟨by omega, by omega⟩⟩, hc1, hc2, by omega, ?_⟩
      rcases ha with ⟨h0, -⟩ | ⟨g, rfl, h1, h2, h3⟩
      · exact .inl (List.eq_nil_of_length_eq_zero h0)
      · refine .inr ⟨g, 0, rfl, h2, inL_of_row (fun j u hu => ?_) (fun X hX => (h.kept2 X hX).lies)⟩
        have hj : j < l2.length * 8 := by rw [← rxCells_length]; exact (List.getElem?_eq_some_iff.1 hu).1
        rw [Nat.zero_add, h.own2.cellAt j hj]; exact hu
    · rcases hblk b hb with ⟨g, -, rfl, h1, h2, h3⟩ | ⟨Y, hY, hbY⟩
      · exact ⟨h1, h2, fun he => h.apart _ he h3, fun he => by cases he⟩
      · obtain ⟨h1, h2, h3, -⟩ := (h.kept2 Y hY).far b hbY
        exact ⟨h1, h2, h3, fun he => by cases he⟩
  match l2, hlone, hnode with
  | [], _, hn => exact hn
  | [x], hl1, _ => exact hl1 x rfl
  | x :: y :: l, _, hn => exact hn
theorem AltInv.drop {B : Nat} {w : World} {v1 v2 : Value} {l1 l2 : List RxA} (h : AltInv B w v1 v2 l1 l2) : AltInv B w v1 (.slice none 0 0) l1 [] :=
  ⟨h.own1, ⟨rfl, .inl ⟨rfl, rfl⟩⟩, (fun g _ h2 => by cases h2), (fun X hX => (h.kept1 X hX).later (Nat.le_refl _) fun b _ _ h1 _ => ⟨rfl, h1, (fun h => by cases h)⟩), (fun X hX => by cases hX)⟩
theorem rx_one (X : RxA) : ∀ v ∈ X.cells, v.oneCell' = true := by
  obtain ⟨k, mn, mx, s0, s1, s2, s3, a, cap, l⟩ := X
  intro v hv
  simp only [RxA.cells, List.mem_cons, List.not_mem_nil, or_false] at hv
  rcases hv with rfl | rfl | rfl | rfl | rfl | rfl | rfl | rfl <;> rfl
end Go.Proofs.YtaelkjffidjcjaaDoor
