/- Jg19, merged: J69 J70 J71. -/
import Derived.Test.YtfpbocjmlhcgiaaGreatDoorJg18
set_option linter.unusedSimpArgs false
set_option linter.unusedVariables false
/- The law's example: the journals of 'fixed', step by step. -/
namespace Go.Proofs.YtfpbocjmlhcgiaaGreatDoor
open Go.RowKit PJ Go.Maps

end Go.Proofs.YtfpbocjmlhcgiaaGreatDoor
/- A journal among other things in memory: what the law's walks carry along. -/
namespace Go.Proofs.YtfpbocjmlhcgiaaGreatDoor
open Go.RowKit PJ Go.Maps

/-- A journal that was laid since w; the blocks K are others'. -/
def JK (w W : World) (K : Nat → Prop) (p b jb : Nat) (J : Jn) : Prop :=
  ∃ F, JAt W p b jb F J ∧ (∀ q, F q → w.heap.size ≤ q) ∧ (∀ q, K q → ¬ F q ∧ q < W.heap.size) ∧ LJ w W
def KeptK (K : Nat → Prop) (W W' : World) : Prop := ∀ q, K q → W'.heap[q]? = W.heap[q]?
theorem JK.lj {w W : World} {K : Nat → Prop} {p b jb : Nat} {J : Jn} (h : JK w W K p b jb J) : LJ w W := h.elim fun _ h => h.2.2.2
theorem JK.ok {w W : World} {K : Nat → Prop} {p b jb : Nat} {J : Jn} (h : JK w W K p b jb J) : J.OK := h.elim fun _ h => h.1.ok
theorem JK.less {w W : World} {K K' : Nat → Prop} {p b jb : Nat} {J : Jn} (h : JK w W K p b jb J) (hK : ∀ q, K' q → K q) : JK w W K' p b jb J :=
  h.elim fun F h => ⟨F, h.1, h.2.1, fun q hq => h.2.2.1 q (hK q hq), h.2.2.2⟩
theorem JK.later {w W W' : World} {K : Nat → Prop} {p b jb : Nat} {J : Jn} (h : JK w W K p b jb J) (hl : LJ W W') : JK w W' K p b jb J := by
  obtain ⟨F, h1, h2, h3, h4⟩ := h
  have hs := Below.size hl
  exact ⟨F, h1.later hl, h2, fun q hq => ⟨(h3 q hq).1, by have := (h3 q hq).2; omega⟩, h4.trans hl⟩
theorem KeptK.later {K : Nat → Prop} {w W W' : World} {p b jb : Nat} {J : Jn} (h : JK w W K p b jb J) (hl : LJ W W') : KeptK K W W' := by
  obtain ⟨F, h1, h2, h3, h4⟩ := h
  exact fun q hq => Below.block hl q (h3 q hq).2
theorem KeptK.trans {K : Nat → Prop} {W W' W'' : World} (h : KeptK K W W') (h' : KeptK K W' W'') : KeptK K W W'' := fun q hq => (h' q hq).trans (h q hq)
theorem KeptK.refl {K : Nat → Prop} {W : World} : KeptK K W W := fun q hq => rfl
theorem LJ.only {w a b : World} {F : Nat → Prop} (h : LJ w a) (ho : OnlyJ F a b) (hF : ∀ q, F q → w.heap.size ≤ q) : LJ w b := by
  have hs := Below.size h
  exact ⟨ho.os.trans h.os, ho.tape.trans h.tape, ho.output.trans h.output, Nat.le_trans hs ho.size, fun k hk => (ho.block k (by omega) (fun e => by have := hF k e; omega)).trans (Below.block h k hk)⟩
theorem JK.of {w W W' : World} {K : Nat → Prop} {p b jb : Nat} {F : Nat → Prop} {J J' : Jn} (h : JAt W p b jb F J) (h2 : ∀ q, F q → w.heap.size ≤ q) (h3 : ∀ q, K q → ¬ F q ∧ q < W.heap.size) (h4 : LJ w W) (ho : JOut W p b jb F J' W') : JK w W' K p b jb J' ∧ KeptK K W W' := by
  have hs := ho.2.size
  have hw := Below.size h4
  refine ⟨⟨grow F W W', ho.1, ?_, fun q hq => ⟨grow_not (h3 q hq).1 (h3 q hq).2, by have := (h3 q hq).2; omega⟩, h4.only ho.2 h2⟩, fun q hq => ho.2.block q (h3 q hq).2 (h3 q hq).1⟩
  rintro q (e | e)
  · exact h2 q e
  · omega
theorem JK.call {w W W' : World} {K : Nat → Prop} {p b jb : Nat} {J J' : Jn} (h : JK w W K p b jb J) {f : FuncId} {args : Array Value} {R : Ending} (hc : ∀ F, JAt W p b jb F J → (∀ q, F q → w.heap.size ≤ q) → Calls Tryz.prog f args W' fun e w' => e = R ∧ JOut W p b jb F J' w') :
    Calls Tryz.prog f args W' fun e w' => e = R ∧ JK w w' K p b jb J' ∧ KeptK K W w' := by
  obtain ⟨F, h1, h2, h3, h4⟩ := h
  refine (hc F h1 h2).mono ?_
  rintro e w' ⟨rfl, ho⟩
  exact ⟨rfl, JK.of h1 h2 h3 h4 ho⟩
/-- A call that only reads. -/
theorem JK.seen {w W : World} {K : Nat → Prop} {p b jb : Nat} {J : Jn} (h : JK w W K p b jb J) {f : FuncId} {args : Array Value} {R : Ending} (hc : ∀ F, JAt W p b jb F J → Calls Tryz.prog f args W fun e w' => e = R ∧ LJ W w') :
    Calls Tryz.prog f args W fun e w' => e = R ∧ JK w w' K p b jb J ∧ KeptK K W w' := by
  obtain ⟨F, h1, h2, h3, h4⟩ := h
  refine (hc F h1).mono ?_
  rintro e w' ⟨rfl, hl⟩
  exact ⟨rfl, JK.later ⟨F, h1, h2, h3, h4⟩ hl, KeptK.later ⟨F, h1, h2, h3, h4⟩ hl⟩
/-- What a deed makes of a journal. -/
def Jn.deed (J : Jn) (l : List Wr) : Jn := if l = [] then J else if mayI (J.n - J.area) J.area l = 0 then J.commit l else J
end Go.Proofs.YtfpbocjmlhcgiaaGreatDoor
/- The law's fixed. -/
namespace Go.Proofs.YtfpbocjmlhcgiaaGreatDoor
open Go.RowKit PJ Go.Maps

/-- A disk without power, that was laid since w. -/
def DK (w : World) (B : Nat) (W : World) (p n : Nat) (V : View) : Prop := ∃ safe g mb, DeadAt W p g mb n safe ∧ (∀ i, i < n → safT safe i = V i) ∧ w.heap.size ≤ p ∧ B ≤ g ∧ B ≤ mb ∧ mb < W.heap.size ∧ LJ w W ∧ w.heap.size ≤ B ∧ B ≤ W.heap.size
end Go.Proofs.YtfpbocjmlhcgiaaGreatDoor
