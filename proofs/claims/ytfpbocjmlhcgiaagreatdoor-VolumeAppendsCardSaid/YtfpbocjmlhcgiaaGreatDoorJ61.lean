/- The power goes, nothing chosen of what is unsafe: the disk's left, After, dies, Crash; Revive. -/
import Derived.Test.YtfpbocjmlhcgiaaGreatDoorJg16
import Derived.Maps.RangeWalk
set_option linter.unusedSimpArgs false
set_option linter.unusedVariables false
namespace Go.Proofs.YtfpbocjmlhcgiaaGreatDoor
open Go.RowKit PJ Go.Maps

theorem LJ.own {w w' : World} {B : Nat} {T : TypeId} {s : Nat} {v : Value} {n : Nat} {xs : List Value} (h : w.ownsRow B T s v n xs) (hb : LJ w w') : w'.ownsRow B T s v n xs := own_below h hb
/-- A disk whose power is gone, nothing unsafe. -/
def DeadAt (w : World) (p g mb n : Nat) (safe : List UInt8) : Prop :=
  safe.length = 128 * n ∧ 1 ≤ n ∧ n ≤ 4096 ∧ ∃ cap, ∃ ch : Option Addr × Nat × Nat, w.heap[p]? = some (.cells #[.slice (some ⟨g, 0, none⟩) (128 * n) cap, .map (some mb), .int .i64 0, .slice ch.1 ch.2.1 ch.2.2, .bool true] 102 (0, 0)) ∧ 128 * n ≤ cap ∧
    (∀ j, j < 128 * n → w.cell? ⟨g, j, none⟩ = some (.int .u8 ((safe.getD j 0).toNat : Int)) ∧ w.frozen? ⟨g, j, none⟩ = false) ∧ p ≠ g ∧ g < w.heap.size ∧ mb ≠ p ∧ mb ≠ g ∧ w.heap[mb]? = some (.map #[] 0)
theorem DeadAt.born (w1 w2 w3 : World) (p n : Nat) (s : ByteArray) (safe : List UInt8) (hs : s.data.toList = safe) (hl : safe.length = 128 * n) (h1 : 1 ≤ n) (h2 : n ≤ 4096) (hp : p < w1.heap.size) (cap : Nat) (hcap : grownCap w1 s.size 0 5 = cap) (hw2 : Lib.bytesWorld w1 5 s = w2) (hw3 : w2.alloc (.map #[] 0) = w3)
    (cs : Array Value) (ch : Option Addr × Nat × Nat) (hcs : ((((cs.setIfInBounds 0 (.slice (some ⟨w1.heap.size, 0, none⟩) s.size cap)).setIfInBounds 1 (.map (some (w1.heap.size + 1)))).setIfInBounds 2 (.int .i64 0)).setIfInBounds 4 (.bool true)) = #[.slice (some ⟨w1.heap.size, 0, none⟩) s.size cap, .map (some (w1.heap.size + 1)), .int .i64 0, .slice ch.1 ch.2.1 ch.2.2, .bool true])
    (hc : w3.heap[p]? = some (.cells cs 102 (0, 0))) (w' : World)
    (hw' : ((((w3.setCell ⟨p, 0, none⟩ (.slice (some ⟨w1.heap.size, 0, none⟩) s.size cap)).setCell ⟨p, 1, none⟩ (.map (some (w1.heap.size + 1)))).setCell ⟨p, 2, none⟩ (.int .i64 0)).setCell ⟨p, 4, none⟩ (.bool true)) = w') :
    DeadAt w' p w1.heap.size (w1.heap.size + 1) n safe ∧ w1.heap.size + 1 < w'.heap.size ∧ OnlyJ (fun q => q = p) w3 w' := by
  have hsz : s.size = 128 * n := by rw [← hl, ← hs, Array.length_toList]; rfl
  have hge : s.size ≤ cap := by rw [← hcap]; exact grownCap_ge _ _ _ _
  have hz2 : w2.heap.size = w1.heap.size + 1 := by rw [← hw2]; exact Lib.bytesWorld_size _ _ _
  have hz3 : w3.heap.size = w1.heap.size + 1 + 1 := by rw [← hw3, World.size_alloc, hz2]
  have ho : OnlyJ (fun q => q = p) w3 w' := by
    rw [← hw']
    exact (((setCell_only w3 p 0 _).trans (setCell_only _ p 1 _)).trans (setCell_only _ p 2 _)).trans (setCell_only _ p 4 _)
  have hcell : ∀ j, j < s.size → w2.cell? ⟨w1.heap.size, j, none⟩ = some (.int .u8 (s.data.toList.getD j 0).toNat) := fun j hj => by rw [← hw2]; exact Lib.bytesWorld_cell _ _ _ _ hj
  have hfr : ∀ j, j < s.size → w2.frozen? ⟨w1.heap.size, j, none⟩ = false := fun j hj => by
    rw [← hw2]
    simp only [World.frozen?, Lib.bytesWorld_at_new]
    have hb : s.size ≤ (Lib.bytesCells w1 5 s).size := by
      simp [Lib.bytesCells]
    simp
    omega
  have hg3 : w3.heap[w1.heap.size]? = w2.heap[w1.heap.size]? := by rw [← hw3]; exact Below.heap_alloc _ _ _ (by omega)
  have hg' : w'.heap[w1.heap.size]? = w2.heap[w1.heap.size]? := (ho.block _ (by omega) (by show w1.heap.size ≠ p; omega)).trans hg3
  have hm' : w'.heap[w1.heap.size + 1]? = some (.map #[] 0) := by
    rw [ho.block _ (by omega) (by show w1.heap.size + 1 ≠ p; omega), ← hw3]
    have := alloc_blk w2 (.map #[] 0)
    rw [hz2] at this
    exact this
  have hp' : w'.heap[p]? = some (.cells #[.slice (some ⟨w1.heap.size, 0, none⟩) s.size cap, .map (some (w1.heap.size + 1)), .int .i64 0, .slice ch.1 ch.2.1 ch.2.2, .bool true] 102 (0, 0)) := by
    have c4 := heap_setCell_same _ _ 4 _ _ (.bool true) (heap_setCell_same _ _ 2 _ _ (.int .i64 0) (heap_setCell_same _ _ 1 _ _ (.map (some (w1.heap.size + 1))) (heap_setCell_same _ _ 0 _ _ (.slice (some ⟨w1.heap.size, 0, none⟩) s.size cap) hc)))
    rw [hw', hcs] at c4
    exact c4
  have hsz' := ho.size
  refine ⟨⟨hl, h1, h2, cap, ch, by rw [← hsz]; exact hp', by omega, fun j hj => ?_, by omega, by omega, by omega, by omega, hm'⟩, by omega, ho⟩
  rw [← hs]
  exact ⟨(World.cell?_of_block (a := ⟨w1.heap.size, j, none⟩) hg').trans (hcell j (by omega)), (World.frozen?_of_block (a := ⟨w1.heap.size, j, none⟩) hg').trans (hfr j (by omega))⟩
end Go.Proofs.YtfpbocjmlhcgiaaGreatDoor
