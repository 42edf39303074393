/- Worlds later than others. (The same words as in M1, for a seat without M1.) -/
import Derived.Test.YtbchkjfnakabkaaGreatDoorB4
set_option linter.unusedSimpArgs false
set_option linter.unusedVariables false
namespace Go.Proofs.YtbchkjfnakabkaaGreatDoor
open Go.RowKit PX

def Later (a b : World) : Prop := Below a.heap.size a b
theorem Later.refl (w : World) : Later w w := Below.refl _ _
theorem Later.trans {a b c : World} (h : Later a b) (k : Later b c) : Later a c := Below.trans h (Below.mono k (Below.size h))
theorem Later.alloc {a b : World} (h : Later a b) (o : Obj) : Later a (b.alloc o) := Below.alloc h (Below.size h) o
theorem Later.drew {a b : World} (h : Later a b) : Later a b.drew := Below.drew h
theorem Later.block {a b : World} (h : Later a b) {k : Nat} {o : Obj} (hk : a.heap[k]? = some o) : b.heap[k]? = some o := (Below.block h k (lt_of_block hk)).trans hk
theorem Later.of {a b : World} (h : Below a.heap.size a b) : Later a b := h
theorem Later.out {a b : World} (h : Later a b) : Below a.heap.size a b := h
theorem Later.cell {a b : World} (h : Later a b) {p : Addr} {v : Value} (hp : a.cell? p = some v) : b.cell? p = some v := (Below.cell h (World.block_lt_of_cell? _ _ hp)).trans hp
theorem Later.drewN {a b : World} (h : Later a b) (n : Nat) : Later a (b.drewN n) := below_drewN h n
theorem Later.grown {a b c : World} (h : Later a b) {row : Option Nat} (hg : b.grownBy c row) (hr : ∀ k, row = some k → a.heap.size ≤ k) : Later a c := Below.grown h hg (Below.size h) hr
theorem alloc_at {w : World} {o : Obj} {k : Nat} (h : w.heap.size = k) : (w.alloc o).heap[k]? = some o := by subst h; exact alloc_block w o
theorem drew_block {w : World} {k : Nat} {o : Obj} (h : w.heap[k]? = some o) : w.drew.heap[k]? = some o := h
end Go.Proofs.YtbchkjfnakabkaaGreatDoor
