/- Jg18, merged: J65 J66 J67 J68. -/
import Derived.Test.YtfpbocjmlhcgiaaGreatDoorJg17
import Derived.Laws.MakeOwn
import Derived.Deep.AppendLies
set_option linter.unusedSimpArgs false
set_option linter.unusedVariables false
/- The law's small functions: noughts, place, Pad, same. -/
namespace Go.Proofs.YtfpbocjmlhcgiaaGreatDoor
open Go.RowKit PJ Go.Maps

def zs (n : Nat) : List UInt8 := List.replicate n 0
theorem make_z (W : World) (n : Nat) (hn : n ≤ 100000) : (Instr.makeSlice 99 (.int .i64 (n : Int)) (.int .i64 (n : Int))).run Tryz.prog W = .ok (.slice (some ⟨W.heap.size, 0, none⟩) n n) (W.alloc (.cells (bys (zs n)).toArray 5)) := by
  obtain ⟨i0, hi, hz0, hz1, hz2⟩ := info_parts info_u8
  have h := run_makeSlice (P := Tryz.prog) W 99 5 i0 (.int .u8 0) Tryz.underlying99 hi hz0 .i64 .i64 (n : Int) (n : Int) (by omega) (by omega) (by rw [hz1]; omega) (by rw [hz2]; omega) (by omega)
  have e : (n : Int).toNat = n := by omega
  have e2 : madeCells (Value.int .u8 0).cells (n * 1) = (bys (zs n)).toArray := by
    apply Array.toList_inj.1
    rw [show (Value.int .u8 0).cells = #[.int .u8 0] from rfl, toList_madeCells_one, Nat.mul_one]
    unfold bys zs
    simp
  rw [hz1, e, e2] at h
  exact h
theorem conv_z (W : World) (n : Nat) : (convert 99 9 (.slice (some ⟨W.heap.size, 0, none⟩) n n)).run Tryz.prog (W.alloc (.cells (bys (zs n)).toArray 5)) = .ok (.string ⟨(zs n).toArray⟩) (W.alloc (.cells (bys (zs n)).toArray 5)) := by
  have h := run_convert_bytes_back (W.alloc (.cells (bys (zs n)).toArray 5)) 99 9 5 ⟨W.heap.size, 0, none⟩ n (zs n) Tryz.underlying99 Tryz.underlying5 Tryz.underlying9 (fun j hj => by
    refine cells_newJ W (bys (zs n)) 5 j _ ?_
    simp [bys, hj])
  have e : (zs n).length = n := by simp [zs]
  rw [e] at h
  exact h
end Go.Proofs.YtfpbocjmlhcgiaaGreatDoor
/- The law's laid: a journal on a new disk. -/
namespace Go.Proofs.YtfpbocjmlhcgiaaGreatDoor
open Go.RowKit PJ Go.Maps

/-- What has been laid since. -/
def since (w w' : World) : Nat → Prop := fun q => w.heap.size ≤ q ∧ q < w'.heap.size
/-- A device on a new disk. -/
def NewDev (w : World) (n : Nat) (p b : Nat) (w' : World) : Prop := LJ w w' ∧ ∃ g mb R V, DevAt w' p g mb b n 4 R (since w w') V V false
theorem NewDev.born {w w1 w2 w3 : World} {n p g mb : Nat} {safe : List UInt8} (hl1 : LJ w w1) (hl2 : LJ w1 w2) (hd : DiskAt w2 p g mb n safe (fun _ => none)) (hp : w1.heap.size ≤ p) (hg : w1.heap.size ≤ g) (hm : w1.heap.size ≤ mb) (hpl : p < w2.heap.size) (hgl : g < w2.heap.size) (hml : mb < w2.heap.size) (hl3 : LJ w2 w3) (hb : w3.heap[w2.heap.size]? = some (.cells (devCells p 0 n 4 (.slice none 0 0) 0) 105 (0, 0))) :
    NewDev w n p w2.heap.size w3 := by
  have s1 := Below.size hl1
  have s2 := Below.size hl2
  have s3 := Below.size hl3
  refine ⟨hl1.trans (hl2.trans hl3), g, mb, _, _, (DevAt.fresh (F := since w w2) hd hl3 hb (by omega) (fun i hi => rfl) ⟨by omega, hpl⟩ ⟨by omega, hgl⟩ ⟨by omega, hml⟩ (fun q hq => hq.2)).wide ?_ (fun q hq => hq.2)⟩
  rintro q (hq | hq)
  · exact ⟨hq.1, by have := hq.2; omega⟩
  · exact ⟨by omega, hq.2⟩
end Go.Proofs.YtfpbocjmlhcgiaaGreatDoor
/- The law's read: all cells. -/
namespace Go.Proofs.YtfpbocjmlhcgiaaGreatDoor
open Go.RowKit PJ Go.Maps

/-- A footprint that is another one's, and what has been laid since. -/
def Near (w : World) (F F' : Nat → Prop) : Prop := ∀ q, F' q → q < w.heap.size → F q
theorem Near.grow {w w1 w2 : World} {F F' : Nat → Prop} (h : Near w F F') (hs : w.heap.size ≤ w1.heap.size) : Near w F (grow F' w1 w2) := by
  rintro q (e | e) hq
  · exact h q e hq
  · omega
theorem OnlyJ.row {w w' : World} {row : Option Nat} (h : w.grownBy w' row) : OnlyJ (fun q => some q = row) w w' := ⟨h.os, h.tape, h.output, h.size, fun q hq hne => h.block q hq hne⟩
def Jn.firstCells (J : Jn) (c : Nat) : List (List UInt8) := (List.range c).map J.cell
theorem Jn.read_eq (J : Jn) : J.read = J.firstCells (J.n - J.area) := rfl
end Go.Proofs.YtfpbocjmlhcgiaaGreatDoor
/- The law's behind: the cells behind a transaction. -/
namespace Go.Proofs.YtfpbocjmlhcgiaaGreatDoor
open Go.RowKit PJ Go.Maps

end Go.Proofs.YtfpbocjmlhcgiaaGreatDoor
