/- B3, merged: Set Put Add LaidL LaidA LaidB LaidC Laid Tx. -/
import Derived.Test.YtbchkjfnakabkaaGreatDoorB2
import Derived.Laws.Bits64b
import Derived.BigRegion
import Derived.Deep.LoopGhost
import Derived.Deep.QuietTactic
import Derived.BigQuiet
set_option linter.unusedSimpArgs false
set_option linter.unusedVariables false
/- Sets of states as twelve words; the law of put. -/
namespace Go.Proofs.YtbchkjfnakabkaaGreatDoor
open Go.RowKit PX

def bitW (ws : List Int) (i : Nat) : Bool := ((ws[i / 64]?.getD 0).toNat).testBit (i % 64)
theorem or_bit (W : Int) (k : Nat) (hW : 0 ≤ W ∧ W < 18446744073709551616) (hk : k < 64) : bits BinOp.or IntKind.u64 W (IntKind.u64.wrap (2 ^ k)) = orBit W k := by
  obtain ⟨m, rfl⟩ := Int.eq_ofNat_of_zero_le hW.1
  have h2 : 2 ^ k < 2 ^ 64 := Nat.pow_lt_pow_right (by omega) hk
  have e0 : ((2 : Int) ^ k) = ((2 ^ k : Nat) : Int) := by simp
  unfold orBit
  rw [e0, Int.toNat_natCast]
  generalize 2 ^ k = N at h2 ⊢
  have e1 : IntKind.u64.wrap (N : Int) = (N : Int) := by rw [IntKind.wrap_u64]; omega
  rw [e1, bits_or_u64_nat m N (by omega) (by omega)]

end Go.Proofs.YtbchkjfnakabkaaGreatDoor

/- The walk of (*Machine).put. -/
namespace Go.Proofs.YtbchkjfnakabkaaGreatDoor
open Go.RowKit PX

/-- States as they are read: a slice over a row. -/
structure StatesAt (w : World) (v : Value) (g : List St) : Prop where
  ex : ∃ gb cap, v = .slice (some ⟨gb, 0, none⟩) g.length cap ∧ g.length ≤ cap ∧ cap ≤ 9223372036854775807 ∧
    ∀ (i : Nat) (st : St), g[i]? = some st → ∀ j, j < 7 → w.cell? ⟨gb, i * 7 + j, none⟩ = (stCells st)[j]?

end Go.Proofs.YtbchkjfnakabkaaGreatDoor

/- The walk of (*Machine).add. -/
namespace Go.Proofs.YtbchkjfnakabkaaGreatDoor
open Go.RowKit PX

end Go.Proofs.YtbchkjfnakabkaaGreatDoor

/- What (*Machine).laid does, plain facts about it: rounds, bounds. -/
namespace Go.Proofs.YtbchkjfnakabkaaGreatDoor
open Go.RowKit PX

end Go.Proofs.YtbchkjfnakabkaaGreatDoor

/- The walks of (*Machine).laid: a set, a row. -/
namespace Go.Proofs.YtbchkjfnakabkaaGreatDoor
open Go.RowKit PX

end Go.Proofs.YtbchkjfnakabkaaGreatDoor

/- The walks of (*Machine).laid: an alternative. -/
namespace Go.Proofs.YtbchkjfnakabkaaGreatDoor
open Go.RowKit PX

end Go.Proofs.YtbchkjfnakabkaaGreatDoor

/- The walks of (*Machine).laid: a repetition (printed by a program of ours, gen_laidc.py: the two last loops' text is one, used three times). -/
namespace Go.Proofs.YtbchkjfnakabkaaGreatDoor
open Go.RowKit PX

end Go.Proofs.YtbchkjfnakabkaaGreatDoor

/- laid: every expression that may be; the sets. -/
namespace Go.Proofs.YtbchkjfnakabkaaGreatDoor
open Go.RowKit PX

end Go.Proofs.YtbchkjfnakabkaaGreatDoor

/- Plain laws on expressions turned end for end. -/
namespace Go.Proofs.YtbchkjfnakabkaaGreatDoor.PX

mutual
/-- The expression with its rows turned. -/
def Rx.turned : Rx → Rx
  | .node k mn mx s0 s1 s2 s3 l => .node k mn mx s0 s1 s2 s3 (if k = 1 then (turnedAll l).reverse else turnedAll l)
def turnedAll : List Rx → List Rx
  | [] => []
  | x :: xs => x.turned :: turnedAll xs
end
end Go.Proofs.YtbchkjfnakabkaaGreatDoor.PX
