/- The walks of TrailingZeros64 and done; the lowest bit taken off. -/
import Derived.Test.YtaelkjffidjcjaaDoorLaid
import Derived.Test.YtaelkjffidjcjaaDoorPut
import Derived.Shelf.Spec.TrailingZeros
set_option linter.unusedSimpArgs false
set_option linter.unusedVariables false
namespace Go.Proofs.YtaelkjffidjcjaaDoor
open Go.RowKit PX

set_option maxHeartbeats 1000000 in
theorem tz64_core (x k idx : Nat) (w : World) (hx0 : ((x : Int) == 0) = false)
    (key : IntKind.u64.wrap (bits BinOp.and IntKind.u64 (x : Int) (IntKind.u64.wrap (-(x : Int))) * 285870213051353865) / 288230376151711744 = (idx : Int))
    (hi : idx < 64) (hk : k < 64) (hcell : w.cell? ⟨0, idx, none⟩ = some (.int .u8 k)) :
    Calls Tryd.prog 53 #[.int .u64 x] w fun e w' => e = .returned (.int .i64 k) ∧ w' = w := by
  go_enter Tryd.func53, Tryd.ntmps53
  go_wp2_with (simp only [key])
  go_ret
  exact ⟨rfl, rfl⟩

/-- math/bits.TrailingZeros64, of a word that is not 0. -/
theorem tz64_any (x : Nat) (hx : x < 18446744073709551616) (hx0 : x ≠ 0) (w : World) (hT : TabAt 0 Lib.deBruijn64tab w) :
    Calls Tryd.prog 53 #[.int .u64 x] w fun e w' => e = .returned (.int .i64 (Lib.ctz 64 x)) ∧ w' = w := by
  obtain ⟨hlow, hk⟩ := Lib.lowest_bit 64 x hx0 hx
  obtain ⟨hi, htab⟩ := Lib.deBruijn64_at _ hk
  have hcell := hT _ hi
  rw [htab] at hcell
  exact tz64_core x _ _ w (by simp; omega) (tz64_key x _ hx hx0 hlow) hi hk hcell

/-- The lowest bit is there; without it the others stand. -/
theorem lowest_off (x : Nat) (hx : x < 18446744073709551616) (hx0 : x ≠ 0) :
    x.testBit (Lib.ctz 64 x) = true ∧ (∀ j, (x &&& (x - 1)).testBit j = (x.testBit j && decide (j ≠ Lib.ctz 64 x))) ∧ (x &&& (x - 1)) < x := by
  have hc : Lib.ctz 64 x = Lib.ctzFrom 64 x := by rw [Lib.ctz, if_neg hx0]
  obtain ⟨m, hm, -⟩ := Lib.ctzFrom_spec 64 x (by omega) (by omega)
  rw [hc]
  generalize Lib.ctzFrom 64 x = c at hm
  have hp := Nat.two_pow_pos c
  have e1 : x = 2 ^ c * (2 * m + 1) + 0 := by omega
  have e2 : x - 1 = 2 ^ c * (2 * m) + (2 ^ c - 1) := by
    rw [hm, Nat.mul_add]; omega
  have b1 : ∀ j, x.testBit j = if j < c then false else (2 * m + 1).testBit (j - c) := by
    intro j
    rw [e1, Nat.testBit_two_pow_mul_add _ hp]
    simp
  have b2 : ∀ j, (x - 1).testBit j = if j < c then (2 ^ c - 1).testBit j else (2 * m).testBit (j - c) := by
    intro j
    rw [e2, Nat.testBit_two_pow_mul_add _ (by omega)]
  refine ⟨by rw [b1]; simp, fun j => ?_, Nat.lt_of_le_of_lt Nat.and_le_right (by omega)⟩
  rw [Nat.testBit_and, b1, b2]
  by_cases h1 : j < c
  · simp [h1]
  · by_cases h2 : j = c
    · subst h2; simp
    · obtain ⟨n, hn⟩ : ∃ n, j - c = n + 1 := ⟨j - c - 1, by omega⟩
      rw [if_neg h1, if_neg h1, hn, Nat.testBit_succ, Nat.testBit_succ]
      have q1 : (2 * m + 1) / 2 = m := by omega
      have q2 : 2 * m / 2 = m := by omega
      rw [q1, q2]
      simp [h2]

theorem off_u64 (x : Nat) (hx : x < 18446744073709551616) (hx0 : x ≠ 0) : bits BinOp.and IntKind.u64 (x : Int) (IntKind.u64.wrap ((x : Int) - 1)) = ((x &&& (x - 1) : Nat) : Int) := by
  have e : IntKind.u64.wrap ((x : Int) - 1) = ((x - 1 : Nat) : Int) := by rw [IntKind.wrap_u64]; omega
  rw [e, bits_and_u64_nat x _ hx (by omega)]

theorem wv_length (ws : List Int) : (wv ws).length = ws.length := by simp [wv]
theorem info_many : ((Tryd.prog.info? 66).map (·.size)) = some 12 := by kernel_rfl

set_option maxRecDepth 100000 in
set_option maxHeartbeats 1000000 in
theorem done_core (w : World) (cs : Array Value) (W : Int) (hcell : (w.alloc (.cells cs 66)).cell? ⟨w.heap.size, 0, none⟩ = some (.int .u64 W)) :
    Calls Tryd.prog 43 #[.agg cs] w fun e w' => e = .returned (.bool (bits BinOp.and IntKind.u64 W 1 == 1)) ∧ Below w.heap.size w w' := by
  go_enter Tryd.func43, Tryd.ntmps43
  go_wp2_with fail
  go_ret
  exact ⟨rfl, (Below.refl w.heap.size w).alloc (Nat.le_refl _) _⟩

/-- done: is the state 0 in a set? -/
theorem done_any (w : World) (ws : List Int) (hw : Words ws) :
    Calls Tryd.prog 43 #[.agg (wv ws).toArray] w fun e w' => e = .returned (.bool (bitW ws 0)) ∧ Below w.heap.size w w' := by
  have h0 := word_get hw 0 (by omega)
  have hb := bit_test (ws[0]?.getD 0) 0 h0.2
  have e : (bits BinOp.and IntKind.u64 (ws[0]?.getD 0) 1 == 1) = bitW ws 0 := by simpa [bitW] using hb
  have hc : (wv ws)[0]? = some (.int .u64 (ws[0]?.getD 0)) := by rw [wv, List.getElem?_map, h0.1]; rfl
  have h := done_core w (wv ws).toArray (ws[0]?.getD 0) (by rw [World.cell?_alloc_at _ _ _ _ rfl]; simpa using hc)
  rw [e] at h
  exact h
end Go.Proofs.YtaelkjffidjcjaaDoor
