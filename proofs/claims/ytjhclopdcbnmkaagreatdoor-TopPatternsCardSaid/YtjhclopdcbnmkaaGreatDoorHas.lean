/- The walk of the document's Has. -/
import Derived.Test.YtjhclopdcbnmkaaGreatDoorThru
set_option linter.unusedSimpArgs false
set_option linter.unusedVariables false
namespace Go.Proofs.YtjhclopdcbnmkaaGreatDoor
open Go.RowKit PX

set_option maxRecDepth 100000 in
set_option maxHeartbeats 1000000 in
theorem has_any (w : World) (s0 s1 s2 s3 : Int) (h0 : U64 s0) (h1 : U64 s1) (h2 : U64 s2) (h3 : U64 s3) (b : Nat) (hb : b < 256) :
    Calls Tryz.prog 67 #[.agg #[.int .u64 s0, .int .u64 s1, .int .u64 s2, .int .u64 s3], .int .i64 b] w fun e w' => e = .returned (.bool (hasB s0 s1 s2 s3 b)) ∧ Later w w' := by
  obtain ⟨w1, hw1⟩ : ∃ w1, w.alloc (.cells #[.int .u64 s0, .int .u64 s1, .int .u64 s2, .int .u64 s3] 23) = w1 := ⟨_, rfl⟩
  have hblk : w1.heap[w.heap.size]? = some (.cells #[.int .u64 s0, .int .u64 s1, .int .u64 s2, .int .u64 s3] 23 (0, 0)) := by rw [← hw1]; exact alloc_block w _
  have hl : Later w w1 := by rw [← hw1]; exact (Later.refl w).alloc _
  have hword : 0 ≤ word s0 s1 s2 s3 b ∧ word s0 s1 s2 s3 b < 18446744073709551616 := by
    unfold U64 at h0 h1 h2 h3
    unfold word; split; omega; split; omega; split <;> omega
  have hea := eats_bit s0 s1 s2 s3 b hb hword
  rw [show (UInt8.ofNat b).toNat = b by simp [UInt8.toNat_ofNat']; omega] at hea
  have hbw : w1.cell? ⟨w.heap.size, b / 64, none⟩ = some (.int .u64 (word s0 s1 s2 s3 b)) := by
    have hb4 : b / 64 = 0 ∨ b / 64 = 1 ∨ b / 64 = 2 ∨ b / 64 = 3 := by omega
    rw [cell_of_block hblk]
    rcases hb4 with h | h | h | h <;> rw [h] <;> simp only [word]
    · rw [if_pos (by omega)]; rfl
    · rw [if_neg (by omega), if_pos (by omega)]; rfl
    · rw [if_neg (by omega), if_neg (by omega), if_pos (by omega)]; rfl
    · rw [if_neg (by omega), if_neg (by omega), if_neg (by omega)]; rfl
  obtain ⟨W, hW⟩ : ∃ W, word s0 s1 s2 s3 b = W := ⟨_, rfl⟩
  rw [hW] at hea hbw hword
  obtain ⟨hw0, hwm⟩ := hword
  obtain ⟨r, hr⟩ : ∃ r, hasB s0 s1 s2 s3 b = r := ⟨_, rfl⟩
  rw [hr] at hea ⊢
  have i1 : (b : Int) / 64 < 4 := by omega
  have i2 : (0 : Int) ≤ (b : Int) / 64 := by omega
  have i3 : (b : Int) % 64 < 64 := by omega
  have i4 : (0 : Int) ≤ (b : Int) % 64 := by omega
  have hb2 : (b : Int) ≤ 255 := by omega
  have HL := Lib.hid hl
  have HW1 := Lib.hid hw1
  clear hW hr hblk hl hw1 h0 h1 h2 h3
  go_enter Tryz.func67, Tryz.ntmps67
  go_upto_region 1 with fail
  rw [HW1.out]
  clear HW1
  go_wp2_with fail
  go_ret
  exact ⟨rfl, HL.out⟩
end Go.Proofs.YtjhclopdcbnmkaaGreatDoor
