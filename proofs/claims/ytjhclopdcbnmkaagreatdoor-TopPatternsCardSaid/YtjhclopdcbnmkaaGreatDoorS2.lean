/- The printer's has and told. -/
import Derived.Test.YtjhclopdcbnmkaaGreatDoorS1
import Derived.RegionTactic
import Derived.Laws.IdiomStrings
set_option linter.unusedSimpArgs false
set_option linter.unusedVariables false
namespace Go.Proofs.YtjhclopdcbnmkaaGreatDoor
open Go.RowKit PX

set_option maxRecDepth 100000 in
set_option maxHeartbeats 1000000 in
theorem phas_in (w : World) (s0 s1 s2 s3 : Int) (h0 : U64 s0) (h1 : U64 s1) (h2 : U64 s2) (h3 : U64 s3) (b : Nat) (hb : b < 256) :
    Calls Tryz.prog 69 #[.agg #[.int .u64 s0, .int .u64 s1, .int .u64 s2, .int .u64 s3], .int .i64 b] w fun e w' => e = .returned (.bool (hasB s0 s1 s2 s3 b)) ∧ Later w w' := by
  obtain ⟨w1, hw1⟩ : ∃ w1, w.alloc (.cells #[.int .u64 s0, .int .u64 s1, .int .u64 s2, .int .u64 s3] 23) = w1 := ⟨_, rfl⟩
  have hblk : w1.heap[w.heap.size]? = some (.cells #[.int .u64 s0, .int .u64 s1, .int .u64 s2, .int .u64 s3] 23 (0, 0)) := by rw [← hw1]; exact alloc_block w _
  have hl : Later w w1 := by rw [← hw1]; exact (Later.refl w).alloc _
  have hword : 0 ≤ word s0 s1 s2 s3 b ∧ word s0 s1 s2 s3 b < 18446744073709551616 := by
    unfold U64 at h0 h1 h2 h3
    unfold word; split; omega; split; omega; split <;> omega
  have hea := eats_bit s0 s1 s2 s3 b hb hword
  rw [show (UInt8.ofNat b).toNat = b by simp [UInt8.toNat_ofNat']; omega] at hea
  have hbw : w1.cell? ⟨w.heap.size, b / 64, none⟩ = some (.int .u64 (word s0 s1 s2 s3 b)) := by
    have hb4 : b / 64 = 0 ∨ b / 64 = 1 ∨ b / 64 = 2 ∨ b / 64 = 3 := by omega
    rw [cell_of_block hblk]
    rcases hb4 with h | h | h | h <;> rw [h] <;> simp only [word]
    · rw [if_pos (by omega)]; rfl
    · rw [if_neg (by omega), if_pos (by omega)]; rfl
    · rw [if_neg (by omega), if_neg (by omega), if_pos (by omega)]; rfl
    · rw [if_neg (by omega), if_neg (by omega), if_neg (by omega)]; rfl
  obtain ⟨W, hW⟩ : ∃ W, word s0 s1 s2 s3 b = W := ⟨_, rfl⟩
  rw [hW] at hea hbw hword
  obtain ⟨hw0, hwm⟩ := hword
  obtain ⟨r, hr⟩ : ∃ r, hasB s0 s1 s2 s3 b = r := ⟨_, rfl⟩
  rw [hr] at hea ⊢
  have i1 : (b : Int) / 64 < 4 := by omega
  have i2 : (0 : Int) ≤ (b : Int) / 64 := by omega
  have i3 : (b : Int) % 64 < 64 := by omega
  have i4 : (0 : Int) ≤ (b : Int) % 64 := by omega
  have hb2 : (b : Int) ≤ 255 := by omega
  have hb3 : (b : Int) < 256 := by omega
  have hb0 : (0 : Int) ≤ (b : Int) := by omega
  have h63 : Go.bits .and .i64 (b : Int) 63 = (b : Int) % 64 := by rw [and63 b hb]; omega
  have HL := Lib.hid hl
  have HW1 := Lib.hid hw1
  clear hW hr hblk hl hw1 h0 h1 h2 h3
  go_enter Tryz.func69, Tryz.ntmps69
  go_upto_region 1 with fail
  rw [HW1.out]
  clear HW1
  go_wp2_with fail
  go_ret
  exact ⟨rfl, HL.out⟩
set_option maxRecDepth 100000 in
theorem phas_end (w : World) (v0 v1 v2 v3 : Value) :
    Calls Tryz.prog 69 #[.agg #[v0, v1, v2, v3], .int .i64 256] w fun e w' => e = .returned (.bool false) ∧ Later w w' := by
  go_enter Tryz.func69, Tryz.ntmps69
  go_wp2_with fail
  go_ret
  exact ⟨rfl, (Later.refl w).alloc _⟩
theorem phas_any (w : World) (q : Q4) (hq : U64 q.a ∧ U64 q.b ∧ U64 q.c ∧ U64 q.d) (b : Nat) (hb : b ≤ 256) :
    Calls Tryz.prog 69 #[.agg #[.int .u64 q.a, .int .u64 q.b, .int .u64 q.c, .int .u64 q.d], .int .i64 b] w fun e w' => e = .returned (.bool (hasN q.has b)) ∧ Later w w' := by
  by_cases h : b < 256
  · refine (phas_in w q.a q.b q.c q.d hq.1 hq.2.1 hq.2.2.1 hq.2.2.2 b h).mono ?_
    rintro e w' ⟨rfl, hl⟩
    refine ⟨?_, hl⟩
    unfold hasN
    rw [decide_eq_true h]
    rfl
  · obtain rfl : b = 256 := by omega
    refine (phas_end w _ _ _ _).mono ?_
    rintro e w' ⟨rfl, hl⟩
    refine ⟨?_, hl⟩
    unfold hasN
    rfl
/-- A string of one byte, of two. -/
theorem conv_bytes (W : World) (l : List UInt8) (cs : Array Value) (hcs : cs = (Lib.byteCells l).toArray) : (convert 58 9 (.slice (some ⟨W.heap.size, 0, none⟩) l.length l.length)).run Tryz.prog (W.alloc (.cells cs 5)) = .ok (.string ⟨l.toArray⟩) (W.alloc (.cells cs 5)) := by
  refine run_convert_bytes_back _ _ _ 5 ⟨W.heap.size, 0, none⟩ l.length l Tryz.underlying58 Tryz.underlying5 Tryz.underlying9 (fun j hj => ?_)
  rw [addr_add_none, Nat.zero_add, cell_of_block (alloc_block W _), hcs]
  simp [Lib.byteCells, hj]
theorem and15 (n : Nat) (hn : n < 256) : Go.bits .and .i64 (n : Int) 15 = ((n % 16 : Nat) : Int) := by
  have key : ∀ n : Nat, n < 256 → Go.bits .and .i64 (n : Int) 15 = ((n % 16 : Nat) : Int) := by decide +kernel
  exact key n hn
theorem ret_str {a b : ByteArray} (h : a = b) : Ending.returned (.string a) = .returned (.string b) := by rw [h]
set_option maxRecDepth 100000 in
set_option maxHeartbeats 2000000 in
theorem ptold_any (w : World) (c : UInt8) : Calls Tryz.prog 71 #[.int .i64 (c.toNat : Int)] w fun e w' => e = .returned (.string ⟨(escB c.toNat).toArray⟩) ∧ Later w w' := by
  have hlt : c.toNat < 256 := UInt8.toNat_lt c
  have hcc : UInt8.ofNat c.toNat = c := by simp
  obtain ⟨S, hS⟩ : ∃ S : ByteArray, (⟨(escB c.toNat).toArray⟩ : ByteArray) = S := ⟨_, rfl⟩
  rw [hS]
  have HIDX := Lib.hid (fun w1 => index_call ⟨#[92, 46, 91, 93, 40, 41, 124, 42, 43, 63, 123, 125, 94, 45]⟩ c w1)
  have hconv : ∀ W : World, (convert 58 9 (.slice (some ⟨W.heap.size, 0, none⟩) 1 1)).run Tryz.prog (W.alloc (.cells #[.int .u8 (c.toNat : Int)] 5)) = .ok (.string ⟨#[c]⟩) (W.alloc (.cells #[.int .u8 (c.toNat : Int)] 5)) := fun W => conv_bytes W [c] _ rfl
  have hc255 : (c.toNat : Int) ≤ 255 := by omega
  have hc0 : (0 : Int) ≤ (c.toNat : Int) := by omega
  by_cases hm : c ∈ meaningL
  · have hs : S = ⟨#[92]⟩ ++ ⟨#[c]⟩ := by
      rw [← hS]
      unfold escB
      rw [hcc, if_pos hm]
      rfl
    have HS := Lib.hid hs
    have HM := Lib.hid hm
    clear hs hS hm hlt hcc
    go_enter Tryz.func71, Tryz.ntmps71
    go_wp2_with (first
      | (go_at_call 87; refine (HIDX.out _).mono ?_; rintro e w1 ⟨rfl, n, rfl, hn⟩; have hn0 : 0 ≤ n := (by have h := hn.1; rcases Int.lt_or_le n 0 with h' | h'; exact absurd HM.out (h h'); exact h'); clear hn)
      | fail)
    go_ret
    exact ⟨ret_str HS.out.symm, (by repeat (first | assumption | exact Later.refl _ | refine Later.alloc ?_ _ | refine Later.drew ?_ | refine Later.trans ?_ (by assumption)))⟩
  · by_cases hp : 32 ≤ (c.toNat : Int) ∧ (c.toNat : Int) ≤ 126
    · have hs : S = ⟨#[c]⟩ := by
        rw [← hS]
        unfold escB
        rw [hcc, if_neg hm, if_pos (by omega)]
      have HS := Lib.hid hs
      have HM := Lib.hid hm
      obtain ⟨hp1, hp2⟩ := hp
      clear hs hS hm hlt hcc
      go_enter Tryz.func71, Tryz.ntmps71
      go_wp2_with (first
        | (go_at_call 87; refine (HIDX.out _).mono ?_; rintro e w1 ⟨rfl, n, rfl, hn⟩; have hn0 : n < 0 := hn.2 HM.out; clear hn)
        | fail)
      go_ret
      exact ⟨ret_str HS.out.symm, (by repeat (first | assumption | exact Later.refl _ | refine Later.alloc ?_ _ | refine Later.drew ?_ | refine Later.trans ?_ (by assumption)))⟩
    · have hs : S = ⟨#[92, 120]⟩ ++ ⟨#[hexd (c.toNat / 16), hexd (c.toNat % 16)]⟩ := by
        rw [← hS]
        unfold escB
        rw [hcc, if_neg hm, if_neg (by omega)]
        rfl
      obtain ⟨d1, hd1⟩ : ∃ d1, hexd (c.toNat / 16) = d1 := ⟨_, rfl⟩
      obtain ⟨d2, hd2⟩ : ∃ d2, hexd (c.toNat % 16) = d2 := ⟨_, rfl⟩
      have hdig : ∀ n : Nat, n < 16 → ∀ w : World, (Instr.index 9 (.string ⟨#[48, 49, 50, 51, 52, 53, 54, 55, 56, 57, 97, 98, 99, 100, 101, 102]⟩) (.int .i64 (n : Int))).run Tryz.prog w = .ok (.int .u8 ((hexd n).toNat : Int)) w := by
        intro n hn w
        rcases (by omega : n = 0 ∨ n = 1 ∨ n = 2 ∨ n = 3 ∨ n = 4 ∨ n = 5 ∨ n = 6 ∨ n = 7 ∨ n = 8 ∨ n = 9 ∨ n = 10 ∨ n = 11 ∨ n = 12 ∨ n = 13 ∨ n = 14 ∨ n = 15) with rfl | rfl | rfl | rfl | rfl | rfl | rfl | rfl | rfl | rfl | rfl | rfl | rfl | rfl | rfl | rfl <;> kernel_rfl
      have hi1 := hdig (c.toNat / 16) (by omega)
      have hi2 := hdig (c.toNat % 16) (by omega)
      rw [hd1] at hi1 hs
      rw [hd2] at hi2 hs
      rw [show ((c.toNat / 16 : Nat) : Int) = (c.toNat : Int) / 16 by omega] at hi1
      rw [show ((c.toNat % 16 : Nat) : Int) = (c.toNat : Int) % 16 by omega] at hi2
      have hconv2 : ∀ W : World, (convert 58 9 (.slice (some ⟨W.heap.size, 0, none⟩) 2 2)).run Tryz.prog (W.alloc (.cells #[.int .u8 (d1.toNat : Int), .int .u8 (d2.toNat : Int)] 5)).drew = .ok (.string ⟨#[d1, d2]⟩) (W.alloc (.cells #[.int .u8 (d1.toNat : Int), .int .u8 (d2.toNat : Int)] 5)).drew := fun W => conv_bytes W.drew [d1, d2] _ rfl
      have h15 : Go.bits .and .i64 (c.toNat : Int) 15 = (c.toNat : Int) % 16 := by rw [and15 _ hlt]; omega
      have HS := Lib.hid hs
      have HM := Lib.hid hm
      have HP := Lib.hid hp
      obtain ⟨z, hz⟩ : ∃ z : Int, (c.toNat : Int) = z := ⟨_, rfl⟩
      obtain ⟨z1, hz1⟩ : ∃ z : Int, (d1.toNat : Int) = z := ⟨_, rfl⟩
      obtain ⟨z2, hz2⟩ : ∃ z : Int, (d2.toNat : Int) = z := ⟨_, rfl⟩
      rw [hz] at hi1 hi2 hc0 hc255 HP HIDX h15 ⊢
      rw [hz1] at hi1 hconv2
      rw [hz2] at hi2 hconv2
      have hpp : (z < 32) ∨ (32 ≤ z ∧ 126 < z) := by have := HP.out; omega
      clear hs hS hm hlt hcc hd1 hd2 hdig hz hz1 hz2 hconv hp
      rcases hpp with hpa | ⟨hpa, hpb⟩
      all_goals
        go_enter Tryz.func71, Tryz.ntmps71
        go_upto_region 5 with (first
          | (go_at_call 87; refine (HIDX.out _).mono ?_; rintro e w1 ⟨rfl, n, rfl, hn⟩; have hn0 : n < 0 := hn.2 HM.out; clear hn)
          | fail)
        go_region
        all_goals
          go_wp2_with fail
          go_ret
          exact ⟨ret_str HS.out.symm, (by repeat (first | assumption | exact Later.refl _ | refine Later.alloc ?_ _ | refine Later.drew ?_ | refine Later.trans ?_ (by assumption)))⟩
end Go.Proofs.YtjhclopdcbnmkaaGreatDoor
