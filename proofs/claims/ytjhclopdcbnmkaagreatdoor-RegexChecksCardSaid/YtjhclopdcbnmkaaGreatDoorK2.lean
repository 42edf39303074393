/- The document's printer's Byte and number, and its Size. -/
import Derived.Test.YtjhclopdcbnmkaaGreatDoorK1
import Derived.Test.YtjhclopdcbnmkaaGreatDoorQ3
import Derived.RegionTactic
set_option linter.unusedSimpArgs false
set_option linter.unusedVariables false
namespace Go.Proofs.YtjhclopdcbnmkaaGreatDoor
open Go.RowKit PX

theorem rin_prt (d : UInt8) (b : Bool) (h : decide (d ∈ meaningL) = b) (w : World) :
    Calls Tryz.prog 90 #[.string ⟨#[92, 46, 91, 93, 40, 41, 124, 42, 43, 63, 123, 125, 94, 45]⟩, .int .u8 d.toNat] w fun e w' => e = .returned (.bool b) ∧ w' = w := by
  have h1 := rin_any ⟨#[92, 46, 91, 93, 40, 41, 124, 42, 43, 63, 123, 125, 94, 45]⟩ d w (by decide)
  have h2 : inS ⟨#[92, 46, 91, 93, 40, 41, 124, 42, 43, 63, 123, 125, 94, 45]⟩ d = decide (d ∈ meaningL) := rfl
  rw [h2, h] at h1
  exact h1
set_option maxRecDepth 100000 in
set_option maxHeartbeats 2000000 in
theorem rbyte_any (w : World) (c : UInt8) : Calls Tryz.prog 76 #[.int .i64 (c.toNat : Int)] w fun e w' => e = .returned (.string ⟨(escB c.toNat).toArray⟩) ∧ Later w w' := by
  have hlt : c.toNat < 256 := UInt8.toNat_lt c
  have hcc : UInt8.ofNat c.toNat = c := by simp
  obtain ⟨S, hS⟩ : ∃ S : ByteArray, (⟨(escB c.toNat).toArray⟩ : ByteArray) = S := ⟨_, rfl⟩
  rw [hS]
  have hconv : ∀ W : World, (convert 58 9 (.slice (some ⟨W.heap.size, 0, none⟩) 1 1)).run Tryz.prog (W.alloc (.cells #[.int .u8 (c.toNat : Int)] 5)) = .ok (.string ⟨#[c]⟩) (W.alloc (.cells #[.int .u8 (c.toNat : Int)] 5)) := fun W => conv_bytes W [c] _ rfl
  have hc255 : (c.toNat : Int) ≤ 255 := by omega
  have hc0 : (0 : Int) ≤ (c.toNat : Int) := by omega
  by_cases hm : c ∈ meaningL
  · have HIN := Lib.hid (fun w1 => rin_prt c true (decide_eq_true hm) w1)
    have hs : S = ⟨#[92]⟩ ++ ⟨#[c]⟩ := by
      rw [← hS]
      unfold escB
      rw [hcc, if_pos hm]
      rfl
    have HS := Lib.hid hs
    obtain ⟨z, hz⟩ : ∃ z : Int, (c.toNat : Int) = z := ⟨_, rfl⟩
    rw [hz] at hconv hc255 hc0 HIN ⊢
    clear hs hS hm hlt hcc hz
    go_enter Tryz.func76, Tryz.ntmps76
    go_wp2_with (first
      | (go_at_call 90; (with_reducible refine (HIN.out _).mono ?_); rintro e w1 ⟨rfl, rfl⟩)
      | fail)
    go_ret
    exact ⟨ret_str HS.out.symm, (by repeat (first | assumption | exact Later.refl _ | refine Later.alloc ?_ _ | refine Later.drew ?_ | refine Later.trans ?_ (by assumption)))⟩
  · have HIN := Lib.hid (fun w1 => rin_prt c false (decide_eq_false hm) w1)
    by_cases hp : 32 ≤ (c.toNat : Int) ∧ (c.toNat : Int) ≤ 126
    · have hs : S = ⟨#[c]⟩ := by
        rw [← hS]
        unfold escB
        rw [hcc, if_neg hm, if_pos (by omega)]
      have HS := Lib.hid hs
      obtain ⟨hp1, hp2⟩ := hp
      obtain ⟨z, hz⟩ : ∃ z : Int, (c.toNat : Int) = z := ⟨_, rfl⟩
      rw [hz] at hconv hc255 hc0 HIN hp1 hp2 ⊢
      clear hs hS hm hlt hcc hz
      go_enter Tryz.func76, Tryz.ntmps76
      go_wp2_with (first
        | (go_at_call 90; (with_reducible refine (HIN.out _).mono ?_); rintro e w1 ⟨rfl, rfl⟩)
        | fail)
      go_ret
      exact ⟨ret_str HS.out.symm, (by repeat (first | assumption | exact Later.refl _ | refine Later.alloc ?_ _ | refine Later.drew ?_ | refine Later.trans ?_ (by assumption)))⟩
    · have hs : S = ⟨#[92, 120]⟩ ++ ⟨#[hexd (c.toNat / 16), hexd (c.toNat % 16)]⟩ := by
        rw [← hS]
        unfold escB
        rw [hcc, if_neg hm, if_neg (by omega)]
        rfl
      obtain ⟨d1, hd1⟩ : ∃ d1, hexd (c.toNat / 16) = d1 := ⟨_, rfl⟩
      obtain ⟨d2, hd2⟩ : ∃ d2, hexd (c.toNat % 16) = d2 := ⟨_, rfl⟩
      have hdig : ∀ n : Nat, n < 16 → ∀ w : World, (Instr.index 9 (.string ⟨#[48, 49, 50, 51, 52, 53, 54, 55, 56, 57, 97, 98, 99, 100, 101, 102]⟩) (.int .u8 (n : Int))).run Tryz.prog w = .ok (.int .u8 ((hexd n).toNat : Int)) w := by
        intro n hn w
        rcases (by omega : n = 0 ∨ n = 1 ∨ n = 2 ∨ n = 3 ∨ n = 4 ∨ n = 5 ∨ n = 6 ∨ n = 7 ∨ n = 8 ∨ n = 9 ∨ n = 10 ∨ n = 11 ∨ n = 12 ∨ n = 13 ∨ n = 14 ∨ n = 15) with rfl | rfl | rfl | rfl | rfl | rfl | rfl | rfl | rfl | rfl | rfl | rfl | rfl | rfl | rfl | rfl <;> kernel_rfl
      have hi1 := hdig (c.toNat / 16) (by omega)
      have hi2 := hdig (c.toNat % 16) (by omega)
      rw [hd1] at hi1 hs
      rw [hd2] at hi2 hs
      rw [show ((c.toNat / 16 : Nat) : Int) = (c.toNat : Int) / 16 by omega] at hi1
      rw [show ((c.toNat % 16 : Nat) : Int) = (c.toNat : Int) % 16 by omega] at hi2
      have hconv2 : ∀ W : World, (convert 58 9 (.slice (some ⟨W.heap.size, 0, none⟩) 2 2)).run Tryz.prog (W.alloc (.cells #[.int .u8 (d1.toNat : Int), .int .u8 (d2.toNat : Int)] 5)).drew = .ok (.string ⟨#[d1, d2]⟩) (W.alloc (.cells #[.int .u8 (d1.toNat : Int), .int .u8 (d2.toNat : Int)] 5)).drew := fun W => conv_bytes W.drew [d1, d2] _ rfl
      have HS := Lib.hid hs
      have HP := Lib.hid hp
      obtain ⟨z, hz⟩ : ∃ z : Int, (c.toNat : Int) = z := ⟨_, rfl⟩
      obtain ⟨z1, hz1⟩ : ∃ z : Int, (d1.toNat : Int) = z := ⟨_, rfl⟩
      obtain ⟨z2, hz2⟩ : ∃ z : Int, (d2.toNat : Int) = z := ⟨_, rfl⟩
      rw [hz] at hi1 hi2 hc0 hc255 HP HIN ⊢
      rw [hz1] at hi1 hconv2
      rw [hz2] at hi2 hconv2
      have hpp : (z < 32) ∨ (32 ≤ z ∧ 126 < z) := by have := HP.out; omega
      clear hs hS hm hlt hcc hd1 hd2 hdig hz hz1 hz2 hconv hp
      rcases hpp with hpa | ⟨hpa, hpb⟩
      all_goals
        go_enter Tryz.func76, Tryz.ntmps76
        go_upto_region 6 with (first
          | (go_at_call 90; (with_reducible refine (HIN.out _).mono ?_); rintro e w1 ⟨rfl, rfl⟩)
          | fail)
        go_region
        all_goals
          go_wp2_with fail
          go_ret
          exact ⟨ret_str HS.out.symm, (by repeat (first | assumption | exact Later.refl _ | refine Later.alloc ?_ _ | refine Later.drew ?_ | refine Later.trans ?_ (by assumption)))⟩
theorem rbyte_at (w : World) (k : Nat) (hk : k < 256) : Calls Tryz.prog 76 #[.int .i64 (k : Int)] w fun e w' => e = .returned (.string ⟨(escB k).toArray⟩) ∧ Later w w' := by
  have h := rbyte_any w (UInt8.ofNat k)
  rw [toNat_of hk] at h
  exact h
set_option maxRecDepth 100000 in
set_option maxHeartbeats 2000000 in
theorem rnumber_any (w : World) (n : Int) (h0 : 0 ≤ n) (h15 : n ≤ 15) : Calls Tryz.prog 48 #[.int .i64 n] w fun e w' => e = .returned (.string ⟨(numT n.toNat).toArray⟩) ∧ Later w w' := by
  obtain ⟨S, hS⟩ : ∃ S : ByteArray, (⟨(numT n.toNat).toArray⟩ : ByteArray) = S := ⟨_, rfl⟩
  rw [hS]
  by_cases h : n < 10
  · obtain ⟨c, hcz⟩ : ∃ c : UInt8, (c.toNat : Int) = 48 + n := ⟨UInt8.ofNat (48 + n).toNat, by rw [UInt8.toNat_ofNat']; omega⟩
    have hs : S = ⟨#[c]⟩ := by
      have : c = UInt8.ofNat (48 + n.toNat) := by apply UInt8.toNat_inj.1; rw [UInt8.toNat_ofNat']; omega
      rw [← hS, this]
      unfold numT
      rw [if_pos (by omega)]
    have hconv : ∀ W : World, (convert 58 9 (.slice (some ⟨W.heap.size, 0, none⟩) 1 1)).run Tryz.prog (W.alloc (.cells #[.int .u8 (48 + n)] 5)) = .ok (.string S) (W.alloc (.cells #[.int .u8 (48 + n)] 5)) := fun W => by
      rw [← hcz, hs]
      exact conv_bytes W [c] _ rfl
    clear hS hs hcz
    go_enter Tryz.func48, Tryz.ntmps48
    go_wp2_with fail
    go_ret
    exact ⟨rfl, (by repeat (first | assumption | exact Later.refl _ | refine Later.alloc ?_ _ | refine Later.drew ?_ | refine Later.trans ?_ (by assumption)))⟩
  · obtain ⟨c, hcz⟩ : ∃ c : UInt8, (c.toNat : Int) = 48 + n % 10 := ⟨UInt8.ofNat (48 + n % 10).toNat, by rw [UInt8.toNat_ofNat']; omega⟩
    obtain ⟨d, hdz⟩ : ∃ d : UInt8, (d.toNat : Int) = 48 + n / 10 := ⟨UInt8.ofNat (48 + n / 10).toNat, by rw [UInt8.toNat_ofNat']; omega⟩
    have hs : S = ⟨#[d, c]⟩ := by
      have h1 : c = UInt8.ofNat (48 + n.toNat % 10) := by apply UInt8.toNat_inj.1; rw [UInt8.toNat_ofNat']; omega
      have h2 : d = UInt8.ofNat (48 + n.toNat / 10) := by apply UInt8.toNat_inj.1; rw [UInt8.toNat_ofNat']; omega
      rw [← hS, h1, h2]
      unfold numT
      rw [if_neg (by omega)]
    have hconv : ∀ W : World, (convert 58 9 (.slice (some ⟨W.heap.size, 0, none⟩) 2 2)).run Tryz.prog (W.alloc (.cells #[.int .u8 (48 + n / 10), .int .u8 (48 + n % 10)] 5)) = .ok (.string S) (W.alloc (.cells #[.int .u8 (48 + n / 10), .int .u8 (48 + n % 10)] 5)) := fun W => by
      rw [← hcz, ← hdz, hs]
      exact conv_bytes W [d, c] _ rfl
    clear hS hs hcz hdz
    go_enter Tryz.func48, Tryz.ntmps48
    go_wp2_with fail
    go_ret
    exact ⟨rfl, (by repeat (first | assumption | exact Later.refl _ | refine Later.alloc ?_ _ | refine Later.drew ?_ | refine Later.trans ?_ (by assumption)))⟩
theorem rsizeF_any : SizeFOf 13 := by
  intro x w B hB hin
  have hcase : (x.bare.formB = false ∧ sizeR x.bare = 0) ∨ (x.bare.formB = true ∧ sizeR x.bare = x.bare.sizeI) := by
    unfold sizeR
    cases x.bare.formB
    · exact .inl ⟨rfl, rfl⟩
    · exact .inr ⟨rfl, rfl⟩
  rcases hcase with ⟨hf, h2⟩ | ⟨hf, h2⟩
  all_goals
    have HF := Lib.hid hf; clear hf
    have H2 := Lib.hid h2; clear h2
    obtain ⟨k, mn, mx, s0, s1, s2, s3, a, cap, l⟩ := x
    have HIN := Lib.hid (in_boxed (.cells #[.int .i64 k, .int .i64 mn, .int .i64 mx, .int .u64 s0, .int .u64 s1, .int .u64 s2, .int .u64 s3, .slice a l.length cap] 26) hB hin); clear hin
    show Calls Tryz.prog 13 #[.agg #[.int .i64 k, .int .i64 mn, .int .i64 mx, .int .u64 s0, .int .u64 s1, .int .u64 s2, .int .u64 s3, .slice a l.length cap]] w _
    go_enter Tryz.func13, Tryz.ntmps13
    go_wp2_with fail
    refine (rform_any _ _ B (by simp; omega) HIN.out).mono ?_
    rintro e w1 ⟨rfl, hb1⟩
    rw [HF.out]
    have hws := hb1.size
    simp only [World.size_alloc] at hws
    have hbw : Below w.heap.size w w1 := ((Below.refl _ _).alloc (Nat.le_refl _) _).trans (hb1.mono (by simp))
    have c0 := laid_cell hb1 (by simp) 0 (.int .i64 k) rfl
    have c1 := laid_cell hb1 (by simp) 1 (.int .i64 mn) rfl
    have c2 := laid_cell hb1 (by simp) 2 (.int .i64 mx) rfl
    have c3 := laid_cell hb1 (by simp) 3 (.int .u64 s0) rfl
    have c4 := laid_cell hb1 (by simp) 4 (.int .u64 s1) rfl
    have c5 := laid_cell hb1 (by simp) 5 (.int .u64 s2) rfl
    have c6 := laid_cell hb1 (by simp) 6 (.int .u64 s3) rfl
    have c7 := laid_cell hb1 (by simp) 7 (.slice a l.length cap) rfl
    go_wp2_with fail
  · go_ret
    exact ⟨ret_int H2.out.symm, hbw⟩
  · refine (rsize_any _ w1 B (by omega) (HIN.out.below hb1 (by simp; omega)) (tame_of_form _ HF.out)).mono ?_
    rintro e w2 ⟨rfl, hb2⟩
    go_wp2_with fail
    go_ret
    exact ⟨ret_int H2.out.symm, hbw.trans (hb2.mono (by omega))⟩
end Go.Proofs.YtjhclopdcbnmkaaGreatDoor
