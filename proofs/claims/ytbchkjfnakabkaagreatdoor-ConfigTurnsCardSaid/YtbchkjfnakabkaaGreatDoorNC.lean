/- The walks of the form's ports and texts. -/
import Derived.Test.YtbchkjfnakabkaaGreatDoorNB
import Derived.Test.YtbchkjfnakabkaaGreatDoorN8
import Derived.Test.YtbchkjfnakabkaaGreatDoorShelf
set_option linter.unusedSimpArgs false
set_option linter.unusedVariables false
namespace Go.Proofs.YtbchkjfnakabkaaGreatDoor
open Go.RowKit PX PC

set_option maxRecDepth 100000 in
theorem fports_any (w : World) (fb : Nat) (c : Cfg) (vF vP vW vO vV vR vK lv : Value) (h : FormIn w fb c vF vP vW vO vV vR vK lv) (hL : LatOf w c lv) (hP : ∀ p ∈ c.parts, lev c.levels p.level) :
    Calls Tryz.prog 100 #[.pointer (some ⟨fb, 0, none⟩)] w fun e w' => e = .returned (.bool c.portsB) ∧ Later w w' := by
  obtain ⟨a, cap, rfl, hl1, hl2, hl3⟩ := row_val h.rO
  obtain ⟨cb, w1, hcb, hw1, hlw, hblk, hcell⟩ := box_form (w := w) (fb := fb)
  have h1 := h.later hlw
  have hL1 := hL.later hlw
  have k4 : w1.cell? ⟨fb, 4, none⟩ = some (.slice a c.ports.length cap) := h1.cell 4
  have HALL := Lib.hid (all_por w1 _ c.ports h1.rO 115 #[.pointer (some ⟨cb, 0, none⟩)] (enters_of Tryz.func115 (by kernel_rfl) rfl) (porOK c) (by omega) (fun w2 h2 x hx => ports1_any w2 cb fb c x vF vP vW _ vV vR vK lv (h1.later h2) (hL1.later h2) hP (h2.cell hcell)))
  have hp : c.portsB = (decide (c.ports.length ≤ 16) && c.ports.all (porOK c)) := rfl
  rw [hp]
  obtain ⟨n, hn⟩ : ∃ n, c.ports.length = n := ⟨_, rfl⟩
  obtain ⟨q, hq⟩ : ∃ q, c.ports.all (porOK c) = q := ⟨_, rfl⟩
  rw [hq] at HALL ⊢
  rw [hn] at HALL k4 hl1 hl3 ⊢
  have HW1 := Lib.hid hw1
  have HLW := Lib.hid hlw
  clear h h1 hp hn hq hblk hw1 hlw hL hL1 hP
  by_cases hi : n ≤ 16
  · rw [decide_eq_true hi]
    have hd : decide ((n : Int) ≤ 16) = true := decide_eq_true (by omega)
    go_enter Tryz.func100, Tryz.ntmps100
    go_upto_region 1 with fail
    rw [HW1.out]
    go_wp2_with (first
      | (go_at_call 114; (with_reducible refine HALL.out.mono ?_); rintro e w' ⟨rfl, hl1⟩)
      | fail)
    go_ret
    exact ⟨ret_bool (by simp), HLW.out.trans hl1⟩
  · rw [decide_eq_false hi]
    have hd : decide ((n : Int) ≤ 16) = false := decide_eq_false (by omega)
    go_enter Tryz.func100, Tryz.ntmps100
    go_upto_region 1 with fail
    rw [HW1.out]
    go_wp2_with fail
    go_ret
    exact ⟨ret_bool (by simp), HLW.out⟩
set_option maxRecDepth 100000 in
/-- Is a sign odd? -/
theorem odd_any (w : World) (x : Nat) : Calls Tryz.prog 127 #[.int .i32 (x : Int)] w fun e w' => e = .returned (.bool (oddR x)) ∧ w' = w := by
  by_cases h1 : x < 33
  · have hr : oddR x = true := by unfold oddR; rw [decide_eq_true h1]; rfl
    have hd : decide ((x : Int) < 33) = true := decide_eq_true (by omega)
    rw [hr]
    go_enter Tryz.func127, Tryz.ntmps127
    go_wp2_with fail
    go_ret
    exact ⟨rfl, rfl⟩
  · have hd : decide ((x : Int) < 33) = false := decide_eq_false (by omega)
    by_cases h2 : 126 < x
    · have hr : oddR x = true := by unfold oddR; rw [decide_eq_true h2]; simp
      have hd2 : decide ((126 : Int) < (x : Int)) = true := decide_eq_true (by omega)
      rw [hr]
      go_enter Tryz.func127, Tryz.ntmps127
      go_wp2_with fail
      go_ret
      exact ⟨rfl, rfl⟩
    · have hr : oddR x = false := by unfold oddR; rw [decide_eq_false h1, decide_eq_false h2]; rfl
      have hd2 : decide ((126 : Int) < (x : Int)) = false := decide_eq_false (by omega)
      rw [hr]
      go_enter Tryz.func127, Tryz.ntmps127
      go_wp2_with fail
      go_ret
      exact ⟨rfl, rfl⟩
set_option maxRecDepth 100000 in
theorem keyOne_any (w : World) (s : ByteArray) (hs : s.size ≤ 9223372036854775807) : Calls Tryz.prog 129 #[.string s] w fun e w' => e = .returned (.bool (inB s.size 1 64)) ∧ w' = w := by
  have HIN := Lib.hid (cin_any w (s.size : Int) 1 64)
  obtain ⟨b, hb⟩ : ∃ b, inB (s.size : Int) 1 64 = b := ⟨_, rfl⟩
  rw [hb] at HIN ⊢
  clear hb
  go_enter Tryz.func129, Tryz.ntmps129
  go_wp2_with (first
    | (go_at_call 23; (with_reducible refine HIN.out.mono ?_); rintro e w' ⟨rfl, rfl⟩)
    | fail)
  go_ret
  exact ⟨rfl, rfl⟩
end Go.Proofs.YtbchkjfnakabkaaGreatDoor
