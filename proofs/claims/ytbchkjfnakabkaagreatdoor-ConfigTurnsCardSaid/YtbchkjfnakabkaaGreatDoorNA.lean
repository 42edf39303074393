/- The walks of the form's parts and ports. -/
import Derived.Test.YtbchkjfnakabkaaGreatDoorN6
set_option linter.unusedSimpArgs false
set_option linter.unusedVariables false
namespace Go.Proofs.YtbchkjfnakabkaaGreatDoor
open Go.RowKit PX PC

/-- What the form's rules stand on: the lattice's levels. -/
def LevOK (c : Cfg) : Prop := 1 ≤ c.levels ∧ c.levels ≤ 8
set_option maxRecDepth 100000 in
theorem parts1_any (w : World) (cb fb : Nat) (c : Cfg) (x : Prt) (hcb : w.cell? ⟨cb, 0, none⟩ = some (.pointer (some ⟨fb, 0, none⟩))) (hc0 : w.cell? ⟨fb, 0, none⟩ = some (.int .i64 c.levels)) (hL : LevOK c) :
    Calls Tryz.prog 108 #[partV x, .pointer (some ⟨cb, 0, none⟩)] w fun e w' => e = .returned (.bool (partOK c x)) ∧ Later w w' := by
  obtain ⟨x1, x2⟩ := x
  have hcl := World.block_lt_of_cell? w _ hcb
  have HLV := Lib.hid (fun (w1 : World) (h : Later w w1) => flevel_any w1 fb c x1 (h.cell hc0) hL.1 hL.2)
  have HIN := Lib.hid (fun (w1 : World) => cin_any w1 x2 1 16)
  have hp : partOK c ⟨x1, x2⟩ = (inB x2 1 16 && c.lvl x1) := rfl
  rw [hp]
  clear hp hc0
  obtain ⟨q, hq⟩ : ∃ q, c.lvl x1 = q := ⟨_, rfl⟩
  rw [hq] at HLV ⊢
  clear hq
  show Calls Tryz.prog 108 #[.agg #[.int .i64 x1, .int .i64 x2], .pointer (some ⟨cb, 0, none⟩)] w _
  cases hi : inB x2 1 16
  · rw [hi] at HIN
    clear hi
    go_enter Tryz.func108, Tryz.ntmps108
    go_wp2_with (first
      | (go_at_call 23; (with_reducible refine (HIN.out _).mono ?_); rintro e w' ⟨rfl, rfl⟩)
      | fail)
    go_ret
    exact ⟨rfl, (Later.refl w).alloc _⟩
  · rw [hi] at HIN
    clear hi
    go_enter Tryz.func108, Tryz.ntmps108
    go_wp2_with (first
      | (go_at_call 23; (with_reducible refine (HIN.out _).mono ?_); rintro e w' ⟨rfl, rfl⟩)
      | (go_at_call 109; (with_reducible refine (HLV.out _ ((Later.refl w).alloc _)).mono ?_); rintro e w' ⟨rfl, rfl⟩)
      | fail)
    go_ret
    exact ⟨ret_bool (by simp), (Later.refl w).alloc _⟩
theorem box_form {w : World} {fb : Nat} : ∃ (cb : Nat) (w1 : World), w.heap.size = cb ∧ w.alloc (.cells #[.pointer (some ⟨fb, 0, none⟩)] 58) = w1 ∧ Later w w1 ∧ w1.heap[cb]? = some (.cells #[.pointer (some ⟨fb, 0, none⟩)] 58 (0, 0)) ∧ w1.cell? ⟨cb, 0, none⟩ = some (.pointer (some ⟨fb, 0, none⟩)) :=
  ⟨_, _, rfl, rfl, (Later.refl w).alloc _, alloc_block w _, cell_of_block (alloc_block w _) 0⟩
set_option maxRecDepth 100000 in
theorem fparts_any (w : World) (fb : Nat) (c : Cfg) (vF vP vW vO vV vR vK lv : Value) (h : FormIn w fb c vF vP vW vO vV vR vK lv) (hL : LevOK c) :
    Calls Tryz.prog 98 #[.pointer (some ⟨fb, 0, none⟩)] w fun e w' => e = .returned (.bool c.partsB) ∧ Later w w' := by
  obtain ⟨a, cap, rfl, hl1, hl2, hl3⟩ := row_val h.rP
  obtain ⟨cb, w1, hcb, hw1, hlw, hblk, hcell⟩ := box_form (w := w) (fb := fb)
  have h1 := h.later hlw
  have k2 := h1.cell 2
  have HALL := Lib.hid (all_part w1 _ c.parts h1.rP 108 #[.pointer (some ⟨cb, 0, none⟩)] (enters_of Tryz.func108 (by kernel_rfl) rfl) (partOK c) (by omega) (fun w2 h2 x hx => parts1_any w2 cb fb c x (h2.cell hcell) (h2.cell (h1.cell 0)) hL))
  have HIN := Lib.hid (fun (w1 : World) => cin_any w1 (c.parts.length : Int) 1 8)
  have hp : c.partsB = (inB c.parts.length 1 8 && c.parts.all (partOK c)) := rfl
  rw [hp]
  obtain ⟨n, hn⟩ : ∃ n, c.parts.length = n := ⟨_, rfl⟩
  obtain ⟨q, hq⟩ : ∃ q, c.parts.all (partOK c) = q := ⟨_, rfl⟩
  rw [hq] at HALL ⊢
  simp only [formA] at k2
  rw [hn] at HALL HIN k2 hl1 hl3 ⊢
  have k2' : w1.cell? ⟨fb, 2, none⟩ = some (.slice a n cap) := k2
  have HW1 := Lib.hid hw1
  have HLW := Lib.hid hlw
  clear h h1 k2 hp hn hq hblk hw1 hlw
  cases hi : inB n 1 8
  · rw [hi] at HIN
    clear hi
    go_enter Tryz.func98, Tryz.ntmps98
    go_upto_region 1 with fail
    rw [HW1.out]
    go_wp2_with (first
      | (go_at_call 23; (with_reducible refine (HIN.out _).mono ?_); rintro e w' ⟨rfl, rfl⟩)
      | fail)
    go_ret
    exact ⟨rfl, HLW.out⟩
  · rw [hi] at HIN
    clear hi
    go_enter Tryz.func98, Tryz.ntmps98
    go_upto_region 1 with fail
    rw [HW1.out]
    go_wp2_with (first
      | (go_at_call 23; (with_reducible refine (HIN.out _).mono ?_); rintro e w' ⟨rfl, rfl⟩)
      | (go_at_call 107; (with_reducible refine HALL.out.mono ?_); rintro e w' ⟨rfl, hl1⟩)
      | fail)
    go_ret
    exact ⟨ret_bool (by simp), HLW.out.trans hl1⟩
end Go.Proofs.YtbchkjfnakabkaaGreatDoor
