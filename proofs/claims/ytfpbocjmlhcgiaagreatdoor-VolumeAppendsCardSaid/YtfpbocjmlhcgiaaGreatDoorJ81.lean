/- The journal's record: its closure; where no record stands. -/
import Derived.Test.YtfpbocjmlhcgiaaGreatDoorJ80
import Derived.Test.YtfpbocjmlhcgiaaGreatDoorJg17
import Derived.ScopeJumps
set_option linter.unusedSimpArgs false
set_option linter.unusedVariables false
namespace Go.Proofs.YtfpbocjmlhcgiaaGreatDoor
open Go.RowKit PJ Go.Maps

theorem wp_scope_jumps1 {P : Program} {a : Act} {w : World} {Q : Exit → Act → World → Prop} {c rest : Code} (l : Nat) (J : Act → World → Prop) (μ : Act → World → Nat) (hf : findLabel c l = some rest)
    (pass : ∀ a w, J a w → rest.wp P (Exit.jump l (fun a' w' => J a' w' ∧ μ a' w' < μ a w) Q) a w)
    (first : (∀ a w, J a w → rest.wp P (Exit.jump l J Q) a w) → c.wp P (Exit.jump l J Q) a w) : (Code.scope c).wp P Q a w :=
  wp_scope_jumps l J μ hf (first fun a w hJ => wp_mono (pass a w hJ) fun e a' w' h => by
    cases e with
    | goto l' => exact ⟨h.1, h.2.1⟩
    | normal => exact h
    | exit id => exact h
    | ret => exact h
    | panic ch => exact h
    | outgrown => exact h) pass
theorem wp_scope_jumps2 {P : Program} {a : Act} {w : World} {Q : Exit → Act → World → Prop} {c rest : Code} (l : Nat) (J : Act → World → Prop) (μ : Act → World → Nat) (hf : findLabel c l = some (.seq .skip rest))
    (pass : ∀ a w, J a w → rest.wp P (Exit.jump l (fun a' w' => J a' w' ∧ μ a' w' < μ a w) Q) a w)
    (first : (∀ a w, J a w → rest.wp P (Exit.jump l J Q) a w) → c.wp P (Exit.jump l J Q) a w) : (Code.scope c).wp P Q a w := by
  refine wp_scope_jumps1 l J μ hf (fun a w hJ => wp_seq (wp_skip (pass a w hJ))) (fun h => first fun a w hJ => wp_mono (pass a w hJ) fun e a' w' h => ?_)
  cases e with
  | goto l' => exact ⟨h.1, h.2.1⟩
  | normal => exact h
  | exit id => exact h
  | ret => exact h
  | panic ch => exact h
  | outgrown => exact h
set_option maxRecDepth 100000 in
theorem rec1_no (w : World) (q3 q4 jb : Nat) (area : Nat) (number i : Nat) (h3 : w.cell? ⟨q3, 0, none⟩ = some (.pointer (some ⟨jb, 0, none⟩))) (h1 : w.cell? ⟨jb, 1, none⟩ = some (.int .i64 area)) (hi : area ≤ i) :
    Calls Tryz.prog 226 #[.int .i64 i, .pointer (some ⟨q3, 0, none⟩), .pointer (some ⟨q4, 0, none⟩)] w fun e w' => e = .returned (.tuple #[.string ⟨#[]⟩, .bool false]) ∧ w = w' := by
  have g1 : (area : Int) ≤ (i : Int) := by omega
  go_enter Tryz.func226, Tryz.ntmps226
  go_wp2_with fail
  go_ret2
  exact ⟨rfl, rfl⟩
set_option maxRecDepth 100000 in
theorem rec1_yes (w : World) (a : JA) (F : Nat → Prop) (V S : View) (dt : Bool) (head first next at' : Nat) (C : Cells) (h : JC w a F V S dt head first next at' C) (q3 q4 : Nat) (number i : Nat)
    (h3 : w.cell? ⟨q3, 0, none⟩ = some (.pointer (some ⟨a.jb, 0, none⟩))) (h4 : w.cell? ⟨q4, 0, none⟩ = some (.int .i64 number)) (hR4 : ¬ a.R q4) (hi : i < a.area) (hin : i < a.n) (d : List UInt8) (st : Nat) (hv : V i = blk d st) (hd : d.length ≤ 116) (hst : st ≤ 4611686018427387904) :
    Calls Tryz.prog 226 #[.int .i64 i, .pointer (some ⟨q3, 0, none⟩), .pointer (some ⟨q4, 0, none⟩)] w fun e w' => e = .returned (.tuple #[.string ⟨(padT d 116).toArray⟩, .bool (decide (st = number))]) ∧
      JC w' a (grow F w w') V S dt head first next at' C ∧ OnlyJ a.R w w' := by
  have g1 : ¬ (a.area : Int) ≤ (i : Int) := by omega
  have g1' : decide ((a.area : Int) ≤ (i : Int)) = false := by simp; omega
  have c1 : w.cell? ⟨a.jb, 1, none⟩ = some (.int .i64 a.area) := cell_blk h.cells 1
  have c0 : w.cell? ⟨a.jb, 0, none⟩ = some (.pointer (some ⟨a.b, 0, none⟩)) := cell_blk h.cells 0
  have hl4 : q4 < w.heap.size := World.block_lt_of_cell? _ _ h4
  obtain ⟨D, hD⟩ : ∃ D : ByteArray, (⟨(padT d 116).toArray⟩ : ByteArray) = D := ⟨_, rfl⟩
  have hr := jread_at w a F V S dt head first next at' C h i hin d st hv hd hst
  rw [hD] at hr ⊢
  have HRD := Lib.hid hr
  have H4 := Lib.hid (fun w' (ho : OnlyJ a.R w w') => show w'.cell? ⟨q4, 0, none⟩ = some (.int .i64 number) from (World.cell?_of_block (a := ⟨q4, 0, none⟩) (ho.block q4 hl4 hR4)).trans h4)
  clear hr hD h hv hd hst hR4 h4
  obtain ⟨AR, hAR⟩ : ∃ AR, a.area = AR := ⟨_, rfl⟩
  rw [hAR] at g1 g1' c1 hi
  go_enter Tryz.func226, Tryz.ntmps226
  go_upto_region 4 with (first
    | (go_at_call 125; (with_reducible refine HRD.out.mono ?_); rintro e w5 ⟨rfl, hj5, ho5⟩; have HJ5 := Lib.hid hj5; have HO5 := Lib.hid ho5; clear hj5 ho5)
    | fail)
  have c4 := H4.out w5 HO5.out
  go_quiet (fail)
  go_wp2_with fail
  go_ret2
  refine ⟨?_, HJ5.out.drewN _, HO5.out.drewN _⟩
  have hdd : decide ((st : Int) = (number : Int)) = decide (st = number) := by rw [decide_eq_decide]; omega
  rw [← hdd]
  rfl
set_option maxRecDepth 100000 in
set_option maxHeartbeats 2000000 in
theorem record_no (w : World) (a : JA) (F : Nat → Prop) (V S : View) (dt : Bool) (head first next at' : Nat) (C : Cells) (h : JC w a F V S dt head first next at' C) (number pos : Nat)
    (hno : a.area ≤ pos ∨ (pos < a.n ∧ ∃ d st, V pos = blk d st ∧ d.length ≤ 116 ∧ st ≤ 4611686018427387904 ∧ st ≠ number)) :
    Calls Tryz.prog 200 #[.pointer (some ⟨a.jb, 0, none⟩), .int .i64 number, .int .i64 pos] w fun e w' => e = .returned (.tuple #[.slice none 0 0, .bool false]) ∧
      JC w' a (grow F w w') V S dt head first next at' C ∧ OnlyJ a.R w w' := by
  have hmf : ∀ (fn : Fn) (first cap : Array Value) (w : World), (Instr.makeFunc fn first cap).run Tryz.prog w = .ok (.func fn first cap) w := fun _ _ _ _ => rfl
  obtain ⟨w1, hw1⟩ : ∃ w1, (w.alloc (.cells #[.pointer (some ⟨a.jb, 0, none⟩)] 34)).alloc (.cells #[.int .i64 number] 3) = w1 := ⟨_, rfl⟩
  have hl1 : LJ w w1 := by rw [← hw1]; exact ((LJ.refl w).alloc _).alloc _
  have x1 : w1.cell? ⟨w.heap.size, 0, none⟩ = some (.pointer (some ⟨a.jb, 0, none⟩)) := by
    rw [← hw1]; exact LJ.cell ((LJ.refl _).alloc _) (cell_blk (alloc_blk w _) 0)
  have x0 : w1.cell? ⟨w.heap.size + 1, 0, none⟩ = some (.int .i64 number) := by
    have := alloc_blk (w.alloc (.cells #[.pointer (some ⟨a.jb, 0, none⟩)] 34)) (.cells #[.int .i64 number] 3)
    rw [World.size_alloc, hw1] at this
    exact cell_blk this 0
  have hj1 := h.later hl1
  have hF4 : ¬ F (w.heap.size + 1) := fun e => by have := h.dev.lt _ e; omega
  have hlt := h.dev.lt
  rcases Nat.lt_or_ge pos a.area with hpa | hpa
  · obtain ⟨hpn, d, st, hv, hd, hst, hne⟩ : pos < a.n ∧ ∃ d st, V pos = blk d st ∧ d.length ≤ 116 ∧ st ≤ 4611686018427387904 ∧ st ≠ number := by
      rcases hno with e | e
      · omega
      · exact e
    have hc := rec1_yes w1 a F V S dt head first next at' C hj1 w.heap.size (w.heap.size + 1) number pos x1 x0 (fun e => hF4 (h.dev.sub _ e)) hpa hpn d st hv hd hst
    obtain ⟨D, hD⟩ : ∃ D : ByteArray, (⟨(padT d 116).toArray⟩ : ByteArray) = D := ⟨_, rfl⟩
    rw [hD, decide_eq_false hne] at hc
    have HC := Lib.hid hc
    have HW1 := Lib.hid hw1
    have HL1 := Lib.hid hl1
    have HLT := Lib.hid hlt
    clear hc hD hv hd hst hne hw1 hl1 hj1 hF4 hlt h hno x1 x0
    go_enter Tryz.func200, Tryz.ntmps200
    go_wp2_with fail
    go_step3
    go_upto_region 1 with fail
    rw [HW1.out]
    go_wp2_with (first
      | (go_at_call 226; (with_reducible refine HC.out.mono ?_); rintro e w5 ⟨rfl, hj5, ho5⟩; have HJ5 := Lib.hid hj5; have HO5 := Lib.hid ho5; clear hj5 ho5)
      | fail)
    rw [Exit.noGoto_ret]
    go_ret2
    exact ⟨rfl, HJ5.out.wide (fun q hq => hq.elim .inl fun e => .inr ⟨Nat.le_trans (Below.size HL1.out) e.1, e.2⟩) (grow_lt HLT.out (Nat.le_trans (Below.size HL1.out) HO5.out.size)), (OnlyJ.of_below HL1.out).trans HO5.out⟩
  · have c1 : w1.cell? ⟨a.jb, 1, none⟩ = some (.int .i64 a.area) := cell_blk hj1.cells 1
    have HC := Lib.hid (rec1_no w1 w.heap.size (w.heap.size + 1) a.jb a.area number pos x1 c1 hpa)
    have HW1 := Lib.hid hw1
    have HJ1 := Lib.hid (hj1.wide (F' := grow F w w1) grow_sub (grow_lt hlt (Below.size hl1)))
    have HL1 := Lib.hid hl1
    clear hw1 hl1 hj1 hF4 hlt h hno x1 x0 c1
    go_enter Tryz.func200, Tryz.ntmps200
    go_wp2_with fail
    go_step3
    go_upto_region 1 with fail
    rw [HW1.out]
    go_wp2_with (first
      | (go_at_call 226; (with_reducible refine HC.out.mono ?_); rintro e w5 ⟨rfl, hw5⟩; subst hw5)
      | fail)
    rw [Exit.noGoto_ret]
    go_ret2
    exact ⟨rfl, HJ1.out, OnlyJ.of_below HL1.out⟩
end Go.Proofs.YtfpbocjmlhcgiaaGreatDoor
