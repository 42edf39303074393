/- The walks of the program's form (its tests' tree is printed by a program of ours, gen_formp.py). -/
import Derived.Test.YtaelkjffidjcjaaDoorForm
import Derived.Deep.QuietTactic
import Derived.BigQuiet
set_option linter.unusedSimpArgs false
set_option linter.unusedVariables false
namespace Go.Proofs.YtaelkjffidjcjaaDoor
open Go.RowKit PX
theorem form_same {k mn mx s0 s1 s2 s3 : Int} {a : Option Addr} {cap : Nat} {l : List RxA} (h : Shape k mn mx s0 s1 s2 s3 l.length) : formAll (bareAll l) = (RxA.node k mn mx s0 s1 s2 s3 a cap l).bare.formB := by
  rw [Bool.eq_iff_iff, RxA.bare, formB_iff, bareAll_length]
  exact ⟨fun h' => ⟨h, h'⟩, fun h' => h'.2⟩

set_option maxRecDepth 100000 in
set_option maxHeartbeats 2000000 in
theorem pform_0 (mn mx s0 s1 s2 s3 : Int) (a : Option Addr) (cap : Nat) (l : List RxA) (w : World) (hl1 : l.length ≤ cap) (hl2 : cap ≤ 9223372036854775807)
    (hc : ∀ w', Below w.heap.size w w' → Calls Tryd.prog 63 #[.slice a l.length cap, .func (.func 64) #[] #[]] w' fun e w'' => e = .returned (.bool (!formAll (bareAll l))) ∧ Below w'.heap.size w' w'') :
    Calls Tryd.prog 51 #[(RxA.node 0 mn mx s0 s1 s2 s3 a cap l).val] w fun e w' => e = .returned (.bool (RxA.node 0 mn mx s0 s1 s2 s3 a cap l).bare.formB) ∧ Below w.heap.size w w' := by
  have HC := Lib.hid hc; clear hc
  have hl0 : decide ((l.length : Int) < 0) = false := by simp
  show Calls Tryd.prog 51 #[.agg #[.int .i64 0, .int .i64 mn, .int .i64 mx, .int .u64 s0, .int .u64 s1, .int .u64 s2, .int .u64 s3, .slice a l.length cap]] w _
  cases hmn : (mn != 0)
  · cases hmx : (mx != 0)
    · cases hs : same4 s0 s1 s2 s3 0 0 0 0
      · cases hB : decide (0 < l.length)
        · go_enter Tryd.func51, Tryd.ntmps51
          go_wp2_with fail
          go_quiet (fail)
          go_wp2_with fail
          go_quiet (fail)
          go_wp2_with fail
          refine (HC.out _ (by repeat (first | exact Below.refl _ _ | refine below_drewN ?_ _ | refine Below.alloc ?_ (by simp) _ | refine Below.alloc ?_ (Nat.le_refl _) _))).mono ?_
          rintro e w1 ⟨rfl, hb1⟩
          go_wp2_with fail
          go_ret
          refine ⟨ret_bool (form_same ?_), Below.trans (by repeat (first | exact Below.refl _ _ | refine below_drewN ?_ _ | refine Below.alloc ?_ (by simp) _ | refine Below.alloc ?_ (Nat.le_refl _) _)) (hb1.mono (by simp))⟩
          clear HC; (try simp only [bne_iff_ne, ne_eq, beq_iff_eq, bne_eq_false_iff_eq, beq_eq_false_iff_ne, same4, decide_eq_true_eq, decide_eq_false_iff_not] at *); unfold Shape; omega
        · go_enter Tryd.func51, Tryd.ntmps51
          go_wp2_with fail
          go_quiet (fail)
          go_wp2_with fail
          go_quiet (fail)
          go_wp2_with fail
          go_ret
          refine ⟨ret_bool (form_no ?_), by repeat (first | exact Below.refl _ _ | refine below_drewN ?_ _ | refine Below.alloc ?_ (by simp) _ | refine Below.alloc ?_ (Nat.le_refl _) _)⟩
          clear HC; (try simp only [bne_iff_ne, ne_eq, beq_iff_eq, bne_eq_false_iff_eq, beq_eq_false_iff_ne, same4, decide_eq_true_eq, decide_eq_false_iff_not] at *); unfold Shape; omega
      · go_enter Tryd.func51, Tryd.ntmps51
        go_wp2_with fail
        go_quiet (fail)
        go_wp2_with fail
        go_quiet (fail)
        go_wp2_with fail
        go_ret
        refine ⟨ret_bool (form_no ?_), by repeat (first | exact Below.refl _ _ | refine below_drewN ?_ _ | refine Below.alloc ?_ (by simp) _ | refine Below.alloc ?_ (Nat.le_refl _) _)⟩
        clear HC; (try simp only [bne_iff_ne, ne_eq, beq_iff_eq, bne_eq_false_iff_eq, beq_eq_false_iff_ne, same4, decide_eq_true_eq, decide_eq_false_iff_not] at *); unfold Shape; omega
    · go_enter Tryd.func51, Tryd.ntmps51
      go_wp2_with fail
      go_quiet (fail)
      go_wp2_with fail
      go_quiet (fail)
      go_wp2_with fail
      go_ret
      refine ⟨ret_bool (form_no ?_), by repeat (first | exact Below.refl _ _ | refine below_drewN ?_ _ | refine Below.alloc ?_ (by simp) _ | refine Below.alloc ?_ (Nat.le_refl _) _)⟩
      clear HC; (try simp only [bne_iff_ne, ne_eq, beq_iff_eq, bne_eq_false_iff_eq, beq_eq_false_iff_ne, same4, decide_eq_true_eq, decide_eq_false_iff_not] at *); unfold Shape; omega
  · go_enter Tryd.func51, Tryd.ntmps51
    go_wp2_with fail
    go_quiet (fail)
    go_wp2_with fail
    go_quiet (fail)
    go_wp2_with fail
    go_ret
    refine ⟨ret_bool (form_no ?_), by repeat (first | exact Below.refl _ _ | refine below_drewN ?_ _ | refine Below.alloc ?_ (by simp) _ | refine Below.alloc ?_ (Nat.le_refl _) _)⟩
    clear HC; (try simp only [bne_iff_ne, ne_eq, beq_iff_eq, bne_eq_false_iff_eq, beq_eq_false_iff_ne, same4, decide_eq_true_eq, decide_eq_false_iff_not] at *); unfold Shape; omega
set_option maxRecDepth 100000 in
set_option maxHeartbeats 2000000 in
theorem pform_1 (mn mx s0 s1 s2 s3 : Int) (a : Option Addr) (cap : Nat) (l : List RxA) (w : World) (hl1 : l.length ≤ cap) (hl2 : cap ≤ 9223372036854775807)
    (hc : ∀ w', Below w.heap.size w w' → Calls Tryd.prog 63 #[.slice a l.length cap, .func (.func 64) #[] #[]] w' fun e w'' => e = .returned (.bool (!formAll (bareAll l))) ∧ Below w'.heap.size w' w'') :
    Calls Tryd.prog 51 #[(RxA.node 1 mn mx s0 s1 s2 s3 a cap l).val] w fun e w' => e = .returned (.bool (RxA.node 1 mn mx s0 s1 s2 s3 a cap l).bare.formB) ∧ Below w.heap.size w w' := by
  have HC := Lib.hid hc; clear hc
  have hl0 : decide ((l.length : Int) < 0) = false := by simp
  show Calls Tryd.prog 51 #[.agg #[.int .i64 1, .int .i64 mn, .int .i64 mx, .int .u64 s0, .int .u64 s1, .int .u64 s2, .int .u64 s3, .slice a l.length cap]] w _
  cases hA : ((l.length : Int) == 1)
  · cases hmn : (mn != 0)
    · cases hmx : (mx != 0)
      · cases hs : same4 s0 s1 s2 s3 0 0 0 0
        · go_enter Tryd.func51, Tryd.ntmps51
          go_wp2_with fail
          go_quiet (fail)
          go_wp2_with fail
          go_quiet (fail)
          go_wp2_with fail
          go_ret
          refine ⟨ret_bool (form_no ?_), by repeat (first | exact Below.refl _ _ | refine below_drewN ?_ _ | refine Below.alloc ?_ (by simp) _ | refine Below.alloc ?_ (Nat.le_refl _) _)⟩
          clear HC; (try simp only [bne_iff_ne, ne_eq, beq_iff_eq, bne_eq_false_iff_eq, beq_eq_false_iff_ne, same4, decide_eq_true_eq, decide_eq_false_iff_not] at *); unfold Shape; omega
        · go_enter Tryd.func51, Tryd.ntmps51
          go_wp2_with fail
          go_quiet (fail)
          go_wp2_with fail
          go_quiet (fail)
          go_wp2_with fail
          refine (HC.out _ (by repeat (first | exact Below.refl _ _ | refine below_drewN ?_ _ | refine Below.alloc ?_ (by simp) _ | refine Below.alloc ?_ (Nat.le_refl _) _))).mono ?_
          rintro e w1 ⟨rfl, hb1⟩
          go_wp2_with fail
          go_ret
          refine ⟨ret_bool (form_same ?_), Below.trans (by repeat (first | exact Below.refl _ _ | refine below_drewN ?_ _ | refine Below.alloc ?_ (by simp) _ | refine Below.alloc ?_ (Nat.le_refl _) _)) (hb1.mono (by simp))⟩
          clear HC; (try simp only [bne_iff_ne, ne_eq, beq_iff_eq, bne_eq_false_iff_eq, beq_eq_false_iff_ne, same4, decide_eq_true_eq, decide_eq_false_iff_not] at *); unfold Shape; omega
      · go_enter Tryd.func51, Tryd.ntmps51
        go_wp2_with fail
        go_quiet (fail)
        go_wp2_with fail
        go_quiet (fail)
        go_wp2_with fail
        go_ret
        refine ⟨ret_bool (form_no ?_), by repeat (first | exact Below.refl _ _ | refine below_drewN ?_ _ | refine Below.alloc ?_ (by simp) _ | refine Below.alloc ?_ (Nat.le_refl _) _)⟩
        clear HC; (try simp only [bne_iff_ne, ne_eq, beq_iff_eq, bne_eq_false_iff_eq, beq_eq_false_iff_ne, same4, decide_eq_true_eq, decide_eq_false_iff_not] at *); unfold Shape; omega
    · go_enter Tryd.func51, Tryd.ntmps51
      go_wp2_with fail
      go_quiet (fail)
      go_wp2_with fail
      go_quiet (fail)
      go_wp2_with fail
      go_ret
      refine ⟨ret_bool (form_no ?_), by repeat (first | exact Below.refl _ _ | refine below_drewN ?_ _ | refine Below.alloc ?_ (by simp) _ | refine Below.alloc ?_ (Nat.le_refl _) _)⟩
      clear HC; (try simp only [bne_iff_ne, ne_eq, beq_iff_eq, bne_eq_false_iff_eq, beq_eq_false_iff_ne, same4, decide_eq_true_eq, decide_eq_false_iff_not] at *); unfold Shape; omega
  · go_enter Tryd.func51, Tryd.ntmps51
    go_wp2_with fail
    go_quiet (fail)
    go_wp2_with fail
    go_ret
    refine ⟨ret_bool (form_no ?_), by repeat (first | exact Below.refl _ _ | refine below_drewN ?_ _ | refine Below.alloc ?_ (by simp) _ | refine Below.alloc ?_ (Nat.le_refl _) _)⟩
    clear HC; (try simp only [bne_iff_ne, ne_eq, beq_iff_eq, bne_eq_false_iff_eq, beq_eq_false_iff_ne, same4, decide_eq_true_eq, decide_eq_false_iff_not] at *); unfold Shape; omega
set_option maxRecDepth 100000 in
set_option maxHeartbeats 2000000 in
theorem pform_2 (mn mx s0 s1 s2 s3 : Int) (a : Option Addr) (cap : Nat) (l : List RxA) (w : World) (hl1 : l.length ≤ cap) (hl2 : cap ≤ 9223372036854775807)
    (hc : ∀ w', Below w.heap.size w w' → Calls Tryd.prog 63 #[.slice a l.length cap, .func (.func 64) #[] #[]] w' fun e w'' => e = .returned (.bool (!formAll (bareAll l))) ∧ Below w'.heap.size w' w'') :
    Calls Tryd.prog 51 #[(RxA.node 2 mn mx s0 s1 s2 s3 a cap l).val] w fun e w' => e = .returned (.bool (RxA.node 2 mn mx s0 s1 s2 s3 a cap l).bare.formB) ∧ Below w.heap.size w w' := by
  have HC := Lib.hid hc; clear hc
  have hl0 : decide ((l.length : Int) < 0) = false := by simp
  show Calls Tryd.prog 51 #[.agg #[.int .i64 2, .int .i64 mn, .int .i64 mx, .int .u64 s0, .int .u64 s1, .int .u64 s2, .int .u64 s3, .slice a l.length cap]] w _
  cases hmn : (mn != 0)
  · cases hmx : (mx != 0)
    · cases hs : same4 s0 s1 s2 s3 0 0 0 0
      · go_enter Tryd.func51, Tryd.ntmps51
        go_wp2_with fail
        go_quiet (fail)
        go_wp2_with fail
        go_quiet (fail)
        go_wp2_with fail
        go_ret
        refine ⟨ret_bool (form_no ?_), by repeat (first | exact Below.refl _ _ | refine below_drewN ?_ _ | refine Below.alloc ?_ (by simp) _ | refine Below.alloc ?_ (Nat.le_refl _) _)⟩
        clear HC; (try simp only [bne_iff_ne, ne_eq, beq_iff_eq, bne_eq_false_iff_eq, beq_eq_false_iff_ne, same4, decide_eq_true_eq, decide_eq_false_iff_not] at *); unfold Shape; omega
      · cases hC : decide ((l.length : Int) < 2)
        · go_enter Tryd.func51, Tryd.ntmps51
          go_wp2_with fail
          go_quiet (fail)
          go_wp2_with fail
          go_quiet (fail)
          go_wp2_with fail
          refine (HC.out _ (by repeat (first | exact Below.refl _ _ | refine below_drewN ?_ _ | refine Below.alloc ?_ (by simp) _ | refine Below.alloc ?_ (Nat.le_refl _) _))).mono ?_
          rintro e w1 ⟨rfl, hb1⟩
          go_wp2_with fail
          go_ret
          refine ⟨ret_bool (form_same ?_), Below.trans (by repeat (first | exact Below.refl _ _ | refine below_drewN ?_ _ | refine Below.alloc ?_ (by simp) _ | refine Below.alloc ?_ (Nat.le_refl _) _)) (hb1.mono (by simp))⟩
          clear HC; (try simp only [bne_iff_ne, ne_eq, beq_iff_eq, bne_eq_false_iff_eq, beq_eq_false_iff_ne, same4, decide_eq_true_eq, decide_eq_false_iff_not] at *); unfold Shape; omega
        · go_enter Tryd.func51, Tryd.ntmps51
          go_wp2_with fail
          go_quiet (fail)
          go_wp2_with fail
          go_quiet (fail)
          go_wp2_with fail
          go_ret
          refine ⟨ret_bool (form_no ?_), by repeat (first | exact Below.refl _ _ | refine below_drewN ?_ _ | refine Below.alloc ?_ (by simp) _ | refine Below.alloc ?_ (Nat.le_refl _) _)⟩
          clear HC; (try simp only [bne_iff_ne, ne_eq, beq_iff_eq, bne_eq_false_iff_eq, beq_eq_false_iff_ne, same4, decide_eq_true_eq, decide_eq_false_iff_not] at *); unfold Shape; omega
    · go_enter Tryd.func51, Tryd.ntmps51
      go_wp2_with fail
      go_quiet (fail)
      go_wp2_with fail
      go_quiet (fail)
      go_wp2_with fail
      go_ret
      refine ⟨ret_bool (form_no ?_), by repeat (first | exact Below.refl _ _ | refine below_drewN ?_ _ | refine Below.alloc ?_ (by simp) _ | refine Below.alloc ?_ (Nat.le_refl _) _)⟩
      clear HC; (try simp only [bne_iff_ne, ne_eq, beq_iff_eq, bne_eq_false_iff_eq, beq_eq_false_iff_ne, same4, decide_eq_true_eq, decide_eq_false_iff_not] at *); unfold Shape; omega
  · go_enter Tryd.func51, Tryd.ntmps51
    go_wp2_with fail
    go_quiet (fail)
    go_wp2_with fail
    go_quiet (fail)
    go_wp2_with fail
    go_ret
    refine ⟨ret_bool (form_no ?_), by repeat (first | exact Below.refl _ _ | refine below_drewN ?_ _ | refine Below.alloc ?_ (by simp) _ | refine Below.alloc ?_ (Nat.le_refl _) _)⟩
    clear HC; (try simp only [bne_iff_ne, ne_eq, beq_iff_eq, bne_eq_false_iff_eq, beq_eq_false_iff_ne, same4, decide_eq_true_eq, decide_eq_false_iff_not] at *); unfold Shape; omega
set_option maxRecDepth 100000 in
set_option maxHeartbeats 2000000 in
theorem pform_3 (mn mx s0 s1 s2 s3 : Int) (a : Option Addr) (cap : Nat) (l : List RxA) (w : World) (hl1 : l.length ≤ cap) (hl2 : cap ≤ 9223372036854775807)
    (hc : ∀ w', Below w.heap.size w w' → Calls Tryd.prog 63 #[.slice a l.length cap, .func (.func 64) #[] #[]] w' fun e w'' => e = .returned (.bool (!formAll (bareAll l))) ∧ Below w'.heap.size w' w'') :
    Calls Tryd.prog 51 #[(RxA.node 3 mn mx s0 s1 s2 s3 a cap l).val] w fun e w' => e = .returned (.bool (RxA.node 3 mn mx s0 s1 s2 s3 a cap l).bare.formB) ∧ Below w.heap.size w w' := by
  have HC := Lib.hid hc; clear hc
  have hl0 : decide ((l.length : Int) < 0) = false := by simp
  show Calls Tryd.prog 51 #[.agg #[.int .i64 3, .int .i64 mn, .int .i64 mx, .int .u64 s0, .int .u64 s1, .int .u64 s2, .int .u64 s3, .slice a l.length cap]] w _
  cases h1 : decide (mn < 0)
  · cases h2 : decide (15 < mn)
    · cases h3 : decide (15 < mx)
      · cases h4 : (mx != -1)
        · cases hs : same4 s0 s1 s2 s3 0 0 0 0
          · go_enter Tryd.func51, Tryd.ntmps51
            go_wp2_with fail
            go_quiet (fail)
            go_wp2_with fail
            go_quiet (fail)
            go_wp2_with fail
            go_ret
            refine ⟨ret_bool (form_no ?_), by repeat (first | exact Below.refl _ _ | refine below_drewN ?_ _ | refine Below.alloc ?_ (by simp) _ | refine Below.alloc ?_ (Nat.le_refl _) _)⟩
            clear HC; (try simp only [bne_iff_ne, ne_eq, beq_iff_eq, bne_eq_false_iff_eq, beq_eq_false_iff_ne, same4, decide_eq_true_eq, decide_eq_false_iff_not] at *); unfold Shape; omega
          · cases hD : decide ((l.length : Int) < 1)
            · cases hE : decide ((1 : Int) < l.length)
              · go_enter Tryd.func51, Tryd.ntmps51
                go_wp2_with fail
                go_quiet (fail)
                go_wp2_with fail
                go_quiet (fail)
                go_wp2_with fail
                refine (HC.out _ (by repeat (first | exact Below.refl _ _ | refine below_drewN ?_ _ | refine Below.alloc ?_ (by simp) _ | refine Below.alloc ?_ (Nat.le_refl _) _))).mono ?_
                rintro e w1 ⟨rfl, hb1⟩
                go_wp2_with fail
                go_ret
                refine ⟨ret_bool (form_same ?_), Below.trans (by repeat (first | exact Below.refl _ _ | refine below_drewN ?_ _ | refine Below.alloc ?_ (by simp) _ | refine Below.alloc ?_ (Nat.le_refl _) _)) (hb1.mono (by simp))⟩
                clear HC; (try simp only [bne_iff_ne, ne_eq, beq_iff_eq, bne_eq_false_iff_eq, beq_eq_false_iff_ne, same4, decide_eq_true_eq, decide_eq_false_iff_not] at *); unfold Shape; omega
              · go_enter Tryd.func51, Tryd.ntmps51
                go_wp2_with fail
                go_quiet (fail)
                go_wp2_with fail
                go_quiet (fail)
                go_wp2_with fail
                go_ret
                refine ⟨ret_bool (form_no ?_), by repeat (first | exact Below.refl _ _ | refine below_drewN ?_ _ | refine Below.alloc ?_ (by simp) _ | refine Below.alloc ?_ (Nat.le_refl _) _)⟩
                clear HC; (try simp only [bne_iff_ne, ne_eq, beq_iff_eq, bne_eq_false_iff_eq, beq_eq_false_iff_ne, same4, decide_eq_true_eq, decide_eq_false_iff_not] at *); unfold Shape; omega
            · go_enter Tryd.func51, Tryd.ntmps51
              go_wp2_with fail
              go_quiet (fail)
              go_wp2_with fail
              go_quiet (fail)
              go_wp2_with fail
              go_ret
              refine ⟨ret_bool (form_no ?_), by repeat (first | exact Below.refl _ _ | refine below_drewN ?_ _ | refine Below.alloc ?_ (by simp) _ | refine Below.alloc ?_ (Nat.le_refl _) _)⟩
              clear HC; (try simp only [bne_iff_ne, ne_eq, beq_iff_eq, bne_eq_false_iff_eq, beq_eq_false_iff_ne, same4, decide_eq_true_eq, decide_eq_false_iff_not] at *); unfold Shape; omega
        · cases h5 : decide (mx < mn)
          · cases hs : same4 s0 s1 s2 s3 0 0 0 0
            · go_enter Tryd.func51, Tryd.ntmps51
              go_wp2_with fail
              go_quiet (fail)
              go_wp2_with fail
              go_quiet (fail)
              go_wp2_with fail
              go_ret
              refine ⟨ret_bool (form_no ?_), by repeat (first | exact Below.refl _ _ | refine below_drewN ?_ _ | refine Below.alloc ?_ (by simp) _ | refine Below.alloc ?_ (Nat.le_refl _) _)⟩
              clear HC; (try simp only [bne_iff_ne, ne_eq, beq_iff_eq, bne_eq_false_iff_eq, beq_eq_false_iff_ne, same4, decide_eq_true_eq, decide_eq_false_iff_not] at *); unfold Shape; omega
            · cases hD : decide ((l.length : Int) < 1)
              · cases hE : decide ((1 : Int) < l.length)
                · go_enter Tryd.func51, Tryd.ntmps51
                  go_wp2_with fail
                  go_quiet (fail)
                  go_wp2_with fail
                  go_quiet (fail)
                  go_wp2_with fail
                  refine (HC.out _ (by repeat (first | exact Below.refl _ _ | refine below_drewN ?_ _ | refine Below.alloc ?_ (by simp) _ | refine Below.alloc ?_ (Nat.le_refl _) _))).mono ?_
                  rintro e w1 ⟨rfl, hb1⟩
                  go_wp2_with fail
                  go_ret
                  refine ⟨ret_bool (form_same ?_), Below.trans (by repeat (first | exact Below.refl _ _ | refine below_drewN ?_ _ | refine Below.alloc ?_ (by simp) _ | refine Below.alloc ?_ (Nat.le_refl _) _)) (hb1.mono (by simp))⟩
                  clear HC; (try simp only [bne_iff_ne, ne_eq, beq_iff_eq, bne_eq_false_iff_eq, beq_eq_false_iff_ne, same4, decide_eq_true_eq, decide_eq_false_iff_not] at *); unfold Shape; omega
                · go_enter Tryd.func51, Tryd.ntmps51
                  go_wp2_with fail
                  go_quiet (fail)
                  go_wp2_with fail
                  go_quiet (fail)
                  go_wp2_with fail
                  go_ret
                  refine ⟨ret_bool (form_no ?_), by repeat (first | exact Below.refl _ _ | refine below_drewN ?_ _ | refine Below.alloc ?_ (by simp) _ | refine Below.alloc ?_ (Nat.le_refl _) _)⟩
                  clear HC; (try simp only [bne_iff_ne, ne_eq, beq_iff_eq, bne_eq_false_iff_eq, beq_eq_false_iff_ne, same4, decide_eq_true_eq, decide_eq_false_iff_not] at *); unfold Shape; omega
              · go_enter Tryd.func51, Tryd.ntmps51
                go_wp2_with fail
                go_quiet (fail)
                go_wp2_with fail
                go_quiet (fail)
                go_wp2_with fail
                go_ret
                refine ⟨ret_bool (form_no ?_), by repeat (first | exact Below.refl _ _ | refine below_drewN ?_ _ | refine Below.alloc ?_ (by simp) _ | refine Below.alloc ?_ (Nat.le_refl _) _)⟩
                clear HC; (try simp only [bne_iff_ne, ne_eq, beq_iff_eq, bne_eq_false_iff_eq, beq_eq_false_iff_ne, same4, decide_eq_true_eq, decide_eq_false_iff_not] at *); unfold Shape; omega
          · go_enter Tryd.func51, Tryd.ntmps51
            go_wp2_with fail
            go_quiet (fail)
            go_wp2_with fail
            go_ret
            refine ⟨ret_bool (form_no ?_), by repeat (first | exact Below.refl _ _ | refine below_drewN ?_ _ | refine Below.alloc ?_ (by simp) _ | refine Below.alloc ?_ (Nat.le_refl _) _)⟩
            clear HC; (try simp only [bne_iff_ne, ne_eq, beq_iff_eq, bne_eq_false_iff_eq, beq_eq_false_iff_ne, same4, decide_eq_true_eq, decide_eq_false_iff_not] at *); unfold Shape; omega
      · go_enter Tryd.func51, Tryd.ntmps51
        go_wp2_with fail
        go_quiet (fail)
        go_wp2_with fail
        go_ret
        refine ⟨ret_bool (form_no ?_), by repeat (first | exact Below.refl _ _ | refine below_drewN ?_ _ | refine Below.alloc ?_ (by simp) _ | refine Below.alloc ?_ (Nat.le_refl _) _)⟩
        clear HC; (try simp only [bne_iff_ne, ne_eq, beq_iff_eq, bne_eq_false_iff_eq, beq_eq_false_iff_ne, same4, decide_eq_true_eq, decide_eq_false_iff_not] at *); unfold Shape; omega
    · go_enter Tryd.func51, Tryd.ntmps51
      go_wp2_with fail
      go_quiet (fail)
      go_wp2_with fail
      go_ret
      refine ⟨ret_bool (form_no ?_), by repeat (first | exact Below.refl _ _ | refine below_drewN ?_ _ | refine Below.alloc ?_ (by simp) _ | refine Below.alloc ?_ (Nat.le_refl _) _)⟩
      clear HC; (try simp only [bne_iff_ne, ne_eq, beq_iff_eq, bne_eq_false_iff_eq, beq_eq_false_iff_ne, same4, decide_eq_true_eq, decide_eq_false_iff_not] at *); unfold Shape; omega
  · go_enter Tryd.func51, Tryd.ntmps51
    go_wp2_with fail
    go_quiet (fail)
    go_wp2_with fail
    go_ret
    refine ⟨ret_bool (form_no ?_), by repeat (first | exact Below.refl _ _ | refine below_drewN ?_ _ | refine Below.alloc ?_ (by simp) _ | refine Below.alloc ?_ (Nat.le_refl _) _)⟩
    clear HC; (try simp only [bne_iff_ne, ne_eq, beq_iff_eq, bne_eq_false_iff_eq, beq_eq_false_iff_ne, same4, decide_eq_true_eq, decide_eq_false_iff_not] at *); unfold Shape; omega
set_option maxRecDepth 100000 in
set_option maxHeartbeats 2000000 in
theorem pform_x (k mn mx s0 s1 s2 s3 : Int) (a : Option Addr) (cap : Nat) (l : List RxA) (w : World) (hl1 : l.length ≤ cap) (hl2 : cap ≤ 9223372036854775807) (e0 : (k == 0) = false) (e1 : (k == 1) = false) (e2 : (k == 2) = false) (e3 : (k == 3) = false)
    (hc : ∀ w', Below w.heap.size w w' → Calls Tryd.prog 63 #[.slice a l.length cap, .func (.func 64) #[] #[]] w' fun e w'' => e = .returned (.bool (!formAll (bareAll l))) ∧ Below w'.heap.size w' w'') :
    Calls Tryd.prog 51 #[(RxA.node k mn mx s0 s1 s2 s3 a cap l).val] w fun e w' => e = .returned (.bool (RxA.node k mn mx s0 s1 s2 s3 a cap l).bare.formB) ∧ Below w.heap.size w w' := by
  have HC := Lib.hid hc; clear hc
  have hl0 : decide ((l.length : Int) < 0) = false := by simp
  show Calls Tryd.prog 51 #[.agg #[.int .i64 k, .int .i64 mn, .int .i64 mx, .int .u64 s0, .int .u64 s1, .int .u64 s2, .int .u64 s3, .slice a l.length cap]] w _
  go_enter Tryd.func51, Tryd.ntmps51
  go_wp2_with fail
  go_quiet (fail)
  go_wp2_with fail
  go_ret
  refine ⟨ret_bool (form_no ?_), by repeat (first | exact Below.refl _ _ | refine below_drewN ?_ _ | refine Below.alloc ?_ (by simp) _ | refine Below.alloc ?_ (Nat.le_refl _) _)⟩
  clear HC; (try simp only [bne_iff_ne, ne_eq, beq_iff_eq, bne_eq_false_iff_eq, beq_eq_false_iff_ne, same4, decide_eq_true_eq, decide_eq_false_iff_not] at *); unfold Shape; omega
end Go.Proofs.YtaelkjffidjcjaaDoor
