/- The walk of GuardHides. -/
import Derived.Test.YtnlningkcllpdaaDoorG7
set_option linter.unusedSimpArgs false
set_option linter.unusedVariables false
namespace Go.Proofs.YtnlningkcllpdaaDoor
open Go.RowKit PX

def hv (P Q : ByteArray) : RuV := ⟨1, 0, 2, P, Q⟩
def hb (P Q : ByteArray) : Rul := ⟨1, 0, 2, P.data.toList, Q.data.toList⟩
theorem hv_bare (P Q : ByteArray) : [hv P Q].map RuV.bare = [hb P Q] := rfl
theorem hv_in (w : World) (P Q : ByteArray) : RulesIn (w.alloc (.cells #[.int .i64 1, .int .i64 0, .int .i64 2, .string P, .string Q] 32)) (some ⟨w.heap.size, 0, none⟩) 1 [hv P Q] := by
  refine ⟨Nat.le_refl _, by omega, .inr ⟨w.heap.size, 0, rfl, lt_of_block (alloc_block w _), fun i hi j hj => ?_⟩⟩
  rw [cell_of_block (alloc_block w _)]
  have hi3 : i < 1 := hi
  obtain rfl : i = 0 := by omega
  rcases (by omega : j = 0 ∨ j = 1 ∨ j = 2 ∨ j = 3 ∨ j = 4) with rfl | rfl | rfl | rfl | rfl <;> rfl
theorem hb_check (P Q : ByteArray) : checkG [hb P Q] 2 = checkG [hb P Q] 8 := by
  unfold checkG
  simp [Rul.okB, hb]
theorem hdec {P Q S : ByteArray} {D : Int × Int × List UInt8 × Int} (hD : decideG [hb P Q] 1 0 S.data.toList = D) (w : World) (a : Option Addr) (h : RulesIn w a 1 [hv P Q]) (hT : TabAt 0 Lib.deBruijn64tab w) :
    Calls Tryd.prog 6 #[.slice a 1 1, .int .i64 1, .int .i64 0, .string S] w fun e w' => e = .returned (.tuple #[.agg #[.int .i64 D.1, .int .i64 D.2.1, .string ⟨D.2.2.1.toArray⟩], .int .i64 D.2.2.2]) ∧ Later w w' := by
  rw [← hD]
  exact decide_any w a 1 [hv P Q] 1 0 S h hT
theorem hchk {P Q : ByteArray} {c : Int} (hc : checkG [hb P Q] 8 = c) (w : World) (a : Option Addr) (h : RulesIn w a 1 [hv P Q]) :
    Calls Tryd.prog 10 #[.slice a 1 1, .int .i64 2] w fun e w' => e = .returned (.int .i64 c) ∧ Later w w' := by
  rw [← hc, ← hb_check]
  exact check_any w a 1 [hv P Q] 2 h
theorem hof {S : ByteArray} {x : Rx} (h : parseR S.data.toList = .inl x) (w : World) :
    Calls Tryd.prog 8 #[.string S] w fun e w' => ∃ p, e = .returned (.tuple #[.pointer (some ⟨p, 0, none⟩), .int .i64 0]) ∧ w.heap.size ≤ p ∧ Machine w' p x ∧ Below w.heap.size w w' :=
  of_good w S x h (by obtain ⟨h1, h2⟩ := parseR_form h; unfold checkR; rw [if_pos h1, if_neg (by omega)])
theorem hb_ok {P Q : ByteArray} (h : checkG [hb P Q] 8 = 0) : (∃ x, parseR P.data.toList = .inl x) ∧ ∃ y, parseR Q.data.toList = .inl y := by
  obtain ⟨-, h1, h2⟩ := okB_parts ((checkG_all h).2 _ (List.mem_cons_self ..))
  exact ⟨h1, h2 rfl⟩
theorem hb_none {P Q : ByteArray} {x : Rx} (hx : parseR P.data.toList = .inl x) {s : List UInt8} (h : inB x.lang s = false) : firstG 1 0 s 0 [hb P Q] = none := by
  simp only [firstG]
  rw [takes_is (r := hb P Q) (fr := 1) (tu := 0) rfl rfl hx, h]
  rfl
theorem hb_some {P Q : ByteArray} {x : Rx} (hx : parseR P.data.toList = .inl x) {s : List UInt8} (h : inB x.lang s = true) : firstG 1 0 s 0 [hb P Q] = some (0, hb P Q) := by
  simp only [firstG]
  rw [takes_is (r := hb P Q) (fr := 1) (tu := 0) rfl rfl hx, h]
  rfl
set_option maxRecDepth 100000 in
set_option maxHeartbeats 2000000 in
theorem hides_bad (w : World) (P Q S : ByteArray) (c : Int) (hc : checkG [hb P Q] 8 = c) (hn : (c != 0) = true) (hT : TabAt 0 Lib.deBruijn64tab w) :
    Calls Tryd.prog 5 #[.string P, .string Q, .string S] w fun e w' => e = .returned (.bool true) ∧ Later w w' := by
  have h0 : Later w (w.alloc (.cells #[.int .i64 1, .int .i64 0, .int .i64 2, .string P, .string Q] 32)) := (Later.refl w).alloc _
  have HR0 : Hid (RulesIn (w.alloc (.cells #[.int .i64 1, .int .i64 0, .int .i64 2, .string P, .string Q] 32)) (some ⟨w.heap.size, 0, none⟩) 1 [hv P Q]) := Lib.hid (hv_in w P Q)
  have HR := Lib.hid (fun w1 (h1 : Later (w.alloc (.cells #[.int .i64 1, .int .i64 0, .int .i64 2, .string P, .string Q] 32)) w1) => HR0.out.later h1)
  clear HR0
  have HT := Lib.hid (fun w1 (h1 : Later w w1) => TabAt.below hT h1)
  have HFIX := Lib.hid (fun w1 (h1 : Later w w1) => gfixed_any w1 (TabAt.below hT h1))
  clear hT
  have hne : checkG [hb P Q] 8 ≠ 0 := by rw [hc]; simpa using hn
  have HD := Lib.hid (fun w1 a (h1 : RulesIn w1 a 1 [hv P Q]) h2 => (show Calls Tryd.prog 6 #[.slice a 1 1, .int .i64 1, .int .i64 0, .string S] w1 fun e w' => e = .returned (.tuple #[.agg #[.int .i64 0, .int .i64 0, .string ⟨#[]⟩], .int .i64 c]) ∧ Later w1 w' from
    hdec ((decide_bad (fr := 1) (tu := 0) (s := S.data.toList) hne).trans (by rw [hc])) w1 a h1 h2))
  have HC := Lib.hid (fun w1 a h => hchk hc w1 a h)
  clear hne hc
  go_enter Tryd.func5, Tryd.ntmps5
  go_wp2_with (first
    | (go_at_call 6; (with_reducible refine (HD.out _ _ (HR.out _ (by repeat (first | assumption | exact Later.refl _ | refine Later.alloc ?_ _ | refine Later.drew ?_ | refine Later.trans ?_ (by assumption)))) (HT.out _ (by repeat (first | assumption | exact Later.refl _ | refine Later.alloc ?_ _ | refine Later.drew ?_ | refine Later.trans ?_ (by assumption))))).mono ?_); rintro e w1 ⟨rfl, hl1⟩; have HE1 := Lib.hid (alloc_block w1 (.cells #[.int .i64 0, .int .i64 0, .string ⟨#[]⟩] 26)); have ha1 : Later w1 (w1.alloc (.cells #[.int .i64 0, .int .i64 0, .string ⟨#[]⟩] 26)) := (Later.refl w1).alloc _)
    | (go_at_call 10; (with_reducible refine (HC.out _ _ (HR.out _ (by repeat (first | assumption | exact Later.refl _ | refine Later.alloc ?_ _ | refine Later.drew ?_ | refine Later.trans ?_ (by assumption))))).mono ?_); rintro e w2 ⟨rfl, hl2⟩)
    | (go_at_call 7; (with_reducible refine (HFIX.out _ (by repeat (first | assumption | exact Later.refl _ | refine Later.alloc ?_ _ | refine Later.drew ?_ | refine Later.trans ?_ (by assumption)))).mono ?_); rintro e w3 ⟨rfl, hl3⟩)
    | fail)
  go_ret
  exact ⟨rfl, (by repeat (first | assumption | exact Later.refl _ | refine Later.alloc ?_ _ | refine Later.drew ?_ | refine Later.trans ?_ (by assumption)))⟩
set_option maxRecDepth 100000 in
set_option maxHeartbeats 2000000 in
theorem hides_long (w : World) (P Q S : ByteArray) (hc : checkG [hb P Q] 8 = 0) (hs : 200 < S.size) (hT : TabAt 0 Lib.deBruijn64tab w) :
    Calls Tryd.prog 5 #[.string P, .string Q, .string S] w fun e w' => e = .returned (.bool true) ∧ Later w w' := by
  have h0 : Later w (w.alloc (.cells #[.int .i64 1, .int .i64 0, .int .i64 2, .string P, .string Q] 32)) := (Later.refl w).alloc _
  have HR0 : Hid (RulesIn (w.alloc (.cells #[.int .i64 1, .int .i64 0, .int .i64 2, .string P, .string Q] 32)) (some ⟨w.heap.size, 0, none⟩) 1 [hv P Q]) := Lib.hid (hv_in w P Q)
  have HR := Lib.hid (fun w1 (h1 : Later (w.alloc (.cells #[.int .i64 1, .int .i64 0, .int .i64 2, .string P, .string Q] 32)) w1) => HR0.out.later h1)
  clear HR0
  have HT := Lib.hid (fun w1 (h1 : Later w w1) => TabAt.below hT h1)
  have HFIX := Lib.hid (fun w1 (h1 : Later w w1) => gfixed_any w1 (TabAt.below hT h1))
  clear hT
  have HD := Lib.hid (fun w1 a (h1 : RulesIn w1 a 1 [hv P Q]) h2 => (show Calls Tryd.prog 6 #[.slice a 1 1, .int .i64 1, .int .i64 0, .string S] w1 fun e w' => e = .returned (.tuple #[.agg #[.int .i64 0, .int .i64 0, .string ⟨#[]⟩], .int .i64 201]) ∧ Later w1 w' from
    hdec (decide_long (fr := 1) (tu := 0) (s := S.data.toList) hc (by rw [ba_len]; exact hs)) w1 a h1 h2))
  have HC := Lib.hid (fun w1 a h => hchk hc w1 a h)
  clear hc
  have hs2 : (200 : Int) < S.size := by omega
  clear hs
  go_enter Tryd.func5, Tryd.ntmps5
  go_wp2_with (first
    | (go_at_call 6; (with_reducible refine (HD.out _ _ (HR.out _ (by repeat (first | assumption | exact Later.refl _ | refine Later.alloc ?_ _ | refine Later.drew ?_ | refine Later.trans ?_ (by assumption)))) (HT.out _ (by repeat (first | assumption | exact Later.refl _ | refine Later.alloc ?_ _ | refine Later.drew ?_ | refine Later.trans ?_ (by assumption))))).mono ?_); rintro e w1 ⟨rfl, hl1⟩; have HE1 := Lib.hid (alloc_block w1 (.cells #[.int .i64 0, .int .i64 0, .string ⟨#[]⟩] 26)); have ha1 : Later w1 (w1.alloc (.cells #[.int .i64 0, .int .i64 0, .string ⟨#[]⟩] 26)) := (Later.refl w1).alloc _)
    | (go_at_call 10; (with_reducible refine (HC.out _ _ (HR.out _ (by repeat (first | assumption | exact Later.refl _ | refine Later.alloc ?_ _ | refine Later.drew ?_ | refine Later.trans ?_ (by assumption))))).mono ?_); rintro e w2 ⟨rfl, hl2⟩)
    | (go_at_call 7; (with_reducible refine (HFIX.out _ (by repeat (first | assumption | exact Later.refl _ | refine Later.alloc ?_ _ | refine Later.drew ?_ | refine Later.trans ?_ (by assumption)))).mono ?_); rintro e w3 ⟨rfl, hl3⟩)
    | fail)
  go_ret
  exact ⟨rfl, (by repeat (first | assumption | exact Later.refl _ | refine Later.alloc ?_ _ | refine Later.drew ?_ | refine Later.trans ?_ (by assumption)))⟩
set_option maxRecDepth 100000 in
set_option maxHeartbeats 2000000 in
theorem hides_no (w : World) (P Q S : ByteArray) (x y : Rx) (hx : parseR P.data.toList = .inl x) (hy : parseR Q.data.toList = .inl y) (hc : checkG [hb P Q] 8 = 0) (hs : S.size ≤ 200) (hi : inB x.lang S.data.toList = false) (hT : TabAt 0 Lib.deBruijn64tab w) :
    Calls Tryd.prog 5 #[.string P, .string Q, .string S] w fun e w' => e = .returned (.bool true) ∧ Later w w' := by
  have h0 : Later w (w.alloc (.cells #[.int .i64 1, .int .i64 0, .int .i64 2, .string P, .string Q] 32)) := (Later.refl w).alloc _
  have HR0 : Hid (RulesIn (w.alloc (.cells #[.int .i64 1, .int .i64 0, .int .i64 2, .string P, .string Q] 32)) (some ⟨w.heap.size, 0, none⟩) 1 [hv P Q]) := Lib.hid (hv_in w P Q)
  have HR := Lib.hid (fun w1 (h1 : Later (w.alloc (.cells #[.int .i64 1, .int .i64 0, .int .i64 2, .string P, .string Q] 32)) w1) => HR0.out.later h1)
  clear HR0
  have HT := Lib.hid (fun w1 (h1 : Later w w1) => TabAt.below hT h1)
  have HFIX := Lib.hid (fun w1 (h1 : Later w w1) => gfixed_any w1 (TabAt.below hT h1))
  clear hT
  have HD := Lib.hid (fun w1 a (h1 : RulesIn w1 a 1 [hv P Q]) h2 => (show Calls Tryd.prog 6 #[.slice a 1 1, .int .i64 1, .int .i64 0, .string S] w1 fun e w' => e = .returned (.tuple #[.agg #[.int .i64 (-1), .int .i64 0, .string ⟨#[]⟩], .int .i64 0]) ∧ Later w1 w' from
    hdec (decide_none (fr := 1) (tu := 0) (s := S.data.toList) hc (by rw [ba_len]; exact hs) (hb_none hx hi)) w1 a h1 h2))
  have HO1 := Lib.hid (fun w1 => hof hx w1)
  have HO2 := Lib.hid (fun w1 => hof hy w1)
  have HIS := Lib.hid (fun w1 p (h : MX w1 p x) => (show Calls Tryd.prog 9 #[.pointer (some ⟨p, 0, none⟩), .string S] w1 fun e w' => e = .returned (.tuple #[.bool false, .int .i64 0]) ∧ Later w1 w' from by rw [← hi]; exact is_in w1 p x h S (by omega)))
  clear hc hx hy hi hs
  go_enter Tryd.func5, Tryd.ntmps5
  go_wp2_with (first
    | (go_at_call 6; (with_reducible refine (HD.out _ _ (HR.out _ (by repeat (first | assumption | exact Later.refl _ | refine Later.alloc ?_ _ | refine Later.drew ?_ | refine Later.trans ?_ (by assumption)))) (HT.out _ (by repeat (first | assumption | exact Later.refl _ | refine Later.alloc ?_ _ | refine Later.drew ?_ | refine Later.trans ?_ (by assumption))))).mono ?_); rintro e w1 ⟨rfl, hl1⟩; have HE1 := Lib.hid (alloc_block w1 (.cells #[.int .i64 (-1), .int .i64 0, .string ⟨#[]⟩] 26)); have ha1 : Later w1 (w1.alloc (.cells #[.int .i64 (-1), .int .i64 0, .string ⟨#[]⟩] 26)) := (Later.refl w1).alloc _)
    | (go_at_call 8; (with_reducible refine (HO1.out _).mono ?_); rintro e w3 ⟨p3, rfl, hp3, hm3, hb3⟩; have hl3 := Later.of hb3; have HM3 := Lib.hid (MX.mk hm3 (HT.out _ (by repeat (first | assumption | exact Later.refl _ | refine Later.alloc ?_ _ | refine Later.drew ?_ | refine Later.trans ?_ (by assumption))))); clear hb3 hm3 hp3)
    | (go_at_call 8; (with_reducible refine (HO2.out _).mono ?_); rintro e w4 ⟨p4, rfl, hp4, hm4, hb4⟩; have hl4 := Later.of hb4; have HM4 := Lib.hid (MX.mk hm4 (HT.out _ (by repeat (first | assumption | exact Later.refl _ | refine Later.alloc ?_ _ | refine Later.drew ?_ | refine Later.trans ?_ (by assumption))))); clear hb4 hm4 hp4)
    | (go_at_call 9; (with_reducible refine (HIS.out _ _ (HM3.out.later (by repeat (first | assumption | exact Later.refl _ | refine Later.alloc ?_ _ | refine Later.drew ?_ | refine Later.trans ?_ (by assumption))))).mono ?_); rintro e w5 ⟨rfl, hl5⟩; have hE5 := (show Later (w1.alloc (.cells #[.int .i64 (-1), .int .i64 0, .string ⟨#[]⟩] 26)) w5 from (by repeat (first | assumption | exact Later.refl _ | refine Later.alloc ?_ _ | refine Later.drew ?_ | refine Later.trans ?_ (by assumption)))).block HE1.out; have q0 : w5.cell? ⟨w1.heap.size, 0, none⟩ = some (.int .i64 (-1)) := cell_of_block hE5 0; have q1 : w5.cell? ⟨w1.heap.size, 1, none⟩ = some (.int .i64 0) := cell_of_block hE5 1; have q2 : w5.cell? ⟨w1.heap.size, 2, none⟩ = some (.string ⟨#[]⟩) := cell_of_block hE5 2; clear hE5)
    | (go_at_call 7; (with_reducible refine (HFIX.out _ (by repeat (first | assumption | exact Later.refl _ | refine Later.alloc ?_ _ | refine Later.drew ?_ | refine Later.trans ?_ (by assumption)))).mono ?_); rintro e w6 ⟨rfl, hl6⟩)
    | fail)
  go_ret
  exact ⟨rfl, (by repeat (first | assumption | exact Later.refl _ | refine Later.alloc ?_ _ | refine Later.drew ?_ | refine Later.trans ?_ (by assumption)))⟩
end Go.Proofs.YtnlningkcllpdaaDoor

