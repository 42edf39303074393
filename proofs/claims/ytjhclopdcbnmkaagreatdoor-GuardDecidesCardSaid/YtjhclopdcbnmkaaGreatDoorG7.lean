/- The walk of law20.fixed. -/
import Derived.Test.YtjhclopdcbnmkaaGreatDoorG5
import Derived.Test.YtjhclopdcbnmkaaGreatDoorG6
set_option linter.unusedSimpArgs false
set_option linter.unusedVariables false
namespace Go.Proofs.YtjhclopdcbnmkaaGreatDoor
open Go.RowKit PX

def gv1 : RuV := ⟨1, 0, 0, ⟨#[91, 48, 45, 57, 93, 43]⟩, ⟨#[]⟩⟩
def gv2 : RuV := ⟨1, 0, 2, ⟨#[105, 100, 61, 91, 48, 45, 57, 93, 43, 59, 46, 42]⟩, ⟨#[91, 48, 45, 57, 93, 43]⟩⟩
def gv3 : RuV := ⟨1, 0, 1, ⟨#[111, 107]⟩, ⟨#[]⟩⟩
def gvl : List RuV := [gv1, gv2, gv3]
theorem gvl_bare : gvl.map RuV.bare = gl := rfl
def gcells : List Value := gv1.cells ++ gv2.cells ++ gv3.cells
theorem gvl_in (w : World) (b : Nat) (hb : b < w.heap.size) (h : ∀ k, k < 15 → w.cell? ⟨b, k, none⟩ = gcells[k]?) : RulesIn w (some ⟨b, 0, none⟩) 3 gvl := by
  refine ⟨Nat.le_refl _, by omega, .inr ⟨b, 0, rfl, hb, fun i hi j hj => ?_⟩⟩
  rw [h _ (by have : i < 3 := hi; omega)]
  have hi3 : i < 3 := hi
  rcases (by omega : i = 0 ∨ i = 1 ∨ i = 2) with rfl | rfl | rfl <;>
  rcases (by omega : j = 0 ∨ j = 1 ∨ j = 2 ∨ j = 3 ∨ j = 4) with rfl | rfl | rfl | rfl | rfl <;> rfl
def zeroDec : Value := .agg #[.int .i64 0, .int .i64 0, .string ⟨#[]⟩]
theorem dec17 (w : World) (a : Option Addr) (h : RulesIn w a 3 gvl) (hT : TabAt 0 Lib.deBruijn64tab w) :
    Calls Tryz.prog 17 #[.slice a 3 3, .int .i64 1, .int .i64 0, .string ⟨#[49, 55]⟩] w fun e w' => e = .returned (.tuple #[.agg #[.int .i64 0, .int .i64 0, .string ⟨#[]⟩], .int .i64 0]) ∧ Later w w' := by
  refine (decide_any w a 3 gvl 1 0 ⟨#[49, 55]⟩ h hT).mono ?_
  rintro e w' ⟨he, hl⟩
  refine ⟨?_, hl⟩
  rw [he, gvl_bare, show (⟨#[49, 55]⟩ : ByteArray).data.toList = g17 from rfl, gdecide17]
theorem decid (w : World) (a : Option Addr) (h : RulesIn w a 3 gvl) (hT : TabAt 0 Lib.deBruijn64tab w) :
    Calls Tryz.prog 17 #[.slice a 3 3, .int .i64 1, .int .i64 0, .string ⟨#[105, 100, 61, 49, 55, 59, 120, 57]⟩] w fun e w' => e = .returned (.tuple #[.agg #[.int .i64 1, .int .i64 2, .string ⟨#[105, 100, 61, 42, 42, 59, 120, 42]⟩], .int .i64 0]) ∧ Later w w' := by
  refine (decide_any w a 3 gvl 1 0 ⟨#[105, 100, 61, 49, 55, 59, 120, 57]⟩ h hT).mono ?_
  rintro e w' ⟨he, hl⟩
  refine ⟨?_, hl⟩
  rw [he, gvl_bare, show (⟨#[105, 100, 61, 49, 55, 59, 120, 57]⟩ : ByteArray).data.toList = gid from rfl, gdecideid]
theorem decok (w : World) (a : Option Addr) (h : RulesIn w a 3 gvl) (hT : TabAt 0 Lib.deBruijn64tab w) :
    Calls Tryz.prog 17 #[.slice a 3 3, .int .i64 1, .int .i64 0, .string ⟨#[111, 107]⟩] w fun e w' => e = .returned (.tuple #[.agg #[.int .i64 2, .int .i64 1, .string ⟨#[111, 107]⟩], .int .i64 0]) ∧ Later w w' := by
  refine (decide_any w a 3 gvl 1 0 ⟨#[111, 107]⟩ h hT).mono ?_
  rintro e w' ⟨he, hl⟩
  refine ⟨?_, hl⟩
  rw [he, gvl_bare, show (⟨#[111, 107]⟩ : ByteArray).data.toList = gok from rfl, gdecideok]
theorem decno (w : World) (a : Option Addr) (h : RulesIn w a 3 gvl) (hT : TabAt 0 Lib.deBruijn64tab w) :
    Calls Tryz.prog 17 #[.slice a 3 3, .int .i64 0, .int .i64 1, .string ⟨#[111, 107]⟩] w fun e w' => e = .returned (.tuple #[.agg #[.int .i64 (-1), .int .i64 0, .string ⟨#[]⟩], .int .i64 0]) ∧ Later w w' := by
  refine (decide_any w a 3 gvl 0 1 ⟨#[111, 107]⟩ h hT).mono ?_
  rintro e w' ⟨he, hl⟩
  refine ⟨?_, hl⟩
  rw [he, gvl_bare, show (⟨#[111, 107]⟩ : ByteArray).data.toList = gok from rfl, gdecideno]
theorem chk2 (w : World) (a : Option Addr) (h : RulesIn w a 3 gvl) :
    Calls Tryz.prog 19 #[.slice a 3 3, .int .i64 2] w fun e w' => e = .returned (.int .i64 0) ∧ Later w w' := by
  have := check_any w a 3 gvl 2 h
  rw [gvl_bare, gcheck2] at this
  exact this
theorem chk1 (w : World) (a : Option Addr) (h : RulesIn w a 3 gvl) :
    Calls Tryz.prog 19 #[.slice a 3 3, .int .i64 1] w fun e w' => e = .returned (.int .i64 200) ∧ Later w w' := by
  have := check_any w a 3 gvl 1 h
  rw [gvl_bare, gcheck1] at this
  exact this
theorem chk0 (w : World) :
    Calls Tryz.prog 19 #[.slice none 0 0, .int .i64 0] w fun e w' => e = .returned (.int .i64 1) ∧ Later w w' := by
  have := check_any w none 0 [] 0 ⟨Nat.le_refl _, by omega, .inl rfl⟩
  rw [show ([] : List RuV).map RuV.bare = [] from rfl, gcheck0] at this
  exact this

set_option maxRecDepth 100000 in
set_option maxHeartbeats 2000000 in
theorem gfixed_any (w : World) (hT : TabAt 0 Lib.deBruijn64tab w) : Calls Tryz.prog 21 #[] w fun e w' => e = .returned (.bool true) ∧ Later w w' := by
  have HR0 : Hid (RulesIn (w.alloc (.cells #[.int .i64 1, .int .i64 0, .int .i64 0, .string ⟨#[91, 48, 45, 57, 93, 43]⟩, .string ⟨#[]⟩, .int .i64 1, .int .i64 0, .int .i64 2, .string ⟨#[105, 100, 61, 91, 48, 45, 57, 93, 43, 59, 46, 42]⟩, .string ⟨#[91, 48, 45, 57, 93, 43]⟩, .int .i64 1, .int .i64 0, .int .i64 1, .string ⟨#[111, 107]⟩, .string ⟨#[]⟩] 56)) (some ⟨w.heap.size, 0, none⟩) 3 gvl) := Lib.hid (gvl_in _ _ (lt_of_block (alloc_block w _)) (fun k hk => by
    rw [cell_of_block (alloc_block w _) k]
    refine Eq.trans (b := gcells.toArray[k]?) rfl ?_
    exact List.getElem?_toArray))
  have h0 : Later w (w.alloc (.cells #[.int .i64 1, .int .i64 0, .int .i64 0, .string ⟨#[91, 48, 45, 57, 93, 43]⟩, .string ⟨#[]⟩, .int .i64 1, .int .i64 0, .int .i64 2, .string ⟨#[105, 100, 61, 91, 48, 45, 57, 93, 43, 59, 46, 42]⟩, .string ⟨#[91, 48, 45, 57, 93, 43]⟩, .int .i64 1, .int .i64 0, .int .i64 1, .string ⟨#[111, 107]⟩, .string ⟨#[]⟩] 56)) := (Later.refl w).alloc _
  have HT := Lib.hid (fun w1 (h1 : Later w w1) => TabAt.below hT h1)
  clear hT
  have HR := Lib.hid (fun w1 (h1 : Later (w.alloc (.cells #[.int .i64 1, .int .i64 0, .int .i64 0, .string ⟨#[91, 48, 45, 57, 93, 43]⟩, .string ⟨#[]⟩, .int .i64 1, .int .i64 0, .int .i64 2, .string ⟨#[105, 100, 61, 91, 48, 45, 57, 93, 43, 59, 46, 42]⟩, .string ⟨#[91, 48, 45, 57, 93, 43]⟩, .int .i64 1, .int .i64 0, .int .i64 1, .string ⟨#[111, 107]⟩, .string ⟨#[]⟩] 56)) w1) => HR0.out.later h1)
  clear HR0
  have HD1 := Lib.hid dec17
  have HD2 := Lib.hid decid
  have HD3 := Lib.hid decok
  have HD4 := Lib.hid decno
  have HC2 := Lib.hid chk2
  have HC1 := Lib.hid chk1
  have HC0 := Lib.hid chk0
  go_enter Tryz.func21, Tryz.ntmps21
  go_wp2_with (first
    | (go_at_call 17; (with_reducible refine (HD1.out _ _ (HR.out _ (by repeat (first | assumption | exact Later.refl _ | refine Later.alloc ?_ _ | refine Later.trans ?_ (by assumption)))) (HT.out _ (by repeat (first | assumption | exact Later.refl _ | refine Later.alloc ?_ _ | refine Later.trans ?_ (by assumption))))).mono ?_); rintro e w1 ⟨rfl, hl1⟩; have HE1 := Lib.hid (alloc_block w1 (.cells #[.int .i64 0, .int .i64 0, .string ⟨#[]⟩] 42)); have ha1 : Later w1 (w1.alloc (.cells #[.int .i64 0, .int .i64 0, .string ⟨#[]⟩] 42)) := (Later.refl w1).alloc _)
    | (go_at_call 17; (with_reducible refine (HD2.out _ _ (HR.out _ (by repeat (first | assumption | exact Later.refl _ | refine Later.alloc ?_ _ | refine Later.trans ?_ (by assumption)))) (HT.out _ (by repeat (first | assumption | exact Later.refl _ | refine Later.alloc ?_ _ | refine Later.trans ?_ (by assumption))))).mono ?_); rintro e w2 ⟨rfl, hl2⟩; have HE2 := Lib.hid (alloc_block w2 (.cells #[.int .i64 1, .int .i64 2, .string ⟨#[105, 100, 61, 42, 42, 59, 120, 42]⟩] 42)); have ha2 : Later w2 (w2.alloc (.cells #[.int .i64 1, .int .i64 2, .string ⟨#[105, 100, 61, 42, 42, 59, 120, 42]⟩] 42)) := (Later.refl w2).alloc _)
    | (go_at_call 17; (with_reducible refine (HD3.out _ _ (HR.out _ (by repeat (first | assumption | exact Later.refl _ | refine Later.alloc ?_ _ | refine Later.trans ?_ (by assumption)))) (HT.out _ (by repeat (first | assumption | exact Later.refl _ | refine Later.alloc ?_ _ | refine Later.trans ?_ (by assumption))))).mono ?_); rintro e w3 ⟨rfl, hl3⟩; have HE3 := Lib.hid (alloc_block w3 (.cells #[.int .i64 2, .int .i64 1, .string ⟨#[111, 107]⟩] 42)); have ha3 : Later w3 (w3.alloc (.cells #[.int .i64 2, .int .i64 1, .string ⟨#[111, 107]⟩] 42)) := (Later.refl w3).alloc _)
    | (go_at_call 17; (with_reducible refine (HD4.out _ _ (HR.out _ (by repeat (first | assumption | exact Later.refl _ | refine Later.alloc ?_ _ | refine Later.trans ?_ (by assumption)))) (HT.out _ (by repeat (first | assumption | exact Later.refl _ | refine Later.alloc ?_ _ | refine Later.trans ?_ (by assumption))))).mono ?_); rintro e w4 ⟨rfl, hl4⟩; have HE4 := Lib.hid (alloc_block w4 (.cells #[.int .i64 (-1), .int .i64 0, .string ⟨#[]⟩] 42)); have ha4 : Later w4 (w4.alloc (.cells #[.int .i64 (-1), .int .i64 0, .string ⟨#[]⟩] 42)) := (Later.refl w4).alloc _; have hE1 := (show Later (w1.alloc (.cells #[.int .i64 0, .int .i64 0, .string ⟨#[]⟩] 42)) (w4.alloc (.cells #[.int .i64 (-1), .int .i64 0, .string ⟨#[]⟩] 42)) from (by repeat (first | assumption | exact Later.refl _ | refine Later.alloc ?_ _ | refine Later.trans ?_ (by assumption)))).block HE1.out; have q10 : (w4.alloc (.cells #[.int .i64 (-1), .int .i64 0, .string ⟨#[]⟩] 42)).cell? ⟨w1.heap.size, 0, none⟩ = some (.int .i64 0) := cell_of_block hE1 0; have q11 : (w4.alloc (.cells #[.int .i64 (-1), .int .i64 0, .string ⟨#[]⟩] 42)).cell? ⟨w1.heap.size, 1, none⟩ = some (.int .i64 0) := cell_of_block hE1 1; have q12 : (w4.alloc (.cells #[.int .i64 (-1), .int .i64 0, .string ⟨#[]⟩] 42)).cell? ⟨w1.heap.size, 2, none⟩ = some (.string ⟨#[]⟩) := cell_of_block hE1 2; clear hE1; have hE2 := (show Later (w2.alloc (.cells #[.int .i64 1, .int .i64 2, .string ⟨#[105, 100, 61, 42, 42, 59, 120, 42]⟩] 42)) (w4.alloc (.cells #[.int .i64 (-1), .int .i64 0, .string ⟨#[]⟩] 42)) from (by repeat (first | assumption | exact Later.refl _ | refine Later.alloc ?_ _ | refine Later.trans ?_ (by assumption)))).block HE2.out; have q20 : (w4.alloc (.cells #[.int .i64 (-1), .int .i64 0, .string ⟨#[]⟩] 42)).cell? ⟨w2.heap.size, 0, none⟩ = some (.int .i64 1) := cell_of_block hE2 0; have q21 : (w4.alloc (.cells #[.int .i64 (-1), .int .i64 0, .string ⟨#[]⟩] 42)).cell? ⟨w2.heap.size, 1, none⟩ = some (.int .i64 2) := cell_of_block hE2 1; have q22 : (w4.alloc (.cells #[.int .i64 (-1), .int .i64 0, .string ⟨#[]⟩] 42)).cell? ⟨w2.heap.size, 2, none⟩ = some (.string ⟨#[105, 100, 61, 42, 42, 59, 120, 42]⟩) := cell_of_block hE2 2; clear hE2; have hE3 := (show Later (w3.alloc (.cells #[.int .i64 2, .int .i64 1, .string ⟨#[111, 107]⟩] 42)) (w4.alloc (.cells #[.int .i64 (-1), .int .i64 0, .string ⟨#[]⟩] 42)) from (by repeat (first | assumption | exact Later.refl _ | refine Later.alloc ?_ _ | refine Later.trans ?_ (by assumption)))).block HE3.out; have q30 : (w4.alloc (.cells #[.int .i64 (-1), .int .i64 0, .string ⟨#[]⟩] 42)).cell? ⟨w3.heap.size, 0, none⟩ = some (.int .i64 2) := cell_of_block hE3 0; have q31 : (w4.alloc (.cells #[.int .i64 (-1), .int .i64 0, .string ⟨#[]⟩] 42)).cell? ⟨w3.heap.size, 1, none⟩ = some (.int .i64 1) := cell_of_block hE3 1; have q32 : (w4.alloc (.cells #[.int .i64 (-1), .int .i64 0, .string ⟨#[]⟩] 42)).cell? ⟨w3.heap.size, 2, none⟩ = some (.string ⟨#[111, 107]⟩) := cell_of_block hE3 2; clear hE3; have hE4 := (show Later (w4.alloc (.cells #[.int .i64 (-1), .int .i64 0, .string ⟨#[]⟩] 42)) (w4.alloc (.cells #[.int .i64 (-1), .int .i64 0, .string ⟨#[]⟩] 42)) from (by repeat (first | assumption | exact Later.refl _ | refine Later.alloc ?_ _ | refine Later.trans ?_ (by assumption)))).block HE4.out; have q40 : (w4.alloc (.cells #[.int .i64 (-1), .int .i64 0, .string ⟨#[]⟩] 42)).cell? ⟨w4.heap.size, 0, none⟩ = some (.int .i64 (-1)) := cell_of_block hE4 0; have q41 : (w4.alloc (.cells #[.int .i64 (-1), .int .i64 0, .string ⟨#[]⟩] 42)).cell? ⟨w4.heap.size, 1, none⟩ = some (.int .i64 0) := cell_of_block hE4 1; have q42 : (w4.alloc (.cells #[.int .i64 (-1), .int .i64 0, .string ⟨#[]⟩] 42)).cell? ⟨w4.heap.size, 2, none⟩ = some (.string ⟨#[]⟩) := cell_of_block hE4 2; clear hE4)
    | (go_at_call 19; (with_reducible refine (HC2.out _ _ (HR.out _ (by repeat (first | assumption | exact Later.refl _ | refine Later.alloc ?_ _ | refine Later.trans ?_ (by assumption))))).mono ?_); rintro e w5 ⟨rfl, hl5⟩)
    | (go_at_call 19; (with_reducible refine (HC1.out _ _ (HR.out _ (by repeat (first | assumption | exact Later.refl _ | refine Later.alloc ?_ _ | refine Later.trans ?_ (by assumption))))).mono ?_); rintro e w6 ⟨rfl, hl6⟩)
    | (go_at_call 19; (with_reducible refine (HC0.out _).mono ?_); rintro e w7 ⟨rfl, hl7⟩)
    | fail)
  go_ret
  exact ⟨rfl, (by repeat (first | assumption | exact Later.refl _ | refine Later.alloc ?_ _ | refine Later.trans ?_ (by assumption)))⟩
end Go.Proofs.YtjhclopdcbnmkaaGreatDoor
