/- The walk of the guard's Check. -/
import Derived.Test.YtjhclopdcbnmkaaGreatDoorG3
set_option linter.unusedSimpArgs false
set_option linter.unusedVariables false
namespace Go.Proofs.YtjhclopdcbnmkaaGreatDoor
open Go.RowKit PX

theorem rules_at {w : World} {a : Option Addr} {cap : Nat} {l : List RuV} (h : RulesIn w a cap l) {k : Nat} (hk : k < l.length) : ∃ b o, a = some ⟨b, o, none⟩ ∧
    w.cell? ⟨b, o + k * 5, none⟩ = some (.int .i64 l[k].fr) ∧ w.cell? ⟨b, o + k * 5 + 1, none⟩ = some (.int .i64 l[k].tu) ∧ w.cell? ⟨b, o + k * 5 + 2, none⟩ = some (.int .i64 l[k].act) ∧ w.cell? ⟨b, o + k * 5 + 3, none⟩ = some (.string l[k].pat) ∧ w.cell? ⟨b, o + k * 5 + 4, none⟩ = some (.string l[k].wth) := by
  rcases h.2.2 with rfl | ⟨b, o, rfl, -, hc⟩
  · simp at hk
  · exact ⟨b, o, rfl, hc k hk 0 (by omega), hc k hk 1 (by omega), hc k hk 2 (by omega), hc k hk 3 (by omega), hc k hk 4 (by omega)⟩
def okTo (l : List RuV) (n : Int) (k : Nat) : Bool := (l.take k).all fun r => r.bare.okB n
theorem okTo_succ {l : List RuV} {n : Int} {k : Nat} (hk : k < l.length) : okTo l n (k + 1) = (okTo l n k && l[k].bare.okB n) := by
  unfold okTo
  rw [List.take_succ_eq_append_getElem hk, List.all_append]
  simp
theorem all_split {l : List RuV} {n : Int} {k : Nat} (hk : k < l.length) (h : l[k].bare.okB n = false) : (l.map RuV.bare).all (·.okB n) = false := by
  rw [List.all_eq_false]
  exact ⟨l[k].bare, List.mem_map.2 ⟨_, List.getElem_mem hk, rfl⟩, by rw [h]; simp⟩
theorem okTo_all {l : List RuV} {n : Int} : okTo l n l.length = (l.map RuV.bare).all (·.okB n) := by
  unfold okTo
  rw [List.take_length, List.all_map]
  rfl

set_option maxRecDepth 100000 in
set_option maxHeartbeats 1000000 in
theorem check_any (w : World) (a : Option Addr) (cap : Nat) (l : List RuV) (n : Int) (h : RulesIn w a cap l) :
    Calls Tryz.prog 19 #[.slice a l.length cap, .int .i64 n] w fun e w' => e = .returned (.int .i64 (checkG (l.map RuV.bare) n)) ∧ Later w w' := by
  by_cases hn : n < 1 ∨ 8 < n
  · have hc : checkG (l.map RuV.bare) n = 1 := by unfold checkG; rw [if_pos hn]
    rw [hc]
    clear hc h
    rcases hn with hn | hn
    · go_enter Tryz.func19, Tryz.ntmps19
      go_wp2_with fail
      go_ret
      exact ⟨rfl, Later.refl _⟩
    · by_cases h1 : n < 1
      · omega
      go_enter Tryz.func19, Tryz.ntmps19
      go_wp2_with fail
      go_ret
      exact ⟨rfl, Later.refl _⟩
  · have hc : checkG (l.map RuV.bare) n = if (l.map RuV.bare).all (·.okB n) && decide ((l.map RuV.bare).length ≤ 32) then 0 else 200 := by unfold checkG; rw [if_neg hn]
    obtain ⟨R, hR⟩ : ∃ R, checkG (l.map RuV.bare) n = R := ⟨_, rfl⟩
    rw [hR] at hc ⊢
    rw [List.length_map] at hc
    have HR := Lib.hid hc
    have h1 : ¬ n < 1 := fun h => hn (.inl h)
    have h8 : ¬ 8 < n := fun h => hn (.inr h)
    obtain ⟨m, hm⟩ : ∃ m, l.length = m := ⟨_, rfl⟩
    have hl1 := h.1
    have hl2 := h.2.1
    rw [hm] at hl1 ⊢
    have HM := Lib.hid hm
    have HH := Lib.hid h
    clear hc hR hn hm h
    go_enter Tryz.func19, Tryz.ntmps19
    go_wp2_with fail
    go_loopw [15] (fun v wr => ∃ k : Nat, k ≤ m ∧ v = .int .i64 k ∧ Later w wr ∧ okTo l n k = true) (fun v _ => m - (intOf v).toNat)
    case atStart => exact ⟨0, by omega, rfl, Later.refl _, rfl⟩
    case round =>
      obtain ⟨k, hk, rfl, hlr, hok⟩ := hrel
      have HOK := Lib.hid hok; clear hok
      by_cases hlt : k < m
      · have hkl : k < l.length := by have := HM.out; omega
        obtain ⟨b, o, rfl, c0, c1, c2, c3, c4⟩ := rules_at (HH.out.later hlr) hkl
        obtain ⟨r, hr⟩ : ∃ r, l[k] = r := ⟨_, rfl⟩
        rw [hr] at c0 c1 c2 c3 c4
        have hsp := fun h => all_split (n := n) hkl h
        have hsu := okTo_succ (n := n) hkl
        rw [hr] at hsp hsu
        have HSP := Lib.hid hsp
        have HSU := Lib.hid hsu
        have HMAY := Lib.hid (fun w1 => may_any w1 r n)
        clear hsp hsu hr hkl
        obtain ⟨fr, tu, act, pat, wth⟩ := r
        simp only [RuV.val] at HMAY
        obtain ⟨bo, hbo⟩ : ∃ bo, (RuV.bare ⟨fr, tu, act, pat, wth⟩).okB n = bo := ⟨_, rfl⟩
        rw [hbo] at HMAY HSP HSU
        clear hbo
        cases bo with
        | false =>
          have HF := Lib.hid (HSP.out rfl)
          go_wp2_with (first
            | (go_at_call 39; (with_reducible refine (HMAY.out _).mono ?_); rintro e w1 ⟨rfl, hl3⟩)
            | fail)
          go_ret
          exact ⟨ret_int (by rw [HR.out, HF.out]; rfl), (by repeat (first | assumption | exact Later.refl _ | refine Later.alloc ?_ _ | refine Later.drew ?_ | refine Later.trans ?_ (by assumption)))⟩
        | true =>
          go_wp2_with (first
            | (go_at_call 39; (with_reducible refine (HMAY.out _).mono ?_); rintro e w1 ⟨rfl, hl3⟩)
            | fail)
          go_roundw
          case rel => exact ⟨k + 1, by omega, by go_num, (by repeat (first | assumption | exact Later.refl _ | refine Later.alloc ?_ _ | refine Later.drew ?_ | refine Later.trans ?_ (by assumption))), by rw [HSU.out, HOK.out]; rfl⟩
          case measure => simp [intOf]; omega
      · obtain rfl : k = m := by omega
        have hall : (l.map RuV.bare).all (·.okB n) = true := by rw [← okTo_all, HM.out]; exact HOK.out
        have HALL := Lib.hid hall
        clear hall
        by_cases h32 : (32 : Int) < (k : Int)
        · go_wp2_with fail
          go_ret
          refine ⟨ret_int ?_, (by repeat (first | assumption | exact Later.refl _ | refine Later.alloc ?_ _ | refine Later.drew ?_ | refine Later.trans ?_ (by assumption)))⟩
          rw [HR.out, HALL.out, HM.out, Bool.true_and, if_neg (by simp; omega)]
        · go_wp2_with fail
          go_ret
          refine ⟨ret_int ?_, (by repeat (first | assumption | exact Later.refl _ | refine Later.alloc ?_ _ | refine Later.drew ?_ | refine Later.trans ?_ (by assumption)))⟩
          rw [HR.out, HALL.out, HM.out, Bool.true_and, if_pos (by simp; omega)]
end Go.Proofs.YtjhclopdcbnmkaaGreatDoor
