/- The walks of the guard's may and Check. -/
import Derived.Test.YtjhclopdcbnmkaaGreatDoorG2
import Derived.Test.YtjhclopdcbnmkaaGreatDoorM1
set_option linter.unusedSimpArgs false
set_option linter.unusedVariables false
namespace Go.Proofs.YtjhclopdcbnmkaaGreatDoor
open Go.RowKit PX

/-- A rule as it lies in memory. -/
structure RuV where
  fr : Int
  tu : Int
  act : Int
  pat : ByteArray
  wth : ByteArray
def RuV.cells (r : RuV) : List Value := [.int .i64 r.fr, .int .i64 r.tu, .int .i64 r.act, .string r.pat, .string r.wth]
def RuV.val (r : RuV) : Value := .agg #[.int .i64 r.fr, .int .i64 r.tu, .int .i64 r.act, .string r.pat, .string r.wth]
def RuV.bare (r : RuV) : Rul := ⟨r.fr, r.tu, r.act, r.pat.data.toList, r.wth.data.toList⟩
/-- Rules as they lie in memory. -/
def RulesIn (w : World) (a : Option Addr) (cap : Nat) (l : List RuV) : Prop :=
  l.length ≤ cap ∧ cap ≤ 9223372036854775807 ∧ (l = [] ∨ ∃ b o, a = some ⟨b, o, none⟩ ∧ b < w.heap.size ∧ ∀ i (h : i < l.length) j, j < 5 → w.cell? ⟨b, o + i * 5 + j, none⟩ = l[i].cells[j]?)
theorem RulesIn.later {w w' : World} {a : Option Addr} {cap : Nat} {l : List RuV} (h : RulesIn w a cap l) (hl : Later w w') : RulesIn w' a cap l := by
  obtain ⟨h1, h2, h3⟩ := h
  refine ⟨h1, h2, ?_⟩
  rcases h3 with h | ⟨b, o, rfl, hb, hc⟩
  · exact .inl h
  · exact .inr ⟨b, o, rfl, by have := Below.size hl; omega, fun i hi j hj => (Below.cell hl (p := ⟨b, o + i * 5 + j, none⟩) hb).trans (hc i hi j hj)⟩

def lvB (n L : Int) : Bool := decide (0 ≤ n) && decide (n < L)
set_option maxRecDepth 100000 in
theorem level_any (w : World) (p : Nat) (n L : Int) (h : w.cell? ⟨p, 0, none⟩ = some (.int .i64 L)) : Calls Tryz.prog 63 #[.int .i64 n, .pointer (some ⟨p, 0, none⟩)] w fun e w' => e = .returned (.bool (lvB n L)) ∧ w' = w := by
  unfold lvB
  by_cases h0 : 0 ≤ n
  · go_enter Tryz.func63, Tryz.ntmps63
    go_wp2_with fail
    go_ret
    exact ⟨by simp [h0], rfl⟩
  · go_enter Tryz.func63, Tryz.ntmps63
    go_wp2_with fail
    go_ret
    exact ⟨by simp; omega, rfl⟩
theorem level_is (w : World) (p : Nat) (n L : Int) (b : Bool) (hb : lvB n L = b) (h : w.cell? ⟨p, 0, none⟩ = some (.int .i64 L)) : Calls Tryz.prog 63 #[.int .i64 n, .pointer (some ⟨p, 0, none⟩)] w fun e w' => e = .returned (.bool b) ∧ w' = w := by
  rw [← hb]; exact level_any w p n L h

theorem isEmpty_eq (S : ByteArray) : S.toList.isEmpty = S.data.toList.isEmpty := by rw [ByteArray.toList_eq]
set_option maxRecDepth 100000 in
set_option maxHeartbeats 1000000 in
theorem may_any (w : World) (r : RuV) (n : Int) : Calls Tryz.prog 39 #[r.val, .int .i64 n] w fun e w' => e = .returned (.bool (r.bare.okB n)) ∧ Later w w' := by
  obtain ⟨fr, tu, act, pat, wth⟩ := r
  simp only [RuV.val, RuV.bare]
  obtain ⟨w0, hw0⟩ : ∃ w0, (w.alloc (.cells #[.int .i64 fr, .int .i64 tu, .int .i64 act, .string pat, .string wth] 56)).alloc (.cells #[.int .i64 n] 3) = w0 := ⟨_, rfl⟩
  have hl0 : Later w w0 := by rw [← hw0]; exact ((Later.refl w).alloc _).alloc _
  have hx0 : w0.heap[w.heap.size]? = some (.cells #[.int .i64 fr, .int .i64 tu, .int .i64 act, .string pat, .string wth] 56 (0, 0)) := by rw [← hw0]; exact alloc_old (alloc_block w _) _
  have hy0 : w0.heap[w.heap.size + 1]? = some (.cells #[.int .i64 n] 3 (0, 0)) := by rw [← hw0]; exact alloc_block' _ _ _ (by simp)
  obtain ⟨b0, hb0⟩ : ∃ b0, w.heap.size = b0 := ⟨_, rfl⟩
  rw [hb0] at hx0 hy0
  have HC := Lib.hid (fun w1 (h1 : Later w0 w1) => show w1.cell? ⟨b0, 0, none⟩ = some (.int .i64 fr) ∧ w1.cell? ⟨b0, 1, none⟩ = some (.int .i64 tu) ∧ w1.cell? ⟨b0, 2, none⟩ = some (.int .i64 act) ∧ w1.cell? ⟨b0, 3, none⟩ = some (.string pat) ∧ w1.cell? ⟨b0, 4, none⟩ = some (.string wth) from
    ⟨cell_of_block (h1.block hx0) 0, cell_of_block (h1.block hx0) 1, cell_of_block (h1.block hx0) 2, cell_of_block (h1.block hx0) 3, cell_of_block (h1.block hx0) 4⟩)
  have hlv : w0.cell? ⟨b0 + 1, 0, none⟩ = some (.int .i64 n) := cell_of_block hy0 0
  have HL0 := Lib.hid hl0
  have HW0 := Lib.hid hw0
  have HB0 := Lib.hid hb0
  clear hl0 hw0 hx0 hy0 hb0
  by_cases h1 : 0 ≤ fr ∧ fr < n
  · by_cases h2 : 0 ≤ tu ∧ tu < n
    · have HA := Lib.hid (level_is w0 (b0 + 1) fr n true (by unfold lvB; rw [decide_eq_true h1.1, decide_eq_true h1.2]; rfl) hlv)
      have HB := Lib.hid (level_is w0 (b0 + 1) tu n true (by unfold lvB; rw [decide_eq_true h2.1, decide_eq_true h2.2]; rfl) hlv)
      by_cases h3 : fr ≠ tu ∧ 0 ≤ act ∧ act ≤ 2
      · have hlvl : (⟨fr, tu, act, pat.data.toList, wth.data.toList⟩ : Rul).okB n = (isRead pat.data.toList && (if act = 2 then isRead wth.data.toList else wth.data.toList.isEmpty)) := by
          unfold Rul.okB
          rw [decide_eq_true ⟨h1.1, h1.2, h2.1, h2.2, h3.1, h3.2.1, h3.2.2⟩, Bool.true_and]
        have hft : (fr == tu) = false := by rw [beq_eq_false_iff_ne]; exact h3.1
        obtain ⟨-, h0, hle⟩ := h3
        obtain ⟨R, hR0⟩ : ∃ R, (isRead pat.data.toList && (if act = 2 then isRead wth.data.toList else wth.data.toList.isEmpty)) = R := ⟨_, rfl⟩
        rw [hlvl, hR0]
        have HRR := Lib.hid hR0
        clear h1 h2 hlvl hlv hR0
        obtain ⟨q0, q1, q2, q3, q4⟩ := HC.out w0 (Later.refl _)
        cases hp : parseR pat.data.toList with
        | inr e1 =>
          have HOF := Lib.hid (of_wrong w0 pat e1 hp)
          have hne : (e1 != 0) = true := by
            rcases parseR_err hp with rfl | rfl <;> rfl
          have HR := Lib.hid (show isRead pat.data.toList = false from isRead_false.2 ⟨_, hp⟩)
          clear hp
          go_enter Tryz.func39, Tryz.ntmps39
          go_upto_region 2 with fail
          rw [HW0.out, HB0.out]
          go_wp2_with (first
            | (go_at_call 63; (with_reducible refine HA.out.mono ?_); rintro e w' ⟨rfl, rfl⟩; clear HA)
            | (go_at_call 63; (with_reducible refine HB.out.mono ?_); rintro e w' ⟨rfl, rfl⟩)
            | (go_at_call 36; (with_reducible refine HOF.out.mono ?_); rintro e w1 ⟨rfl, hb1⟩; have hl1 := Later.of hb1; clear hb1)
            | fail)
          go_ret
          exact ⟨ret_bool (by rw [← HRR.out, HR.out]; rfl), HL0.out.trans (by repeat (first | assumption | exact Later.refl _ | refine Later.alloc ?_ _ | refine Later.drew ?_ | refine Later.trans ?_ (by assumption)))⟩
        | inl x =>
          have HOF := Lib.hid (of_good w0 pat x hp (by obtain ⟨h1, h2⟩ := parseR_form hp; unfold checkR; rw [if_pos h1, if_neg (by omega)]))
          have HR := Lib.hid (show isRead pat.data.toList = true from isRead_iff.2 ⟨_, hp⟩)
          clear hp
          by_cases ha : act = 2
          · subst ha
            cases hq : parseR wth.data.toList with
            | inr e1 =>
              have HOG := Lib.hid (fun w1 => of_wrong w1 wth e1 hq)
              have hne : (e1 == 0) = false := by
                rcases parseR_err hq with rfl | rfl <;> rfl
              have HS := Lib.hid (show isRead wth.data.toList = false from isRead_false.2 ⟨_, hq⟩)
              clear hq
              go_enter Tryz.func39, Tryz.ntmps39
              go_upto_region 2 with fail
              rw [HW0.out, HB0.out]
              go_wp2_with (first
                | (go_at_call 63; (with_reducible refine HA.out.mono ?_); rintro e w' ⟨rfl, rfl⟩; clear HA)
                | (go_at_call 63; (with_reducible refine HB.out.mono ?_); rintro e w' ⟨rfl, rfl⟩)
                | (go_at_call 36; (with_reducible refine HOF.out.mono ?_); rintro e w1 ⟨p, rfl, hpl, hm, hb1⟩; have hl1 := Later.of hb1; clear hb1 hm hpl; clear q0 q1 q2 q3 q4; obtain ⟨q0, q1, q2, q3, q4⟩ := HC.out w1 (by repeat (first | assumption | exact Later.refl _ | refine Later.alloc ?_ _ | refine Later.drew ?_ | refine Later.trans ?_ (by assumption))))
                | (go_at_call 36; (with_reducible refine (HOG.out _).mono ?_); rintro e w2 ⟨rfl, hb2⟩; have hl2 := Later.of hb2; clear hb2)
                | fail)
              go_ret
              exact ⟨ret_bool (by rw [← HRR.out, HR.out, HS.out]; rfl), HL0.out.trans (by repeat (first | assumption | exact Later.refl _ | refine Later.alloc ?_ _ | refine Later.drew ?_ | refine Later.trans ?_ (by assumption)))⟩
            | inl y =>
              have HOG := Lib.hid (fun w1 => of_good w1 wth y hq (by obtain ⟨h1, h2⟩ := parseR_form hq; unfold checkR; rw [if_pos h1, if_neg (by omega)]))
              have HS := Lib.hid (show isRead wth.data.toList = true from isRead_iff.2 ⟨_, hq⟩)
              clear hq
              go_enter Tryz.func39, Tryz.ntmps39
              go_upto_region 2 with fail
              rw [HW0.out, HB0.out]
              go_wp2_with (first
                | (go_at_call 63; (with_reducible refine HA.out.mono ?_); rintro e w' ⟨rfl, rfl⟩; clear HA)
                | (go_at_call 63; (with_reducible refine HB.out.mono ?_); rintro e w' ⟨rfl, rfl⟩)
                | (go_at_call 36; (with_reducible refine HOF.out.mono ?_); rintro e w1 ⟨p, rfl, hpl, hm, hb1⟩; have hl1 := Later.of hb1; clear hb1 hm hpl; clear q0 q1 q2 q3 q4; obtain ⟨q0, q1, q2, q3, q4⟩ := HC.out w1 (by repeat (first | assumption | exact Later.refl _ | refine Later.alloc ?_ _ | refine Later.drew ?_ | refine Later.trans ?_ (by assumption))))
                | (go_at_call 36; (with_reducible refine (HOG.out _).mono ?_); rintro e w2 ⟨p2, rfl, hpl, hm, hb2⟩; have hl2 := Later.of hb2; clear hb2 hm hpl)
                | fail)
              go_ret
              exact ⟨ret_bool (by rw [← HRR.out, HR.out, HS.out]; rfl), HL0.out.trans (by repeat (first | assumption | exact Later.refl _ | refine Later.alloc ?_ _ | refine Later.drew ?_ | refine Later.trans ?_ (by assumption)))⟩
          · have han : (act != 2) = true := by rw [bne_iff_ne]; exact ha
            have HE := Lib.hid (show (if act = 2 then isRead wth.data.toList else wth.data.toList.isEmpty) = wth.data.toList.isEmpty from if_neg ha)
            clear ha
            obtain ⟨bw, hbw⟩ : ∃ bw, wth.data.toList.isEmpty = bw := ⟨_, rfl⟩
            have hbe := isEmpty_eq wth
            rw [hbw] at HE hbe
            have HBW := Lib.hid hbw
            clear hbw
            go_enter Tryz.func39, Tryz.ntmps39
            go_upto_region 2 with fail
            rw [HW0.out, HB0.out]
            go_wp2_with (first
              | (go_at_call 63; (with_reducible refine HA.out.mono ?_); rintro e w' ⟨rfl, rfl⟩; clear HA)
              | (go_at_call 63; (with_reducible refine HB.out.mono ?_); rintro e w' ⟨rfl, rfl⟩)
              | (go_at_call 36; (with_reducible refine HOF.out.mono ?_); rintro e w1 ⟨p, rfl, hpl, hm, hb1⟩; have hl1 := Later.of hb1; clear hb1 hm hpl; clear q0 q1 q2 q3 q4; obtain ⟨q0, q1, q2, q3, q4⟩ := HC.out w1 (by repeat (first | assumption | exact Later.refl _ | refine Later.alloc ?_ _ | refine Later.drew ?_ | refine Later.trans ?_ (by assumption))))
              | fail)
            go_ret
            refine ⟨ret_bool ?_, HL0.out.trans (by repeat (first | assumption | exact Later.refl _ | refine Later.alloc ?_ _ | refine Later.drew ?_ | refine Later.trans ?_ (by assumption)))⟩
            rw [← HRR.out, HR.out, HBW.out, HE.out]
            rfl
      · have hf : (⟨fr, tu, act, pat.data.toList, wth.data.toList⟩ : Rul).okB n = false := by
          unfold Rul.okB
          rw [decide_eq_false (by rintro ⟨-, -, -, -, h5, h6, h7⟩; exact h3 ⟨h5, h6, h7⟩)]; rfl
        rw [hf]
        have h3' : fr = tu ∨ (fr ≠ tu ∧ act < 0) ∨ (fr ≠ tu ∧ 0 ≤ act ∧ 3 ≤ act) := by omega
        clear h1 h2 hf hlv h3
        obtain ⟨q0, q1, q2, q3, q4⟩ := HC.out w0 (Later.refl _)
        rcases h3' with rfl | ⟨h4, h5⟩ | ⟨h4, h5, h6⟩
        · go_enter Tryz.func39, Tryz.ntmps39
          go_upto_region 2 with fail
          rw [HW0.out, HB0.out]
          go_wp2_with (first
            | (go_at_call 63; (with_reducible refine HA.out.mono ?_); rintro e w' ⟨rfl, rfl⟩)
            | fail)
          go_ret
          exact ⟨rfl, HL0.out⟩
        all_goals
          have hft : (fr == tu) = false := by rw [beq_eq_false_iff_ne]; exact h4
          clear h4
          go_enter Tryz.func39, Tryz.ntmps39
          go_upto_region 2 with fail
          rw [HW0.out, HB0.out]
          go_wp2_with (first
            | (go_at_call 63; (with_reducible refine HA.out.mono ?_); rintro e w' ⟨rfl, rfl⟩; clear HA)
            | (go_at_call 63; (with_reducible refine HB.out.mono ?_); rintro e w' ⟨rfl, rfl⟩)
            | fail)
          go_ret
          exact ⟨rfl, HL0.out⟩
    · have HA := Lib.hid (level_is w0 (b0 + 1) fr n true (by unfold lvB; rw [decide_eq_true h1.1, decide_eq_true h1.2]; rfl) hlv)
      have HB := Lib.hid (level_is w0 (b0 + 1) tu n false (by unfold lvB; rw [Bool.and_eq_false_iff]; by_cases h : 0 ≤ tu; exact .inr (decide_eq_false (fun h' => h2 ⟨h, h'⟩)); exact .inl (decide_eq_false h)) hlv)
      have hf : (⟨fr, tu, act, pat.data.toList, wth.data.toList⟩ : Rul).okB n = false := by
        unfold Rul.okB
        rw [decide_eq_false (by rintro ⟨-, -, h5, h6, -⟩; exact h2 ⟨h5, h6⟩)]; rfl
      rw [hf]
      clear h1 h2 hf hlv
      obtain ⟨q0, q1, q2, q3, q4⟩ := HC.out w0 (Later.refl _)
      go_enter Tryz.func39, Tryz.ntmps39
      go_upto_region 2 with fail
      rw [HW0.out, HB0.out]
      go_wp2_with (first
        | (go_at_call 63; (with_reducible refine HA.out.mono ?_); rintro e w' ⟨rfl, rfl⟩; clear HA)
        | (go_at_call 63; (with_reducible refine HB.out.mono ?_); rintro e w' ⟨rfl, rfl⟩)
        | fail)
      go_ret
      exact ⟨rfl, HL0.out⟩
  · have HA := Lib.hid (level_is w0 (b0 + 1) fr n false (by unfold lvB; rw [Bool.and_eq_false_iff]; by_cases h : 0 ≤ fr; exact .inr (decide_eq_false (fun h' => h1 ⟨h, h'⟩)); exact .inl (decide_eq_false h)) hlv)
    have hf : (⟨fr, tu, act, pat.data.toList, wth.data.toList⟩ : Rul).okB n = false := by
      unfold Rul.okB
      rw [decide_eq_false (by rintro ⟨h5, h6, -⟩; exact h1 ⟨h5, h6⟩)]; rfl
    rw [hf]
    clear h1 hf hlv
    obtain ⟨q0, q1, q2, q3, q4⟩ := HC.out w0 (Later.refl _)
    go_enter Tryz.func39, Tryz.ntmps39
    go_upto_region 2 with fail
    rw [HW0.out, HB0.out]
    go_wp2_with (first
      | (go_at_call 63; (with_reducible refine HA.out.mono ?_); rintro e w' ⟨rfl, rfl⟩)
      | fail)
    go_ret
    exact ⟨rfl, HL0.out⟩
end Go.Proofs.YtjhclopdcbnmkaaGreatDoor
