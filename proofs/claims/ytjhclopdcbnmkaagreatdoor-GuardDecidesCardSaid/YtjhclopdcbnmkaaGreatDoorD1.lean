/- The document's answer for the guard: which rules may be. (Printed by wip/gen_d1.py.) -/
import Derived.Test.YtjhclopdcbnmkaaGreatDoorG7
import Derived.Test.YtjhclopdcbnmkaaGreatDoorQ13
set_option linter.unusedSimpArgs false
set_option linter.unusedVariables false
namespace Go.Proofs.YtjhclopdcbnmkaaGreatDoor
open Go.RowKit PX

/-- The error of a pattern. -/
def errP (s : List UInt8) : Int := match parseR s with | .inl _ => 0 | .inr n => n
theorem errP_read (s : List UInt8) : errP s = 0 ↔ isRead s = true := by
  unfold errP isRead
  cases h : parseR s with
  | inl x => simp
  | inr n => rcases parseR_err h with rfl | rfl <;> simp
/-- What Parse tells of the error alone. -/
theorem rparse_err (w : World) (S : ByteArray) : Calls Tryz.prog 15 #[.string S] w fun e w' =>
    ∃ k mn mx s0 s1 s2 s3 a len cap, e = .returned (.tuple #[.agg #[.int .i64 k, .int .i64 mn, .int .i64 mx, .int .u64 s0, .int .u64 s1, .int .u64 s2, .int .u64 s3, .slice a len cap], .int .i64 (errP S.data.toList)]) ∧ Later w w' := by
  refine (rparse_any w S).mono ?_
  rintro e w' ⟨hb, ⟨X, hX, he, -⟩ | ⟨n, hn, he⟩⟩
  · obtain ⟨k, mn, mx, s0, s1, s2, s3, a, cap, l⟩ := X
    refine ⟨k, mn, mx, s0, s1, s2, s3, a, l.length, cap, ?_, Later.of hb⟩
    rw [he]
    unfold errP
    rw [hX]
    rfl
  · refine ⟨0, 0, 0, 0, 0, 0, 0, none, 0, 0, ?_, Later.of hb⟩
    rw [he]
    unfold errP
    rw [hn]
    rfl
set_option maxRecDepth 100000 in
set_option maxHeartbeats 2000000 in
theorem rcheck20_any (w : World) (a : Option Addr) (cap : Nat) (l : List RuV) (n : Int) (h : RulesIn w a cap l) :
    Calls Tryz.prog 20 #[.slice a l.length cap, .int .i64 n] w fun e w' => e = .returned (.int .i64 (checkG (l.map RuV.bare) n)) ∧ Later w w' := by
  by_cases hn : n < 1 ∨ 8 < n
  · have hc : checkG (l.map RuV.bare) n = 1 := by unfold checkG; rw [if_pos hn]
    rw [hc]
    clear hc h
    rcases hn with hn | hn
    · go_enter Tryz.func20, Tryz.ntmps20
      go_wp2_with fail
      go_ret
      exact ⟨rfl, Later.refl _⟩
    · by_cases h1 : n < 1
      · omega
      go_enter Tryz.func20, Tryz.ntmps20
      go_wp2_with fail
      go_ret
      exact ⟨rfl, Later.refl _⟩
  · have hc : checkG (l.map RuV.bare) n = if (l.map RuV.bare).all (·.okB n) && decide ((l.map RuV.bare).length ≤ 32) then 0 else 200 := by unfold checkG; rw [if_neg hn]
    obtain ⟨R, hR⟩ : ∃ R, checkG (l.map RuV.bare) n = R := ⟨_, rfl⟩
    rw [hR] at hc ⊢
    rw [List.length_map] at hc
    have HR := Lib.hid hc
    have h1 : ¬ n < 1 := fun h => hn (.inl h)
    have h8 : ¬ 8 < n := fun h => hn (.inr h)
    obtain ⟨m, hm⟩ : ∃ m, l.length = m := ⟨_, rfl⟩
    have hl1 := h.1
    have hl2 := h.2.1
    rw [hm] at hl1 ⊢
    have HM := Lib.hid hm
    have HH := Lib.hid h
    clear hc hR hn hm h
    go_enter Tryz.func20, Tryz.ntmps20
    go_wp2_with fail
    go_loopw [5] (fun v wr => ∃ k : Nat, k ≤ m ∧ v = .int .i64 k ∧ Later w wr ∧ okTo l n k = true) (fun v _ => m - (intOf v).toNat)
    case atStart => exact ⟨0, by omega, rfl, Later.refl _, rfl⟩
    case round =>
      obtain ⟨k, hk, rfl, hlr, hok⟩ := hrel
      have HOK := Lib.hid hok; clear hok
      by_cases hlt : k < m
      · have hkl : k < l.length := by have := HM.out; omega
        have hkm : (k : Int) < (m : Int) := by omega
        obtain ⟨b, o, rfl, c0, c1, c2, c3, c4⟩ := rules_at (HH.out.later hlr) hkl
        obtain ⟨r, hr⟩ : ∃ r, l[k] = r := ⟨_, rfl⟩
        rw [hr] at c0 c1 c2 c3 c4
        have hsp := fun h => all_split (n := n) hkl h
        have hsu := okTo_succ (n := n) hkl
        rw [hr] at hsp hsu
        have HSP := Lib.hid hsp
        have HSU := Lib.hid hsu
        clear hsp hsu hr hkl
        obtain ⟨rf, rt, ra, rp, rq⟩ := r
        simp only at c0 c1 c2 c3 c4
        obtain ⟨ep, hep⟩ : ∃ ep, errP rp.data.toList = ep := ⟨_, rfl⟩
        obtain ⟨eq, heq⟩ : ∃ eq, errP rq.data.toList = eq := ⟨_, rfl⟩
        have hip := errP_read rp.data.toList
        have hiq := errP_read rq.data.toList
        have HPP := Lib.hid (fun w1 => rparse_err w1 rp)
        have HPQ := Lib.hid (fun w1 => rparse_err w1 rq)
        rw [hep] at HPP hip
        rw [heq] at HPQ hiq
        obtain ⟨wx, hwx⟩ : ∃ wx, wr.alloc (.cells #[.int .i64 rf, .int .i64 rt, .int .i64 ra, .string rp, .string rq] 56) = wx := ⟨_, rfl⟩
        obtain ⟨ub, hub⟩ : ∃ ub, wr.heap.size = ub := ⟨_, rfl⟩
        have hux : wx.heap[ub]? = some (.cells #[.int .i64 rf, .int .i64 rt, .int .i64 ra, .string rp, .string rq] 56 (0, 0)) := by rw [← hwx]; exact alloc_block' _ _ _ hub
        have hlx : Later w wx := by rw [← hwx]; exact hlr.alloc _
        have HSX := Lib.hid (fun w' (h' : Later wx w') => show w'.cell? ⟨ub, 0, none⟩ = some (.int .i64 rf) ∧ w'.cell? ⟨ub, 1, none⟩ = some (.int .i64 rt) ∧ w'.cell? ⟨ub, 2, none⟩ = some (.int .i64 ra) ∧ w'.cell? ⟨ub, 3, none⟩ = some (.string rp) ∧ w'.cell? ⟨ub, 4, none⟩ = some (.string rq) ∧ ub < w'.heap.size from
          ⟨cell_of_block (h'.block hux) 0, cell_of_block (h'.block hux) 1, cell_of_block (h'.block hux) 2, cell_of_block (h'.block hux) 3, cell_of_block (h'.block hux) 4, lt_of_block (h'.block hux)⟩)
        have hokB : (RuV.bare ⟨rf, rt, ra, rp, rq⟩).okB n = (decide (0 ≤ rf ∧ rf < n ∧ 0 ≤ rt ∧ rt < n ∧ rf ≠ rt ∧ 0 ≤ ra ∧ ra ≤ 2) && isRead rp.data.toList && (if ra = 2 then isRead rq.data.toList else rq.data.toList.isEmpty)) := rfl
        have HWX := Lib.hid hwx
        have HUB := Lib.hid hub
        have HOKB := Lib.hid hokB
        have HIP := Lib.hid hip
        have HIQ := Lib.hid hiq
        have hrqe := isEmpty_eq rq
        obtain ⟨bq, hbq⟩ : ∃ bq, rq.data.toList.isEmpty = bq := ⟨_, rfl⟩
        rw [hbq] at hrqe
        have HBQ := Lib.hid hbq
        clear hwx hub hux hokB hip hiq hep heq hlt hbq
        go_upto_region 7 with fail
        rw [HWX.out, HUB.out]
        clear c0 c1 c2 c3 c4
        obtain ⟨q0, q1, q2, q3, q4, qub⟩ := HSX.out wx (Later.refl _)
        have hcases : (rf < 0) ∨ (0 ≤ rf ∧ n ≤ rf) ∨ (0 ≤ rf ∧ rf < n ∧ rt < 0) ∨ (0 ≤ rf ∧ rf < n ∧ 0 ≤ rt ∧ n ≤ rt) ∨ (0 ≤ rf ∧ rf < n ∧ 0 ≤ rt ∧ rt < n ∧ rf = rt) ∨ (0 ≤ rf ∧ rf < n ∧ 0 ≤ rt ∧ rt < n ∧ rf ≠ rt ∧ ra < 0) ∨ (0 ≤ rf ∧ rf < n ∧ 0 ≤ rt ∧ rt < n ∧ rf ≠ rt ∧ 0 ≤ ra ∧ 2 < ra) ∨ (0 ≤ rf ∧ rf < n ∧ 0 ≤ rt ∧ rt < n ∧ rf ≠ rt ∧ 0 ≤ ra ∧ ra ≤ 2) := by omega
        rcases hcases with g1 | ⟨g1, g2⟩ | ⟨g1, g2, g3⟩ | ⟨g1, g2, g3, g4⟩ | ⟨g1, g2, g3, g4, g5⟩ | ⟨g1, g2, g3, g4, g5, g6⟩ | ⟨g1, g2, g3, g4, g5, g6, g7⟩ | ⟨g1, g2, g3, g4, g5, g6, g7⟩
        · have d0 : decide (rf < 0) = true := by simp; omega
          have hbad : (RuV.bare ⟨rf, rt, ra, rp, rq⟩).okB n = false := by
            rw [HOKB.out, decide_eq_false (by omega)]; rfl
          have HF := Lib.hid (HSP.out hbad)
          clear hbad
          go_wp2_with (first
            | (go_at_call 15; (with_reducible refine (HPP.out _).mono ?_); rintro e w2 ⟨k2, mn2, mx2, s02, s12, s22, s32, a2, n2, cap2, rfl, hl2⟩; clear q0 q1 q2 q3 q4 qub; obtain ⟨q0, q1, q2, q3, q4, qub⟩ := HSX.out w2 (by repeat (first | assumption | exact Later.refl _ | refine Later.alloc ?_ _ | refine Later.drew ?_ | refine Later.drewN ?_ _ | refine Later.trans ?_ (by assumption))))
            | (go_at_call 15; (with_reducible refine (HPQ.out _).mono ?_); rintro e w3 ⟨k3, mn3, mx3, s03, s13, s23, s33, a3, n3, cap3, rfl, hl3⟩; clear q0 q1 q2 q3 q4 qub; obtain ⟨q0, q1, q2, q3, q4, qub⟩ := HSX.out w3 (by repeat (first | assumption | exact Later.refl _ | refine Later.alloc ?_ _ | refine Later.drew ?_ | refine Later.drewN ?_ _ | refine Later.trans ?_ (by assumption))))
            | fail)
          go_ret
          exact ⟨ret_int (by rw [HR.out, HF.out]; rfl), (by repeat (first | assumption | exact Later.refl _ | refine Later.alloc ?_ _ | refine Later.drew ?_ | refine Later.drewN ?_ _ | refine Later.trans ?_ (by assumption)))⟩
        · have d0 : decide (rf < 0) = false := by simp; omega
          have d1 : decide (n ≤ rf) = true := by simp; omega
          have hbad : (RuV.bare ⟨rf, rt, ra, rp, rq⟩).okB n = false := by
            rw [HOKB.out, decide_eq_false (by omega)]; rfl
          have HF := Lib.hid (HSP.out hbad)
          clear hbad
          go_wp2_with (first
            | (go_at_call 15; (with_reducible refine (HPP.out _).mono ?_); rintro e w2 ⟨k2, mn2, mx2, s02, s12, s22, s32, a2, n2, cap2, rfl, hl2⟩; clear q0 q1 q2 q3 q4 qub; obtain ⟨q0, q1, q2, q3, q4, qub⟩ := HSX.out w2 (by repeat (first | assumption | exact Later.refl _ | refine Later.alloc ?_ _ | refine Later.drew ?_ | refine Later.drewN ?_ _ | refine Later.trans ?_ (by assumption))))
            | (go_at_call 15; (with_reducible refine (HPQ.out _).mono ?_); rintro e w3 ⟨k3, mn3, mx3, s03, s13, s23, s33, a3, n3, cap3, rfl, hl3⟩; clear q0 q1 q2 q3 q4 qub; obtain ⟨q0, q1, q2, q3, q4, qub⟩ := HSX.out w3 (by repeat (first | assumption | exact Later.refl _ | refine Later.alloc ?_ _ | refine Later.drew ?_ | refine Later.drewN ?_ _ | refine Later.trans ?_ (by assumption))))
            | fail)
          go_ret
          exact ⟨ret_int (by rw [HR.out, HF.out]; rfl), (by repeat (first | assumption | exact Later.refl _ | refine Later.alloc ?_ _ | refine Later.drew ?_ | refine Later.drewN ?_ _ | refine Later.trans ?_ (by assumption)))⟩
        · have d0 : decide (rf < 0) = false := by simp; omega
          have d1 : decide (n ≤ rf) = false := by simp; omega
          have d2 : decide (rt < 0) = true := by simp; omega
          have hbad : (RuV.bare ⟨rf, rt, ra, rp, rq⟩).okB n = false := by
            rw [HOKB.out, decide_eq_false (by omega)]; rfl
          have HF := Lib.hid (HSP.out hbad)
          clear hbad
          go_wp2_with (first
            | (go_at_call 15; (with_reducible refine (HPP.out _).mono ?_); rintro e w2 ⟨k2, mn2, mx2, s02, s12, s22, s32, a2, n2, cap2, rfl, hl2⟩; clear q0 q1 q2 q3 q4 qub; obtain ⟨q0, q1, q2, q3, q4, qub⟩ := HSX.out w2 (by repeat (first | assumption | exact Later.refl _ | refine Later.alloc ?_ _ | refine Later.drew ?_ | refine Later.drewN ?_ _ | refine Later.trans ?_ (by assumption))))
            | (go_at_call 15; (with_reducible refine (HPQ.out _).mono ?_); rintro e w3 ⟨k3, mn3, mx3, s03, s13, s23, s33, a3, n3, cap3, rfl, hl3⟩; clear q0 q1 q2 q3 q4 qub; obtain ⟨q0, q1, q2, q3, q4, qub⟩ := HSX.out w3 (by repeat (first | assumption | exact Later.refl _ | refine Later.alloc ?_ _ | refine Later.drew ?_ | refine Later.drewN ?_ _ | refine Later.trans ?_ (by assumption))))
            | fail)
          go_ret
          exact ⟨ret_int (by rw [HR.out, HF.out]; rfl), (by repeat (first | assumption | exact Later.refl _ | refine Later.alloc ?_ _ | refine Later.drew ?_ | refine Later.drewN ?_ _ | refine Later.trans ?_ (by assumption)))⟩
        · have d0 : decide (rf < 0) = false := by simp; omega
          have d1 : decide (n ≤ rf) = false := by simp; omega
          have d2 : decide (rt < 0) = false := by simp; omega
          have d3 : decide (n ≤ rt) = true := by simp; omega
          have hbad : (RuV.bare ⟨rf, rt, ra, rp, rq⟩).okB n = false := by
            rw [HOKB.out, decide_eq_false (by omega)]; rfl
          have HF := Lib.hid (HSP.out hbad)
          clear hbad
          go_wp2_with (first
            | (go_at_call 15; (with_reducible refine (HPP.out _).mono ?_); rintro e w2 ⟨k2, mn2, mx2, s02, s12, s22, s32, a2, n2, cap2, rfl, hl2⟩; clear q0 q1 q2 q3 q4 qub; obtain ⟨q0, q1, q2, q3, q4, qub⟩ := HSX.out w2 (by repeat (first | assumption | exact Later.refl _ | refine Later.alloc ?_ _ | refine Later.drew ?_ | refine Later.drewN ?_ _ | refine Later.trans ?_ (by assumption))))
            | (go_at_call 15; (with_reducible refine (HPQ.out _).mono ?_); rintro e w3 ⟨k3, mn3, mx3, s03, s13, s23, s33, a3, n3, cap3, rfl, hl3⟩; clear q0 q1 q2 q3 q4 qub; obtain ⟨q0, q1, q2, q3, q4, qub⟩ := HSX.out w3 (by repeat (first | assumption | exact Later.refl _ | refine Later.alloc ?_ _ | refine Later.drew ?_ | refine Later.drewN ?_ _ | refine Later.trans ?_ (by assumption))))
            | fail)
          go_ret
          exact ⟨ret_int (by rw [HR.out, HF.out]; rfl), (by repeat (first | assumption | exact Later.refl _ | refine Later.alloc ?_ _ | refine Later.drew ?_ | refine Later.drewN ?_ _ | refine Later.trans ?_ (by assumption)))⟩
        · have d0 : decide (rf < 0) = false := by simp; omega
          have d1 : decide (n ≤ rf) = false := by simp; omega
          have d2 : decide (rt < 0) = false := by simp; omega
          have d3 : decide (n ≤ rt) = false := by simp; omega
          have g5b : (rf == rt) = true := by rw [beq_iff_eq]; exact g5
          have hbad : (RuV.bare ⟨rf, rt, ra, rp, rq⟩).okB n = false := by
            rw [HOKB.out, decide_eq_false (by omega)]; rfl
          clear g5
          have HF := Lib.hid (HSP.out hbad)
          clear hbad
          go_wp2_with (first
            | (go_at_call 15; (with_reducible refine (HPP.out _).mono ?_); rintro e w2 ⟨k2, mn2, mx2, s02, s12, s22, s32, a2, n2, cap2, rfl, hl2⟩; clear q0 q1 q2 q3 q4 qub; obtain ⟨q0, q1, q2, q3, q4, qub⟩ := HSX.out w2 (by repeat (first | assumption | exact Later.refl _ | refine Later.alloc ?_ _ | refine Later.drew ?_ | refine Later.drewN ?_ _ | refine Later.trans ?_ (by assumption))))
            | (go_at_call 15; (with_reducible refine (HPQ.out _).mono ?_); rintro e w3 ⟨k3, mn3, mx3, s03, s13, s23, s33, a3, n3, cap3, rfl, hl3⟩; clear q0 q1 q2 q3 q4 qub; obtain ⟨q0, q1, q2, q3, q4, qub⟩ := HSX.out w3 (by repeat (first | assumption | exact Later.refl _ | refine Later.alloc ?_ _ | refine Later.drew ?_ | refine Later.drewN ?_ _ | refine Later.trans ?_ (by assumption))))
            | fail)
          go_ret
          exact ⟨ret_int (by rw [HR.out, HF.out]; rfl), (by repeat (first | assumption | exact Later.refl _ | refine Later.alloc ?_ _ | refine Later.drew ?_ | refine Later.drewN ?_ _ | refine Later.trans ?_ (by assumption)))⟩
        · have d0 : decide (rf < 0) = false := by simp; omega
          have d1 : decide (n ≤ rf) = false := by simp; omega
          have d2 : decide (rt < 0) = false := by simp; omega
          have d3 : decide (n ≤ rt) = false := by simp; omega
          have d5 : decide (ra < 0) = true := by simp; omega
          have g5b : (rf == rt) = false := by rw [beq_eq_false_iff_ne]; exact g5
          have hbad : (RuV.bare ⟨rf, rt, ra, rp, rq⟩).okB n = false := by
            rw [HOKB.out, decide_eq_false (by omega)]; rfl
          clear g5
          have HF := Lib.hid (HSP.out hbad)
          clear hbad
          go_wp2_with (first
            | (go_at_call 15; (with_reducible refine (HPP.out _).mono ?_); rintro e w2 ⟨k2, mn2, mx2, s02, s12, s22, s32, a2, n2, cap2, rfl, hl2⟩; clear q0 q1 q2 q3 q4 qub; obtain ⟨q0, q1, q2, q3, q4, qub⟩ := HSX.out w2 (by repeat (first | assumption | exact Later.refl _ | refine Later.alloc ?_ _ | refine Later.drew ?_ | refine Later.drewN ?_ _ | refine Later.trans ?_ (by assumption))))
            | (go_at_call 15; (with_reducible refine (HPQ.out _).mono ?_); rintro e w3 ⟨k3, mn3, mx3, s03, s13, s23, s33, a3, n3, cap3, rfl, hl3⟩; clear q0 q1 q2 q3 q4 qub; obtain ⟨q0, q1, q2, q3, q4, qub⟩ := HSX.out w3 (by repeat (first | assumption | exact Later.refl _ | refine Later.alloc ?_ _ | refine Later.drew ?_ | refine Later.drewN ?_ _ | refine Later.trans ?_ (by assumption))))
            | fail)
          go_ret
          exact ⟨ret_int (by rw [HR.out, HF.out]; rfl), (by repeat (first | assumption | exact Later.refl _ | refine Later.alloc ?_ _ | refine Later.drew ?_ | refine Later.drewN ?_ _ | refine Later.trans ?_ (by assumption)))⟩
        · have d0 : decide (rf < 0) = false := by simp; omega
          have d1 : decide (n ≤ rf) = false := by simp; omega
          have d2 : decide (rt < 0) = false := by simp; omega
          have d3 : decide (n ≤ rt) = false := by simp; omega
          have d5 : decide (ra < 0) = false := by simp; omega
          have d6 : decide (2 < ra) = true := by simp; omega
          have g5b : (rf == rt) = false := by rw [beq_eq_false_iff_ne]; exact g5
          have hbad : (RuV.bare ⟨rf, rt, ra, rp, rq⟩).okB n = false := by
            rw [HOKB.out, decide_eq_false (by omega)]; rfl
          clear g5
          have HF := Lib.hid (HSP.out hbad)
          clear hbad
          go_wp2_with (first
            | (go_at_call 15; (with_reducible refine (HPP.out _).mono ?_); rintro e w2 ⟨k2, mn2, mx2, s02, s12, s22, s32, a2, n2, cap2, rfl, hl2⟩; clear q0 q1 q2 q3 q4 qub; obtain ⟨q0, q1, q2, q3, q4, qub⟩ := HSX.out w2 (by repeat (first | assumption | exact Later.refl _ | refine Later.alloc ?_ _ | refine Later.drew ?_ | refine Later.drewN ?_ _ | refine Later.trans ?_ (by assumption))))
            | (go_at_call 15; (with_reducible refine (HPQ.out _).mono ?_); rintro e w3 ⟨k3, mn3, mx3, s03, s13, s23, s33, a3, n3, cap3, rfl, hl3⟩; clear q0 q1 q2 q3 q4 qub; obtain ⟨q0, q1, q2, q3, q4, qub⟩ := HSX.out w3 (by repeat (first | assumption | exact Later.refl _ | refine Later.alloc ?_ _ | refine Later.drew ?_ | refine Later.drewN ?_ _ | refine Later.trans ?_ (by assumption))))
            | fail)
          go_ret
          exact ⟨ret_int (by rw [HR.out, HF.out]; rfl), (by repeat (first | assumption | exact Later.refl _ | refine Later.alloc ?_ _ | refine Later.drew ?_ | refine Later.drewN ?_ _ | refine Later.trans ?_ (by assumption)))⟩
        · have d0 : decide (rf < 0) = false := by simp; omega
          have d1 : decide (n ≤ rf) = false := by simp; omega
          have d2 : decide (rt < 0) = false := by simp; omega
          have d3 : decide (n ≤ rt) = false := by simp; omega
          have d5 : decide (ra < 0) = false := by simp; omega
          have d6 : decide (2 < ra) = false := by simp; omega
          have g5b : (rf == rt) = false := by rw [beq_eq_false_iff_ne]; exact g5
          have hd : decide (0 ≤ rf ∧ rf < n ∧ 0 ≤ rt ∧ rt < n ∧ rf ≠ rt ∧ 0 ≤ ra ∧ ra ≤ 2) = true := decide_eq_true (by omega)
          have HD := Lib.hid hd
          clear hd g5
          by_cases hp0 : ep = 0
          · have HPR := Lib.hid (HIP.out.1 hp0)
            subst hp0
            by_cases ha : ra = 2
            · have han : (ra != 2) = false := by rw [ha]; rfl
              have hae : (ra == 2) = true := by rw [ha]; rfl
              have HA2 := Lib.hid ha
              clear ha
              by_cases hq0 : eq = 0
              · have HQR := Lib.hid (HIQ.out.1 hq0)
                subst hq0
                have hgood : (RuV.bare ⟨rf, rt, ra, rp, rq⟩).okB n = true := by
                  rw [HOKB.out, HD.out, HPR.out, if_pos HA2.out, HQR.out]; rfl
                have HG := Lib.hid hgood
                clear hgood
                go_wp2_with (first
                  | (go_at_call 15; (with_reducible refine (HPP.out _).mono ?_); rintro e w2 ⟨k2, mn2, mx2, s02, s12, s22, s32, a2, n2, cap2, rfl, hl2⟩; clear q0 q1 q2 q3 q4 qub; obtain ⟨q0, q1, q2, q3, q4, qub⟩ := HSX.out w2 (by repeat (first | assumption | exact Later.refl _ | refine Later.alloc ?_ _ | refine Later.drew ?_ | refine Later.drewN ?_ _ | refine Later.trans ?_ (by assumption))))
                  | (go_at_call 15; (with_reducible refine (HPQ.out _).mono ?_); rintro e w3 ⟨k3, mn3, mx3, s03, s13, s23, s33, a3, n3, cap3, rfl, hl3⟩; clear q0 q1 q2 q3 q4 qub; obtain ⟨q0, q1, q2, q3, q4, qub⟩ := HSX.out w3 (by repeat (first | assumption | exact Later.refl _ | refine Later.alloc ?_ _ | refine Later.drew ?_ | refine Later.drewN ?_ _ | refine Later.trans ?_ (by assumption))))
                  | fail)
                go_roundw
                case rel => exact ⟨k + 1, by omega, by go_num, (by repeat (first | assumption | exact Later.refl _ | refine Later.alloc ?_ _ | refine Later.drew ?_ | refine Later.drewN ?_ _ | refine Later.trans ?_ (by assumption))), by rw [HSU.out, HOK.out, HG.out]; rfl⟩
                case measure => simp [intOf]; omega
              · have hqn : (eq != 0) = true := by rw [bne_iff_ne]; exact hq0
                have HQR := Lib.hid (show isRead rq.data.toList = false from by rw [← Bool.not_eq_true]; exact fun h => hq0 (HIQ.out.2 h))
                clear hq0
                have hbad : (RuV.bare ⟨rf, rt, ra, rp, rq⟩).okB n = false := by
                  rw [HOKB.out, HD.out, HPR.out, if_pos HA2.out, HQR.out]; rfl
                have HF := Lib.hid (HSP.out hbad)
                clear hbad
                go_wp2_with (first
                  | (go_at_call 15; (with_reducible refine (HPP.out _).mono ?_); rintro e w2 ⟨k2, mn2, mx2, s02, s12, s22, s32, a2, n2, cap2, rfl, hl2⟩; clear q0 q1 q2 q3 q4 qub; obtain ⟨q0, q1, q2, q3, q4, qub⟩ := HSX.out w2 (by repeat (first | assumption | exact Later.refl _ | refine Later.alloc ?_ _ | refine Later.drew ?_ | refine Later.drewN ?_ _ | refine Later.trans ?_ (by assumption))))
                  | (go_at_call 15; (with_reducible refine (HPQ.out _).mono ?_); rintro e w3 ⟨k3, mn3, mx3, s03, s13, s23, s33, a3, n3, cap3, rfl, hl3⟩; clear q0 q1 q2 q3 q4 qub; obtain ⟨q0, q1, q2, q3, q4, qub⟩ := HSX.out w3 (by repeat (first | assumption | exact Later.refl _ | refine Later.alloc ?_ _ | refine Later.drew ?_ | refine Later.drewN ?_ _ | refine Later.trans ?_ (by assumption))))
                  | fail)
                go_ret
                exact ⟨ret_int (by rw [HR.out, HF.out]; rfl), (by repeat (first | assumption | exact Later.refl _ | refine Later.alloc ?_ _ | refine Later.drew ?_ | refine Later.drewN ?_ _ | refine Later.trans ?_ (by assumption)))⟩
            · have han : (ra != 2) = true := by rw [bne_iff_ne]; exact ha
              have hae : (ra == 2) = false := by rw [beq_eq_false_iff_ne]; exact ha
              have HE := Lib.hid (show (if ra = 2 then isRead rq.data.toList else rq.data.toList.isEmpty) = rq.data.toList.isEmpty from if_neg ha)
              clear ha
              cases bq with
              | true =>
                have hrqn : rq.data.toList = [] := List.isEmpty_iff.1 HBQ.out
                have hrql : rq.toList = [] := by rw [ByteArray.toList_eq]; exact hrqn
                clear hrqn
                have hgood : (RuV.bare ⟨rf, rt, ra, rp, rq⟩).okB n = true := by
                  rw [HOKB.out, HD.out, HPR.out, HE.out, HBQ.out]; rfl
                have HG := Lib.hid hgood
                clear hgood
                go_wp2_with (first
                  | (go_at_call 15; (with_reducible refine (HPP.out _).mono ?_); rintro e w2 ⟨k2, mn2, mx2, s02, s12, s22, s32, a2, n2, cap2, rfl, hl2⟩; clear q0 q1 q2 q3 q4 qub; obtain ⟨q0, q1, q2, q3, q4, qub⟩ := HSX.out w2 (by repeat (first | assumption | exact Later.refl _ | refine Later.alloc ?_ _ | refine Later.drew ?_ | refine Later.drewN ?_ _ | refine Later.trans ?_ (by assumption))))
                  | (go_at_call 15; (with_reducible refine (HPQ.out _).mono ?_); rintro e w3 ⟨k3, mn3, mx3, s03, s13, s23, s33, a3, n3, cap3, rfl, hl3⟩; clear q0 q1 q2 q3 q4 qub; obtain ⟨q0, q1, q2, q3, q4, qub⟩ := HSX.out w3 (by repeat (first | assumption | exact Later.refl _ | refine Later.alloc ?_ _ | refine Later.drew ?_ | refine Later.drewN ?_ _ | refine Later.trans ?_ (by assumption))))
                  | fail)
                go_roundw
                case rel => exact ⟨k + 1, by omega, by go_num, (by repeat (first | assumption | exact Later.refl _ | refine Later.alloc ?_ _ | refine Later.drew ?_ | refine Later.drewN ?_ _ | refine Later.trans ?_ (by assumption))), by rw [HSU.out, HOK.out, HG.out]; rfl⟩
                case measure => simp [intOf]; omega
              | false =>
                have hrql : ¬ rq.toList = [] := by rw [ByteArray.toList_eq]; intro h; have := HBQ.out; rw [h] at this; cases this
                have hbad : (RuV.bare ⟨rf, rt, ra, rp, rq⟩).okB n = false := by
                  rw [HOKB.out, HD.out, HPR.out, HE.out, HBQ.out]; rfl
                have HF := Lib.hid (HSP.out hbad)
                clear hbad
                go_wp2_with (first
                  | (go_at_call 15; (with_reducible refine (HPP.out _).mono ?_); rintro e w2 ⟨k2, mn2, mx2, s02, s12, s22, s32, a2, n2, cap2, rfl, hl2⟩; clear q0 q1 q2 q3 q4 qub; obtain ⟨q0, q1, q2, q3, q4, qub⟩ := HSX.out w2 (by repeat (first | assumption | exact Later.refl _ | refine Later.alloc ?_ _ | refine Later.drew ?_ | refine Later.drewN ?_ _ | refine Later.trans ?_ (by assumption))))
                  | (go_at_call 15; (with_reducible refine (HPQ.out _).mono ?_); rintro e w3 ⟨k3, mn3, mx3, s03, s13, s23, s33, a3, n3, cap3, rfl, hl3⟩; clear q0 q1 q2 q3 q4 qub; obtain ⟨q0, q1, q2, q3, q4, qub⟩ := HSX.out w3 (by repeat (first | assumption | exact Later.refl _ | refine Later.alloc ?_ _ | refine Later.drew ?_ | refine Later.drewN ?_ _ | refine Later.trans ?_ (by assumption))))
                  | fail)
                go_ret
                exact ⟨ret_int (by rw [HR.out, HF.out]; rfl), (by repeat (first | assumption | exact Later.refl _ | refine Later.alloc ?_ _ | refine Later.drew ?_ | refine Later.drewN ?_ _ | refine Later.trans ?_ (by assumption)))⟩
          · have hpn : (ep != 0) = true := by rw [bne_iff_ne]; exact hp0
            have HPR := Lib.hid (show isRead rp.data.toList = false from by rw [← Bool.not_eq_true]; exact fun h => hp0 (HIP.out.2 h))
            clear hp0
            have hbad : (RuV.bare ⟨rf, rt, ra, rp, rq⟩).okB n = false := by
              rw [HOKB.out, HD.out, HPR.out]; rfl
            have HF := Lib.hid (HSP.out hbad)
            clear hbad
            go_wp2_with (first
              | (go_at_call 15; (with_reducible refine (HPP.out _).mono ?_); rintro e w2 ⟨k2, mn2, mx2, s02, s12, s22, s32, a2, n2, cap2, rfl, hl2⟩; clear q0 q1 q2 q3 q4 qub; obtain ⟨q0, q1, q2, q3, q4, qub⟩ := HSX.out w2 (by repeat (first | assumption | exact Later.refl _ | refine Later.alloc ?_ _ | refine Later.drew ?_ | refine Later.drewN ?_ _ | refine Later.trans ?_ (by assumption))))
              | (go_at_call 15; (with_reducible refine (HPQ.out _).mono ?_); rintro e w3 ⟨k3, mn3, mx3, s03, s13, s23, s33, a3, n3, cap3, rfl, hl3⟩; clear q0 q1 q2 q3 q4 qub; obtain ⟨q0, q1, q2, q3, q4, qub⟩ := HSX.out w3 (by repeat (first | assumption | exact Later.refl _ | refine Later.alloc ?_ _ | refine Later.drew ?_ | refine Later.drewN ?_ _ | refine Later.trans ?_ (by assumption))))
              | fail)
            go_ret
            exact ⟨ret_int (by rw [HR.out, HF.out]; rfl), (by repeat (first | assumption | exact Later.refl _ | refine Later.alloc ?_ _ | refine Later.drew ?_ | refine Later.drewN ?_ _ | refine Later.trans ?_ (by assumption)))⟩
      · obtain rfl : k = m := by omega
        have hall : (l.map RuV.bare).all (·.okB n) = true := by rw [← okTo_all, HM.out]; exact HOK.out
        have HALL := Lib.hid hall
        clear hall
        by_cases h32 : (32 : Int) < (k : Int)
        · go_wp2_with fail
          go_ret
          refine ⟨ret_int ?_, (by repeat (first | assumption | exact Later.refl _ | refine Later.alloc ?_ _ | refine Later.drew ?_ | refine Later.drewN ?_ _ | refine Later.trans ?_ (by assumption)))⟩
          rw [HR.out, HALL.out, HM.out, Bool.true_and, if_neg (by simp; omega)]
        · go_wp2_with fail
          go_ret
          refine ⟨ret_int ?_, (by repeat (first | assumption | exact Later.refl _ | refine Later.alloc ?_ _ | refine Later.drew ?_ | refine Later.drewN ?_ _ | refine Later.trans ?_ (by assumption)))⟩
          rw [HR.out, HALL.out, HM.out, Bool.true_and, if_pos (by simp; omega)]
end Go.Proofs.YtjhclopdcbnmkaaGreatDoor

