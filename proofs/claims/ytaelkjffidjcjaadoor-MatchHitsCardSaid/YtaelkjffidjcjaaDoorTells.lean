/- The walk of MatchTells. -/
import Derived.Test.YtaelkjffidjcjaaDoorRIs
import Derived.Deep.RegionHeld3
set_option linter.unusedSimpArgs false
set_option linter.unusedVariables false
namespace Go.Proofs.YtaelkjffidjcjaaDoor
open Go.RowKit PX

theorem new_says (w : World) (X : RxA) (hin : X.In w w.heap.size) (hT : TabAt 0 Lib.deBruijn64tab w) :
    Calls Tryd.prog 14 #[X.val] w fun e w' => ∃ v, e = .returned (.tuple #[v, .int .i64 (checkR X.bare)]) ∧ Later w w' ∧ MaybeX w' v X.bare := by
  refine (new_any X w w.heap.size (Nat.le_refl _) hin).mono ?_
  rintro e w' ⟨hb, ⟨hc, p, he, -, hm⟩ | ⟨hc, he⟩⟩
  · rw [hc]; exact ⟨_, he, hb, .inl ⟨hc, p, rfl, hm, TabAt.below hT hb⟩⟩
  · exact ⟨_, he, hb, .inr ⟨hc, rfl⟩⟩
theorem rcheck_says (w : World) (X : RxA) (hin : X.In w w.heap.size) : Calls Tryd.prog 16 #[X.val] w fun e w' => e = .returned (.int .i64 (checkR X.bare)) ∧ Later w w' := rcheck_any X w w.heap.size (Nat.le_refl _) hin

set_option maxRecDepth 100000 in
set_option maxHeartbeats 4000000 in
theorem tells_any (w : World) (X : RxA) (S : ByteArray) (hJ : JW w X X) :
    Calls Tryd.prog 3 #[X.val, .string S] w fun e w' => e = .returned (.bool true) ∧ Later w w' := by
  obtain ⟨w0, hw0⟩ : ∃ w0, w.alloc (.cells X.cells.toArray 26) = w0 := ⟨_, rfl⟩
  have hl0 : Later w w0 := by rw [← hw0]; exact (Later.refl w).alloc _
  have hJ0 := hJ.later hl0
  have hx0 : w0.heap[w.heap.size]? = some (.cells X.cells.toArray 26 (0, 0)) := by rw [← hw0]; exact alloc_block w _
  have hfix := fun w1 (h1 : Later w0 w1) => fixed_any w1 (hJ0.later h1).t
  have hnew := fun w1 (h1 : Later w0 w1) => new_says w1 X (hJ0.later h1).x (hJ0.later h1).t
  have hck := fun w1 (h1 : Later w0 w1) => rcheck_says w1 X (hJ0.later h1).x
  have hris := fun w1 (h1 : Later w0 w1) (T : ByteArray) (hT : T.size ≤ 256) (hc : checkR X.bare = 0) => ris_any w1 X T hT (hJ0.later h1).x hc
  obtain ⟨x, hx⟩ : ∃ x, X.bare = x := ⟨_, rfl⟩
  rw [hx] at hnew hck hris
  clear hJ hJ0 hx
  obtain ⟨k, mn, mx, s0, s1, s2, s3, a, cap, l⟩ := X
  simp only [RxA.val, RxA.cells] at hnew hck hris hx0 hw0 ⊢
  obtain ⟨b0, hb0⟩ : ∃ b0, w.heap.size = b0 := ⟨_, rfl⟩
  obtain ⟨n, hn⟩ : ∃ n, l.length = n := ⟨_, rfl⟩
  rw [hn] at hnew hck hris hx0 hw0 ⊢
  rw [hb0] at hx0
  have hsx : ∀ w', Later w0 w' → w'.cell? ⟨b0, 0, none⟩ = some (.int .i64 k) ∧ w'.cell? ⟨b0, 1, none⟩ = some (.int .i64 mn) ∧ w'.cell? ⟨b0, 2, none⟩ = some (.int .i64 mx) ∧ w'.cell? ⟨b0, 3, none⟩ = some (.int .u64 s0) ∧ w'.cell? ⟨b0, 4, none⟩ = some (.int .u64 s1) ∧ w'.cell? ⟨b0, 5, none⟩ = some (.int .u64 s2) ∧ w'.cell? ⟨b0, 6, none⟩ = some (.int .u64 s3) ∧ w'.cell? ⟨b0, 7, none⟩ = some (.slice a n cap) := by
    intro w' h'
    have h1 := h'.block hx0
    refine ⟨?_, ?_, ?_, ?_, ?_, ?_, ?_, ?_⟩ <;> exact cell_of_block h1 _
  have HSX := Lib.hid hsx
  have HNEW := Lib.hid hnew
  have HCK := Lib.hid hck
  have HRIS := Lib.hid hris
  have HFIX := Lib.hid hfix
  have HL0 := Lib.hid hl0
  have HW0 := Lib.hid hw0
  clear hnew hck hris hfix hl0 hw0 hn hx0 hsx
  obtain ⟨q0, q1, q2, q3, q4, q5, q6, q7⟩ := HSX.out w0 (Later.refl _)
  by_cases hc : checkR x = 0
  · have hnew := HNEW.out w0 (Later.refl _)
    have hck := HCK.out
    rw [hc] at hnew hck
    have HNEW0 := Lib.hid hnew
    have HCK0 := Lib.hid hck
    have HRIS0 := Lib.hid (fun w1 h1 T hT => HRIS.out w1 h1 T hT hc)
    have HC := Lib.hid hc
    clear hnew hck hc HNEW HCK HRIS
    have HR1F := Lib.hid (fun (hs : S.size ≤ 256) w1 (h1 : Later w0 w1) => HRIS0.out w1 h1 S hs)
    have hno := fun w1 p (h : MX w1 p x) => nothing_tells w1 p x h
    have hr0 := fun w1 (h1 : Later w0 w1) => HRIS0.out w1 h1 ⟨#[]⟩ (by decide)
    have hr0 := hr0
    obtain ⟨b1, hb1⟩ : ∃ b, inB x.lang [] = b := ⟨_, rfl⟩
    have hem : inB x.lang (⟨#[]⟩ : ByteArray).data.toList = b1 := hb1
    rw [hb1] at hno
    rw [hem] at hr0
    have HNO := Lib.hid hno
    have HR0 := Lib.hid hr0
    clear hno hr0 hb1 hem HRIS0
    by_cases hs : S.size ≤ 256
    · have his := fun w1 p (h : MX w1 p x) => is_tells w1 p x h S
      have hr1 := HR1F.out hs
      obtain ⟨bs, hbs⟩ : ∃ b, inB x.lang S.data.toList = b := ⟨_, rfl⟩
      have e1 : inT S x.lang = bs := by rw [← hbs]; unfold inT; rw [decide_eq_true hs]; rfl
      have e2 : isN S = 0 := by unfold isN; rw [if_pos hs]
      rw [e1, e2] at his
      rw [hbs] at hr1
      have HIS := Lib.hid his
      have HR1 := Lib.hid hr1
      have hs2 : ¬ (256 : Int) < S.size := by omega
      clear his hr1 hbs e1 e2 hs
      cases bs <;> cases b1 <;> (
        go_enter Tryd.func3, Tryd.ntmps3
        go_upto_region 1 with fail
        rw [HW0.out]
        clear HW0 hb0
        go_wp2_with (first
          | (go_at_call 14; (with_reducible refine HNEW0.out.mono ?_); rintro e w1 ⟨v, rfl, hl1, hm1⟩; obtain ⟨p, rfl, hp⟩ := hm1.good HC.out; clear hm1; have HP := Lib.hid hp; clear hp)
          | (go_at_call 15; (with_reducible refine (HFIX.out _ hl1).mono ?_); rintro e w2 ⟨rfl, hb2⟩; have hl2 := Later.of hb2; clear hb2; obtain ⟨q0, q1, q2, q3, q4, q5, q6, q7⟩ := HSX.out w2 (Later.trans hl1 hl2))
          | (go_at_call 16; (with_reducible refine (HCK0.out _ (Later.trans hl1 hl2)).mono ?_); rintro e w3 ⟨rfl, hl3⟩; have HP3 := Lib.hid ((HP.out.later hl2).later hl3); have hl03 := Later.trans (Later.trans hl1 hl2) hl3)
          | (go_at_call 17; (with_reducible refine (HIS.out _ p HP3.out).mono ?_); rintro e w4 ⟨rfl, hl4⟩; have HP4 := Lib.hid (HP3.out.later hl4); have hl04 := Later.trans hl03 hl4)
          | fail)
        clear q0 q1 q2 q3 q4 q5 q6 q7 hl1 hl2 hl3 hl4 hl03
        have HNO4 := Lib.hid (fun w5 (h : Later w4 w5) => HNO.out w5 p (HP4.out.later h))
        go_region_held3 (fun w' => w'.cell? ⟨b0, 0, none⟩ = some (.int .i64 k) ∧ w'.cell? ⟨b0, 1, none⟩ = some (.int .i64 mn) ∧ w'.cell? ⟨b0, 2, none⟩ = some (.int .i64 mx) ∧ w'.cell? ⟨b0, 3, none⟩ = some (.int .u64 s0) ∧ w'.cell? ⟨b0, 4, none⟩ = some (.int .u64 s1) ∧ w'.cell? ⟨b0, 5, none⟩ = some (.int .u64 s2) ∧ w'.cell? ⟨b0, 6, none⟩ = some (.int .u64 s3) ∧ w'.cell? ⟨b0, 7, none⟩ = some (.slice a n cap))
          (first | exact HSX.out _ (by repeat (first | assumption | exact Later.refl _ | refine Later.drew ?_ | refine Later.drewN ?_ _ | refine Later.alloc ?_ _ | refine Later.trans ?_ (by assumption))))
          (first
            | (go_at_call 18; (with_reducible refine (HNO4.out _ (by repeat (first | assumption | exact Later.refl _ | refine Later.drew ?_ | refine Later.drewN ?_ _ | refine Later.alloc ?_ _ | refine Later.trans ?_ (by assumption)))).mono ?_); rintro e w5 ⟨rfl, hl5⟩)
            | (go_at_call 19; (with_reducible refine (HR1.out _ (by repeat (first | assumption | exact Later.refl _ | refine Later.drew ?_ | refine Later.drewN ?_ _ | refine Later.alloc ?_ _ | refine Later.trans ?_ (by assumption)))).mono ?_); rintro e w6 ⟨rfl, hl6⟩)
            | (go_at_call 19; (with_reducible refine (HR0.out _ (by repeat (first | assumption | exact Later.refl _ | refine Later.drew ?_ | refine Later.drewN ?_ _ | refine Later.alloc ?_ _ | refine Later.trans ?_ (by assumption)))).mono ?_); rintro e w7 ⟨rfl, hl7⟩)
            | fail)
        all_goals
          go_wp2_with fail
          go_ret
          exact ⟨rfl, HL0.out.trans (by repeat (first | assumption | exact Later.refl _ | refine Later.drew ?_ | refine Later.drewN ?_ _ | refine Later.alloc ?_ _ | refine Later.trans ?_ (by assumption)))⟩)
    · have his := fun w1 p (h : MX w1 p x) => is_tells w1 p x h S
      have e1 : inT S x.lang = false := by unfold inT; rw [decide_eq_false hs]; rfl
      have e2 : isN S = 60 := by unfold isN; rw [if_neg hs]
      rw [e1, e2] at his
      have HIS := Lib.hid his
      have HR1 := HR0
      have hs2 : (256 : Int) < S.size := by omega
      clear his e1 e2 hs
      cases b1 <;> (
        go_enter Tryd.func3, Tryd.ntmps3
        go_upto_region 1 with fail
        rw [HW0.out]
        clear HW0 hb0
        go_wp2_with (first
          | (go_at_call 14; (with_reducible refine HNEW0.out.mono ?_); rintro e w1 ⟨v, rfl, hl1, hm1⟩; obtain ⟨p, rfl, hp⟩ := hm1.good HC.out; clear hm1; have HP := Lib.hid hp; clear hp)
          | (go_at_call 15; (with_reducible refine (HFIX.out _ hl1).mono ?_); rintro e w2 ⟨rfl, hb2⟩; have hl2 := Later.of hb2; clear hb2; obtain ⟨q0, q1, q2, q3, q4, q5, q6, q7⟩ := HSX.out w2 (Later.trans hl1 hl2))
          | (go_at_call 16; (with_reducible refine (HCK0.out _ (Later.trans hl1 hl2)).mono ?_); rintro e w3 ⟨rfl, hl3⟩; have HP3 := Lib.hid ((HP.out.later hl2).later hl3); have hl03 := Later.trans (Later.trans hl1 hl2) hl3)
          | (go_at_call 17; (with_reducible refine (HIS.out _ p HP3.out).mono ?_); rintro e w4 ⟨rfl, hl4⟩; have HP4 := Lib.hid (HP3.out.later hl4); have hl04 := Later.trans hl03 hl4)
          | fail)
        clear q0 q1 q2 q3 q4 q5 q6 q7 hl1 hl2 hl3 hl4 hl03
        have HNO4 := Lib.hid (fun w5 (h : Later w4 w5) => HNO.out w5 p (HP4.out.later h))
        go_region_held3 (fun w' => w'.cell? ⟨b0, 0, none⟩ = some (.int .i64 k) ∧ w'.cell? ⟨b0, 1, none⟩ = some (.int .i64 mn) ∧ w'.cell? ⟨b0, 2, none⟩ = some (.int .i64 mx) ∧ w'.cell? ⟨b0, 3, none⟩ = some (.int .u64 s0) ∧ w'.cell? ⟨b0, 4, none⟩ = some (.int .u64 s1) ∧ w'.cell? ⟨b0, 5, none⟩ = some (.int .u64 s2) ∧ w'.cell? ⟨b0, 6, none⟩ = some (.int .u64 s3) ∧ w'.cell? ⟨b0, 7, none⟩ = some (.slice a n cap))
          (first | exact HSX.out _ (by repeat (first | assumption | exact Later.refl _ | refine Later.drew ?_ | refine Later.drewN ?_ _ | refine Later.alloc ?_ _ | refine Later.trans ?_ (by assumption))))
          (first
            | (go_at_call 18; (with_reducible refine (HNO4.out _ (by repeat (first | assumption | exact Later.refl _ | refine Later.drew ?_ | refine Later.drewN ?_ _ | refine Later.alloc ?_ _ | refine Later.trans ?_ (by assumption)))).mono ?_); rintro e w5 ⟨rfl, hl5⟩)
            | (go_at_call 19; (with_reducible refine (HR1.out _ (by repeat (first | assumption | exact Later.refl _ | refine Later.drew ?_ | refine Later.drewN ?_ _ | refine Later.alloc ?_ _ | refine Later.trans ?_ (by assumption)))).mono ?_); rintro e w6 ⟨rfl, hl6⟩)
            | (go_at_call 19; (with_reducible refine (HR0.out _ (by repeat (first | assumption | exact Later.refl _ | refine Later.drew ?_ | refine Later.drewN ?_ _ | refine Later.alloc ?_ _ | refine Later.trans ?_ (by assumption)))).mono ?_); rintro e w7 ⟨rfl, hl7⟩)
            | fail)
        all_goals
          go_wp2_with fail
          go_ret
          exact ⟨rfl, HL0.out.trans (by repeat (first | assumption | exact Later.refl _ | refine Later.drew ?_ | refine Later.drewN ?_ _ | refine Later.alloc ?_ _ | refine Later.trans ?_ (by assumption)))⟩)
  · have hnew := HNEW.out w0 (Later.refl _)
    obtain ⟨cr, hcr⟩ : ∃ cr, checkR x = cr := ⟨_, rfl⟩
    have hck := HCK.out
    rw [hcr] at hnew hck hc
    have hnew2 := hnew.mono (R' := fun e w' => e = .returned (.tuple #[.pointer none, .int .i64 cr]) ∧ Later w0 w') (by
      rintro e w' ⟨v, rfl, hl, hm⟩
      rcases hm with ⟨h, -⟩ | ⟨-, rfl⟩
      · exact absurd (hcr.symm.trans h) hc
      · exact ⟨rfl, hl⟩)
    have HNEW0 := Lib.hid hnew2
    have HCK0 := Lib.hid hck
    have hc2 : (cr != 0) = true := by rw [bne_iff_ne]; exact hc
    clear hnew hnew2 hck hc HNEW HCK HRIS hcr
    go_enter Tryd.func3, Tryd.ntmps3
    go_upto_region 1 with fail
    rw [HW0.out]
    clear HW0 hb0
    go_wp2_with (first
      | (go_at_call 14; (with_reducible refine HNEW0.out.mono ?_); rintro e w1 ⟨rfl, hl1⟩)
      | (go_at_call 15; (with_reducible refine (HFIX.out _ hl1).mono ?_); rintro e w2 ⟨rfl, hb2⟩; have hl2 := Later.of hb2; clear hb2; obtain ⟨q0, q1, q2, q3, q4, q5, q6, q7⟩ := HSX.out w2 (Later.trans hl1 hl2))
      | (go_at_call 16; (with_reducible refine (HCK0.out _ (Later.trans hl1 hl2)).mono ?_); rintro e w3 ⟨rfl, hl3⟩)
      | fail)
    go_ret
    exact ⟨rfl, HL0.out.trans (by repeat (first | assumption | exact Later.refl _ | refine Later.drew ?_ | refine Later.drewN ?_ _ | refine Later.alloc ?_ _ | refine Later.trans ?_ (by assumption)))⟩
end Go.Proofs.YtaelkjffidjcjaaDoor
