/- RegexBack. (Printed by wip/gen_v3.py.) -/
import Derived.Test.YtjhclopdcbnmkaaDoorS9
import Derived.Test.YtjhclopdcbnmkaaDoorT1
set_option linter.unusedSimpArgs false
set_option linter.unusedVariables false
namespace Go.Proofs.YtjhclopdcbnmkaaDoor
open Go.RowKit PX

mutual
theorem ok_wide : ∀ {x : Rx}, Ok64 x → x.wide
  | .node _ _ _ s0 s1 s2 s3 l, h => by
    simp only [Ok64] at h
    simp only [Rx.wide]
    exact ⟨h.1, okAll_wide h.2⟩
theorem okAll_wide : ∀ {l : List Rx}, Ok64All l → wideAll l
  | [], _ => trivial
  | x :: xs, h => by
    simp only [Ok64All] at h
    exact ⟨ok_wide h.1, okAll_wide h.2⟩
end
theorem in_wide {w : World} {B : Nat} {X : RxA} (h : X.In w B) : X.bare.wide := ok_wide (in_ok64 h)
theorem print_back {x : Rx} (hw : x.wide) (h : printE x = 0) : parseR (printS x) = .inl x := by
  have hc : checkR x = 0 := by
    by_cases hc : checkR x = 0
    · exact hc
    · rw [printE_bad hc] at h; exact absurd h hc
  have hl : x.text.length ≤ 128 := by
    rw [printE_good hc] at h
    split at h
    · cases h
    · omega
  obtain ⟨hf, hs⟩ := checkR_parts hc
  unfold printS
  rw [if_pos h]
  exact parse_text hf hw hs hl
theorem print_len {x : Rx} (h : printE x = 0) : (printS x).length ≤ 128 := by
  have hc : checkR x = 0 := by
    by_cases hc : checkR x = 0
    · exact hc
    · rw [printE_bad hc] at h; exact absurd h hc
  unfold printS
  rw [if_pos h]
  rw [printE_good hc] at h
  split at h
  · cases h
  · omega
theorem print_ok {x : Rx} (h : checkR x = 0) : printE x = 0 ∨ printE x = 51 := by
  rw [printE_good h]
  split
  · exact .inr rfl
  · exact .inl rfl
theorem check_parse {s : List UInt8} {x : Rx} (h : parseR s = .inl x) : checkR x = 0 := by obtain ⟨h1, h2⟩ := parseR_form h; unfold checkR; rw [if_pos h1, if_neg (by omega)]
theorem check_of_print {x : Rx} (h : printE x = 0) : checkR x = 0 := by
  by_cases hc : checkR x = 0
  · exact hc
  · rw [printE_bad hc] at h; exact absurd h hc
theorem ba_list (l : List UInt8) : (⟨l.toArray⟩ : ByteArray).data.toList = l := by simp

set_option maxRecDepth 100000 in
set_option maxHeartbeats 8000000 in
theorem back_any (w : World) (X : RxA) (S : ByteArray) (hin : X.In w w.heap.size) (hP : PowAt w) :
    Calls Tryd.prog 3 #[X.val, .string S] w fun e w' => e = .returned (.bool true) ∧ Later w w' := by
  obtain ⟨w0, hw0⟩ : ∃ w0, w.alloc (.cells X.cells.toArray 26) = w0 := ⟨_, rfl⟩
  have hl0 : Later w w0 := by rw [← hw0]; exact (Later.refl w).alloc _
  have hx0 : w0.heap[w.heap.size]? = some (.cells X.cells.toArray 26 (0, 0)) := by rw [← hw0]; exact alloc_block w _
  have hxi := in_later8 hin hl0
  have HFIX := Lib.hid (fun w1 (h1 : Later w0 w1) => fixed05_any w1 (hP.later (hl0.trans h1)))
  have HPO := Lib.hid (fun w1 (h1 : Later w0 w1) => hP.later (hl0.trans h1))
  obtain ⟨x, hxb⟩ : ∃ x, X.bare = x := ⟨_, rfl⟩
  obtain ⟨PE, hPE⟩ : ∃ PE, printE x = PE := ⟨_, rfl⟩
  obtain ⟨PS, hPS⟩ : ∃ PS : ByteArray, (⟨(printS x).toArray⟩ : ByteArray) = PS := ⟨_, rfl⟩
  have HPX := Lib.hid (fun w1 (h1 : Later w0 w1) => (show Calls Tryd.prog 9 #[X.val] w1 fun e w' => e = .returned (.tuple #[.string PS, .int .i64 PE]) ∧ Later w1 w' from by
    have h := print_any w1 X (in_later8 hxi h1) (HPO.out w1 h1)
    rw [hxb, hPE, hPS] at h
    exact h))
  have HCX := Lib.hid (fun (hc : checkR x = 0) w1 (h1 : Later w0 w1) => (show Calls Tryd.prog 11 #[X.val] w1 fun e w' => e = .returned (.int .i64 0) ∧ Later w1 w' from by
    have h := pcheck_any X w1 w1.heap.size (Nat.le_refl _) (in_later8 hxi h1)
    rw [hxb, hc] at h
    exact h))
  have HSX := Lib.hid (fun (Y : RxA) w1 (h1 : Later w0 w1) (hY : x = Y.bare) (hy : Y.In w1 w1.heap.size) => same_true X Y w1 (in_later8 hxi h1) hy (hxb.trans hY))
  have hpx : PE = 0 → parseR PS.data.toList = .inl x := by
    intro h
    rw [← hPS, ba_list]
    exact print_back (by rw [← hxb]; exact in_wide hin) (hPE.trans h)
  have hck : PE = 0 → checkR x = 0 := fun h => check_of_print (hPE.trans h)
  have HPP := Lib.hid hpx
  have HCK := Lib.hid hck
  clear hin hP hxi hxb hPE hPS hpx hck
  obtain ⟨k, mn, mx, s0, s1, s2, s3, a, cap, l⟩ := X
  simp only [RxA.val, RxA.cells] at HPX HCX HSX hx0 hw0 ⊢
  have HB := Lib.hid (fun w' (h' : Later w0 w') => show (w'.cell? ⟨w.heap.size, 0, none⟩ = some (.int .i64 k) ∧ w'.cell? ⟨w.heap.size, 1, none⟩ = some (.int .i64 mn) ∧ w'.cell? ⟨w.heap.size, 2, none⟩ = some (.int .i64 mx) ∧ w'.cell? ⟨w.heap.size, 3, none⟩ = some (.int .u64 s0) ∧ w'.cell? ⟨w.heap.size, 4, none⟩ = some (.int .u64 s1) ∧ w'.cell? ⟨w.heap.size, 5, none⟩ = some (.int .u64 s2) ∧ w'.cell? ⟨w.heap.size, 6, none⟩ = some (.int .u64 s3) ∧ w'.cell? ⟨w.heap.size, 7, none⟩ = some (.slice a l.length cap)) ∧ w.heap.size < w'.heap.size from
    ⟨⟨cell_of_block (h'.block hx0) 0, cell_of_block (h'.block hx0) 1, cell_of_block (h'.block hx0) 2, cell_of_block (h'.block hx0) 3, cell_of_block (h'.block hx0) 4, cell_of_block (h'.block hx0) 5, cell_of_block (h'.block hx0) 6, cell_of_block (h'.block hx0) 7⟩, lt_of_block (h'.block hx0)⟩)
  have HL0 := Lib.hid hl0
  have HW0 := Lib.hid hw0
  clear hl0 hw0 hx0
  have HZZ := Lib.hid (fun w1 => (show Calls Tryd.prog 13 #[.agg #[.int .i64 0, .int .i64 0, .int .i64 0, .int .u64 0, .int .u64 0, .int .u64 0, .int .u64 0, .slice none 0 0], .agg #[.int .i64 0, .int .i64 0, .int .i64 0, .int .u64 0, .int .u64 0, .int .u64 0, .int .u64 0, .slice none 0 0]] w1 fun e w' => e = .returned (.bool true) ∧ Later w1 w' from
    same_true (RxA.node 0 0 0 0 0 0 0 none 0 []) (RxA.node 0 0 0 0 0 0 0 none 0 []) w1 (zero_in w1 0 (by unfold I64; omega)) (zero_in w1 0 (by unfold I64; omega)) rfl))
  have HPA := Lib.hid (fun w1 (s : ByteArray) (y : Rx) h => parse_good w1 s y h)
  have HPN := Lib.hid (fun w1 (s : ByteArray) (n : Int) h => parse_wrong w1 s n h)
  by_cases hpe : PE = 0
  · subst hpe
    have HPP0 := Lib.hid (HPP.out rfl)
    have HC0 := Lib.hid (HCK.out rfl)
    cases hp : parseR S.data.toList with
    | inr c =>
      have HSN := Lib.hid hp
      have hcn : (c != 0) = true := by rcases parseR_err hp with rfl | rfl <;> rfl
      clear hp
      go_enter Tryd.func3, Tryd.ntmps3
      go_upto_region 1 with fail
      rw [HW0.out]
      obtain ⟨⟨d0, d1, d2, d3, d4, d5, d6, d7⟩, dlt⟩ := HB.out w0 (Later.refl _)
      go_wp2_with (first
        | (go_at_call 9; (with_reducible refine (HPX.out _ (Later.refl _)).mono ?_); rintro e w1 ⟨rfl, hl1⟩; clear d0 d1 d2 d3 d4 d5 d6 d7 dlt; obtain ⟨⟨d0, d1, d2, d3, d4, d5, d6, d7⟩, dlt⟩ := HB.out w1 (by repeat (first | assumption | exact Later.refl _ | refine Later.alloc ?_ _ | refine Later.drew ?_ | refine Later.trans ?_ (by assumption))))
        | (go_at_call 10; (with_reducible refine (HFIX.out _ (by repeat (first | assumption | exact Later.refl _ | refine Later.alloc ?_ _ | refine Later.drew ?_ | refine Later.trans ?_ (by assumption)))).mono ?_); rintro e w2 ⟨rfl, hl2⟩; clear d0 d1 d2 d3 d4 d5 d6 d7 dlt; obtain ⟨⟨d0, d1, d2, d3, d4, d5, d6, d7⟩, dlt⟩ := HB.out w2 (by repeat (first | assumption | exact Later.refl _ | refine Later.alloc ?_ _ | refine Later.drew ?_ | refine Later.trans ?_ (by assumption))))
        | (go_at_call 11; (with_reducible refine (HCX.out HC0.out _ (by repeat (first | assumption | exact Later.refl _ | refine Later.alloc ?_ _ | refine Later.drew ?_ | refine Later.trans ?_ (by assumption)))).mono ?_); rintro e w3 ⟨rfl, hl3⟩; clear d0 d1 d2 d3 d4 d5 d6 d7 dlt; obtain ⟨⟨d0, d1, d2, d3, d4, d5, d6, d7⟩, dlt⟩ := HB.out w3 (by repeat (first | assumption | exact Later.refl _ | refine Later.alloc ?_ _ | refine Later.drew ?_ | refine Later.trans ?_ (by assumption))))
        | (go_at_call 12; (with_reducible refine (HPA.out _ PS _ HPP0.out).mono ?_); rintro e w4 ⟨pk, pmn, pmx, ps0, ps1, ps2, ps3, pa, pcap, pl, pX, rfl, pin, pb⟩; have hl4 := Later.of pb; have PXX := Lib.hid pX; have h44 : Later w4 (w4.alloc (.cells #[.int .i64 pk, .int .i64 pmn, .int .i64 pmx, .int .u64 ps0, .int .u64 ps1, .int .u64 ps2, .int .u64 ps3, .slice pa pl.length pcap] 26)) := (Later.refl w4).alloc _; have h04 : Later w0 (w4.alloc (.cells #[.int .i64 pk, .int .i64 pmn, .int .i64 pmx, .int .u64 ps0, .int .u64 ps1, .int .u64 ps2, .int .u64 ps3, .slice pa pl.length pcap] 26)) := (by repeat (first | assumption | exact Later.refl _ | refine Later.alloc ?_ _ | refine Later.drew ?_ | refine Later.trans ?_ (by assumption))); have PIN := Lib.hid (in_later8 pin h44); clear d0 d1 d2 d3 d4 d5 d6 d7 dlt; obtain ⟨⟨d0, d1, d2, d3, d4, d5, d6, d7⟩, dlt⟩ := HB.out (w4.alloc (.cells #[.int .i64 pk, .int .i64 pmn, .int .i64 pmx, .int .u64 ps0, .int .u64 ps1, .int .u64 ps2, .int .u64 ps3, .slice pa pl.length pcap] 26)) h04; have HSP := Lib.hid (show Calls Tryd.prog 13 #[.agg #[.int .i64 k, .int .i64 mn, .int .i64 mx, .int .u64 s0, .int .u64 s1, .int .u64 s2, .int .u64 s3, .slice a l.length cap], .agg #[.int .i64 pk, .int .i64 pmn, .int .i64 pmx, .int .u64 ps0, .int .u64 ps1, .int .u64 ps2, .int .u64 ps3, .slice pa pl.length pcap]] (w4.alloc (.cells #[.int .i64 pk, .int .i64 pmn, .int .i64 pmx, .int .u64 ps0, .int .u64 ps1, .int .u64 ps2, .int .u64 ps3, .slice pa pl.length pcap] 26)) fun e w' => e = .returned (.bool true) ∧ Later (w4.alloc (.cells #[.int .i64 pk, .int .i64 pmn, .int .i64 pmx, .int .u64 ps0, .int .u64 ps1, .int .u64 ps2, .int .u64 ps3, .slice pa pl.length pcap] 26)) w' from HSX.out (RxA.node pk pmn pmx ps0 ps1 ps2 ps3 pa pcap pl) _ h04 PXX.out PIN.out); clear pX pin pb)
        | (go_at_call 13; (with_reducible refine HSP.out.mono ?_); rintro e w5 ⟨rfl, hl5⟩; clear d0 d1 d2 d3 d4 d5 d6 d7 dlt)
        | (go_at_call 12; (with_reducible refine (HPN.out _ S _ HSN.out).mono ?_); rintro e w6 ⟨rfl, hb6⟩; have hl6 := Later.of hb6; clear hb6)
        | (go_at_call 13; (with_reducible refine (HZZ.out _).mono ?_); rintro e w7 ⟨rfl, hl7⟩)
        | fail)
      go_ret
      exact ⟨rfl, HL0.out.trans (by repeat (first | assumption | exact Later.refl _ | refine Later.alloc ?_ _ | refine Later.drew ?_ | refine Later.trans ?_ (by assumption)))⟩
    | inl y =>
      have HSY := Lib.hid hp
      have hyc := check_parse hp
      have HYC := Lib.hid hyc
      obtain ⟨QD, hQD⟩ : ∃ QD, printE y = QD := ⟨_, rfl⟩
      obtain ⟨QS, hQS⟩ : ∃ QS : ByteArray, (⟨(printS y).toArray⟩ : ByteArray) = QS := ⟨_, rfl⟩
      have HQD := Lib.hid hQD
      have HQS := Lib.hid hQS
      have hcs : QD = 0 ∨ QD = 51 := by rw [← hQD]; exact print_ok hyc
      have HQ0 := Lib.hid (show y.wide → QD = 0 → parseR QS.data.toList = .inl y ∧ QS.size ≤ 128 from fun hwy h => by
        rw [← hQS, ba_list]
        refine ⟨print_back hwy (hQD.trans h), ?_⟩
        have h2 := print_len (hQD.trans h)
        show (printS y).toArray.size ≤ 128
        rw [List.size_toArray]
        exact h2)
      clear hp hyc hQD hQS
      rcases hcs with rfl | rfl
      · skip
        go_enter Tryd.func3, Tryd.ntmps3
        go_upto_region 1 with fail
        rw [HW0.out]
        obtain ⟨⟨d0, d1, d2, d3, d4, d5, d6, d7⟩, dlt⟩ := HB.out w0 (Later.refl _)
        go_wp2_with (first
          | (go_at_call 9; (with_reducible refine (HPX.out _ (Later.refl _)).mono ?_); rintro e w1 ⟨rfl, hl1⟩; clear d0 d1 d2 d3 d4 d5 d6 d7 dlt; obtain ⟨⟨d0, d1, d2, d3, d4, d5, d6, d7⟩, dlt⟩ := HB.out w1 (by repeat (first | assumption | exact Later.refl _ | refine Later.alloc ?_ _ | refine Later.drew ?_ | refine Later.trans ?_ (by assumption))))
          | (go_at_call 10; (with_reducible refine (HFIX.out _ (by repeat (first | assumption | exact Later.refl _ | refine Later.alloc ?_ _ | refine Later.drew ?_ | refine Later.trans ?_ (by assumption)))).mono ?_); rintro e w2 ⟨rfl, hl2⟩; clear d0 d1 d2 d3 d4 d5 d6 d7 dlt; obtain ⟨⟨d0, d1, d2, d3, d4, d5, d6, d7⟩, dlt⟩ := HB.out w2 (by repeat (first | assumption | exact Later.refl _ | refine Later.alloc ?_ _ | refine Later.drew ?_ | refine Later.trans ?_ (by assumption))))
          | (go_at_call 11; (with_reducible refine (HCX.out HC0.out _ (by repeat (first | assumption | exact Later.refl _ | refine Later.alloc ?_ _ | refine Later.drew ?_ | refine Later.trans ?_ (by assumption)))).mono ?_); rintro e w3 ⟨rfl, hl3⟩; clear d0 d1 d2 d3 d4 d5 d6 d7 dlt; obtain ⟨⟨d0, d1, d2, d3, d4, d5, d6, d7⟩, dlt⟩ := HB.out w3 (by repeat (first | assumption | exact Later.refl _ | refine Later.alloc ?_ _ | refine Later.drew ?_ | refine Later.trans ?_ (by assumption))))
          | (go_at_call 12; (with_reducible refine (HPA.out _ PS _ HPP0.out).mono ?_); rintro e w4 ⟨pk, pmn, pmx, ps0, ps1, ps2, ps3, pa, pcap, pl, pX, rfl, pin, pb⟩; have hl4 := Later.of pb; have PXX := Lib.hid pX; have h44 : Later w4 (w4.alloc (.cells #[.int .i64 pk, .int .i64 pmn, .int .i64 pmx, .int .u64 ps0, .int .u64 ps1, .int .u64 ps2, .int .u64 ps3, .slice pa pl.length pcap] 26)) := (Later.refl w4).alloc _; have h04 : Later w0 (w4.alloc (.cells #[.int .i64 pk, .int .i64 pmn, .int .i64 pmx, .int .u64 ps0, .int .u64 ps1, .int .u64 ps2, .int .u64 ps3, .slice pa pl.length pcap] 26)) := (by repeat (first | assumption | exact Later.refl _ | refine Later.alloc ?_ _ | refine Later.drew ?_ | refine Later.trans ?_ (by assumption))); have PIN := Lib.hid (in_later8 pin h44); clear d0 d1 d2 d3 d4 d5 d6 d7 dlt; obtain ⟨⟨d0, d1, d2, d3, d4, d5, d6, d7⟩, dlt⟩ := HB.out (w4.alloc (.cells #[.int .i64 pk, .int .i64 pmn, .int .i64 pmx, .int .u64 ps0, .int .u64 ps1, .int .u64 ps2, .int .u64 ps3, .slice pa pl.length pcap] 26)) h04; have HSP := Lib.hid (show Calls Tryd.prog 13 #[.agg #[.int .i64 k, .int .i64 mn, .int .i64 mx, .int .u64 s0, .int .u64 s1, .int .u64 s2, .int .u64 s3, .slice a l.length cap], .agg #[.int .i64 pk, .int .i64 pmn, .int .i64 pmx, .int .u64 ps0, .int .u64 ps1, .int .u64 ps2, .int .u64 ps3, .slice pa pl.length pcap]] (w4.alloc (.cells #[.int .i64 pk, .int .i64 pmn, .int .i64 pmx, .int .u64 ps0, .int .u64 ps1, .int .u64 ps2, .int .u64 ps3, .slice pa pl.length pcap] 26)) fun e w' => e = .returned (.bool true) ∧ Later (w4.alloc (.cells #[.int .i64 pk, .int .i64 pmn, .int .i64 pmx, .int .u64 ps0, .int .u64 ps1, .int .u64 ps2, .int .u64 ps3, .slice pa pl.length pcap] 26)) w' from HSX.out (RxA.node pk pmn pmx ps0 ps1 ps2 ps3 pa pcap pl) _ h04 PXX.out PIN.out); clear pX pin pb)
          | (go_at_call 13; (with_reducible refine HSP.out.mono ?_); rintro e w5 ⟨rfl, hl5⟩; clear d0 d1 d2 d3 d4 d5 d6 d7 dlt)
          | (go_at_call 12; (with_reducible refine (HPA.out _ S _ HSY.out).mono ?_); rintro e w6 ⟨qk, qmn, qmx, qs0, qs1, qs2, qs3, qa, qcap, ql, qX, rfl, qin, qb⟩; have hl6 := Later.of qb; have QX := Lib.hid qX; have h66 : Later w6 (w6.alloc (.cells #[.int .i64 qk, .int .i64 qmn, .int .i64 qmx, .int .u64 qs0, .int .u64 qs1, .int .u64 qs2, .int .u64 qs3, .slice qa ql.length qcap] 26)) := (Later.refl w6).alloc _; have h06 : Later w0 (w6.alloc (.cells #[.int .i64 qk, .int .i64 qmn, .int .i64 qmx, .int .u64 qs0, .int .u64 qs1, .int .u64 qs2, .int .u64 qs3, .slice qa ql.length qcap] 26)) := (by repeat (first | assumption | exact Later.refl _ | refine Later.alloc ?_ _ | refine Later.drew ?_ | refine Later.trans ?_ (by assumption))); have QIN := Lib.hid (in_later8 qin h66); have QE := Lib.hid (alloc_block w6 (.cells #[.int .i64 qk, .int .i64 qmn, .int .i64 qmx, .int .u64 qs0, .int .u64 qs1, .int .u64 qs2, .int .u64 qs3, .slice qa ql.length qcap] 26)); have HPQ := Lib.hid (show Calls Tryd.prog 9 #[.agg #[.int .i64 qk, .int .i64 qmn, .int .i64 qmx, .int .u64 qs0, .int .u64 qs1, .int .u64 qs2, .int .u64 qs3, .slice qa ql.length qcap]] (w6.alloc (.cells #[.int .i64 qk, .int .i64 qmn, .int .i64 qmx, .int .u64 qs0, .int .u64 qs1, .int .u64 qs2, .int .u64 qs3, .slice qa ql.length qcap] 26)) fun e w' => e = .returned (.tuple #[.string QS, .int .i64 0]) ∧ Later (w6.alloc (.cells #[.int .i64 qk, .int .i64 qmn, .int .i64 qmx, .int .u64 qs0, .int .u64 qs1, .int .u64 qs2, .int .u64 qs3, .slice qa ql.length qcap] 26)) w' from (by have h := print_any _ (RxA.node qk qmn qmx qs0 qs1 qs2 qs3 qa qcap ql) QIN.out (HPO.out _ h06); rw [← QX.out, HQD.out, HQS.out] at h; exact h)); have HQP := Lib.hid (HQ0.out (by rw [QX.out]; exact in_wide QIN.out) (by first | rfl | trivial)).1; have hqs := (HQ0.out (by rw [QX.out]; exact in_wide QIN.out) (by first | rfl | trivial)).2; have hqi : (QS.size : Int) ≤ 128 := (by omega); have hqd : decide ((QS.size : Int) ≤ 128) = true := (by simp; omega); clear qX qin qb)
          | (go_at_call 9; (with_reducible refine HPQ.out.mono ?_); rintro e w8 ⟨rfl, hl8⟩; have hE8 := hl8.block QE.out; have f0 : w8.cell? ⟨w6.heap.size, 0, none⟩ = some (.int .i64 qk) := cell_of_block hE8 0; have f1 : w8.cell? ⟨w6.heap.size, 1, none⟩ = some (.int .i64 qmn) := cell_of_block hE8 1; have f2 : w8.cell? ⟨w6.heap.size, 2, none⟩ = some (.int .i64 qmx) := cell_of_block hE8 2; have f3 : w8.cell? ⟨w6.heap.size, 3, none⟩ = some (.int .u64 qs0) := cell_of_block hE8 3; have f4 : w8.cell? ⟨w6.heap.size, 4, none⟩ = some (.int .u64 qs1) := cell_of_block hE8 4; have f5 : w8.cell? ⟨w6.heap.size, 5, none⟩ = some (.int .u64 qs2) := cell_of_block hE8 5; have f6 : w8.cell? ⟨w6.heap.size, 6, none⟩ = some (.int .u64 qs3) := cell_of_block hE8 6; have f7 : w8.cell? ⟨w6.heap.size, 7, none⟩ = some (.slice qa ql.length qcap) := cell_of_block hE8 7; have flt := lt_of_block hE8; have HQC := Lib.hid (show Calls Tryd.prog 11 #[.agg #[.int .i64 qk, .int .i64 qmn, .int .i64 qmx, .int .u64 qs0, .int .u64 qs1, .int .u64 qs2, .int .u64 qs3, .slice qa ql.length qcap]] w8 fun e w' => e = .returned (.int .i64 0) ∧ Later w8 w' from (by have h := pcheck_any (RxA.node qk qmn qmx qs0 qs1 qs2 qs3 qa qcap ql) w8 w8.heap.size (Nat.le_refl _) (in_later8 QIN.out hl8); rw [← QX.out, HYC.out] at h; exact h)))
          | (go_at_call 12; (with_reducible refine (HPA.out _ QS _ HQP.out).mono ?_); rintro e wa ⟨zk, zmn, zmx, zs0, zs1, zs2, zs3, za, zcap, zl, zX, rfl, zin, zb⟩; have hla := Later.of zb; have ZX := Lib.hid zX; have haa : Later wa (wa.alloc (.cells #[.int .i64 zk, .int .i64 zmn, .int .i64 zmx, .int .u64 zs0, .int .u64 zs1, .int .u64 zs2, .int .u64 zs3, .slice za zl.length zcap] 26)) := (Later.refl wa).alloc _; have hEa := (hl8.trans (hla.trans haa)).block QE.out; clear f0 f1 f2 f3 f4 f5 f6 f7 flt; have g0 : (wa.alloc (.cells #[.int .i64 zk, .int .i64 zmn, .int .i64 zmx, .int .u64 zs0, .int .u64 zs1, .int .u64 zs2, .int .u64 zs3, .slice za zl.length zcap] 26)).cell? ⟨w6.heap.size, 0, none⟩ = some (.int .i64 qk) := cell_of_block hEa 0; have g1 : (wa.alloc (.cells #[.int .i64 zk, .int .i64 zmn, .int .i64 zmx, .int .u64 zs0, .int .u64 zs1, .int .u64 zs2, .int .u64 zs3, .slice za zl.length zcap] 26)).cell? ⟨w6.heap.size, 1, none⟩ = some (.int .i64 qmn) := cell_of_block hEa 1; have g2 : (wa.alloc (.cells #[.int .i64 zk, .int .i64 zmn, .int .i64 zmx, .int .u64 zs0, .int .u64 zs1, .int .u64 zs2, .int .u64 zs3, .slice za zl.length zcap] 26)).cell? ⟨w6.heap.size, 2, none⟩ = some (.int .i64 qmx) := cell_of_block hEa 2; have g3 : (wa.alloc (.cells #[.int .i64 zk, .int .i64 zmn, .int .i64 zmx, .int .u64 zs0, .int .u64 zs1, .int .u64 zs2, .int .u64 zs3, .slice za zl.length zcap] 26)).cell? ⟨w6.heap.size, 3, none⟩ = some (.int .u64 qs0) := cell_of_block hEa 3; have g4 : (wa.alloc (.cells #[.int .i64 zk, .int .i64 zmn, .int .i64 zmx, .int .u64 zs0, .int .u64 zs1, .int .u64 zs2, .int .u64 zs3, .slice za zl.length zcap] 26)).cell? ⟨w6.heap.size, 4, none⟩ = some (.int .u64 qs1) := cell_of_block hEa 4; have g5 : (wa.alloc (.cells #[.int .i64 zk, .int .i64 zmn, .int .i64 zmx, .int .u64 zs0, .int .u64 zs1, .int .u64 zs2, .int .u64 zs3, .slice za zl.length zcap] 26)).cell? ⟨w6.heap.size, 5, none⟩ = some (.int .u64 qs2) := cell_of_block hEa 5; have g6 : (wa.alloc (.cells #[.int .i64 zk, .int .i64 zmn, .int .i64 zmx, .int .u64 zs0, .int .u64 zs1, .int .u64 zs2, .int .u64 zs3, .slice za zl.length zcap] 26)).cell? ⟨w6.heap.size, 6, none⟩ = some (.int .u64 qs3) := cell_of_block hEa 6; have g7 : (wa.alloc (.cells #[.int .i64 zk, .int .i64 zmn, .int .i64 zmx, .int .u64 zs0, .int .u64 zs1, .int .u64 zs2, .int .u64 zs3, .slice za zl.length zcap] 26)).cell? ⟨w6.heap.size, 7, none⟩ = some (.slice qa ql.length qcap) := cell_of_block hEa 7; have HSZ := Lib.hid (show Calls Tryd.prog 13 #[.agg #[.int .i64 qk, .int .i64 qmn, .int .i64 qmx, .int .u64 qs0, .int .u64 qs1, .int .u64 qs2, .int .u64 qs3, .slice qa ql.length qcap], .agg #[.int .i64 zk, .int .i64 zmn, .int .i64 zmx, .int .u64 zs0, .int .u64 zs1, .int .u64 zs2, .int .u64 zs3, .slice za zl.length zcap]] (wa.alloc (.cells #[.int .i64 zk, .int .i64 zmn, .int .i64 zmx, .int .u64 zs0, .int .u64 zs1, .int .u64 zs2, .int .u64 zs3, .slice za zl.length zcap] 26)) fun e w' => e = .returned (.bool true) ∧ Later (wa.alloc (.cells #[.int .i64 zk, .int .i64 zmn, .int .i64 zmx, .int .u64 zs0, .int .u64 zs1, .int .u64 zs2, .int .u64 zs3, .slice za zl.length zcap] 26)) w' from same_true (RxA.node qk qmn qmx qs0 qs1 qs2 qs3 qa qcap ql) (RxA.node zk zmn zmx zs0 zs1 zs2 zs3 za zcap zl) _ (in_later8 QIN.out (hl8.trans (hla.trans haa))) (in_later8 zin haa) (QX.out.symm.trans ZX.out)); clear zX zin zb)
          | (go_at_call 13; (with_reducible refine HSZ.out.mono ?_); rintro e wb ⟨rfl, hlb⟩)
          | fail)
        go_ret
        exact ⟨rfl, HL0.out.trans (by repeat (first | assumption | exact Later.refl _ | refine Later.alloc ?_ _ | refine Later.drew ?_ | refine Later.trans ?_ (by assumption)))⟩
      · skip
        go_enter Tryd.func3, Tryd.ntmps3
        go_upto_region 1 with fail
        rw [HW0.out]
        obtain ⟨⟨d0, d1, d2, d3, d4, d5, d6, d7⟩, dlt⟩ := HB.out w0 (Later.refl _)
        go_wp2_with (first
          | (go_at_call 9; (with_reducible refine (HPX.out _ (Later.refl _)).mono ?_); rintro e w1 ⟨rfl, hl1⟩; clear d0 d1 d2 d3 d4 d5 d6 d7 dlt; obtain ⟨⟨d0, d1, d2, d3, d4, d5, d6, d7⟩, dlt⟩ := HB.out w1 (by repeat (first | assumption | exact Later.refl _ | refine Later.alloc ?_ _ | refine Later.drew ?_ | refine Later.trans ?_ (by assumption))))
          | (go_at_call 10; (with_reducible refine (HFIX.out _ (by repeat (first | assumption | exact Later.refl _ | refine Later.alloc ?_ _ | refine Later.drew ?_ | refine Later.trans ?_ (by assumption)))).mono ?_); rintro e w2 ⟨rfl, hl2⟩; clear d0 d1 d2 d3 d4 d5 d6 d7 dlt; obtain ⟨⟨d0, d1, d2, d3, d4, d5, d6, d7⟩, dlt⟩ := HB.out w2 (by repeat (first | assumption | exact Later.refl _ | refine Later.alloc ?_ _ | refine Later.drew ?_ | refine Later.trans ?_ (by assumption))))
          | (go_at_call 11; (with_reducible refine (HCX.out HC0.out _ (by repeat (first | assumption | exact Later.refl _ | refine Later.alloc ?_ _ | refine Later.drew ?_ | refine Later.trans ?_ (by assumption)))).mono ?_); rintro e w3 ⟨rfl, hl3⟩; clear d0 d1 d2 d3 d4 d5 d6 d7 dlt; obtain ⟨⟨d0, d1, d2, d3, d4, d5, d6, d7⟩, dlt⟩ := HB.out w3 (by repeat (first | assumption | exact Later.refl _ | refine Later.alloc ?_ _ | refine Later.drew ?_ | refine Later.trans ?_ (by assumption))))
          | (go_at_call 12; (with_reducible refine (HPA.out _ PS _ HPP0.out).mono ?_); rintro e w4 ⟨pk, pmn, pmx, ps0, ps1, ps2, ps3, pa, pcap, pl, pX, rfl, pin, pb⟩; have hl4 := Later.of pb; have PXX := Lib.hid pX; have h44 : Later w4 (w4.alloc (.cells #[.int .i64 pk, .int .i64 pmn, .int .i64 pmx, .int .u64 ps0, .int .u64 ps1, .int .u64 ps2, .int .u64 ps3, .slice pa pl.length pcap] 26)) := (Later.refl w4).alloc _; have h04 : Later w0 (w4.alloc (.cells #[.int .i64 pk, .int .i64 pmn, .int .i64 pmx, .int .u64 ps0, .int .u64 ps1, .int .u64 ps2, .int .u64 ps3, .slice pa pl.length pcap] 26)) := (by repeat (first | assumption | exact Later.refl _ | refine Later.alloc ?_ _ | refine Later.drew ?_ | refine Later.trans ?_ (by assumption))); have PIN := Lib.hid (in_later8 pin h44); clear d0 d1 d2 d3 d4 d5 d6 d7 dlt; obtain ⟨⟨d0, d1, d2, d3, d4, d5, d6, d7⟩, dlt⟩ := HB.out (w4.alloc (.cells #[.int .i64 pk, .int .i64 pmn, .int .i64 pmx, .int .u64 ps0, .int .u64 ps1, .int .u64 ps2, .int .u64 ps3, .slice pa pl.length pcap] 26)) h04; have HSP := Lib.hid (show Calls Tryd.prog 13 #[.agg #[.int .i64 k, .int .i64 mn, .int .i64 mx, .int .u64 s0, .int .u64 s1, .int .u64 s2, .int .u64 s3, .slice a l.length cap], .agg #[.int .i64 pk, .int .i64 pmn, .int .i64 pmx, .int .u64 ps0, .int .u64 ps1, .int .u64 ps2, .int .u64 ps3, .slice pa pl.length pcap]] (w4.alloc (.cells #[.int .i64 pk, .int .i64 pmn, .int .i64 pmx, .int .u64 ps0, .int .u64 ps1, .int .u64 ps2, .int .u64 ps3, .slice pa pl.length pcap] 26)) fun e w' => e = .returned (.bool true) ∧ Later (w4.alloc (.cells #[.int .i64 pk, .int .i64 pmn, .int .i64 pmx, .int .u64 ps0, .int .u64 ps1, .int .u64 ps2, .int .u64 ps3, .slice pa pl.length pcap] 26)) w' from HSX.out (RxA.node pk pmn pmx ps0 ps1 ps2 ps3 pa pcap pl) _ h04 PXX.out PIN.out); clear pX pin pb)
          | (go_at_call 13; (with_reducible refine HSP.out.mono ?_); rintro e w5 ⟨rfl, hl5⟩; clear d0 d1 d2 d3 d4 d5 d6 d7 dlt)
          | (go_at_call 12; (with_reducible refine (HPA.out _ S _ HSY.out).mono ?_); rintro e w6 ⟨qk, qmn, qmx, qs0, qs1, qs2, qs3, qa, qcap, ql, qX, rfl, qin, qb⟩; have hl6 := Later.of qb; have QX := Lib.hid qX; have h66 : Later w6 (w6.alloc (.cells #[.int .i64 qk, .int .i64 qmn, .int .i64 qmx, .int .u64 qs0, .int .u64 qs1, .int .u64 qs2, .int .u64 qs3, .slice qa ql.length qcap] 26)) := (Later.refl w6).alloc _; have h06 : Later w0 (w6.alloc (.cells #[.int .i64 qk, .int .i64 qmn, .int .i64 qmx, .int .u64 qs0, .int .u64 qs1, .int .u64 qs2, .int .u64 qs3, .slice qa ql.length qcap] 26)) := (by repeat (first | assumption | exact Later.refl _ | refine Later.alloc ?_ _ | refine Later.drew ?_ | refine Later.trans ?_ (by assumption))); have QIN := Lib.hid (in_later8 qin h66); have QE := Lib.hid (alloc_block w6 (.cells #[.int .i64 qk, .int .i64 qmn, .int .i64 qmx, .int .u64 qs0, .int .u64 qs1, .int .u64 qs2, .int .u64 qs3, .slice qa ql.length qcap] 26)); have HPQ := Lib.hid (show Calls Tryd.prog 9 #[.agg #[.int .i64 qk, .int .i64 qmn, .int .i64 qmx, .int .u64 qs0, .int .u64 qs1, .int .u64 qs2, .int .u64 qs3, .slice qa ql.length qcap]] (w6.alloc (.cells #[.int .i64 qk, .int .i64 qmn, .int .i64 qmx, .int .u64 qs0, .int .u64 qs1, .int .u64 qs2, .int .u64 qs3, .slice qa ql.length qcap] 26)) fun e w' => e = .returned (.tuple #[.string QS, .int .i64 51]) ∧ Later (w6.alloc (.cells #[.int .i64 qk, .int .i64 qmn, .int .i64 qmx, .int .u64 qs0, .int .u64 qs1, .int .u64 qs2, .int .u64 qs3, .slice qa ql.length qcap] 26)) w' from (by have h := print_any _ (RxA.node qk qmn qmx qs0 qs1 qs2 qs3 qa qcap ql) QIN.out (HPO.out _ h06); rw [← QX.out, HQD.out, HQS.out] at h; exact h)); clear qX qin qb)
          | (go_at_call 9; (with_reducible refine HPQ.out.mono ?_); rintro e w8 ⟨rfl, hl8⟩; have hE8 := hl8.block QE.out; have f0 : w8.cell? ⟨w6.heap.size, 0, none⟩ = some (.int .i64 qk) := cell_of_block hE8 0; have f1 : w8.cell? ⟨w6.heap.size, 1, none⟩ = some (.int .i64 qmn) := cell_of_block hE8 1; have f2 : w8.cell? ⟨w6.heap.size, 2, none⟩ = some (.int .i64 qmx) := cell_of_block hE8 2; have f3 : w8.cell? ⟨w6.heap.size, 3, none⟩ = some (.int .u64 qs0) := cell_of_block hE8 3; have f4 : w8.cell? ⟨w6.heap.size, 4, none⟩ = some (.int .u64 qs1) := cell_of_block hE8 4; have f5 : w8.cell? ⟨w6.heap.size, 5, none⟩ = some (.int .u64 qs2) := cell_of_block hE8 5; have f6 : w8.cell? ⟨w6.heap.size, 6, none⟩ = some (.int .u64 qs3) := cell_of_block hE8 6; have f7 : w8.cell? ⟨w6.heap.size, 7, none⟩ = some (.slice qa ql.length qcap) := cell_of_block hE8 7; have flt := lt_of_block hE8; have HQC := Lib.hid (show Calls Tryd.prog 11 #[.agg #[.int .i64 qk, .int .i64 qmn, .int .i64 qmx, .int .u64 qs0, .int .u64 qs1, .int .u64 qs2, .int .u64 qs3, .slice qa ql.length qcap]] w8 fun e w' => e = .returned (.int .i64 0) ∧ Later w8 w' from (by have h := pcheck_any (RxA.node qk qmn qmx qs0 qs1 qs2 qs3 qa qcap ql) w8 w8.heap.size (Nat.le_refl _) (in_later8 QIN.out hl8); rw [← QX.out, HYC.out] at h; exact h)))
          | (go_at_call 11; (with_reducible refine HQC.out.mono ?_); rintro e w9 ⟨rfl, hl9⟩)
          | fail)
        go_ret
        exact ⟨rfl, HL0.out.trans (by repeat (first | assumption | exact Later.refl _ | refine Later.alloc ?_ _ | refine Later.drew ?_ | refine Later.trans ?_ (by assumption)))⟩
  · have hpn : (PE == 0) = false := by rw [beq_eq_false_iff_ne]; exact hpe
    clear hpe
    cases hp : parseR S.data.toList with
    | inr c =>
      have HSN := Lib.hid hp
      have hcn : (c != 0) = true := by rcases parseR_err hp with rfl | rfl <;> rfl
      clear hp
      go_enter Tryd.func3, Tryd.ntmps3
      go_upto_region 1 with fail
      rw [HW0.out]
      obtain ⟨⟨d0, d1, d2, d3, d4, d5, d6, d7⟩, dlt⟩ := HB.out w0 (Later.refl _)
      go_wp2_with (first
        | (go_at_call 9; (with_reducible refine (HPX.out _ (Later.refl _)).mono ?_); rintro e w1 ⟨rfl, hl1⟩; clear d0 d1 d2 d3 d4 d5 d6 d7 dlt; obtain ⟨⟨d0, d1, d2, d3, d4, d5, d6, d7⟩, dlt⟩ := HB.out w1 (by repeat (first | assumption | exact Later.refl _ | refine Later.alloc ?_ _ | refine Later.drew ?_ | refine Later.trans ?_ (by assumption))))
        | (go_at_call 10; (with_reducible refine (HFIX.out _ (by repeat (first | assumption | exact Later.refl _ | refine Later.alloc ?_ _ | refine Later.drew ?_ | refine Later.trans ?_ (by assumption)))).mono ?_); rintro e w2 ⟨rfl, hl2⟩; clear d0 d1 d2 d3 d4 d5 d6 d7 dlt; obtain ⟨⟨d0, d1, d2, d3, d4, d5, d6, d7⟩, dlt⟩ := HB.out w2 (by repeat (first | assumption | exact Later.refl _ | refine Later.alloc ?_ _ | refine Later.drew ?_ | refine Later.trans ?_ (by assumption))))
        | (go_at_call 12; (with_reducible refine (HPN.out _ S _ HSN.out).mono ?_); rintro e w6 ⟨rfl, hb6⟩; have hl6 := Later.of hb6; clear hb6)
        | (go_at_call 13; (with_reducible refine (HZZ.out _).mono ?_); rintro e w7 ⟨rfl, hl7⟩)
        | fail)
      go_ret
      exact ⟨rfl, HL0.out.trans (by repeat (first | assumption | exact Later.refl _ | refine Later.alloc ?_ _ | refine Later.drew ?_ | refine Later.trans ?_ (by assumption)))⟩
    | inl y =>
      have HSY := Lib.hid hp
      have hyc := check_parse hp
      have HYC := Lib.hid hyc
      obtain ⟨QD, hQD⟩ : ∃ QD, printE y = QD := ⟨_, rfl⟩
      obtain ⟨QS, hQS⟩ : ∃ QS : ByteArray, (⟨(printS y).toArray⟩ : ByteArray) = QS := ⟨_, rfl⟩
      have HQD := Lib.hid hQD
      have HQS := Lib.hid hQS
      have hcs : QD = 0 ∨ QD = 51 := by rw [← hQD]; exact print_ok hyc
      have HQ0 := Lib.hid (show y.wide → QD = 0 → parseR QS.data.toList = .inl y ∧ QS.size ≤ 128 from fun hwy h => by
        rw [← hQS, ba_list]
        refine ⟨print_back hwy (hQD.trans h), ?_⟩
        have h2 := print_len (hQD.trans h)
        show (printS y).toArray.size ≤ 128
        rw [List.size_toArray]
        exact h2)
      clear hp hyc hQD hQS
      rcases hcs with rfl | rfl
      · skip
        go_enter Tryd.func3, Tryd.ntmps3
        go_upto_region 1 with fail
        rw [HW0.out]
        obtain ⟨⟨d0, d1, d2, d3, d4, d5, d6, d7⟩, dlt⟩ := HB.out w0 (Later.refl _)
        go_wp2_with (first
          | (go_at_call 9; (with_reducible refine (HPX.out _ (Later.refl _)).mono ?_); rintro e w1 ⟨rfl, hl1⟩; clear d0 d1 d2 d3 d4 d5 d6 d7 dlt; obtain ⟨⟨d0, d1, d2, d3, d4, d5, d6, d7⟩, dlt⟩ := HB.out w1 (by repeat (first | assumption | exact Later.refl _ | refine Later.alloc ?_ _ | refine Later.drew ?_ | refine Later.trans ?_ (by assumption))))
          | (go_at_call 10; (with_reducible refine (HFIX.out _ (by repeat (first | assumption | exact Later.refl _ | refine Later.alloc ?_ _ | refine Later.drew ?_ | refine Later.trans ?_ (by assumption)))).mono ?_); rintro e w2 ⟨rfl, hl2⟩; clear d0 d1 d2 d3 d4 d5 d6 d7 dlt; obtain ⟨⟨d0, d1, d2, d3, d4, d5, d6, d7⟩, dlt⟩ := HB.out w2 (by repeat (first | assumption | exact Later.refl _ | refine Later.alloc ?_ _ | refine Later.drew ?_ | refine Later.trans ?_ (by assumption))))
          | (go_at_call 12; (with_reducible refine (HPA.out _ S _ HSY.out).mono ?_); rintro e w6 ⟨qk, qmn, qmx, qs0, qs1, qs2, qs3, qa, qcap, ql, qX, rfl, qin, qb⟩; have hl6 := Later.of qb; have QX := Lib.hid qX; have h66 : Later w6 (w6.alloc (.cells #[.int .i64 qk, .int .i64 qmn, .int .i64 qmx, .int .u64 qs0, .int .u64 qs1, .int .u64 qs2, .int .u64 qs3, .slice qa ql.length qcap] 26)) := (Later.refl w6).alloc _; have h06 : Later w0 (w6.alloc (.cells #[.int .i64 qk, .int .i64 qmn, .int .i64 qmx, .int .u64 qs0, .int .u64 qs1, .int .u64 qs2, .int .u64 qs3, .slice qa ql.length qcap] 26)) := (by repeat (first | assumption | exact Later.refl _ | refine Later.alloc ?_ _ | refine Later.drew ?_ | refine Later.trans ?_ (by assumption))); have QIN := Lib.hid (in_later8 qin h66); have QE := Lib.hid (alloc_block w6 (.cells #[.int .i64 qk, .int .i64 qmn, .int .i64 qmx, .int .u64 qs0, .int .u64 qs1, .int .u64 qs2, .int .u64 qs3, .slice qa ql.length qcap] 26)); have HPQ := Lib.hid (show Calls Tryd.prog 9 #[.agg #[.int .i64 qk, .int .i64 qmn, .int .i64 qmx, .int .u64 qs0, .int .u64 qs1, .int .u64 qs2, .int .u64 qs3, .slice qa ql.length qcap]] (w6.alloc (.cells #[.int .i64 qk, .int .i64 qmn, .int .i64 qmx, .int .u64 qs0, .int .u64 qs1, .int .u64 qs2, .int .u64 qs3, .slice qa ql.length qcap] 26)) fun e w' => e = .returned (.tuple #[.string QS, .int .i64 0]) ∧ Later (w6.alloc (.cells #[.int .i64 qk, .int .i64 qmn, .int .i64 qmx, .int .u64 qs0, .int .u64 qs1, .int .u64 qs2, .int .u64 qs3, .slice qa ql.length qcap] 26)) w' from (by have h := print_any _ (RxA.node qk qmn qmx qs0 qs1 qs2 qs3 qa qcap ql) QIN.out (HPO.out _ h06); rw [← QX.out, HQD.out, HQS.out] at h; exact h)); have HQP := Lib.hid (HQ0.out (by rw [QX.out]; exact in_wide QIN.out) (by first | rfl | trivial)).1; have hqs := (HQ0.out (by rw [QX.out]; exact in_wide QIN.out) (by first | rfl | trivial)).2; have hqi : (QS.size : Int) ≤ 128 := (by omega); have hqd : decide ((QS.size : Int) ≤ 128) = true := (by simp; omega); clear qX qin qb)
          | (go_at_call 9; (with_reducible refine HPQ.out.mono ?_); rintro e w8 ⟨rfl, hl8⟩; have hE8 := hl8.block QE.out; have f0 : w8.cell? ⟨w6.heap.size, 0, none⟩ = some (.int .i64 qk) := cell_of_block hE8 0; have f1 : w8.cell? ⟨w6.heap.size, 1, none⟩ = some (.int .i64 qmn) := cell_of_block hE8 1; have f2 : w8.cell? ⟨w6.heap.size, 2, none⟩ = some (.int .i64 qmx) := cell_of_block hE8 2; have f3 : w8.cell? ⟨w6.heap.size, 3, none⟩ = some (.int .u64 qs0) := cell_of_block hE8 3; have f4 : w8.cell? ⟨w6.heap.size, 4, none⟩ = some (.int .u64 qs1) := cell_of_block hE8 4; have f5 : w8.cell? ⟨w6.heap.size, 5, none⟩ = some (.int .u64 qs2) := cell_of_block hE8 5; have f6 : w8.cell? ⟨w6.heap.size, 6, none⟩ = some (.int .u64 qs3) := cell_of_block hE8 6; have f7 : w8.cell? ⟨w6.heap.size, 7, none⟩ = some (.slice qa ql.length qcap) := cell_of_block hE8 7; have flt := lt_of_block hE8; have HQC := Lib.hid (show Calls Tryd.prog 11 #[.agg #[.int .i64 qk, .int .i64 qmn, .int .i64 qmx, .int .u64 qs0, .int .u64 qs1, .int .u64 qs2, .int .u64 qs3, .slice qa ql.length qcap]] w8 fun e w' => e = .returned (.int .i64 0) ∧ Later w8 w' from (by have h := pcheck_any (RxA.node qk qmn qmx qs0 qs1 qs2 qs3 qa qcap ql) w8 w8.heap.size (Nat.le_refl _) (in_later8 QIN.out hl8); rw [← QX.out, HYC.out] at h; exact h)))
          | (go_at_call 12; (with_reducible refine (HPA.out _ QS _ HQP.out).mono ?_); rintro e wa ⟨zk, zmn, zmx, zs0, zs1, zs2, zs3, za, zcap, zl, zX, rfl, zin, zb⟩; have hla := Later.of zb; have ZX := Lib.hid zX; have haa : Later wa (wa.alloc (.cells #[.int .i64 zk, .int .i64 zmn, .int .i64 zmx, .int .u64 zs0, .int .u64 zs1, .int .u64 zs2, .int .u64 zs3, .slice za zl.length zcap] 26)) := (Later.refl wa).alloc _; have hEa := (hl8.trans (hla.trans haa)).block QE.out; clear f0 f1 f2 f3 f4 f5 f6 f7 flt; have g0 : (wa.alloc (.cells #[.int .i64 zk, .int .i64 zmn, .int .i64 zmx, .int .u64 zs0, .int .u64 zs1, .int .u64 zs2, .int .u64 zs3, .slice za zl.length zcap] 26)).cell? ⟨w6.heap.size, 0, none⟩ = some (.int .i64 qk) := cell_of_block hEa 0; have g1 : (wa.alloc (.cells #[.int .i64 zk, .int .i64 zmn, .int .i64 zmx, .int .u64 zs0, .int .u64 zs1, .int .u64 zs2, .int .u64 zs3, .slice za zl.length zcap] 26)).cell? ⟨w6.heap.size, 1, none⟩ = some (.int .i64 qmn) := cell_of_block hEa 1; have g2 : (wa.alloc (.cells #[.int .i64 zk, .int .i64 zmn, .int .i64 zmx, .int .u64 zs0, .int .u64 zs1, .int .u64 zs2, .int .u64 zs3, .slice za zl.length zcap] 26)).cell? ⟨w6.heap.size, 2, none⟩ = some (.int .i64 qmx) := cell_of_block hEa 2; have g3 : (wa.alloc (.cells #[.int .i64 zk, .int .i64 zmn, .int .i64 zmx, .int .u64 zs0, .int .u64 zs1, .int .u64 zs2, .int .u64 zs3, .slice za zl.length zcap] 26)).cell? ⟨w6.heap.size, 3, none⟩ = some (.int .u64 qs0) := cell_of_block hEa 3; have g4 : (wa.alloc (.cells #[.int .i64 zk, .int .i64 zmn, .int .i64 zmx, .int .u64 zs0, .int .u64 zs1, .int .u64 zs2, .int .u64 zs3, .slice za zl.length zcap] 26)).cell? ⟨w6.heap.size, 4, none⟩ = some (.int .u64 qs1) := cell_of_block hEa 4; have g5 : (wa.alloc (.cells #[.int .i64 zk, .int .i64 zmn, .int .i64 zmx, .int .u64 zs0, .int .u64 zs1, .int .u64 zs2, .int .u64 zs3, .slice za zl.length zcap] 26)).cell? ⟨w6.heap.size, 5, none⟩ = some (.int .u64 qs2) := cell_of_block hEa 5; have g6 : (wa.alloc (.cells #[.int .i64 zk, .int .i64 zmn, .int .i64 zmx, .int .u64 zs0, .int .u64 zs1, .int .u64 zs2, .int .u64 zs3, .slice za zl.length zcap] 26)).cell? ⟨w6.heap.size, 6, none⟩ = some (.int .u64 qs3) := cell_of_block hEa 6; have g7 : (wa.alloc (.cells #[.int .i64 zk, .int .i64 zmn, .int .i64 zmx, .int .u64 zs0, .int .u64 zs1, .int .u64 zs2, .int .u64 zs3, .slice za zl.length zcap] 26)).cell? ⟨w6.heap.size, 7, none⟩ = some (.slice qa ql.length qcap) := cell_of_block hEa 7; have HSZ := Lib.hid (show Calls Tryd.prog 13 #[.agg #[.int .i64 qk, .int .i64 qmn, .int .i64 qmx, .int .u64 qs0, .int .u64 qs1, .int .u64 qs2, .int .u64 qs3, .slice qa ql.length qcap], .agg #[.int .i64 zk, .int .i64 zmn, .int .i64 zmx, .int .u64 zs0, .int .u64 zs1, .int .u64 zs2, .int .u64 zs3, .slice za zl.length zcap]] (wa.alloc (.cells #[.int .i64 zk, .int .i64 zmn, .int .i64 zmx, .int .u64 zs0, .int .u64 zs1, .int .u64 zs2, .int .u64 zs3, .slice za zl.length zcap] 26)) fun e w' => e = .returned (.bool true) ∧ Later (wa.alloc (.cells #[.int .i64 zk, .int .i64 zmn, .int .i64 zmx, .int .u64 zs0, .int .u64 zs1, .int .u64 zs2, .int .u64 zs3, .slice za zl.length zcap] 26)) w' from same_true (RxA.node qk qmn qmx qs0 qs1 qs2 qs3 qa qcap ql) (RxA.node zk zmn zmx zs0 zs1 zs2 zs3 za zcap zl) _ (in_later8 QIN.out (hl8.trans (hla.trans haa))) (in_later8 zin haa) (QX.out.symm.trans ZX.out)); clear zX zin zb)
          | (go_at_call 13; (with_reducible refine HSZ.out.mono ?_); rintro e wb ⟨rfl, hlb⟩)
          | fail)
        go_ret
        exact ⟨rfl, HL0.out.trans (by repeat (first | assumption | exact Later.refl _ | refine Later.alloc ?_ _ | refine Later.drew ?_ | refine Later.trans ?_ (by assumption)))⟩
      · skip
        go_enter Tryd.func3, Tryd.ntmps3
        go_upto_region 1 with fail
        rw [HW0.out]
        obtain ⟨⟨d0, d1, d2, d3, d4, d5, d6, d7⟩, dlt⟩ := HB.out w0 (Later.refl _)
        go_wp2_with (first
          | (go_at_call 9; (with_reducible refine (HPX.out _ (Later.refl _)).mono ?_); rintro e w1 ⟨rfl, hl1⟩; clear d0 d1 d2 d3 d4 d5 d6 d7 dlt; obtain ⟨⟨d0, d1, d2, d3, d4, d5, d6, d7⟩, dlt⟩ := HB.out w1 (by repeat (first | assumption | exact Later.refl _ | refine Later.alloc ?_ _ | refine Later.drew ?_ | refine Later.trans ?_ (by assumption))))
          | (go_at_call 10; (with_reducible refine (HFIX.out _ (by repeat (first | assumption | exact Later.refl _ | refine Later.alloc ?_ _ | refine Later.drew ?_ | refine Later.trans ?_ (by assumption)))).mono ?_); rintro e w2 ⟨rfl, hl2⟩; clear d0 d1 d2 d3 d4 d5 d6 d7 dlt; obtain ⟨⟨d0, d1, d2, d3, d4, d5, d6, d7⟩, dlt⟩ := HB.out w2 (by repeat (first | assumption | exact Later.refl _ | refine Later.alloc ?_ _ | refine Later.drew ?_ | refine Later.trans ?_ (by assumption))))
          | (go_at_call 12; (with_reducible refine (HPA.out _ S _ HSY.out).mono ?_); rintro e w6 ⟨qk, qmn, qmx, qs0, qs1, qs2, qs3, qa, qcap, ql, qX, rfl, qin, qb⟩; have hl6 := Later.of qb; have QX := Lib.hid qX; have h66 : Later w6 (w6.alloc (.cells #[.int .i64 qk, .int .i64 qmn, .int .i64 qmx, .int .u64 qs0, .int .u64 qs1, .int .u64 qs2, .int .u64 qs3, .slice qa ql.length qcap] 26)) := (Later.refl w6).alloc _; have h06 : Later w0 (w6.alloc (.cells #[.int .i64 qk, .int .i64 qmn, .int .i64 qmx, .int .u64 qs0, .int .u64 qs1, .int .u64 qs2, .int .u64 qs3, .slice qa ql.length qcap] 26)) := (by repeat (first | assumption | exact Later.refl _ | refine Later.alloc ?_ _ | refine Later.drew ?_ | refine Later.trans ?_ (by assumption))); have QIN := Lib.hid (in_later8 qin h66); have QE := Lib.hid (alloc_block w6 (.cells #[.int .i64 qk, .int .i64 qmn, .int .i64 qmx, .int .u64 qs0, .int .u64 qs1, .int .u64 qs2, .int .u64 qs3, .slice qa ql.length qcap] 26)); have HPQ := Lib.hid (show Calls Tryd.prog 9 #[.agg #[.int .i64 qk, .int .i64 qmn, .int .i64 qmx, .int .u64 qs0, .int .u64 qs1, .int .u64 qs2, .int .u64 qs3, .slice qa ql.length qcap]] (w6.alloc (.cells #[.int .i64 qk, .int .i64 qmn, .int .i64 qmx, .int .u64 qs0, .int .u64 qs1, .int .u64 qs2, .int .u64 qs3, .slice qa ql.length qcap] 26)) fun e w' => e = .returned (.tuple #[.string QS, .int .i64 51]) ∧ Later (w6.alloc (.cells #[.int .i64 qk, .int .i64 qmn, .int .i64 qmx, .int .u64 qs0, .int .u64 qs1, .int .u64 qs2, .int .u64 qs3, .slice qa ql.length qcap] 26)) w' from (by have h := print_any _ (RxA.node qk qmn qmx qs0 qs1 qs2 qs3 qa qcap ql) QIN.out (HPO.out _ h06); rw [← QX.out, HQD.out, HQS.out] at h; exact h)); clear qX qin qb)
          | (go_at_call 9; (with_reducible refine HPQ.out.mono ?_); rintro e w8 ⟨rfl, hl8⟩; have hE8 := hl8.block QE.out; have f0 : w8.cell? ⟨w6.heap.size, 0, none⟩ = some (.int .i64 qk) := cell_of_block hE8 0; have f1 : w8.cell? ⟨w6.heap.size, 1, none⟩ = some (.int .i64 qmn) := cell_of_block hE8 1; have f2 : w8.cell? ⟨w6.heap.size, 2, none⟩ = some (.int .i64 qmx) := cell_of_block hE8 2; have f3 : w8.cell? ⟨w6.heap.size, 3, none⟩ = some (.int .u64 qs0) := cell_of_block hE8 3; have f4 : w8.cell? ⟨w6.heap.size, 4, none⟩ = some (.int .u64 qs1) := cell_of_block hE8 4; have f5 : w8.cell? ⟨w6.heap.size, 5, none⟩ = some (.int .u64 qs2) := cell_of_block hE8 5; have f6 : w8.cell? ⟨w6.heap.size, 6, none⟩ = some (.int .u64 qs3) := cell_of_block hE8 6; have f7 : w8.cell? ⟨w6.heap.size, 7, none⟩ = some (.slice qa ql.length qcap) := cell_of_block hE8 7; have flt := lt_of_block hE8; have HQC := Lib.hid (show Calls Tryd.prog 11 #[.agg #[.int .i64 qk, .int .i64 qmn, .int .i64 qmx, .int .u64 qs0, .int .u64 qs1, .int .u64 qs2, .int .u64 qs3, .slice qa ql.length qcap]] w8 fun e w' => e = .returned (.int .i64 0) ∧ Later w8 w' from (by have h := pcheck_any (RxA.node qk qmn qmx qs0 qs1 qs2 qs3 qa qcap ql) w8 w8.heap.size (Nat.le_refl _) (in_later8 QIN.out hl8); rw [← QX.out, HYC.out] at h; exact h)))
          | (go_at_call 11; (with_reducible refine HQC.out.mono ?_); rintro e w9 ⟨rfl, hl9⟩)
          | fail)
        go_ret
        exact ⟨rfl, HL0.out.trans (by repeat (first | assumption | exact Later.refl _ | refine Later.alloc ?_ _ | refine Later.drew ?_ | refine Later.trans ?_ (by assumption)))⟩
end Go.Proofs.YtjhclopdcbnmkaaDoor

