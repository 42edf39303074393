/- The walk of the document's Set: a set's pattern. -/
import Derived.Test.YtjhclopdcbnmkaaGreatDoorK2
import Derived.Test.YtjhclopdcbnmkaaGreatDoorHas
set_option linter.unusedSimpArgs false
set_option linter.unusedVariables false
namespace Go.Proofs.YtjhclopdcbnmkaaGreatDoor
open Go.RowKit PX

theorem ba_eq {A B : ByteArray} (h : A.data.toList = B.data.toList) : A = B := by
  cases A; cases B
  congr
  exact Array.toList_inj.1 h
theorem ba_size (A : ByteArray) : A.size = A.data.toList.length := by rw [Array.length_toList]; rfl
theorem rhas_q (w : World) (q : Q4) (hq : U64 q.a ∧ U64 q.b ∧ U64 q.c ∧ U64 q.d) (b : Nat) (hb : b < 256) :
    Calls Tryz.prog 67 #[.agg #[.int .u64 q.a, .int .u64 q.b, .int .u64 q.c, .int .u64 q.d], .int .i64 b] w fun e w' => e = .returned (.bool (hasN q.has b)) ∧ Later w w' := by
  refine (has_any w q.a q.b q.c q.d hq.1 hq.2.1 hq.2.2.1 hq.2.2.2 b hb).mono ?_
  rintro e w' ⟨rfl, hl⟩
  refine ⟨?_, hl⟩
  unfold hasN
  rw [decide_eq_true hb]
  rfl
set_option maxRecDepth 100000 in
set_option maxHeartbeats 4000000 in
theorem rset_any (w : World) (q : Q4) (hq : U64 q.a ∧ U64 q.b ∧ U64 q.c ∧ U64 q.d) :
    Calls Tryz.prog 47 #[.agg #[.int .u64 q.a, .int .u64 q.b, .int .u64 q.c, .int .u64 q.d]] w fun e w' => e = .returned (.string ⟨q.text.toArray⟩) ∧ Later w w' := by
  obtain ⟨wa, hwa⟩ : ∃ wa, w.alloc (.cells #[.int .u64 q.a, .int .u64 q.b, .int .u64 q.c, .int .u64 q.d] 23) = wa := ⟨_, rfl⟩
  have hla : Later w wa := by rw [← hwa]; exact (Later.refl w).alloc _
  have hblk : wa.heap[w.heap.size]? = some (.cells #[.int .u64 q.a, .int .u64 q.b, .int .u64 q.c, .int .u64 q.d] 23 (0, 0)) := by rw [← hwa]; exact alloc_block w _
  obtain ⟨S, hS⟩ : ∃ S : ByteArray, (⟨q.text.toArray⟩ : ByteArray) = S := ⟨_, rfl⟩
  rw [hS]
  have hSd : S.data.toList = q.text := by rw [← hS]
  have HQX := Lib.hid (fun w' (h' : Later wa w') => show w'.cell? ⟨w.heap.size, 0, none⟩ = some (.int .u64 q.a) ∧ w'.cell? ⟨w.heap.size, 1, none⟩ = some (.int .u64 q.b) ∧ w'.cell? ⟨w.heap.size, 2, none⟩ = some (.int .u64 q.c) ∧ w'.cell? ⟨w.heap.size, 3, none⟩ = some (.int .u64 q.d) from
    ⟨cell_of_block (Later.block h' hblk) 0, cell_of_block (Later.block h' hblk) 1, cell_of_block (Later.block h' hblk) 2, cell_of_block (Later.block h' hblk) 3⟩)
  have HPH := Lib.hid (fun w1 (b : Nat) (hb : b < 256) => rhas_q w1 q hq b hb)
  have HWA := Lib.hid hwa
  have HLA := Lib.hid hla
  have HS := Lib.hid hSd
  clear hq hwa hla hblk hS hSd
  obtain ⟨c0, c1, c2, c3⟩ := HQX.out wa (Below.refl _ _)
  obtain ⟨qa, hqa⟩ : ∃ qa, q.a = qa := ⟨_, rfl⟩
  obtain ⟨qb, hqb⟩ : ∃ qb, q.b = qb := ⟨_, rfl⟩
  obtain ⟨qc, hqc⟩ : ∃ qc, q.c = qc := ⟨_, rfl⟩
  obtain ⟨qd, hqd⟩ : ∃ qd, q.d = qd := ⟨_, rfl⟩
  rw [hqa, hqb, hqc, hqd] at HQX HPH HWA ⊢
  rw [hqa] at c0
  rw [hqb] at c1
  rw [hqc] at c2
  rw [hqd] at c3
  clear hqa hqb hqc hqd
  go_enter Tryz.func47, Tryz.ntmps47
  go_upto_region 1 with fail
  rw [HWA.out]
  clear c0 c1 c2 c3
  go_wp2_with fail
  go_loopw [3, 4, 5] (fun vm vl vk wr => ∃ (k many last : Nat), k ≤ 256 ∧ vk = .int .i64 k ∧ vm = .int .i64 many ∧ vl = .int .i64 last ∧ ManyAt q k many last ∧ Later wa wr) (fun _ _ vk _ => 256 - (intOf vk).toNat)
  case atStart => exact ⟨0, 0, 0, by omega, rfl, rfl, rfl, manyAt_start q, Later.refl _⟩
  case round =>
    obtain ⟨k, many, last, hk, rfl, rfl, rfl, hm, hw⟩ := hrel
    obtain ⟨hmk, hl256⟩ := manyAt_le hm
    have HM := Lib.hid hm
    clear hm
    by_cases hlt : (k : Int) < 256
    · obtain ⟨c0, c1, c2, c3⟩ := HQX.out _ hw
      have HP := Lib.hid (fun w1 => HPH.out w1 k (by omega))
      cases hh : hasN q.has k with
      | false =>
        have HHK := Lib.hid hh
        rw [hh] at HP
        clear hh
        go_wp2_with (first
          | (go_at_call 67; (with_reducible refine (HP.out _).mono ?_); rintro e1 w1 ⟨rfl, hl1⟩)
          | fail)
        exact ⟨⟨k + 1, many, last, by omega, by simp, rfl, rfl, manyAt_no HM.out (by omega) HHK.out, hw.trans hl1⟩, by simp only [intOf]; omega⟩
      | true =>
        have HHK := Lib.hid hh
        rw [hh] at HP
        clear hh
        go_wp2_with (first
          | (go_at_call 67; (with_reducible refine (HP.out _).mono ?_); rintro e1 w1 ⟨rfl, hl1⟩)
          | fail)
        exact ⟨⟨k + 1, many + 1, k, by omega, by simp, by simp, rfl, manyAt_yes HM.out (by omega) HHK.out, hw.trans hl1⟩, by simp only [intOf]; omega⟩
    · have hk256 : k = 256 := by omega
      have hm256 := HM.out
      rw [hk256] at hm256
      have hend := manyAt_end hm256
      have HM := Lib.hid hm256
      clear hk256 hm256
      by_cases h256 : many = 256
      · subst h256
        have HT := Lib.hid (show S = ⟨#[46]⟩ from ba_eq (by rw [HS.out]; unfold Q4.text; rw [if_pos hend]))
        clear hend
        go_wp2_with fail
        go_ret
        exact ⟨ret_str HT.out.symm, HLA.out.trans hw⟩
      · have hb256 : ((many : Int) == 256) = false := by rw [beq_eq_false_iff_ne]; omega
        by_cases h1 : many = 1
        · subst h1
          have HBL := Lib.hid (fun w1 => show Calls Tryz.prog 76 #[.int .i64 (last : Int)] w1 fun e w' => e = .returned (.string S) ∧ Later w1 w' from by
            have e : S = ⟨(escB last).toArray⟩ := ba_eq (by rw [HS.out]; unfold Q4.text; rw [if_neg (by rw [hend]; exact h256), if_pos hend, one_text HM.out])
            rw [e]
            exact rbyte_at w1 last hl256)
          clear hend h256
          go_wp2_with (first
            | (go_at_call 76; (with_reducible refine (HBL.out _).mono ?_); rintro e1 w1 ⟨rfl, hl1⟩)
            | fail)
          go_ret
          exact ⟨rfl, HLA.out.trans (hw.trans hl1)⟩
        · have hb1 : ((many : Int) == 1) = false := by rw [beq_eq_false_iff_ne]; omega
          have htext : S.data.toList = 91 :: (runsT q.runs ++ [93]) := by rw [HS.out]; unfold Q4.text; rw [if_neg (by rw [hend]; exact h256), if_neg (by rw [hend]; exact h1)]
          have HTX := Lib.hid htext
          clear htext hend h256 h1
          go_wp2_with fail
          clear HM hmk hl256 hb256 hb1
          obtain ⟨wo, rfl⟩ : ∃ wo : World, wo = wr := ⟨_, rfl⟩
          have HWO := Lib.hid hw
          clear hw
          go_loopw [6, 7, 8] (fun vs vk _ wr => ∃ (k many : Nat) (T : List UInt8) (TS : ByteArray), k ≤ 256 ∧ vk = .int .i64 k ∧ vs = .string TS ∧ TS.data.toList = 91 :: T ∧ RowsAt q k T many ∧ Later wa wr) (fun _ vk _ _ => 256 - (intOf vk).toNat)
          case atStart => exact ⟨0, 0, [], ⟨#[91]⟩, by omega, rfl, rfl, rfl, rowsAt_start q, HWO.out⟩
          case round =>
            obtain ⟨k, many, T, TS, hk, rfl, rfl, hts, hrow, hw⟩ := hrel
            have hle := (rowsAt_le hrow).1
            have hsz : TS.size ≤ 2305 := by rw [ba_size, hts, List.length_cons]; omega
            have HROW := Lib.hid hrow
            have HTS := Lib.hid hts
            clear hrow hts hle
            by_cases hlt : (k : Int) < 256
            · obtain ⟨c0, c1, c2, c3⟩ := HQX.out _ hw
              have HP := Lib.hid (fun w1 => HPH.out w1 k (by omega))
              cases hh : hasN q.has k with
              | false =>
                have HHK := Lib.hid hh
                rw [hh] at HP
                clear hh
                go_wp2_with (first
                  | (go_at_call 67; (with_reducible refine (HP.out _).mono ?_); rintro e1 w1 ⟨rfl, hl1⟩)
                  | fail)
                exact ⟨⟨k + 1, many, T, TS, by omega, by simp, rfl, HTS.out, rowsAt_skip HROW.out (by omega) HHK.out, hw.trans hl1⟩, by simp only [intOf]; omega⟩
              | true =>
                have HHK := Lib.hid hh
                rw [hh] at HP
                obtain ⟨i1, i2, i3, i4⟩ := runEnd_spec (hasN q.has) (hasN_big _) 256 k (by omega) hh (by omega)
                clear hh
                obtain ⟨e, he⟩ : ∃ e, runEnd (hasN q.has) 256 k = e := ⟨_, rfl⟩
                rw [he] at i1 i2 i3 i4
                have HI3 := Lib.hid i3
                have HI4 := Lib.hid i4
                have HEE := Lib.hid he
                clear i3 i4 he
                go_wp2_with (first
                  | (go_at_call 67; (with_reducible refine (HP.out _).mono ?_); rintro e1 w1 ⟨rfl, hl1⟩)
                  | fail)
                have HWI := Lib.hid (hw.trans hl1)
                clear hw hl1 c0 c1 c2 c3 HP
                go_loopw [8] (fun v wi => ∃ j : Nat, k ≤ j ∧ j ≤ e ∧ v = .int .i64 j ∧ Later wa wi) (fun v _ => e - (intOf v).toNat)
                case atStart => exact ⟨k, Nat.le_refl _, i1, rfl, HWI.out⟩
                case round =>
                  obtain ⟨j, hj1, hj2, rfl, hw⟩ := hrel
                  obtain ⟨c0, c1, c2, c3⟩ := HQX.out _ hw
                  by_cases hje : j < e
                  · have hj255 : (j : Int) < 255 := by omega
                    have HPJ := Lib.hid (fun w1 => (show Calls Tryz.prog 67 #[.agg #[.int .u64 qa, .int .u64 qb, .int .u64 qc, .int .u64 qd], .int .i64 ((j : Int) + 1)] w1 fun e w' => e = .returned (.bool true) ∧ Later w1 w' from by
                      have h := HPH.out w1 (j + 1) (by omega)
                      rw [HI3.out (j + 1) (by omega) (by omega), show ((j + 1 : Nat) : Int) = (j : Int) + 1 by omega] at h
                      exact h))
                    go_wp2_with (first
                      | (go_at_call 67; (with_reducible refine (HPJ.out _).mono ?_); rintro e1 w1 ⟨rfl, hl1⟩)
                      | fail)
                    exact ⟨⟨j + 1, by omega, by omega, by simp, hw.trans hl1⟩, by simp only [intOf]; omega⟩
                  · obtain rfl : j = e := by omega
                    clear hj2 hje
                    obtain ⟨e, rfl⟩ : ∃ e, e = j := ⟨_, rfl⟩
                    obtain ⟨SK, hSK⟩ : ∃ SK : ByteArray, (⟨(escB k).toArray⟩ : ByteArray) = SK := ⟨_, rfl⟩
                    obtain ⟨SE, hSE⟩ : ∃ SE : ByteArray, (⟨(escB e).toArray⟩ : ByteArray) = SE := ⟨_, rfl⟩
                    have hdk : SK.data.toList = escB k := by rw [← hSK]
                    have hde : SE.data.toList = escB e := by rw [← hSE]
                    have hks : SK.size ≤ 4 := by rw [ba_size, hdk]; exact esc_len k
                    have hes : SE.size ≤ 4 := by rw [ba_size, hde]; exact esc_len e
                    have HBK := Lib.hid (fun w1 => show Calls Tryz.prog 76 #[.int .i64 (k : Int)] w1 fun e w' => e = .returned (.string SK) ∧ Later w1 w' from by
                      rw [← hSK]; exact rbyte_at w1 k (by omega))
                    have HBE := Lib.hid (fun w1 => show Calls Tryz.prog 76 #[.int .i64 (e : Int)] w1 fun e w' => e = .returned (.string SE) ∧ Later w1 w' from by
                      rw [← hSE]; exact rbyte_at w1 e (by omega))
                    have HDK := Lib.hid hdk
                    have HDE := Lib.hid hde
                    have HRN := Lib.hid (rowsAt_run HROW.out (by omega) HHK.out)
                    rw [HEE.out] at HRN
                    clear hdk hde hSK hSE
                    have hcs : e = k ∨ e = k + 1 ∨ k + 1 < e := by omega
                    have hpre : (e = 255) ∨ (e : Int) < 255 := by omega
                    rcases hpre with h255 | h255
                    · have h255' : ¬ (e : Int) < 255 := by omega
                      have HE255 := Lib.hid h255
                      clear h255
                      rcases hcs with he | he | he
                      · have g1 : ((e : Int) - (k : Int) == 0) = true := by rw [beq_iff_eq]; omega
                        have HE := Lib.hid he
                        clear he
                        go_wp2_with (first
                          | (go_at_call 76; (with_reducible refine (HBK.out _).mono ?_); rintro e1 w6 ⟨rfl, hl6⟩)
                          | fail)
                        refine ⟨⟨e + 1, many + (e + 1 - k), T ++ PX.runT (k, e), TS ++ SK, by omega, by simp, rfl, ?_, HRN.out, hw.trans hl6⟩, by simp only [intOf]; omega⟩
                        have h : PX.runT (k, e) = escB k := by unfold PX.runT; rw [if_pos (show e = k from HE.out)]
                        rw [h, ByteArray.data_append, Array.toList_append, HTS.out, HDK.out, List.cons_append]
                      · have g1 : ((e : Int) - (k : Int) == 0) = false := by rw [beq_eq_false_iff_ne]; omega
                        have g2 : ((e : Int) - (k : Int) == 1) = true := by rw [beq_iff_eq]; omega
                        have HE := Lib.hid he
                        clear he
                        go_wp2_with (first
                          | (go_at_call 76; (with_reducible refine (HBK.out _).mono ?_); rintro e1 w6 ⟨rfl, hl6⟩)
                          | (go_at_call 76; (with_reducible refine (HBE.out _).mono ?_); rintro e1 w7 ⟨rfl, hl7⟩)
                          | fail)
                        refine ⟨⟨e + 1, many + (e + 1 - k), T ++ PX.runT (k, e), TS ++ (SK ++ SE), by omega, by simp, rfl, ?_, HRN.out, hw.trans (hl6.trans hl7)⟩, by simp only [intOf]; omega⟩
                        have h : PX.runT (k, e) = escB k ++ escB e := by unfold PX.runT; rw [if_neg (show ¬ e = k from by have := HE.out; omega), if_pos (show e = k + 1 from HE.out)]
                        rw [h, ByteArray.data_append, Array.toList_append, ByteArray.data_append, Array.toList_append, HTS.out, HDK.out, HDE.out, List.cons_append]
                      · have g1 : ((e : Int) - (k : Int) == 0) = false := by rw [beq_eq_false_iff_ne]; omega
                        have g2 : ((e : Int) - (k : Int) == 1) = false := by rw [beq_eq_false_iff_ne]; omega
                        have HE := Lib.hid he
                        clear he
                        go_wp2_with (first
                          | (go_at_call 76; (with_reducible refine (HBK.out _).mono ?_); rintro e1 w6 ⟨rfl, hl6⟩)
                          | (go_at_call 76; (with_reducible refine (HBE.out _).mono ?_); rintro e1 w7 ⟨rfl, hl7⟩)
                          | fail)
                        refine ⟨⟨e + 1, many + (e + 1 - k), T ++ PX.runT (k, e), TS ++ (SK ++ ⟨#[45]⟩ ++ SE), by omega, by simp, rfl, ?_, HRN.out, hw.trans (hl6.trans hl7)⟩, by simp only [intOf]; omega⟩
                        have h : PX.runT (k, e) = escB k ++ 45 :: escB e := by unfold PX.runT; rw [if_neg (show ¬ e = k from by have := HE.out; omega), if_neg (show ¬ e = k + 1 from by have := HE.out; omega)]
                        rw [h, ByteArray.data_append, Array.toList_append, ByteArray.data_append, Array.toList_append, ByteArray.data_append, Array.toList_append, HTS.out, HDK.out, HDE.out, List.cons_append]
                        simp
                    · have HPJ := Lib.hid (fun w1 => (show Calls Tryz.prog 67 #[.agg #[.int .u64 qa, .int .u64 qb, .int .u64 qc, .int .u64 qd], .int .i64 ((e : Int) + 1)] w1 fun e w' => e = .returned (.bool false) ∧ Later w1 w' from by
                        have h := HPH.out w1 (e + 1) (by omega)
                        rw [HI4.out, show ((e + 1 : Nat) : Int) = (e : Int) + 1 by omega] at h
                        exact h))
                      rcases hcs with he | he | he
                      · have g1 : ((e : Int) - (k : Int) == 0) = true := by rw [beq_iff_eq]; omega
                        have HE := Lib.hid he
                        clear he
                        go_wp2_with (first
                          | (go_at_call 67; (with_reducible refine (HPJ.out _).mono ?_); rintro e1 w5 ⟨rfl, hl5⟩)
                          | (go_at_call 76; (with_reducible refine (HBK.out _).mono ?_); rintro e1 w6 ⟨rfl, hl6⟩)
                          | fail)
                        refine ⟨⟨e + 1, many + (e + 1 - k), T ++ PX.runT (k, e), TS ++ SK, by omega, by simp, rfl, ?_, HRN.out, hw.trans (hl5.trans hl6)⟩, by simp only [intOf]; omega⟩
                        have h : PX.runT (k, e) = escB k := by unfold PX.runT; rw [if_pos (show e = k from HE.out)]
                        rw [h, ByteArray.data_append, Array.toList_append, HTS.out, HDK.out, List.cons_append]
                      · have g1 : ((e : Int) - (k : Int) == 0) = false := by rw [beq_eq_false_iff_ne]; omega
                        have g2 : ((e : Int) - (k : Int) == 1) = true := by rw [beq_iff_eq]; omega
                        have HE := Lib.hid he
                        clear he
                        go_wp2_with (first
                          | (go_at_call 67; (with_reducible refine (HPJ.out _).mono ?_); rintro e1 w5 ⟨rfl, hl5⟩)
                          | (go_at_call 76; (with_reducible refine (HBK.out _).mono ?_); rintro e1 w6 ⟨rfl, hl6⟩)
                          | (go_at_call 76; (with_reducible refine (HBE.out _).mono ?_); rintro e1 w7 ⟨rfl, hl7⟩)
                          | fail)
                        refine ⟨⟨e + 1, many + (e + 1 - k), T ++ PX.runT (k, e), TS ++ (SK ++ SE), by omega, by simp, rfl, ?_, HRN.out, hw.trans (hl5.trans (hl6.trans hl7))⟩, by simp only [intOf]; omega⟩
                        have h : PX.runT (k, e) = escB k ++ escB e := by unfold PX.runT; rw [if_neg (show ¬ e = k from by have := HE.out; omega), if_pos (show e = k + 1 from HE.out)]
                        rw [h, ByteArray.data_append, Array.toList_append, ByteArray.data_append, Array.toList_append, HTS.out, HDK.out, HDE.out, List.cons_append]
                      · have g1 : ((e : Int) - (k : Int) == 0) = false := by rw [beq_eq_false_iff_ne]; omega
                        have g2 : ((e : Int) - (k : Int) == 1) = false := by rw [beq_eq_false_iff_ne]; omega
                        have HE := Lib.hid he
                        clear he
                        go_wp2_with (first
                          | (go_at_call 67; (with_reducible refine (HPJ.out _).mono ?_); rintro e1 w5 ⟨rfl, hl5⟩)
                          | (go_at_call 76; (with_reducible refine (HBK.out _).mono ?_); rintro e1 w6 ⟨rfl, hl6⟩)
                          | (go_at_call 76; (with_reducible refine (HBE.out _).mono ?_); rintro e1 w7 ⟨rfl, hl7⟩)
                          | fail)
                        refine ⟨⟨e + 1, many + (e + 1 - k), T ++ PX.runT (k, e), TS ++ (SK ++ ⟨#[45]⟩ ++ SE), by omega, by simp, rfl, ?_, HRN.out, hw.trans (hl5.trans (hl6.trans hl7))⟩, by simp only [intOf]; omega⟩
                        have h : PX.runT (k, e) = escB k ++ 45 :: escB e := by unfold PX.runT; rw [if_neg (show ¬ e = k from by have := HE.out; omega), if_neg (show ¬ e = k + 1 from by have := HE.out; omega)]
                        rw [h, ByteArray.data_append, Array.toList_append, ByteArray.data_append, Array.toList_append, ByteArray.data_append, Array.toList_append, HTS.out, HDK.out, HDE.out, List.cons_append]
                        simp
            · obtain rfl : k = 256 := by omega
              obtain ⟨h1, h2⟩ := rowsAt_end HROW.out
              have HT := Lib.hid (show S = TS ++ ⟨#[93]⟩ from ba_eq (by rw [HTX.out, ByteArray.data_append, Array.toList_append, HTS.out, h1, List.cons_append]))
              clear h1 h2
              go_wp2_with fail
              go_ret
              exact ⟨ret_str HT.out.symm, HLA.out.trans hw⟩
end Go.Proofs.YtjhclopdcbnmkaaGreatDoor
