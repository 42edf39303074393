/- The walk of the printer's rows. -/
import Derived.Test.YtjhclopdcbnmkaaGreatDoorS3
set_option linter.unusedSimpArgs false
set_option linter.unusedVariables false
namespace Go.Proofs.YtjhclopdcbnmkaaGreatDoor
open Go.RowKit PX

set_option maxRecDepth 100000 in
set_option maxHeartbeats 4000000 in
theorem rows_any (w : World) (q : Q4) (hq : U64 q.a ∧ U64 q.b ∧ U64 q.c ∧ U64 q.d) :
    Calls Tryz.prog 44 #[.agg #[.int .u64 q.a, .int .u64 q.b, .int .u64 q.c, .int .u64 q.d]] w fun e w' => e = .returned (.string ⟨q.text.toArray⟩) ∧ Later w w' := by
  obtain ⟨wa, hwa⟩ : ∃ wa, w.alloc (.cells #[.int .u64 q.a, .int .u64 q.b, .int .u64 q.c, .int .u64 q.d] 23) = wa := ⟨_, rfl⟩
  have hla : Later w wa := by rw [← hwa]; exact (Later.refl w).alloc _
  have hblk : wa.heap[w.heap.size]? = some (.cells #[.int .u64 q.a, .int .u64 q.b, .int .u64 q.c, .int .u64 q.d] 23 (0, 0)) := by rw [← hwa]; exact alloc_block w _
  obtain ⟨S, hS⟩ : ∃ S : ByteArray, (⟨q.text.toArray⟩ : ByteArray) = S := ⟨_, rfl⟩
  rw [hS]
  have HQX := Lib.hid (fun w' (h' : Below wa.heap.size wa w') => show w'.cell? ⟨w.heap.size, 0, none⟩ = some (.int .u64 q.a) ∧ w'.cell? ⟨w.heap.size, 1, none⟩ = some (.int .u64 q.b) ∧ w'.cell? ⟨w.heap.size, 2, none⟩ = some (.int .u64 q.c) ∧ w'.cell? ⟨w.heap.size, 3, none⟩ = some (.int .u64 q.d) from
    ⟨cell_of_block (Later.block h' hblk) 0, cell_of_block (Later.block h' hblk) 1, cell_of_block (Later.block h' hblk) 2, cell_of_block (Later.block h' hblk) 3⟩)
  have HPH := Lib.hid (fun w1 (b : Nat) (hb : b ≤ 256) => phas_any w1 q hq b hb)
  have HWIDE := Lib.hid (wide_u64 hq)
  have HWA := Lib.hid hwa
  have HLA := Lib.hid hla
  have HS := Lib.hid hS
  have HLIT := Lib.hid (rows_lit w q)
  have HNOT := Lib.hid (rows_not q HWIDE.out)
  clear hq hwa hla hblk hS
  obtain ⟨c0, c1, c2, c3⟩ := HQX.out wa (Below.refl _ _)
  obtain ⟨qa, hqa⟩ : ∃ qa, q.a = qa := ⟨_, rfl⟩
  obtain ⟨qb, hqb⟩ : ∃ qb, q.b = qb := ⟨_, rfl⟩
  obtain ⟨qc, hqc⟩ : ∃ qc, q.c = qc := ⟨_, rfl⟩
  obtain ⟨qd, hqd⟩ : ∃ qd, q.d = qd := ⟨_, rfl⟩
  rw [hqa, hqb, hqc, hqd] at HQX HPH HLIT HNOT HWA ⊢
  rw [hqa] at c0
  rw [hqb] at c1
  rw [hqc] at c2
  rw [hqd] at c3
  clear hqa hqb hqc hqd
  cases hall : same4 qa qb qc qd 18446744073709551615 18446744073709551615 18446744073709551615 18446744073709551615 with
  | true =>
    have HT := Lib.hid (show S = ⟨#[46]⟩ from by rw [← HS.out, HLIT.out hall, all_text])
    go_enter Tryz.func44, Tryz.ntmps44
    go_upto_region 1 with fail
    rw [HWA.out]
    go_wp2_with fail
    go_ret
    exact ⟨ret_str HT.out.symm, HLA.out⟩
  | false =>
    have HNO := Lib.hid (HNOT.out hall)
    go_enter Tryz.func44, Tryz.ntmps44
    go_upto_region 1 with fail
    rw [HWA.out]
    go_wp2_with fail
    have hb0 := builder_fresh wa
    have hw0 : Below wa.heap.size wa (wa.alloc (.cells #[.pointer none, .slice none 0 0] 127)) := (Below.refl _ _).alloc (Nat.le_refl _) _
    have HB0 := Lib.hid hb0
    have HW0 := Lib.hid hw0
    clear hb0 hw0 c0 c1 c2 c3 hall
    go_loopw [4, 5] (fun vm vk wr => ∃ (k many : Nat) (T : List UInt8), k ≤ 256 ∧ vk = .int .i64 k ∧ vm = .int .i64 many ∧ RowsAt q k T many ∧ BAt wa.heap.size wa.heap.size T wr ∧ Below wa.heap.size wa wr) (fun _ vk _ => 256 - (intOf vk).toNat)
    case atStart => exact ⟨0, 0, [], by omega, rfl, rfl, rowsAt_start q, HB0.out, HW0.out⟩
    case round =>
      obtain ⟨k, many, T, hk, rfl, rfl, hrow, hb, hw⟩ := hrel
      have hmany := (rowsAt_le hrow).2
      have HTL := Lib.hid (rowsAt_le hrow).1
      have HROW := Lib.hid hrow
      clear hrow
      by_cases hlt : (k : Int) < 256
      · obtain ⟨c0, c1, c2, c3⟩ := HQX.out _ hw
        have HP := Lib.hid (fun w1 => HPH.out w1 k (by omega))
        cases hh : hasN q.has k with
        | false =>
          have HHK := Lib.hid hh
          rw [hh] at HP
          clear hh
          go_wp2_with (first
            | (go_at_call 69; (with_reducible refine (HP.out _).mono ?_); rintro e1 w1 ⟨rfl, hl1⟩)
            | fail)
          exact ⟨⟨k + 1, many, T, by omega, by simp, rfl, rowsAt_skip HROW.out (by omega) HHK.out, hb.later hl1, below_later hw (Nat.le_refl _) hl1⟩, by simp only [intOf]; omega⟩
        | true =>
          have HHK := Lib.hid hh
          rw [hh] at HP
          obtain ⟨i1, i2, i3, i4⟩ := runEnd_spec (hasN q.has) (hasN_big _) 256 k (by omega) hh (by omega)
          clear hh
          obtain ⟨e, he⟩ : ∃ e, runEnd (hasN q.has) 256 k = e := ⟨_, rfl⟩
          rw [he] at i1 i2 i3 i4
          have HI3 := Lib.hid i3
          have HI4 := Lib.hid i4
          have HEE := Lib.hid he
          clear i3 i4 he
          go_wp2_with (first
            | (go_at_call 69; (with_reducible refine (HP.out _).mono ?_); rintro e1 w1 ⟨rfl, hl1⟩; have hb2 := hb.later hl1; have hw2 := below_later hw (Nat.le_refl _) hl1; clear hb hw hl1 c0 c1 c2 c3; have hb := hb2; have hw := hw2; clear hb2 hw2)
            | fail)
          have HBB := Lib.hid hb
          have HWW := Lib.hid hw
          clear hb hw
          go_loopw [6] (fun v wi => ∃ j : Nat, k ≤ j ∧ j ≤ e ∧ v = .int .i64 j ∧ BAt wa.heap.size wa.heap.size T wi ∧ Below wa.heap.size wa wi) (fun v _ => e - (intOf v).toNat)
          case atStart => exact ⟨k, Nat.le_refl _, i1, rfl, HBB.out, HWW.out⟩
          case round =>
            obtain ⟨j, hj1, hj2, rfl, hb, hw⟩ := hrel
            obtain ⟨c0, c1, c2, c3⟩ := HQX.out _ hw
            have hj256 : j + 1 ≤ 256 := by omega
            by_cases hje : j < e
            · have HPJ := Lib.hid (fun w1 => (show Calls Tryz.prog 69 #[.agg #[.int .u64 qa, .int .u64 qb, .int .u64 qc, .int .u64 qd], .int .i64 ((j : Int) + 1)] w1 fun e w' => e = .returned (.bool true) ∧ Later w1 w' from by
                have h := HPH.out w1 (j + 1) hj256
                rw [HI3.out (j + 1) (by omega) (by omega), show ((j + 1 : Nat) : Int) = (j : Int) + 1 by omega] at h
                exact h))
              go_wp2_with (first
                | (go_at_call 69; (with_reducible refine (HPJ.out _).mono ?_); rintro e1 w1 ⟨rfl, hl1⟩)
                | fail)
              exact ⟨⟨j + 1, by omega, by omega, by simp, hb.later hl1, below_later hw (Nat.le_refl _) hl1⟩, by simp only [intOf]; omega⟩
            · obtain rfl : j = e := by omega
              have HPJ := Lib.hid (fun w1 => (show Calls Tryz.prog 69 #[.agg #[.int .u64 qa, .int .u64 qb, .int .u64 qc, .int .u64 qd], .int .i64 ((j : Int) + 1)] w1 fun e w' => e = .returned (.bool false) ∧ Later w1 w' from by
                have h := HPH.out w1 (j + 1) hj256
                rw [HI4.out, show ((j + 1 : Nat) : Int) = (j : Int) + 1 by omega] at h
                exact h))
              clear hj2
              obtain ⟨e, rfl⟩ : ∃ e, e = j := ⟨_, rfl⟩
              have hcs : e = k ∨ e = k + 1 ∨ k + 1 < e := by omega
              go_upto_region 12 with (first
                | (go_at_call 69; (with_reducible refine (HPJ.out _).mono ?_); rintro e1 w1 ⟨rfl, hl1⟩; have hb2 := hb.later hl1; have hw2 := below_later hw (Nat.le_refl _) hl1; clear hb hw hl1 c0 c1 c2 c3; have hb := hb2; have hw := hw2; clear hb2 hw2)
                | fail)
              have hm2 : many ≤ 256 := by omega
              rcases hcs with he | he | he
              · have g1 : ¬ (k : Int) + 1 < (e : Int) := by omega
                have g2 : ¬ (k : Int) < (e : Int) := by omega
                have HE := Lib.hid he
                clear he hje
                go_wp2_with (first
                  | (go_at_call 71; (with_reducible refine (told_at _ _ (by omega)).mono ?_); rintro e1 w6 ⟨rfl, hl6⟩; have hb2 := hb.later hl6; have hw2 := below_later hw (Nat.le_refl _) hl6; clear hb hw hl6; have hb := hb2; have hw := hw2; clear hb2 hw2)
                  | (go_at_call 70; refine (writeString_any wa.heap.size wa.heap.size _ _ _ hb (by have h1 := HTL.out; have h2 := esc_len k; have h3 := esc_len e; simp only [List.length_append, List.length_cons, List.length_nil, ByteArray.size, List.size_toArray]; omega) hw.size).mono ?_; rintro e1 w7 ⟨rfl, hb2, hw1⟩; have hw2 := hw.trans hw1; clear hb hw hw1; have hb := hb2; have hw := hw2; clear hb2 hw2)
                  | (go_at_call 72; refine (writeByte_any wa.heap.size wa.heap.size _ 45 _ hb (by have h1 := HTL.out; have h2 := esc_len k; have h3 := esc_len e; simp only [List.length_append, List.length_cons, List.length_nil, ByteArray.size, List.size_toArray]; omega) hw.size).mono ?_; rintro e1 w8 ⟨rfl, hb2, hw1⟩; have hw2 := hw.trans hw1; clear hb hw hw1; have hb := hb2; have hw := hw2; clear hb2 hw2)
                  | fail)
                have HRN := Lib.hid (rowsAt_run HROW.out (by omega) HHK.out)
                rw [HEE.out] at HRN
                refine ⟨⟨e + 1, many + (e + 1 - k), T ++ PX.runT (k, e), by omega, by simp, ?_, HRN.out, ?_, hw⟩, by simp only [intOf]; omega⟩
                · show Value.int .i64 _ = Value.int .i64 _
                  congr 1
                  omega
                · have h : PX.runT (k, e) = escB k := by unfold PX.runT; rw [if_pos (show e = k from HE.out)]
                  rw [h]
                  exact hb

              · have g1 : ¬ (k : Int) + 1 < (e : Int) := by omega
                have g2 : (k : Int) < (e : Int) := by omega
                have HE := Lib.hid he
                clear he hje
                go_wp2_with (first
                  | (go_at_call 71; (with_reducible refine (told_at _ _ (by omega)).mono ?_); rintro e1 w6 ⟨rfl, hl6⟩; have hb2 := hb.later hl6; have hw2 := below_later hw (Nat.le_refl _) hl6; clear hb hw hl6; have hb := hb2; have hw := hw2; clear hb2 hw2)
                  | (go_at_call 70; refine (writeString_any wa.heap.size wa.heap.size _ _ _ hb (by have h1 := HTL.out; have h2 := esc_len k; have h3 := esc_len e; simp only [List.length_append, List.length_cons, List.length_nil, ByteArray.size, List.size_toArray]; omega) hw.size).mono ?_; rintro e1 w7 ⟨rfl, hb2, hw1⟩; have hw2 := hw.trans hw1; clear hb hw hw1; have hb := hb2; have hw := hw2; clear hb2 hw2)
                  | (go_at_call 72; refine (writeByte_any wa.heap.size wa.heap.size _ 45 _ hb (by have h1 := HTL.out; have h2 := esc_len k; have h3 := esc_len e; simp only [List.length_append, List.length_cons, List.length_nil, ByteArray.size, List.size_toArray]; omega) hw.size).mono ?_; rintro e1 w8 ⟨rfl, hb2, hw1⟩; have hw2 := hw.trans hw1; clear hb hw hw1; have hb := hb2; have hw := hw2; clear hb2 hw2)
                  | fail)
                have HRN := Lib.hid (rowsAt_run HROW.out (by omega) HHK.out)
                rw [HEE.out] at HRN
                refine ⟨⟨e + 1, many + (e + 1 - k), T ++ PX.runT (k, e), by omega, by simp, ?_, HRN.out, ?_, hw⟩, by simp only [intOf]; omega⟩
                · show Value.int .i64 _ = Value.int .i64 _
                  congr 1
                  omega
                · have h : T ++ PX.runT (k, e) = T ++ escB k ++ escB e := by unfold PX.runT; rw [if_neg (show ¬ e = k from by have := HE.out; omega), if_pos (show e = k + 1 from HE.out), List.append_assoc]
                  rw [h]
                  exact hb

              · have g1 : (k : Int) + 1 < (e : Int) := by omega
                have g2 : (k : Int) < (e : Int) := by omega
                have HE := Lib.hid he
                clear he hje
                go_wp2_with (first
                  | (go_at_call 71; (with_reducible refine (told_at _ _ (by omega)).mono ?_); rintro e1 w6 ⟨rfl, hl6⟩; have hb2 := hb.later hl6; have hw2 := below_later hw (Nat.le_refl _) hl6; clear hb hw hl6; have hb := hb2; have hw := hw2; clear hb2 hw2)
                  | (go_at_call 70; refine (writeString_any wa.heap.size wa.heap.size _ _ _ hb (by have h1 := HTL.out; have h2 := esc_len k; have h3 := esc_len e; simp only [List.length_append, List.length_cons, List.length_nil, ByteArray.size, List.size_toArray]; omega) hw.size).mono ?_; rintro e1 w7 ⟨rfl, hb2, hw1⟩; have hw2 := hw.trans hw1; clear hb hw hw1; have hb := hb2; have hw := hw2; clear hb2 hw2)
                  | (go_at_call 72; refine (writeByte_any wa.heap.size wa.heap.size _ 45 _ hb (by have h1 := HTL.out; have h2 := esc_len k; have h3 := esc_len e; simp only [List.length_append, List.length_cons, List.length_nil, ByteArray.size, List.size_toArray]; omega) hw.size).mono ?_; rintro e1 w8 ⟨rfl, hb2, hw1⟩; have hw2 := hw.trans hw1; clear hb hw hw1; have hb := hb2; have hw := hw2; clear hb2 hw2)
                  | fail)
                have HRN := Lib.hid (rowsAt_run HROW.out (by omega) HHK.out)
                rw [HEE.out] at HRN
                refine ⟨⟨e + 1, many + (e + 1 - k), T ++ PX.runT (k, e), by omega, by simp, ?_, HRN.out, ?_, hw⟩, by simp only [intOf]; omega⟩
                · show Value.int .i64 _ = Value.int .i64 _
                  congr 1
                  omega
                · have h : T ++ PX.runT (k, e) = T ++ escB k ++ [45] ++ escB e := by unfold PX.runT; rw [if_neg (show ¬ e = k from by have := HE.out; omega), if_neg (show ¬ e = k + 1 from by have := HE.out; omega)]; simp
                  rw [h]
                  exact hb

      · obtain rfl : k = 256 := by omega
        obtain ⟨h1, h2⟩ := rowsAt_end HROW.out
        have HSTR := Lib.hid (fun w1 (h : BAt wa.heap.size wa.heap.size T w1) (h' : wa.heap.size ≤ w1.heap.size) => builder_string wa.heap.size wa.heap.size T w1 h h')
        obtain ⟨TS, hTS⟩ : ∃ TS : ByteArray, (⟨T.toArray⟩ : ByteArray) = TS := ⟨_, rfl⟩
        have hts : TS.size ≤ 2304 := by
          have h1 := HTL.out
          rw [← hTS]
          show T.toArray.size ≤ 2304
          rw [List.size_toArray]
          omega
        have HTS := Lib.hid hTS
        rw [hTS] at HSTR
        clear hTS
        have htext := HS.out
        unfold Q4.text at htext
        rw [h1, h2] at htext
        have HH2 := Lib.hid h2
        clear h1 h2
        by_cases hm1 : many = 1
        · subst hm1
          have HTX := Lib.hid htext
          clear htext
          go_wp2_with (first
            | (go_at_call 73; refine (HSTR.out _ hb hw.size).mono ?_; rintro e1 w1 ⟨rfl, hl1⟩)
            | fail)
          go_ret
          refine ⟨ret_str ?_, HLA.out.trans (hw.trans hl1)⟩
          rw [← HTX.out, if_neg (by decide), if_pos trivial, HTS.out]
        · have hmi : ¬ (many : Int) = 1 := by omega
          have hmb : ((many : Int) == 1) = false := by rw [beq_eq_false_iff_ne]; exact hmi
          have HTX := Lib.hid htext
          have HM1 := Lib.hid hm1
          clear htext
          go_wp2_with (first
            | (go_at_call 73; refine (HSTR.out _ hb hw.size).mono ?_; rintro e1 w1 ⟨rfl, hl1⟩)
            | fail)
          go_ret
          refine ⟨ret_str ?_, HLA.out.trans (hw.trans hl1)⟩
          rw [← HTX.out, if_neg (by have := HNO.out; rw [HH2.out] at this; exact this), if_neg HM1.out]
          rw [← HTS.out]
          apply ByteArray.ext
          simp
end Go.Proofs.YtjhclopdcbnmkaaGreatDoor
