/- The walk of AuditClones. -/
import Derived.Test.YtfpbocjmlhcgiaaGreatDoorCLa
import Derived.Test.YtfpbocjmlhcgiaaGreatDoorAU18
set_option linter.unusedSimpArgs false
set_option linter.unusedVariables false
namespace Go.Proofs.YtfpbocjmlhcgiaaGreatDoor
open Go.RowKit PJ Go.Maps Go.Shelf

theorem AOut.ak {w w0 W' : World} {p b jb : Nat} {F : Nat → Prop} {J : Jn} {e : Ending} (h : AOut w0 p b jb F J [] e W') (hok : J.OK) (hf : J.first = J.next) (hl : LJ w w0) (hF : ∀ q, F q → w.heap.size ≤ q) (hc : AuC J []) (hB : J.head ≤ 3 ∧ J.next ≤ 3) :
    ∃ A, e = .returned (.tuple #[.pointer (some ⟨A, 0, none⟩), .int .i64 0]) ∧ AK w W' (fun _ => False) p b jb J A [] 3 := by
  obtain ⟨A, V, F', rfl, hA, ha, hj, hn, hFA, ho⟩ := h
  have hs := Below.size hl
  exact ⟨A, rfl, ⟨⟨V, F', hj, ha.toB, fun e => by have := hFA A e; omega, fun q hq e => by have h1 := (ha.row.lt q hq).1; have h2 := hFA q e; omega, near_ge hn hF hs, fun q hq => hq.elim⟩, by omega, lj_only hl ho hF, hc, ⟨[], Jn.Whole.none hok hf⟩, hB⟩⟩
/-- What the loop of AuditClones carries. -/
structure ClL (w1 wr : World) (p b jb A cells area : Nat) (xs : List Rec) (J : Jn) (i : Nat) : Prop where
  ak : AK w1 wr (fun _ => False) p b jb J A xs (3 + xs.length)
  dim : J.n = area + cells ∧ J.area = area
  cnt : xs.length = min i cells
theorem imgs_ne {a b : List UInt8} {A B : ByteArray} (ha : (⟨a.toArray⟩ : ByteArray) = A) (hb : (⟨b.toArray⟩ : ByteArray) = B) (h : a ≠ b) : (A.toList == B.toList) = false := by
  subst ha
  subst hb
  rw [beq_eq_false_iff_ne, ByteArray.toList_eq, ByteArray.toList_eq]
  simpa using h
set_option maxRecDepth 100000 in
set_option maxHeartbeats 8000000 in
theorem aclones_any (w : World) (sa sb : Int) (hsa : -9223372036854775808 ≤ sa ∧ sa ≤ 9223372036854775807) (hsb : -9223372036854775808 ≤ sb ∧ sb ≤ 9223372036854775807) (ta : Option Addr) (N tcap : Nat) (ss : List ByteArray) (hT : TextsAt w ta N ss) :
    Calls Tryz.prog 3 #[.agg #[.int .i64 sa, .int .i64 sb], .slice ta N tcap] w fun e w' => e = .returned (.bool true) ∧ LJ w w' := by
  obtain ⟨w1, hw1⟩ : ∃ w1, w.alloc (.cells #[.int .i64 sa, .int .i64 sb] 23) = w1 := ⟨_, rfl⟩
  have hl1 : LJ w w1 := by rw [← hw1]; exact (LJ.refl w).alloc _
  have hb1 : w1.heap[w.heap.size]? = some (.cells #[.int .i64 sa, .int .i64 sb] 23 (0, 0)) := by rw [← hw1]; exact alloc_blk w _
  have x0 : w1.cell? ⟨w.heap.size, 0, none⟩ = some (.int .i64 sa) := cell_blk hb1 0
  have x1 : w1.cell? ⟨w.heap.size, 1, none⟩ = some (.int .i64 sb) := cell_blk hb1 1
  have HW1 := Lib.hid hw1
  have HL1 := Lib.hid hl1
  have HT1 := Lib.hid (hT.later hl1)
  obtain ⟨ka, hka, hea⟩ := twelve sa
  obtain ⟨kb, hkb, heb⟩ := twelve sb
  obtain ⟨cells, hcells⟩ : ∃ cells : Nat, 1 + ka = cells := ⟨_, rfl⟩
  obtain ⟨area, harea⟩ : ∃ area : Nat, 4 + kb = area := ⟨_, rfl⟩
  obtain ⟨n, hn⟩ : ∃ n, area + cells = n := ⟨_, rfl⟩
  have HPA := Lib.hid (fun W => show Calls Tryz.prog 10 #[.int .i64 sa, .int .i64 12] W fun e w' => e = .returned (.int .i64 (ka : Int)) ∧ w' = W from (lplace_any W sa hsa).mono (by rintro e w' ⟨rfl, rfl⟩; exact ⟨by rw [hea], rfl⟩))
  have HPB := Lib.hid (fun W => show Calls Tryz.prog 10 #[.int .i64 sb, .int .i64 12] W fun e w' => e = .returned (.int .i64 (kb : Int)) ∧ w' = W from (lplace_any W sb hsb).mono (by rintro e w' ⟨rfl, rfl⟩; exact ⟨by rw [heb], rfl⟩))
  have hwa : IntKind.i64.wrap (1 + (ka : Int)) = (cells : Int) := by rw [IntKind.wrap_i64]; omega
  have hwb : IntKind.i64.wrap (4 + (kb : Int)) = (area : Int) := by rw [IntKind.wrap_i64]; omega
  have hwn : IntKind.i64.wrap ((area : Int) + (cells : Int)) = (n : Int) := by rw [IntKind.wrap_i64]; omega
  have hnn : (area : Int) + (cells : Int) = (n : Int) := by omega
  obtain ⟨m, hm⟩ : ∃ m, 128 * n = m := ⟨_, rfl⟩
  have hwr : IntKind.i64.wrap ((128 : Int) * (n : Int)) = (m : Int) := by rw [IntKind.wrap_i64]; omega
  have hmul : (128 : Int) * (n : Int) = (m : Int) := by omega
  have HNO := Lib.hid (fun W => lnoughts_any W m (by omega))
  obtain ⟨Z, hZ⟩ : ∃ Z : ByteArray, (⟨(zs m).toArray⟩ : ByteArray) = Z := ⟨_, rfl⟩
  rw [hZ] at HNO
  have hZs : Z.size = 128 * n := by rw [← hZ, hm]; show (zs m).toArray.size = m; simp [zs]
  have HDN := Lib.hid (fun W => dnew_any Z W n (by omega) (by omega) hZs)
  have HBN := Lib.hid (fun W p g mb safe hd => show Calls Tryz.prog 13 #[.pointer (some ⟨p, 0, none⟩), .int .i64 0, .int .i64 n, .int .i64 0] W fun e w' =>
      e = .returned (.tuple #[.pointer (some ⟨W.heap.size, 0, none⟩), .int .i64 0]) ∧ Below W.heap.size W w' ∧ w'.heap[W.heap.size]? = some (.cells (devCells p 0 n 0 (.slice none 0 0) 0) 105 (0, 0)) from
    bnew_any W p g mb n safe (fun _ => none) hd 0 n 0 (by omega) (by omega) (by omega))
  have HF := Lib.hid (fun W p b (hd : NewDev' w1 n 0 p b W) => show Calls Tryz.prog 14 #[.pointer (some ⟨b, 0, none⟩), .int .i64 area] W fun e w' =>
      ∃ jb, e = .returned (.tuple #[.pointer (some ⟨jb, 0, none⟩), .int .i64 0]) ∧ JAt w' p b jb (since w1 w') (J0 n area) ∧ LJ w1 w' from by
    obtain ⟨hl, g, mb, R, V, hd⟩ := hd
    have hsz := Below.size hl
    refine (format_any W p g mb b n 0 R _ V V false hd area (by omega) (by omega)).mono ?_
    rintro e w' ⟨jb, rfl, hj, ho⟩
    have hs2 := ho.size
    exact ⟨jb, rfl, hj.kept (Nat.le_refl _) (fun _ _ => rfl) (since_grow hsz hs2) (fun q hq => hq.2), ⟨ho.os.trans hl.os, ho.tape.trans hl.tape, ho.output.trans hl.output, by omega, fun q hq => (ho.block q (by omega) (fun e => by have := e.1; omega)).trans (Below.block hl q hq)⟩⟩)
  have HOP := Lib.hid (fun W p b jb (hj : JAt W p b jb (since w1 W) (J0 n area)) (hl : LJ w1 W) => (aopen_any W p b jb _ (J0 n area) hj [] (J0_auc (by omega))).mono (show ∀ e w', _ → ∃ A, e = .returned (.tuple #[.pointer (some ⟨A, 0, none⟩), .int .i64 0]) ∧ AK w1 w' (fun _ => False) p b jb (J0 n area) A [] 3 from fun e w' h => AOut.ak h hj.ok rfl hl (fun q hq => hq.1) (J0_auc (by omega)) ⟨by show 2 ≤ 3; omega, by show 1 ≤ 3; omega⟩))
  have HFX := Lib.hid (fun W => afixed_any W)
  have hc12 : cells ≤ 12 := by omega
  have HDIM := Lib.hid (show n = area + cells ∧ 1 ≤ cells from ⟨hn.symm, by omega⟩)
  clear hw1 hl1 hb1 hT hsa hsb hea heb hZ hZs hm
  go_enter Tryz.func3, Tryz.ntmps3
  go_upto_region 1 with fail
  rw [HW1.out]
  go_quiet ((go_at_call 10; first | (with_reducible exact Calls.quiet_of_same (HPA.out _)) | (with_reducible exact Calls.quiet_of_same (HPB.out _))))
  clear x0 x1 hwa hwb
  have HLQ := Lib.hid (LJ.drewN (LJ.refl w1) nq)
  go_upto_region 5 with (first
    | (go_at_call 12; (with_reducible refine (HNO.out _).mono ?_); rintro e w2 ⟨rfl, hl2⟩; have HL2 := Lib.hid (HLQ.out.trans hl2); clear hl2)
    | (go_at_call 11; (with_reducible refine (HDN.out _).mono ?_); rintro e w3 ⟨rfl, hd3, hl3⟩; have HD3 := Lib.hid hd3; have HL3 := Lib.hid hl3; clear hd3 hl3)
    | fail)
  have hd2 := HD3.out
  have hlt := hd2
  obtain ⟨-, -, -, cap, cnt, ch, DD, hpc, -, -, -, hgl, -, -, ⟨es, ck, hmm, -⟩, -⟩ := hlt
  have hpl := lt_blk hpc
  have hml := lt_blk hmm
  have HB := Lib.hid (HBN.out w3 _ _ _ _ hd2)
  have HND := Lib.hid (fun w4 hl4 hb4 => NewDev'.born (c := 0) (w3 := w4) (by omega) HL2.out HL3.out hd2 (by omega) (Nat.le_refl _) (by omega) hpl hgl hml hl4 hb4)
  clear hd2 hpc hmm hpl hml hgl
  go_wp2_with (first
    | (go_at_call 13; (with_reducible refine HB.out.mono ?_); rintro e w4 ⟨rfl, hl4, hb4⟩; have HF4 := Lib.hid (HF.out w4 _ _ (HND.out w4 hl4 hb4)); clear hl4 hb4)
    | (go_at_call 14; (with_reducible refine HF4.out.mono ?_); rintro e w5 ⟨jb, rfl, hj5, hl5⟩; have HO5 := Lib.hid (HOP.out w5 _ _ jb hj5 hl5); clear hj5 hl5)
    | (go_at_call 15; (with_reducible refine HO5.out.mono ?_); rintro e w6 ⟨A, rfl, hk6⟩; have HK6 := Lib.hid hk6; clear hk6)
    | fail)
  obtain ⟨p, hp⟩ : ∃ p, w2.heap.size + 1 + 1 = p := ⟨_, rfl⟩
  obtain ⟨b, hb⟩ : ∃ b, w3.heap.size = b := ⟨_, rfl⟩
  rw [hp, hb] at HK6 ⊢
  have HC0 := Lib.hid (show ClL w1 w6 p b jb A cells area [] (J0 n area) 0 from ⟨HK6.out, ⟨HDIM.out.1, rfl⟩, (Nat.zero_min _).symm⟩)
  clear hp hb hcells harea hka hkb HPA HPB
  obtain ⟨hT1, hT2, hT3, hT4⟩ := HT1.out
  have HTN := Lib.hid hT2
  have HTS := Lib.hid hT3
  have HTL := Lib.hid hT1
  have HTC := Lib.hid hT4
  clear hT1 hT2 hT3 hT4 HT1 hn hwn hnn hwr hmul
  go_loopw [14] (fun v14 wr => ∃ (i : Nat) (xs : List Rec) (J : Jn), i ≤ N ∧ v14 = .int .i64 (i : Int) ∧ Hid (ClL w1 wr p b jb A cells area xs J i)) (fun v14 _ => N - (intOf v14).toNat)
  case atStart => exact ⟨0, [], _, by omega, rfl, HC0⟩
  case round =>
    obtain ⟨i, xs, J, hi, rfl, HC⟩ := hrel
    have hiN := HTN.out
    by_cases hlt : i < N
    · have hili : (i : Int) < (N : Int) := by omega
      have hwi : IntKind.i64.wrap ((i : Int) + 1) = (i : Int) + 1 := by rw [IntKind.wrap_i64]; omega
      rcases HTC.out with h0 | ⟨tb, tf, rfl, htb, htc⟩
      · omega
      obtain ⟨s, hs⟩ : ∃ s, ss[i]? = some s := ⟨_, List.getElem?_eq_getElem (by have := HTL.out; omega)⟩
      have ct : wr.cell? ⟨tb, tf + i, none⟩ = some (.string s) := HC.out.ak.lj.cell (htc i s hs)
      have HCT := Lib.hid ct
      have hss : s.size ≤ 140737488355328 := HTS.out s (List.mem_of_getElem? hs)
      obtain ⟨k, hk⟩ : ∃ k, xs.length = k := ⟨_, rfl⟩
      have hcnt := HC.out.cnt
      have hk12 : k ≤ 12 := by omega
      have hki : k = min i cells := by omega
      have hkw : IntKind.i64.wrap ((k : Int) + 1) = (k : Int) + 1 := by rw [IntKind.wrap_i64]; omega
      obtain ⟨D, hD⟩ : ∃ D, digR s = D := ⟨_, rfl⟩
      have HREC := Lib.hid (fun W => show Calls Tryz.prog 23 #[.int .i64 ((k : Int) + 1), .string s] W fun e w' => e = .returned (.agg #[.int .i64 ((k : Int) + 1), .int .i64 1, .int .i64 0, .int .i64 ((k : Int) + 1), .string D]) ∧ LJ W w' from by rw [← hD]; exact lrecord_any W _ (by omega) s hss)
      have hmay : Rec.may ⟨(k : Int) + 1, 1, 0, (k : Int) + 1, D⟩ = true := by
        have := recR_may s (n := (k : Int) + 1) (by omega) (by omega)
        unfold recR at this
        rw [hD] at this
        exact this
      have HMAY := Lib.hid hmay
      have HK := Lib.hid hk
      have HKI := Lib.hid hki
      have HCD := Lib.hid (ak_clones HC.out.ak)
      obtain ⟨LK, hLK⟩ : ∃ LK : ByteArray, (⟨(lastL xs).toArray⟩ : ByteArray) = LK := ⟨_, rfl⟩
      obtain ⟨IM, hIM⟩ : ∃ IM : ByteArray, (⟨(imgV J.n J.V).toArray⟩ : ByteArray) = IM := ⟨_, rfl⟩
      have HLK := Lib.hid hLK
      have HIM := Lib.hid hIM
      have HRA := Lib.hid (fun W (hl : LJ wr W) => show Calls Tryz.prog 21 #[.pointer (some ⟨A, 0, none⟩)] W fun e w' => (∃ ao cap, e = .returned (.slice ao k cap) ∧ RecSl w' (.slice ao k cap) xs) ∧ LJ W w' from by
        refine (ak_records (HC.out.ak.later hl)).mono ?_
        rintro e w' ⟨⟨v, rfl, hv, -⟩, hl'⟩
        obtain ⟨ao, cap, rfl, -⟩ := hv.forms
        rw [HK.out] at hv ⊢
        exact ⟨⟨ao, cap, rfl, hv⟩, hl'⟩)
      have HNA := Lib.hid (fun W (hl : LJ wr W) => show Calls Tryz.prog 22 #[.pointer (some ⟨A, 0, none⟩)] W fun e w' => e = .returned (.string LK) ∧ LJ W w' from (ak_link (HC.out.ak.later hl)).mono (by rintro e w' ⟨rfl, rfl⟩; exact ⟨by rw [HLK.out], LJ.refl _⟩))
      have HIA := Lib.hid (fun W (hl : LJ wr W) => show Calls Tryz.prog 26 #[.pointer (some ⟨p, 0, none⟩)] W fun e w' => e = .returned (.string IM) ∧ LJ W w' from (ak_image (HC.out.ak.later hl)).mono (by rintro e w' ⟨rfl, h⟩; exact ⟨by rw [HIM.out], h⟩))
      have HSM := Lib.hid (fun W v1 v2 (h1 : RecSl W v1 xs) (h2 : RecSl W v2 xs) => asame_any W v1 v2 xs (by rw [HK.out]; omega) h1 h2)
      have hll : (LK.toList != LK.toList) = false := bne_self_eq_false _
      have hie : (IM.toList == IM.toList) = true := beq_self_eq_true _
      have hin : (IM.toList != IM.toList) = false := bne_self_eq_false _
      clear htc hs hss hmay hD hk hki hcnt htb hLK hIM
      go_upto_region 26 with (first
        | (go_at_call 16; (with_reducible refine HCD.out.mono ?_); rintro e w2a ⟨p', rfl, hl2, hx2⟩; have HLa := Lib.hid hl2; have HXa := Lib.hid (hx2 w2a (LJ.refl w2a)); clear hl2 hx2)
        | (go_at_call 17; (with_reducible refine HXa.out.mono ?_); rintro e w3a ⟨b', rfl, hl3, hx3⟩; have HLb := Lib.hid (HLa.out.trans hl3); have HXb := Lib.hid (hx3 w3a (LJ.refl w3a)); clear hl3 hx3)
        | (go_at_call 18; (with_reducible refine HXb.out.mono ?_); rintro e w4a ⟨jb', rfl, hl4, hj4⟩; have HLc := Lib.hid (HLb.out.trans hl4); have HXc := Lib.hid (ak_aclone HC.out.ak (HLb.out.trans hl4) hj4 w4a (LJ.refl w4a)); clear hl4 hj4)
        | fail)
      go_upto_region 27 with (first
        | (go_at_call 19; (with_reducible refine HXc.out.mono ?_); rintro e w5a ⟨A', rfl, hl5, hck⟩; have HL5 := Lib.hid (HLc.out.trans hl5); have HCK := Lib.hid hck; clear hl5 hck)
        | fail)
      have HRB := Lib.hid (fun W (hl : LJ w5a W) => show Calls Tryz.prog 21 #[.pointer (some ⟨A', 0, none⟩)] W fun e w' => (∃ ao cap, e = .returned (.slice ao k cap) ∧ RecSl w' (.slice ao k cap) xs) ∧ LJ W w' from by
        refine (ck_records (HCK.out.later hl)).mono ?_
        rintro e w' ⟨⟨v, rfl, hv, -⟩, hl'⟩
        obtain ⟨ao, cap, rfl, -⟩ := hv.forms
        rw [HK.out] at hv ⊢
        exact ⟨⟨ao, cap, rfl, hv⟩, hl'⟩)
      have HNB := Lib.hid (fun W (hl : LJ w5a W) => show Calls Tryz.prog 22 #[.pointer (some ⟨A', 0, none⟩)] W fun e w' => e = .returned (.string LK) ∧ LJ W w' from (ck_link (HCK.out.later hl)).mono (by rintro e w' ⟨rfl, rfl⟩; exact ⟨by rw [HLK.out], LJ.refl _⟩))
      have HIB := Lib.hid (fun W (hl : LJ w5a W) => show Calls Tryz.prog 26 #[.pointer (some ⟨p', 0, none⟩)] W fun e w' => e = .returned (.string IM) ∧ LJ W w' from (ck_image (HCK.out.later hl)).mono (by rintro e w' ⟨rfl, h⟩; exact ⟨by rw [HIM.out], h⟩))
      go_upto_region 29 with (first
        | (go_at_call 21; (with_reducible refine (HRA.out _ HL5.out).mono ?_); rintro e w6a ⟨⟨v1, c1, rfl, hv⟩, hl⟩; have HV6 := Lib.hid hv; have HM6 := Lib.hid hl; clear hv hl)
        | (go_at_call 21; (with_reducible refine (HRB.out _ HM6.out).mono ?_); rintro e w7a ⟨⟨v2, c2, rfl, hv⟩, hl⟩; have HS7 := Lib.hid (HSM.out _ _ _ (HV6.out.later hl) hv); have HM7 := Lib.hid (HM6.out.trans hl); clear hv hl)
        | (go_at_call 20; (with_reducible refine HS7.out.mono ?_); rintro e w8a ⟨rfl, hl⟩; have HM8 := Lib.hid (HM7.out.trans hl); clear hl)
        | (go_at_call 22; (with_reducible refine (HNA.out _ (HL5.out.trans HM8.out)).mono ?_); rintro e w9a ⟨rfl, hl⟩; have HM9 := Lib.hid (HM8.out.trans hl); clear hl)
        | (go_at_call 22; (with_reducible refine (HNB.out _ HM9.out).mono ?_); rintro e w10 ⟨rfl, hl⟩; have HM10 := Lib.hid (HM9.out.trans hl); clear hl)
        | fail)
      have HL10 := Lib.hid (HL5.out.trans HM10.out)
      have HCT10 := Lib.hid (HL10.out.cell ct)
      have HRA10 := Lib.hid (fun W (hl : LJ w10 W) => HRA.out W (HL10.out.trans hl))
      clear hll hie hin
      go_cut [19] from 113 to 122 (fun v19 wx => ∃ q, v19 = .pointer (some ⟨q, 0, none⟩) ∧ w10.heap.size ≤ q ∧ wx.heap[q]? = some (.cells #[.int .i64 ((k : Int) + 1), .int .i64 1, .int .i64 0, .int .i64 ((k : Int) + 1), .string D] 49 (0, 0)) ∧ LJ w10 wx)
      case first =>
        refine wp_region_held_drew (S := fun w' => w'.cell? ⟨tb, tf + i, none⟩ = some (.string s)) (by kernel_rfl) HCT10.out (fun hHeld => ?_)
        have hL := Lib.hid (LJ.refl w10).drew
        refine tkS 0 hHeld ?_
        refine tkS 4 hHeld ?_
        refine tkS 5 hHeld ?_
        refine tkS 6 hHeld ?_
        refine tkS 7 hHeld ?_ (hy := by intro w hSw; have l0 : w.cell? ⟨tb, tf + i, none⟩ = some (.string s) := hSw; go_simp; (try with_reducible rfl))
        refine wpAnyH_ready (rs := [1, 9]) (by kernel_rfl) (by simp) ?_
        refine AllReadyH.cons rfl (fun K hK => ?_) (AllReadyH.cons rfl (fun K hK => ?_) AllReadyH.nil)
        · go_simp
          (with_reducible refine (HRA.out _ (HL10.out.trans hL.out)).mono ?_); rintro e wa ⟨⟨vr, cr, rfl, -⟩, hx⟩
          have hLa := Lib.hid (hL.out.trans hx)
          clear hx
          refine hK.out _ _ (hLa.out.cell HCT10.out) (fun hHeld => ?_)
          clear hK K
          refine tkS 2 hHeld ?_
          refine tkS 3 hHeld ?_
          refine wpAnyH_ready (rs := [8, 9]) (by kernel_rfl) (by simp) ?_
          refine AllReadyH.cons rfl (fun K hK => ?_) (AllReadyH.cons rfl (fun K hK => ?_) AllReadyH.nil)
          · go_simp
            (with_reducible refine (HREC.out _).mono ?_); rintro e wb ⟨rfl, hx⟩
            have hLb := Lib.hid (hLa.out.trans hx)
            clear hx
            refine hK.out _ _ (hLb.out.cell HCT10.out) (fun hHeld => ?_)
            clear hK K
            refine wpAnyH_ready (rs := [9]) (by kernel_rfl) (by simp) ?_
            refine AllReadyH.cons rfl (fun K hK => ?_) AllReadyH.nil
            go_simp
            obtain ⟨q, hq⟩ : ∃ q, wb.heap.size = q := ⟨_, rfl⟩
            obtain ⟨wq, hwq⟩ : ∃ wq, wb.alloc (.cells #[.int .i64 0, .int .i64 0, .int .i64 0, .int .i64 0, .string ⟨#[]⟩] 49) = wq := ⟨_, rfl⟩
            have HLq := Lib.hid (show LJ w10 wq from by rw [← hwq]; exact LJ.alloc hLb.out _)
            have HQ := Lib.hid (show w10.heap.size ≤ q from by rw [← hq]; exact Below.size hLb.out)
            have HBq := Lib.hid (show wq.heap[q]? = some (.cells #[.int .i64 0, .int .i64 0, .int .i64 0, .int .i64 0, .string ⟨#[]⟩] 49 (0, 0)) from by rw [← hwq, ← hq]; exact alloc_blk _ _)
            rw [hq, hwq]
            clear hq hwq
            refine hK.out _ _ (HLq.out.cell HCT10.out) (fun hHeld => ?_)
            clear hK K
            refine wpAnyH_ready (rs := [10]) (by kernel_rfl) (by simp) ?_
            refine AllReadyH.cons rfl (fun K hK => ?_) AllReadyH.nil
            refine step_store_at rfl 49 (.tmp 19) (.tmp 121) rfl q 0 #[.int .i64 ((k : Int) + 1), .int .i64 1, .int .i64 0, .int .i64 ((k : Int) + 1), .string D] rfl rfl 49 _ HBq.out info_rec (Nat.le_refl 5) (by simp [Value.oneCell']) ?_
            have HBs := Lib.hid (setRow_heap' wq q _ #[.int .i64 ((k : Int) + 1), .int .i64 1, .int .i64 0, .int .i64 ((k : Int) + 1), .string D] _ HBq.out)
            have HLs := Lib.hid (lj_only (F := fun k => k = q) HLq.out (setRow_only wq q #[.int .i64 ((k : Int) + 1), .int .i64 1, .int .i64 0, .int .i64 ((k : Int) + 1), .string D]) (fun k e => by have := HQ.out; have e' : k = q := e; omega))
            refine hK.out _ _ (HLs.out.cell HCT10.out) (fun hHeld => ?_)
            clear hK K
            refine wpAnyH_done (by kernel_rfl) ?_ _
            go_wp2_with fail
            go_meet
            case rel => exact ⟨q, rfl, HQ.out, HBs.out, HLs.out⟩
          · go_simp
            obtain ⟨q, hq⟩ : ∃ q, wa.heap.size = q := ⟨_, rfl⟩
            obtain ⟨wq, hwq⟩ : ∃ wq, wa.alloc (.cells #[.int .i64 0, .int .i64 0, .int .i64 0, .int .i64 0, .string ⟨#[]⟩] 49) = wq := ⟨_, rfl⟩
            have HLq := Lib.hid (show LJ w10 wq from by rw [← hwq]; exact LJ.alloc hLa.out _)
            have HQ := Lib.hid (show w10.heap.size ≤ q from by rw [← hq]; exact Below.size hLa.out)
            have HBq := Lib.hid (show wq.heap[q]? = some (.cells #[.int .i64 0, .int .i64 0, .int .i64 0, .int .i64 0, .string ⟨#[]⟩] 49 (0, 0)) from by rw [← hwq, ← hq]; exact alloc_blk _ _)
            rw [hq, hwq]
            clear hq hwq
            refine hK.out _ _ (HLq.out.cell HCT10.out) (fun hHeld => ?_)
            clear hK K
            refine wpAnyH_ready (rs := [8]) (by kernel_rfl) (by simp) ?_
            refine AllReadyH.cons rfl (fun K hK => ?_) AllReadyH.nil
            go_simp
            (with_reducible refine (HREC.out _).mono ?_); rintro e wb ⟨rfl, hx⟩
            have HBq := Lib.hid (hx.block HBq.out)
            have HLq := Lib.hid (HLq.out.trans hx)
            clear hx
            refine hK.out _ _ (HLq.out.cell HCT10.out) (fun hHeld => ?_)
            clear hK K
            refine wpAnyH_ready (rs := [10]) (by kernel_rfl) (by simp) ?_
            refine AllReadyH.cons rfl (fun K hK => ?_) AllReadyH.nil
            refine step_store_at rfl 49 (.tmp 19) (.tmp 121) rfl q 0 #[.int .i64 ((k : Int) + 1), .int .i64 1, .int .i64 0, .int .i64 ((k : Int) + 1), .string D] rfl rfl 49 _ HBq.out info_rec (Nat.le_refl 5) (by simp [Value.oneCell']) ?_
            have HBs := Lib.hid (setRow_heap' wb q _ #[.int .i64 ((k : Int) + 1), .int .i64 1, .int .i64 0, .int .i64 ((k : Int) + 1), .string D] _ HBq.out)
            have HLs := Lib.hid (lj_only (F := fun k => k = q) HLq.out (setRow_only wb q #[.int .i64 ((k : Int) + 1), .int .i64 1, .int .i64 0, .int .i64 ((k : Int) + 1), .string D]) (fun k e => by have := HQ.out; have e' : k = q := e; omega))
            refine hK.out _ _ (HLs.out.cell HCT10.out) (fun hHeld => ?_)
            clear hK K
            refine wpAnyH_done (by kernel_rfl) ?_ _
            go_wp2_with fail
            go_meet
            case rel => exact ⟨q, rfl, HQ.out, HBs.out, HLs.out⟩
        · go_simp
          obtain ⟨q, hq⟩ : ∃ q, w10.heap.size = q := ⟨_, rfl⟩
          obtain ⟨wq, hwq⟩ : ∃ wq, (w10.alloc (.cells #[.int .i64 0, .int .i64 0, .int .i64 0, .int .i64 0, .string ⟨#[]⟩] 49)).drew = wq := ⟨_, rfl⟩
          have HLq := Lib.hid (show LJ w10 wq from by rw [← hwq]; exact LJ.drew (LJ.alloc (LJ.refl w10) _))
          have HQ := Lib.hid (show w10.heap.size ≤ q from Nat.le_of_eq hq)
          have HBq := Lib.hid (show wq.heap[q]? = some (.cells #[.int .i64 0, .int .i64 0, .int .i64 0, .int .i64 0, .string ⟨#[]⟩] 49 (0, 0)) from by rw [← hwq, ← hq]; exact alloc_blk w10 _)
          rw [hq, hwq]
          clear hq hwq
          refine hK.out _ _ (HLq.out.cell HCT10.out) (fun hHeld => ?_)
          clear hK K
          refine wpAnyH_ready (rs := [1]) (by kernel_rfl) (by simp) ?_
          refine AllReadyH.cons rfl (fun K hK => ?_) AllReadyH.nil
          go_simp
          (with_reducible refine (HRA.out _ (HL10.out.trans HLq.out)).mono ?_); rintro e wa ⟨⟨vr, cr, rfl, -⟩, hx⟩
          have HBq := Lib.hid (hx.block HBq.out)
          have HLq := Lib.hid (HLq.out.trans hx)
          clear hx
          refine hK.out _ _ (HLq.out.cell HCT10.out) (fun hHeld => ?_)
          clear hK K
          refine tkS 2 hHeld ?_
          refine tkS 3 hHeld ?_
          refine wpAnyH_ready (rs := [8]) (by kernel_rfl) (by simp) ?_
          refine AllReadyH.cons rfl (fun K hK => ?_) AllReadyH.nil
          go_simp
          (with_reducible refine (HREC.out _).mono ?_); rintro e wb ⟨rfl, hx⟩
          have HBq := Lib.hid (hx.block HBq.out)
          have HLq := Lib.hid (HLq.out.trans hx)
          clear hx
          refine hK.out _ _ (HLq.out.cell HCT10.out) (fun hHeld => ?_)
          clear hK K
          refine wpAnyH_ready (rs := [10]) (by kernel_rfl) (by simp) ?_
          refine AllReadyH.cons rfl (fun K hK => ?_) AllReadyH.nil
          refine step_store_at rfl 49 (.tmp 19) (.tmp 121) rfl q 0 #[.int .i64 ((k : Int) + 1), .int .i64 1, .int .i64 0, .int .i64 ((k : Int) + 1), .string D] rfl rfl 49 _ HBq.out info_rec (Nat.le_refl 5) (by simp [Value.oneCell']) ?_
          have HBs := Lib.hid (setRow_heap' wb q _ #[.int .i64 ((k : Int) + 1), .int .i64 1, .int .i64 0, .int .i64 ((k : Int) + 1), .string D] _ HBq.out)
          have HLs := Lib.hid (lj_only (F := fun k => k = q) HLq.out (setRow_only wb q #[.int .i64 ((k : Int) + 1), .int .i64 1, .int .i64 0, .int .i64 ((k : Int) + 1), .string D]) (fun k e => by have := HQ.out; have e' : k = q := e; omega))
          refine hK.out _ _ (HLs.out.cell HCT10.out) (fun hHeld => ?_)
          clear hK K
          refine wpAnyH_done (by kernel_rfl) ?_ _
          go_wp2_with fail
          go_meet
          case rel => exact ⟨q, rfl, HQ.out, HBs.out, HLs.out⟩
      case rest =>
        obtain ⟨q, rfl, hq1, hqb, hqL⟩ := hcut
        have HBc := Lib.hid hqb
        have HLwc := Lib.hid (HL10.out.trans hqL)
        have HMwc := Lib.hid (HM10.out.trans hqL)
        have HQc := Lib.hid (show q < wc.heap.size ∧ w5a.heap.size ≤ q from ⟨lt_blk hqb, by have := Below.size HM10.out; omega⟩)
        have hll : (LK.toList != LK.toList) = false := bne_self_eq_false _
        have hie : (IM.toList == IM.toList) = true := beq_self_eq_true _
        have hin : (IM.toList != IM.toList) = false := bne_self_eq_false _
        clear hq1 hqb hqL ct
        have HB3 := Lib.hid (show J.head < 4611686018427387904 ∧ J.next < 4611686018427387904 ∧ 3 + xs.length < 4611686018427387904 from by
          have h1 := HC.out.ak.hB
          have h2 := HK.out
          omega)
        have HDM := Lib.hid (show J.n - J.area = cells ∧ J.n = area + cells ∧ J.area = area from by
          have h1 := HC.out.dim
          omega)
        by_cases hkc : k < cells
        · have HKC := Lib.hid hkc
          have hik : i = k := by have := HKI.out; omega
          have HIK := Lib.hid hik
          have HAPc := Lib.hid (ck_yes (K := fun x => x = q) (HCK.out.more HMwc.out (fun x hx => .inr (by rw [hx]; exact ⟨HQc.out.2, HQc.out.1⟩))) (Below.size HLwc.out) HB3.out.1 HB3.out.2.1 ((k : Int) + 1) 1 0 ((k : Int) + 1) D HMAY.out (by rw [HK.out]; omega) (by rw [HK.out, HDM.out.1]; exact hkc))
          have hkn : ((k : Int) != (i : Int)) = false := by rw [hik]; exact bne_self_eq_false _
          clear hik hkc
          go_upto_region 31 with (first
            | (refine wpList_load_row rfl 49 (.tmp 19) rfl q rfl 49 _ (0, 0) _ HBc.out Tryz.underlying49 rfl info_rec ?_)
            | (go_at_call 24; (with_reducible refine HAPc.out.mono ?_); rintro e w11 ⟨rfl, hck, hkp, ho⟩; have HCK1 := Lib.hid hck; have HBd := Lib.hid ((hkp q rfl).trans HBc.out); have HO11 := Lib.hid ho; clear hck hkp ho)
            | fail)
          have HLw11 := Lib.hid (lj_only HLwc.out HO11.out (fun q h => h))
          have HMw11 := Lib.hid (LJ.refl w11)
          obtain ⟨X, hX⟩ : ∃ X : Rec, (⟨(k : Int) + 1, 1, 0, (k : Int) + 1, D⟩ : Rec) = X := ⟨_, rfl⟩
          obtain ⟨ys, hys⟩ : ∃ ys, xs ++ [X] = ys := ⟨_, rfl⟩
          obtain ⟨J1, hJ1⟩ : ∃ J1, J.app xs X = J1 := ⟨_, rfl⟩
          obtain ⟨k1, hk1⟩ : ∃ k1, k + 1 = k1 := ⟨_, rfl⟩
          have HCK2 := Lib.hid (show CK wr w11 (fun x => x = q) p' b' jb' J1 A' ys from by have h := HCK1.out; rw [hX, hys, hJ1] at h; exact h)
          have HK1 := Lib.hid (show ys.length = k1 from by rw [← hys, List.length_append, HK.out]; exact hk1)
          have HDJ := Lib.hid (show J1.n = J.n ∧ J1.area = J.area from by rw [← hJ1]; exact app_n J xs X)
          obtain ⟨LK1, hLK1⟩ : ∃ B : ByteArray, (⟨(lastL ys).toArray⟩ : ByteArray) = B := ⟨_, rfl⟩
          obtain ⟨IM1, hIM1⟩ : ∃ B : ByteArray, (⟨(imgV J1.n J1.V).toArray⟩ : ByteArray) = B := ⟨_, rfl⟩
          have HLK1 := Lib.hid hLK1
          have HIM1 := Lib.hid hIM1
          have hne : (IM.toList == IM1.toList) = false := imgs_ne HIM.out hIM1 (by rw [← hJ1]; exact app_image HC.out.ak.ok xs X (by rw [hJ1]; exact HCK2.out.ok) HB3.out.2.1)
          have HXY := Lib.hid (And.intro hX (And.intro hys (And.intro hJ1 hk1)))
          have HIB1 := Lib.hid (fun W (hl : LJ w11 W) => show Calls Tryz.prog 26 #[.pointer (some ⟨p', 0, none⟩)] W fun e w' => e = .returned (.string IM1) ∧ LJ W w' from (ck_image (HCK2.out.later hl)).mono (by rintro e w' ⟨rfl, h⟩; exact ⟨by rw [HIM1.out], h⟩))
          clear hX hys hJ1 hk1 hLK1 hIM1 hll hie hin HCK1
          go_upto_region 33 with (first
            | (go_at_call 21; (with_reducible refine (HRA.out _ HLw11.out).mono ?_); rintro e w12 ⟨⟨v12, c12, rfl, -⟩, hl⟩; have HLw12 := Lib.hid (HLw11.out.trans hl); have HMw12 := Lib.hid (HMw11.out.trans hl); clear hl)
            | (go_at_call 26; (with_reducible refine (HIA.out _ HLw12.out).mono ?_); rintro e w13 ⟨rfl, hl⟩; have HLw13 := Lib.hid (HLw12.out.trans hl); have HMw13 := Lib.hid (HMw12.out.trans hl); clear hl)
            | (go_at_call 26; (with_reducible refine (HIB1.out _ HMw13.out).mono ?_); rintro e w14 ⟨rfl, hl⟩; have HLw14 := Lib.hid (HLw13.out.trans hl); have HMw14 := Lib.hid (HMw13.out.trans hl); clear hl)
            | fail)
          have HBe := Lib.hid (HMw14.out.block HBd.out)
          have HKo := Lib.hid (ak_yes (HC.out.ak.more (K' := fun x => wr.heap.size ≤ x ∧ x < w14.heap.size) HLw14.out (fun x hx => .inr hx)) HB3.out.2.2 ((k : Int) + 1) 1 0 ((k : Int) + 1) D HMAY.out (by rw [HK.out]; omega) (by rw [HK.out, HDM.out.1]; exact HKC.out))
          have HPOST := Lib.hid (fun w15 (h : AK w1 w15 (fun x => wr.heap.size ≤ x ∧ x < w14.heap.size) p b jb (J.app xs ⟨(k : Int) + 1, 1, 0, (k : Int) + 1, D⟩) A (xs ++ [⟨(k : Int) + 1, 1, 0, (k : Int) + 1, D⟩]) (3 + xs.length + 1)) (hkp : KeptK (fun x => wr.heap.size ≤ x ∧ x < w14.heap.size) w14 w15) => show AK w1 w15 (fun _ => False) p b jb J1 A ys (3 + k1) ∧ CK wr w15 (fun _ => False) p' b' jb' J1 A' ys from by
            obtain ⟨x1, x2, x3, x4⟩ := HXY.out
            rw [x1, x2, x3, HK.out, show 3 + k + 1 = 3 + k1 from by omega] at h
            have hA := HCK2.out.wA
            have c14 := HCK2.out.later HMw14.out
            obtain ⟨V, F, d1, d2, -⟩ := c14.ex
            have hAl := lt_blk d2.blk
            have hs : w14.heap.size ≤ w15.heap.size := by
              have h1 := hkp (w14.heap.size - 1) ⟨by omega, by omega⟩
              obtain ⟨o, ho⟩ : ∃ o, w14.heap[w14.heap.size - 1]? = some o := ⟨_, Array.getElem?_eq_getElem (by omega)⟩
              rw [ho] at h1
              have := lt_blk h1
              omega
            have c15 := c14.kept hs (fun x h1 h2 => hkp x ⟨h1, h2⟩)
            exact ⟨h.more (LJ.refl _) (fun x hx => hx.elim), c15.more (LJ.refl _) (fun x hx => hx.elim)⟩)
          have HRo := Lib.hid (fun w15 (h : AK w1 w15 (fun _ => False) p b jb J1 A ys (3 + k1)) W (hl : LJ w15 W) => show Calls Tryz.prog 21 #[.pointer (some ⟨A, 0, none⟩)] W fun e w' => (∃ ao cap, e = .returned (.slice ao k1 cap) ∧ RecSl w' (.slice ao k1 cap) ys) ∧ LJ W w' from by
            refine (ak_records (h.later hl)).mono ?_
            rintro e w' ⟨⟨v, rfl, hv, -⟩, hl'⟩
            obtain ⟨ao, cap, rfl, -⟩ := hv.forms
            rw [HK1.out] at hv ⊢
            exact ⟨⟨ao, cap, rfl, hv⟩, hl'⟩)
          have HNo := Lib.hid (fun w15 (h : AK w1 w15 (fun _ => False) p b jb J1 A ys (3 + k1)) W (hl : LJ w15 W) => show Calls Tryz.prog 22 #[.pointer (some ⟨A, 0, none⟩)] W fun e w' => e = .returned (.string LK1) ∧ LJ W w' from (ak_link (h.later hl)).mono (by rintro e w' ⟨rfl, rfl⟩; exact ⟨by rw [HLK1.out], LJ.refl _⟩))
          have HIo := Lib.hid (fun w15 (h : AK w1 w15 (fun _ => False) p b jb J1 A ys (3 + k1)) W (hl : LJ w15 W) => show Calls Tryz.prog 26 #[.pointer (some ⟨p, 0, none⟩)] W fun e w' => e = .returned (.string IM1) ∧ LJ W w' from (ak_image (h.later hl)).mono (by rintro e w' ⟨rfl, h⟩; exact ⟨by rw [HIM1.out], h⟩))
          have HRc := Lib.hid (fun w15 (h : CK wr w15 (fun _ => False) p' b' jb' J1 A' ys) W (hl : LJ w15 W) => show Calls Tryz.prog 21 #[.pointer (some ⟨A', 0, none⟩)] W fun e w' => (∃ ao cap, e = .returned (.slice ao k1 cap) ∧ RecSl w' (.slice ao k1 cap) ys) ∧ LJ W w' from by
            refine (ck_records (h.later hl)).mono ?_
            rintro e w' ⟨⟨v, rfl, hv, -⟩, hl'⟩
            obtain ⟨ao, cap, rfl, -⟩ := hv.forms
            rw [HK1.out] at hv ⊢
            exact ⟨⟨ao, cap, rfl, hv⟩, hl'⟩)
          have HNc := Lib.hid (fun w15 (h : CK wr w15 (fun _ => False) p' b' jb' J1 A' ys) W (hl : LJ w15 W) => show Calls Tryz.prog 22 #[.pointer (some ⟨A', 0, none⟩)] W fun e w' => e = .returned (.string LK1) ∧ LJ W w' from (ck_link (h.later hl)).mono (by rintro e w' ⟨rfl, rfl⟩; exact ⟨by rw [HLK1.out], LJ.refl _⟩))
          have HIc := Lib.hid (fun w15 (h : CK wr w15 (fun _ => False) p' b' jb' J1 A' ys) W (hl : LJ w15 W) => show Calls Tryz.prog 26 #[.pointer (some ⟨p', 0, none⟩)] W fun e w' => e = .returned (.string IM1) ∧ LJ W w' from (ck_image (h.later hl)).mono (by rintro e w' ⟨rfl, h⟩; exact ⟨by rw [HIM1.out], h⟩))
          have HSM1 := Lib.hid (fun W v1 v2 (h1 : RecSl W v1 ys) (h2 : RecSl W v2 ys) => asame_any W v1 v2 ys (by have h1 := HK1.out; have h2 := HXY.out.2.2.2; omega) h1 h2)
          have hll : (LK1.toList != LK1.toList) = false := bne_self_eq_false _
          have hin : (IM1.toList != IM1.toList) = false := bne_self_eq_false _
          clear hne hkn
          go_wp2_with (first
            | (refine wpList_load_row rfl 49 (.tmp 19) rfl q rfl 49 _ (0, 0) _ HBe.out Tryz.underlying49 rfl info_rec ?_)
            | (go_at_call 24; (with_reducible refine HKo.out.mono ?_); rintro e w15 ⟨rfl, hk15, hkp15⟩; have HP := Lib.hid (HPOST.out w15 hk15 hkp15); clear hk15 hkp15)
            | (go_at_call 21; (with_reducible refine (HRo.out w15 HP.out.1 _ (LJ.refl w15)).mono ?_); rintro e w16 ⟨⟨v16, c16, rfl, hv⟩, hl⟩; have HV16 := Lib.hid hv; have HM16 := Lib.hid hl; clear hv hl)
            | (go_at_call 21; (with_reducible refine (HRc.out w15 HP.out.2 _ HM16.out).mono ?_); rintro e w17 ⟨⟨v17, c17, rfl, hv⟩, hl⟩; have HS17 := Lib.hid (HSM1.out _ _ _ (HV16.out.later hl) hv); have HM17 := Lib.hid (HM16.out.trans hl); clear hv hl)
            | (go_at_call 20; (with_reducible refine HS17.out.mono ?_); rintro e w18 ⟨rfl, hl⟩; have HM18 := Lib.hid (HM17.out.trans hl); clear hl)
            | (go_at_call 22; (with_reducible refine (HNo.out w15 HP.out.1 _ HM18.out).mono ?_); rintro e w19 ⟨rfl, hl⟩; have HM19 := Lib.hid (HM18.out.trans hl); clear hl)
            | (go_at_call 22; (with_reducible refine (HNc.out w15 HP.out.2 _ HM19.out).mono ?_); rintro e w20 ⟨rfl, hl⟩; have HM20 := Lib.hid (HM19.out.trans hl); clear hl)
            | (go_at_call 26; (with_reducible refine (HIo.out w15 HP.out.1 _ HM20.out).mono ?_); rintro e w21 ⟨rfl, hl⟩; have HM21 := Lib.hid (HM20.out.trans hl); clear hl)
            | (go_at_call 26; (with_reducible refine (HIc.out w15 HP.out.2 _ HM21.out).mono ?_); rintro e w22 ⟨rfl, hl⟩; have HM22 := Lib.hid (HM21.out.trans hl); clear hl)
            | fail)
          go_roundw
          case rel =>
            have h1 := HK1.out
            have h2 := HXY.out.2.2.2
            have h3 := HKC.out
            have h4 := HIK.out
            exact ⟨i + 1, ys, J1, by omega, by simp, Lib.hid ⟨by rw [h1]; exact HP.out.1.later HM22.out, ⟨by rw [HDJ.out.1]; exact HDM.out.2.1, by rw [HDJ.out.2]; exact HDM.out.2.2⟩, by omega⟩⟩
          case measure => simp [intOf]; omega
        · have hkc' : k = cells := by have := HKI.out; omega
          have HKC := Lib.hid hkc'
          have HAPc := Lib.hid (ck_full (HCK.out.later HMwc.out) ((k : Int) + 1) 1 0 ((k : Int) + 1) D HMAY.out (by rw [HK.out]; omega) (by rw [HK.out, HDM.out.1]; exact hkc'))
          have HAPo := Lib.hid (fun W (hl : LJ wr W) => ak_full (HC.out.ak.later hl) ((k : Int) + 1) 1 0 ((k : Int) + 1) D HMAY.out (by rw [HK.out]; omega) (by rw [HK.out, HDM.out.1]; exact hkc'))
          have HRM := Lib.hid (fun W (hl : LJ wr W) => show Calls Tryz.prog 25 #[.pointer (some ⟨A, 0, none⟩)] W fun e w' => e = .returned (.int .i64 0) ∧ LJ W w' from by
            have h := ak_room (HC.out.ak.later hl)
            rw [HDM.out.1, HK.out, show cells - k = 0 from by omega] at h
            exact h.mono (by rintro e w' ⟨rfl, n, rfl⟩; exact ⟨rfl, (LJ.refl _).drewN n⟩))
          clear hkc hkc'
          go_upto_region 31 with (first
            | (refine wpList_load_row rfl 49 (.tmp 19) rfl q rfl 49 _ (0, 0) _ HBc.out Tryz.underlying49 rfl info_rec ?_)
            | (go_at_call 24; (with_reducible refine HAPc.out.mono ?_); rintro e w11 ⟨rfl, hl⟩; have HBd := Lib.hid (hl.block HBc.out); have HLw11 := Lib.hid (HLwc.out.trans hl); have HMw11 := Lib.hid (HMwc.out.trans hl); have HT11 := Lib.hid (LJ.refl w11); clear hl)
            | fail)
          by_cases hik : i = k
          · have hkn : ((k : Int) != (i : Int)) = false := by rw [hik]; exact bne_self_eq_false _
            clear hik
            go_upto_region 33 with (first
              | (go_at_call 21; (with_reducible refine (HRA.out _ HLw11.out).mono ?_); rintro e w12 ⟨⟨v12, c12, rfl, -⟩, hl⟩; have HTw12 := Lib.hid (HT11.out.trans hl); have HLw12 := Lib.hid (HLw11.out.trans hl); have HMw12 := Lib.hid (HMw11.out.trans hl); clear hl)
              | (go_at_call 26; (with_reducible refine (HIA.out _ HLw12.out).mono ?_); rintro e w13 ⟨rfl, hl⟩; have HTw13 := Lib.hid (HTw12.out.trans hl); have HLw13 := Lib.hid (HLw12.out.trans hl); have HMw13 := Lib.hid (HMw12.out.trans hl); clear hl)
              | (go_at_call 26; (with_reducible refine (HIB.out _ HMw13.out).mono ?_); rintro e w14 ⟨rfl, hl⟩; have HTw14 := Lib.hid (HTw13.out.trans hl); have HLw14 := Lib.hid (HLw13.out.trans hl); have HMw14 := Lib.hid (HMw13.out.trans hl); clear hl)
              | fail)
            have HBe := Lib.hid (HTw14.out.block HBd.out)
            clear hkn
            go_wp2_with (first
              | (refine wpList_load_row rfl 49 (.tmp 19) rfl q rfl 49 _ (0, 0) _ HBe.out Tryz.underlying49 rfl info_rec ?_)
              | (go_at_call 24; (with_reducible refine (HAPo.out _ HLw14.out).mono ?_); rintro e w15 ⟨rfl, hl⟩; have HLw15 := Lib.hid (HLw14.out.trans hl); have HMw15 := Lib.hid (HMw14.out.trans hl); clear hl)
              | (go_at_call 21; (with_reducible refine (HRA.out _ HLw15.out).mono ?_); rintro e w16 ⟨⟨v16, c16, rfl, hv⟩, hl⟩; have HV16 := Lib.hid hv; clear hv; have HLw16 := Lib.hid (HLw15.out.trans hl); have HMw16 := Lib.hid (HMw15.out.trans hl); clear hl)
              | (go_at_call 21; (with_reducible refine (HRB.out _ HMw16.out).mono ?_); rintro e w17 ⟨⟨v17, c17, rfl, hv⟩, hl⟩; have HS17 := Lib.hid (HSM.out _ _ _ (HV16.out.later hl) hv); clear hv; have HLw17 := Lib.hid (HLw16.out.trans hl); have HMw17 := Lib.hid (HMw16.out.trans hl); clear hl)
              | (go_at_call 20; (with_reducible refine (HS17.out).mono ?_); rintro e w18 ⟨rfl, hl⟩; have HLw18 := Lib.hid (HLw17.out.trans hl); have HMw18 := Lib.hid (HMw17.out.trans hl); clear hl)
              | (go_at_call 22; (with_reducible refine (HNA.out _ HLw18.out).mono ?_); rintro e w19 ⟨rfl, hl⟩; have HLw19 := Lib.hid (HLw18.out.trans hl); have HMw19 := Lib.hid (HMw18.out.trans hl); clear hl)
              | (go_at_call 22; (with_reducible refine (HNB.out _ HMw19.out).mono ?_); rintro e w20 ⟨rfl, hl⟩; have HLw20 := Lib.hid (HLw19.out.trans hl); have HMw20 := Lib.hid (HMw19.out.trans hl); clear hl)
              | (go_at_call 26; (with_reducible refine (HIA.out _ HLw20.out).mono ?_); rintro e w21 ⟨rfl, hl⟩; have HLw21 := Lib.hid (HLw20.out.trans hl); have HMw21 := Lib.hid (HMw20.out.trans hl); clear hl)
              | (go_at_call 26; (with_reducible refine (HIB.out _ HMw21.out).mono ?_); rintro e w22 ⟨rfl, hl⟩; have HLw22 := Lib.hid (HLw21.out.trans hl); have HMw22 := Lib.hid (HMw21.out.trans hl); clear hl)
              | fail)
            go_roundw
            case rel =>
              have h1 := HKC.out
              have h2 := HKI.out
              have h3 := HK.out
              exact ⟨i + 1, xs, J, by omega, by simp, Lib.hid ⟨HC.out.ak.later HLw22.out, HC.out.dim, by omega⟩⟩
            case measure => simp [intOf]; omega
          · have hkn : ((k : Int) != (i : Int)) = true := by simp; omega
            clear hik
            go_upto_region 33 with (first
              | (go_at_call 21; (with_reducible refine (HRA.out _ HLw11.out).mono ?_); rintro e w12 ⟨⟨v12, c12, rfl, -⟩, hl⟩; have HTw12 := Lib.hid (HT11.out.trans hl); have HLw12 := Lib.hid (HLw11.out.trans hl); have HMw12 := Lib.hid (HMw11.out.trans hl); clear hl)
              | (go_at_call 25; (with_reducible refine (HRM.out _ HLw12.out).mono ?_); rintro e w12r ⟨rfl, hl⟩; have HTw12r := Lib.hid (HTw12.out.trans hl); have HLw12r := Lib.hid (HLw12.out.trans hl); have HMw12r := Lib.hid (HMw12.out.trans hl); clear hl)
              | (go_at_call 26; (with_reducible refine (HIA.out _ HLw12r.out).mono ?_); rintro e w13 ⟨rfl, hl⟩; have HTw13 := Lib.hid (HTw12r.out.trans hl); have HLw13 := Lib.hid (HLw12r.out.trans hl); have HMw13 := Lib.hid (HMw12r.out.trans hl); clear hl)
              | (go_at_call 26; (with_reducible refine (HIB.out _ HMw13.out).mono ?_); rintro e w14 ⟨rfl, hl⟩; have HTw14 := Lib.hid (HTw13.out.trans hl); have HLw14 := Lib.hid (HLw13.out.trans hl); have HMw14 := Lib.hid (HMw13.out.trans hl); clear hl)
              | fail)
            have HBe := Lib.hid (HTw14.out.block HBd.out)
            clear hkn
            go_wp2_with (first
              | (refine wpList_load_row rfl 49 (.tmp 19) rfl q rfl 49 _ (0, 0) _ HBe.out Tryz.underlying49 rfl info_rec ?_)
              | (go_at_call 24; (with_reducible refine (HAPo.out _ HLw14.out).mono ?_); rintro e w15 ⟨rfl, hl⟩; have HLw15 := Lib.hid (HLw14.out.trans hl); have HMw15 := Lib.hid (HMw14.out.trans hl); clear hl)
              | (go_at_call 21; (with_reducible refine (HRA.out _ HLw15.out).mono ?_); rintro e w16 ⟨⟨v16, c16, rfl, hv⟩, hl⟩; have HV16 := Lib.hid hv; clear hv; have HLw16 := Lib.hid (HLw15.out.trans hl); have HMw16 := Lib.hid (HMw15.out.trans hl); clear hl)
              | (go_at_call 21; (with_reducible refine (HRB.out _ HMw16.out).mono ?_); rintro e w17 ⟨⟨v17, c17, rfl, hv⟩, hl⟩; have HS17 := Lib.hid (HSM.out _ _ _ (HV16.out.later hl) hv); clear hv; have HLw17 := Lib.hid (HLw16.out.trans hl); have HMw17 := Lib.hid (HMw16.out.trans hl); clear hl)
              | (go_at_call 20; (with_reducible refine (HS17.out).mono ?_); rintro e w18 ⟨rfl, hl⟩; have HLw18 := Lib.hid (HLw17.out.trans hl); have HMw18 := Lib.hid (HMw17.out.trans hl); clear hl)
              | (go_at_call 22; (with_reducible refine (HNA.out _ HLw18.out).mono ?_); rintro e w19 ⟨rfl, hl⟩; have HLw19 := Lib.hid (HLw18.out.trans hl); have HMw19 := Lib.hid (HMw18.out.trans hl); clear hl)
              | (go_at_call 22; (with_reducible refine (HNB.out _ HMw19.out).mono ?_); rintro e w20 ⟨rfl, hl⟩; have HLw20 := Lib.hid (HLw19.out.trans hl); have HMw20 := Lib.hid (HMw19.out.trans hl); clear hl)
              | (go_at_call 26; (with_reducible refine (HIA.out _ HLw20.out).mono ?_); rintro e w21 ⟨rfl, hl⟩; have HLw21 := Lib.hid (HLw20.out.trans hl); have HMw21 := Lib.hid (HMw20.out.trans hl); clear hl)
              | (go_at_call 26; (with_reducible refine (HIB.out _ HMw21.out).mono ?_); rintro e w22 ⟨rfl, hl⟩; have HLw22 := Lib.hid (HLw21.out.trans hl); have HMw22 := Lib.hid (HMw21.out.trans hl); clear hl)
              | fail)
            go_roundw
            case rel =>
              have h1 := HKC.out
              have h2 := HKI.out
              have h3 := HK.out
              exact ⟨i + 1, xs, J, by omega, by simp, Lib.hid ⟨HC.out.ak.later HLw22.out, HC.out.dim, by omega⟩⟩
            case measure => simp [intOf]; omega
    · have hie : i = N := by omega
      have hili : ¬ (i : Int) < (N : Int) := by omega
      have HRL := Lib.hid HC.out.ak.lj
      clear hie
      go_wp2_with (first
        | (go_at_call 27; (with_reducible refine (HFX.out _).mono ?_); rintro e w7 ⟨rfl, hl7⟩; have HL7 := Lib.hid hl7; clear hl7)
        | fail)
      go_ret
      exact ⟨rfl, HL1.out.trans (HRL.out.trans HL7.out)⟩
end Go.Proofs.YtfpbocjmlhcgiaaGreatDoor
