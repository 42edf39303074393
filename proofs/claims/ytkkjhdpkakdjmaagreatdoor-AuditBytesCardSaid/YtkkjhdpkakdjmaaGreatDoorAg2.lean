/- Ag2, merged: AU8 AU9 AU10 AU11 AU12. -/
import Derived.Test.YtkkjhdpkakdjmaaGreatDoorAU7
set_option linter.unusedSimpArgs false
set_option linter.unusedVariables false
/- The law's noughts; the document's May. -/
namespace Go.Proofs.YtkkjhdpkakdjmaaGreatDoor
open Go.RowKit PJ Go.Maps

set_option maxRecDepth 100000 in
theorem lnoughts_any (w : World) (n : Nat) (hn : n ≤ 100000) :
    Calls Tryz.prog 11 #[.int .i64 n] w fun e w' => e = .returned (.string ⟨(zs n).toArray⟩) ∧ LJ w w' := by
  have hmk := make_z w n hn
  have hcv := conv_z w n
  have hl : LJ w (w.alloc (.cells (bys (zs n)).toArray 5)) := (LJ.refl w).alloc _
  obtain ⟨w1, hw1⟩ : ∃ w1, w.alloc (.cells (bys (zs n)).toArray 5) = w1 := ⟨_, rfl⟩
  obtain ⟨Z, hZ⟩ : ∃ Z : ByteArray, (⟨(zs n).toArray⟩ : ByteArray) = Z := ⟨_, rfl⟩
  rw [hw1] at hmk hcv hl
  rw [hZ] at hcv
  have HZ := Lib.hid hZ
  have HL := Lib.hid hl
  clear hw1 hZ hl hn
  go_enter Tryz.func11, Tryz.ntmps11
  go_wp2_with fail
  go_ret
  exact ⟨ret_str HZ.out.symm, HL.out⟩
set_option maxRecDepth 100000 in
set_option maxHeartbeats 4000000 in
theorem lmay_any (w : World) (n f t r : Int) (h : ByteArray) : Calls Tryz.prog 37 #[.agg #[.int .i64 n, .int .i64 f, .int .i64 t, .int .i64 r, .string h]] w fun e w' => e = .returned (.bool (Rec.may ⟨n, f, t, r, h⟩)) ∧ LJ w w' := by
  obtain ⟨w1, hw1⟩ : ∃ w1, w.alloc (.cells #[.int .i64 n, .int .i64 f, .int .i64 t, .int .i64 r, .string h] 23) = w1 := ⟨_, rfl⟩
  have hb : w1.heap[w.heap.size]? = some (.cells #[.int .i64 n, .int .i64 f, .int .i64 t, .int .i64 r, .string h] 23 (0, 0)) := by rw [← hw1]; exact alloc_blk w _
  have HL1 := Lib.hid (show LJ w w1 from by rw [← hw1]; exact (LJ.refl w).alloc _)
  have k0 : w1.cell? ⟨w.heap.size, 0, none⟩ = some (.int .i64 n) := cell_blk hb 0
  have k1 : w1.cell? ⟨w.heap.size, 1, none⟩ = some (.int .i64 f) := cell_blk hb 1
  have k2 : w1.cell? ⟨w.heap.size, 2, none⟩ = some (.int .i64 t) := cell_blk hb 2
  have k3 : w1.cell? ⟨w.heap.size, 3, none⟩ = some (.int .i64 r) := cell_blk hb 3
  have k4 : w1.cell? ⟨w.heap.size, 4, none⟩ = some (.string h) := cell_blk hb 4
  have HW1 := Lib.hid hw1
  clear hw1
  by_cases g0 : 1 ≤ n
  · have d0 : decide (1 ≤ n) = true := decide_eq_true g0
    by_cases g1 : n ≤ 4611686018427387904
    · have d1 : decide (n ≤ 4611686018427387904) = true := decide_eq_true g1
      by_cases g2 : 0 ≤ f
      · have d2 : decide (0 ≤ f) = true := decide_eq_true g2
        by_cases g3 : f ≤ 7
        · have d3 : decide (f ≤ 7) = true := decide_eq_true g3
          by_cases g4 : 0 ≤ t
          · have d4 : decide (0 ≤ t) = true := decide_eq_true g4
            by_cases g5 : t ≤ 7
            · have d5 : decide (t ≤ 7) = true := decide_eq_true g5
              by_cases g6 : 0 ≤ r
              · have d6 : decide (0 ≤ r) = true := decide_eq_true g6
                by_cases g7 : r ≤ 31
                · have d7 : decide (r ≤ 31) = true := decide_eq_true g7
                  by_cases g8 : (h.size : Int) = 32
                  · have d8 : decide ((h.size : Int) = 32) = true := decide_eq_true g8
                    clear hb
                    go_enter Tryz.func37, Tryz.ntmps37
                    go_upto_region 1 with fail
                    rw [HW1.out]
                    go_wp2_with fail
                    go_ret
                    refine ⟨?_, HL1.out⟩
                    exact ret_bool (by simp [Rec.may, lev]; omega)
                  · have d8 : decide ((h.size : Int) = 32) = false := decide_eq_false g8
                    clear hb
                    go_enter Tryz.func37, Tryz.ntmps37
                    go_upto_region 1 with fail
                    rw [HW1.out]
                    go_wp2_with fail
                    go_ret
                    refine ⟨?_, HL1.out⟩
                    have z8 : ¬ h.size = 32 := by omega
                    exact ret_bool (by simp [Rec.may, lev, z8] <;> omega)
                · have d7 : decide (r ≤ 31) = false := decide_eq_false g7
                  clear hb
                  go_enter Tryz.func37, Tryz.ntmps37
                  go_upto_region 1 with fail
                  rw [HW1.out]
                  go_wp2_with fail
                  go_ret
                  refine ⟨?_, HL1.out⟩
                  exact ret_bool (by simp [Rec.may, lev]; omega)
              · have d6 : decide (0 ≤ r) = false := decide_eq_false g6
                clear hb
                go_enter Tryz.func37, Tryz.ntmps37
                go_upto_region 1 with fail
                rw [HW1.out]
                go_wp2_with fail
                go_ret
                refine ⟨?_, HL1.out⟩
                exact ret_bool (by simp [Rec.may, lev]; omega)
            · have d5 : decide (t ≤ 7) = false := decide_eq_false g5
              clear hb
              go_enter Tryz.func37, Tryz.ntmps37
              go_upto_region 1 with fail
              rw [HW1.out]
              go_wp2_with fail
              go_ret
              refine ⟨?_, HL1.out⟩
              exact ret_bool (by simp [Rec.may, lev]; omega)
          · have d4 : decide (0 ≤ t) = false := decide_eq_false g4
            clear hb
            go_enter Tryz.func37, Tryz.ntmps37
            go_upto_region 1 with fail
            rw [HW1.out]
            go_wp2_with fail
            go_ret
            refine ⟨?_, HL1.out⟩
            exact ret_bool (by simp [Rec.may, lev]; omega)
        · have d3 : decide (f ≤ 7) = false := decide_eq_false g3
          clear hb
          go_enter Tryz.func37, Tryz.ntmps37
          go_upto_region 1 with fail
          rw [HW1.out]
          go_wp2_with fail
          go_ret
          refine ⟨?_, HL1.out⟩
          exact ret_bool (by simp [Rec.may, lev]; omega)
      · have d2 : decide (0 ≤ f) = false := decide_eq_false g2
        clear hb
        go_enter Tryz.func37, Tryz.ntmps37
        go_upto_region 1 with fail
        rw [HW1.out]
        go_wp2_with fail
        go_ret
        refine ⟨?_, HL1.out⟩
        exact ret_bool (by simp [Rec.may, lev]; omega)
    · have d1 : decide (n ≤ 4611686018427387904) = false := decide_eq_false g1
      clear hb
      go_enter Tryz.func37, Tryz.ntmps37
      go_upto_region 1 with fail
      rw [HW1.out]
      go_wp2_with fail
      go_ret
      refine ⟨?_, HL1.out⟩
      exact ret_bool (by simp [Rec.may, lev]; omega)
  · have d0 : decide (1 ≤ n) = false := decide_eq_false g0
    clear hb
    go_enter Tryz.func37, Tryz.ntmps37
    go_upto_region 1 with fail
    rw [HW1.out]
    go_wp2_with fail
    go_ret
    refine ⟨?_, HL1.out⟩
    exact ret_bool (by simp [Rec.may, lev]; omega)
end Go.Proofs.YtkkjhdpkakdjmaaGreatDoor
/- The document's Number. -/
namespace Go.Proofs.YtkkjhdpkakdjmaaGreatDoor
open Go.RowKit PJ Go.Maps

theorem conv_one (W : World) (u : UInt8) : (convert 80 9 (.slice (some ⟨W.heap.size, 0, none⟩) 1 1)).run Tryz.prog (W.alloc (.cells #[.int .u8 (u.toNat : Int)] 5)) = .ok (.string ⟨#[u]⟩) (W.alloc (.cells #[.int .u8 (u.toNat : Int)] 5)) :=
  run_convert_bytes_back (W.alloc (.cells #[.int .u8 (u.toNat : Int)] 5)) 80 9 5 ⟨W.heap.size, 0, none⟩ 1 [u] Tryz.underlying80 Tryz.underlying5 Tryz.underlying9 (fun j hj => by
    refine cells_newJ W [.int .u8 (u.toNat : Int)] 5 j _ ?_
    have : j = 0 := by simpa using hj
    subst this
    rfl)
set_option maxRecDepth 100000 in
set_option maxHeartbeats 4000000 in
theorem lnumber_any (w : World) (n k : Nat) (hn : n ≤ 4611686018427387904) (hk : k ≤ 8) :
    Calls Tryz.prog 38 #[.int .i64 n, .int .i64 k] w fun e w' => e = .returned (.string ⟨(be n k).toArray⟩) ∧ LJ w w' := by
  have HN := Lib.hid hn
  clear hn
  go_enter Tryz.func38, Tryz.ntmps38
  go_wp2_with fail
  go_loopw [0, 5, 6] (fun v0 v5 v6 wr => ∃ (i m : Nat) (S : ByteArray), i ≤ k ∧ v6 = .int .i64 (i : Int) ∧ v0 = .int .i64 (m : Int) ∧ v5 = .string S ∧ Hid (m = n / 256 ^ i) ∧ Hid (S.data.toList = be n i) ∧ Hid (LJ w wr)) (fun _ _ v6 _ => k - (intOf v6).toNat)
  case atStart => exact ⟨0, n, ⟨#[]⟩, by omega, rfl, rfl, rfl, Lib.hid (by simp), Lib.hid rfl, Lib.hid (LJ.refl w)⟩
  case round =>
    obtain ⟨i, m, S, hi, rfl, rfl, rfl, HM, HS, HL⟩ := hrel
    by_cases hlt : i < k
    · have hik : (i : Int) < (k : Int) := by omega
      have hmn : m ≤ 4611686018427387904 := by
        have h1 := HM.out
        have h2 := HN.out
        have h3 := Nat.div_le_self n (256 ^ i)
        omega
      obtain ⟨c, hc⟩ : ∃ c : Int, ((UInt8.ofNat m).toNat : Int) = c := ⟨_, rfl⟩
      have hcm : ((m % 256 : Nat) : Int) = c := by rw [← hc, UInt8.toNat_ofNat']
      have htm : (m : Int).tmod 256 = c := by rw [← hcm, Int.tmod_eq_emod_of_nonneg (by omega)]; omega
      have htd : (m : Int).tdiv 256 = ((m / 256 : Nat) : Int) := by rw [Int.tdiv_eq_ediv_of_nonneg (by omega)]; omega
      have hc0 : 0 ≤ c ∧ c ≤ 255 := by omega
      have hw1 : IntKind.i64.wrap c = c := by rw [IntKind.wrap_i64]; omega
      have hw2 : IntKind.u8.wrap c = c := by rw [IntKind.wrap_u8]; omega
      obtain ⟨m2, hm2⟩ : ∃ m2, m / 256 = m2 := ⟨_, rfl⟩
      have hw3 : IntKind.i64.wrap (m2 : Int) = (m2 : Int) := by rw [IntKind.wrap_i64]; omega
      rw [hm2] at htd
      obtain ⟨wA, hwA⟩ : ∃ wA, wr.alloc (.cells #[.int .u8 c] 5) = wA := ⟨_, rfl⟩
      have hcv : (convert 80 9 (.slice (some ⟨wr.heap.size, 0, none⟩) 1 1)).run Tryz.prog wA = .ok (.string ⟨#[UInt8.ofNat m]⟩) wA := by
        have h1 := conv_one wr (UInt8.ofNat m)
        rw [hc, hwA] at h1
        exact h1
      obtain ⟨B1, hB1⟩ : ∃ B1 : ByteArray, (⟨#[UInt8.ofNat m]⟩ : ByteArray) = B1 := ⟨_, rfl⟩
      rw [hB1] at hcv
      obtain ⟨S2, hS2⟩ : ∃ S2 : ByteArray, B1 ++ S = S2 := ⟨_, rfl⟩
      have HS2 := Lib.hid (show S2.data.toList = be n (i + 1) from by
        rw [← hS2, app_data, ← hB1, HS.out]
        show UInt8.ofNat m :: be n i = UInt8.ofNat (n / 256 ^ i) :: be n i
        rw [HM.out])
      have hSs : S.size ≤ 8 := by
        have h1 : S.data.toList.length = S.size := by rw [Array.length_toList]; rfl
        rw [HS.out, be_len] at h1
        omega
      have hB1s : B1.size = 1 := by rw [← hB1]; rfl
      have hbig : ¬ 9223372036854775807 < B1.size + S.size := by omega
      have HM2 := Lib.hid (show m2 = n / 256 ^ (i + 1) from by rw [← hm2, HM.out, Nat.div_div_eq_div_mul, Nat.pow_succ])
      have HLA := Lib.hid (show LJ wr wA from by rw [← hwA]; exact (LJ.refl wr).alloc _)
      have HMN := Lib.hid hmn
      clear hmn hc hcm hm2 hB1 hlt hc0
      go_wp2_with fail
      go_roundw
      case rel => exact ⟨i + 1, m2, S2, by omega, by simp, rfl, rfl, HM2, HS2, Lib.hid (HL.out.trans HLA.out)⟩
      case measure => simp [intOf]; omega
    · have hik : ¬ (i : Int) < (k : Int) := by omega
      have hie : i = k := by omega
      have HR := Lib.hid (show (⟨(be n k).toArray⟩ : ByteArray) = S from by
        apply ByteArray.ext
        apply Array.toList_inj.1
        rw [HS.out, hie])
      clear hie
      go_wp2_with fail
      go_ret
      exact ⟨ret_str HR.out.symm, HL.out⟩
end Go.Proofs.YtkkjhdpkakdjmaaGreatDoor
/- The document's Bytes. -/
namespace Go.Proofs.YtkkjhdpkakdjmaaGreatDoor
open Go.RowKit PJ Go.Maps

theorem be_one (n : Nat) : be n 1 = [UInt8.ofNat n] := by simp [be]
set_option maxRecDepth 100000 in
set_option maxHeartbeats 8000000 in
theorem lbytes_yes (w : World) (n f t r : Int) (h : ByteArray) (hm : Rec.may ⟨n, f, t, r, h⟩ = true) : Calls Tryz.prog 8 #[.agg #[.int .i64 n, .int .i64 f, .int .i64 t, .int .i64 r, .string h]] w fun e w' => e = .returned (.tuple #[.string ⟨(Rec.bytes ⟨n, f, t, r, h⟩).toArray⟩, .int .i64 0]) ∧ LJ w w' := by
  obtain ⟨m1, m2, m3, m4, m5, m6⟩ := may_facts hm
  obtain ⟨B8, hB8⟩ : ∃ B : ByteArray, (⟨(be n.toNat 8).toArray⟩ : ByteArray) = B := ⟨_, rfl⟩
  obtain ⟨BF, hBF⟩ : ∃ B : ByteArray, (⟨(be f.toNat 1).toArray⟩ : ByteArray) = B := ⟨_, rfl⟩
  obtain ⟨BT, hBT⟩ : ∃ B : ByteArray, (⟨(be t.toNat 1).toArray⟩ : ByteArray) = B := ⟨_, rfl⟩
  obtain ⟨BR, hBR⟩ : ∃ B : ByteArray, (⟨(be r.toNat 1).toArray⟩ : ByteArray) = B := ⟨_, rfl⟩
  have H8 := Lib.hid (fun W => show Calls Tryz.prog 38 #[.int .i64 n, .int .i64 8] W fun e w' => e = .returned (.string B8) ∧ LJ W w' from by
    have h1 := lnumber_any W n.toNat 8 (by omega) (by omega)
    rw [show ((n.toNat : Nat) : Int) = n from by omega, hB8] at h1
    exact h1)
  have HF := Lib.hid (fun W => show Calls Tryz.prog 38 #[.int .i64 f, .int .i64 1] W fun e w' => e = .returned (.string BF) ∧ LJ W w' from by
    have h1 := lnumber_any W f.toNat 1 (by omega) (by omega)
    rw [show ((f.toNat : Nat) : Int) = f from by omega, hBF] at h1
    exact h1)
  have HT := Lib.hid (fun W => show Calls Tryz.prog 38 #[.int .i64 t, .int .i64 1] W fun e w' => e = .returned (.string BT) ∧ LJ W w' from by
    have h1 := lnumber_any W t.toNat 1 (by omega) (by omega)
    rw [show ((t.toNat : Nat) : Int) = t from by omega, hBT] at h1
    exact h1)
  have HR := Lib.hid (fun W => show Calls Tryz.prog 38 #[.int .i64 r, .int .i64 1] W fun e w' => e = .returned (.string BR) ∧ LJ W w' from by
    have h1 := lnumber_any W r.toNat 1 (by omega) (by omega)
    rw [show ((r.toNat : Nat) : Int) = r from by omega, hBR] at h1
    exact h1)
  have s8 : B8.size = 8 := by rw [← hB8]; show (be n.toNat 8).toArray.size = 8; simp [be_len]
  have sF : BF.size = 1 := by rw [← hBF]; rfl
  have sT : BT.size = 1 := by rw [← hBT]; rfl
  have sR : BR.size = 1 := by rw [← hBR]; rfl
  obtain ⟨C1, hC1⟩ : ∃ C, B8 ++ BF = C := ⟨_, rfl⟩
  obtain ⟨C2, hC2⟩ : ∃ C, C1 ++ BT = C := ⟨_, rfl⟩
  obtain ⟨C3, hC3⟩ : ∃ C, C2 ++ BR = C := ⟨_, rfl⟩
  obtain ⟨C4, hC4⟩ : ∃ C, C3 ++ h = C := ⟨_, rfl⟩
  have t1 : C1.size = 9 := by rw [← hC1, ByteArray.size_append]; omega
  have t2 : C2.size = 10 := by rw [← hC2, ByteArray.size_append]; omega
  have t3 : C3.size = 11 := by rw [← hC3, ByteArray.size_append]; omega
  have g1 : ¬ 9223372036854775807 < B8.size + BF.size := by omega
  have g2 : ¬ 9223372036854775807 < C1.size + BT.size := by omega
  have g3 : ¬ 9223372036854775807 < C2.size + BR.size := by omega
  have g4 : ¬ 9223372036854775807 < C3.size + h.size := by omega
  have HOUT := Lib.hid (show Ending.returned (.tuple #[.string C4, .int .i64 0]) = Ending.returned (.tuple #[.string ⟨(Rec.bytes ⟨n, f, t, r, h⟩).toArray⟩, .int .i64 0]) from by
    have e : C4 = ⟨(Rec.bytes ⟨n, f, t, r, h⟩).toArray⟩ := by
      apply ByteArray.ext
      apply Array.toList_inj.1
      rw [← hC4, ← hC3, ← hC2, ← hC1, app_data, app_data, app_data, app_data, ← hB8, ← hBF, ← hBT, ← hBR, be_one, be_one, be_one]
      simp [Rec.bytes]
    rw [e])
  have HMY := Lib.hid (fun W => lmay_any W n f t r h)
  rw [hm] at HMY
  obtain ⟨w1, hw1⟩ : ∃ w1, w.alloc (.cells #[.int .i64 n, .int .i64 f, .int .i64 t, .int .i64 r, .string h] 23) = w1 := ⟨_, rfl⟩
  obtain ⟨q, hq⟩ : ∃ q, w.heap.size = q := ⟨_, rfl⟩
  have HB1 := Lib.hid (show w1.heap[q]? = some (.cells #[.int .i64 n, .int .i64 f, .int .i64 t, .int .i64 r, .string h] 23 (0, 0)) from by rw [← hw1, ← hq]; exact alloc_blk w _)
  have HL1 := Lib.hid (show LJ w w1 from by rw [← hw1]; exact (LJ.refl w).alloc _)
  clear hm m1 m2 m3 m4 m5 m6 hB8 hBF hBT hBR s8 sF sT sR t1 t2 t3
  go_enter Tryz.func8, Tryz.ntmps8
  go_upto_region 1 with fail

  clear hq hw1
  go_upto_region 3 with (first
    | (refine wpList_load_row rfl 23 (.tmp 1) rfl q rfl 23 _ (0, 0) _ HB1.out Tryz.underlying23 rfl info_rec ?_)
    | (go_at_call 37; (with_reducible refine (HMY.out _).mono ?_); rintro e w2 ⟨rfl, hl2⟩; have HL12 := Lib.hid hl2; clear hl2)
    | fail)
  refine wp_region_held_drew (S := fun w' => w'.heap[q]? = some (.cells #[.int .i64 n, .int .i64 f, .int .i64 t, .int .i64 r, .string h] 23 (0, 0))) (by kernel_rfl) (HL12.out.block HB1.out) (fun hHeld => ?_)
  have hL := Lib.hid (HL1.out.trans HL12.out).drew
  refine tkS 0 hHeld ?_ (hy := by intro w hSw; have l0 := cell_blk hSw 0; have l1 := cell_blk hSw 1; have l2 := cell_blk hSw 2; have l3 := cell_blk hSw 3; have l4 := cell_blk hSw 4; go_simp; (try with_reducible rfl))
  refine tkS 1 hHeld ?_ (hy := by intro w hSw; have l0 := cell_blk hSw 0; have l1 := cell_blk hSw 1; have l2 := cell_blk hSw 2; have l3 := cell_blk hSw 3; have l4 := cell_blk hSw 4; go_simp; (try with_reducible rfl))
  refine tkS 3 hHeld ?_ (hy := by intro w hSw; have l0 := cell_blk hSw 0; have l1 := cell_blk hSw 1; have l2 := cell_blk hSw 2; have l3 := cell_blk hSw 3; have l4 := cell_blk hSw 4; go_simp; (try with_reducible rfl))
  refine tkS 4 hHeld ?_ (hy := by intro w hSw; have l0 := cell_blk hSw 0; have l1 := cell_blk hSw 1; have l2 := cell_blk hSw 2; have l3 := cell_blk hSw 3; have l4 := cell_blk hSw 4; go_simp; (try with_reducible rfl))
  refine tkS 7 hHeld ?_ (hy := by intro w hSw; have l0 := cell_blk hSw 0; have l1 := cell_blk hSw 1; have l2 := cell_blk hSw 2; have l3 := cell_blk hSw 3; have l4 := cell_blk hSw 4; go_simp; (try with_reducible rfl))
  refine tkS 8 hHeld ?_ (hy := by intro w hSw; have l0 := cell_blk hSw 0; have l1 := cell_blk hSw 1; have l2 := cell_blk hSw 2; have l3 := cell_blk hSw 3; have l4 := cell_blk hSw 4; go_simp; (try with_reducible rfl))
  refine tkS 11 hHeld ?_ (hy := by intro w hSw; have l0 := cell_blk hSw 0; have l1 := cell_blk hSw 1; have l2 := cell_blk hSw 2; have l3 := cell_blk hSw 3; have l4 := cell_blk hSw 4; go_simp; (try with_reducible rfl))
  refine tkS 12 hHeld ?_ (hy := by intro w hSw; have l0 := cell_blk hSw 0; have l1 := cell_blk hSw 1; have l2 := cell_blk hSw 2; have l3 := cell_blk hSw 3; have l4 := cell_blk hSw 4; go_simp; (try with_reducible rfl))
  refine tkS 15 hHeld ?_ (hy := by intro w hSw; have l0 := cell_blk hSw 0; have l1 := cell_blk hSw 1; have l2 := cell_blk hSw 2; have l3 := cell_blk hSw 3; have l4 := cell_blk hSw 4; go_simp; (try with_reducible rfl))
  refine tkS 16 hHeld ?_ (hy := by intro w hSw; have l0 := cell_blk hSw 0; have l1 := cell_blk hSw 1; have l2 := cell_blk hSw 2; have l3 := cell_blk hSw 3; have l4 := cell_blk hSw 4; go_simp; (try with_reducible rfl))
  refine wpAnyH_ready (rs := [2]) (by kernel_rfl) (by simp) ?_
  refine AllReadyH.cons rfl (fun K hK => ?_) (AllReadyH.nil)
  · go_simp
    (with_reducible refine (H8.out _).mono ?_); rintro e wx ⟨rfl, hx⟩
    have hS2 := hx.block hHeld
    have hL := Lib.hid (hL.out.trans hx)
    clear hx
    refine hK.out _ _ hS2 (fun hHeld => ?_)
    clear hK K hS2
    refine wpAnyH_ready (rs := [5]) (by kernel_rfl) (by simp) ?_
    refine AllReadyH.cons rfl (fun K hK => ?_) (AllReadyH.nil)
    · go_simp
      (with_reducible refine (HF.out _).mono ?_); rintro e wx ⟨rfl, hx⟩
      have hS2 := hx.block hHeld
      have hL := Lib.hid (hL.out.trans hx)
      clear hx
      refine hK.out _ _ hS2 (fun hHeld => ?_)
      clear hK K hS2
      refine tkS 6 hHeld ?_
      refine wpAnyH_ready (rs := [9]) (by kernel_rfl) (by simp) ?_
      refine AllReadyH.cons rfl (fun K hK => ?_) (AllReadyH.nil)
      · go_simp
        (with_reducible refine (HT.out _).mono ?_); rintro e wx ⟨rfl, hx⟩
        have hS2 := hx.block hHeld
        have hL := Lib.hid (hL.out.trans hx)
        clear hx
        refine hK.out _ _ hS2 (fun hHeld => ?_)
        clear hK K hS2
        refine tkS 10 hHeld ?_
        refine wpAnyH_ready (rs := [13]) (by kernel_rfl) (by simp) ?_
        refine AllReadyH.cons rfl (fun K hK => ?_) (AllReadyH.nil)
        · go_simp
          (with_reducible refine (HR.out _).mono ?_); rintro e wx ⟨rfl, hx⟩
          have hS2 := hx.block hHeld
          have hL := Lib.hid (hL.out.trans hx)
          clear hx
          refine hK.out _ _ hS2 (fun hHeld => ?_)
          clear hK K hS2
          refine tkS 14 hHeld ?_
          refine tkS 17 hHeld ?_
          refine tkS 18 hHeld ?_
          refine tkS 19 hHeld ?_
          refine wpAnyH_done (by kernel_rfl) ?_ _
          go_simp
          go_wp2_with fail
          go_ret2
          exact ⟨HOUT.out, hL.out⟩
end Go.Proofs.YtkkjhdpkakdjmaaGreatDoor
/- The document's Bytes at a record that may not be. -/
namespace Go.Proofs.YtkkjhdpkakdjmaaGreatDoor
open Go.RowKit PJ Go.Maps

set_option maxRecDepth 100000 in
set_option maxHeartbeats 4000000 in
theorem lbytes_no (w : World) (n f t r : Int) (h : ByteArray) (hm : Rec.may ⟨n, f, t, r, h⟩ = false) : Calls Tryz.prog 8 #[.agg #[.int .i64 n, .int .i64 f, .int .i64 t, .int .i64 r, .string h]] w fun e w' => e = .returned (.tuple #[.string ⟨#[]⟩, .int .i64 210]) ∧ LJ w w' := by
  have HMY := Lib.hid (fun W => lmay_any W n f t r h)
  rw [hm] at HMY
  obtain ⟨w1, hw1⟩ : ∃ w1, w.alloc (.cells #[.int .i64 n, .int .i64 f, .int .i64 t, .int .i64 r, .string h] 23) = w1 := ⟨_, rfl⟩
  obtain ⟨q, hq⟩ : ∃ q, w.heap.size = q := ⟨_, rfl⟩
  have HB1 := Lib.hid (show w1.heap[q]? = some (.cells #[.int .i64 n, .int .i64 f, .int .i64 t, .int .i64 r, .string h] 23 (0, 0)) from by rw [← hw1, ← hq]; exact alloc_blk w _)
  have HL1 := Lib.hid (show LJ w w1 from by rw [← hw1]; exact (LJ.refl w).alloc _)
  clear hm
  go_enter Tryz.func8, Tryz.ntmps8
  go_upto_region 1 with fail
  clear hq hw1
  go_wp2_with (first
    | (refine wpList_load_row rfl 23 (.tmp 1) rfl q rfl 23 _ (0, 0) _ HB1.out Tryz.underlying23 rfl info_rec ?_)
    | (go_at_call 37; (with_reducible refine (HMY.out _).mono ?_); rintro e w2 ⟨rfl, hl2⟩; have HL12 := Lib.hid hl2; clear hl2)
    | fail)
  go_ret2
  exact ⟨rfl, HL1.out.trans HL12.out⟩
end Go.Proofs.YtkkjhdpkakdjmaaGreatDoor
/- The law's record. -/
namespace Go.Proofs.YtkkjhdpkakdjmaaGreatDoor
open Go.RowKit PJ Go.Maps

theorem slice_to (W : World) (D : ByteArray) (hi : Nat) (h2 : hi ≤ D.size) : (Instr.slice 9 (.string D) none (some (.int .i64 (hi : Int))) none).run Tryz.prog W = .ok (.string (D.extract 0 hi)) W := by
  have := run_slice_string_h (P := Tryz.prog) W 9 D Tryz.underlying9 .i64 (hi : Int) (by omega) (by omega)
  rw [Int.toNat_natCast] at this
  exact this
/-- Texts in memory. -/
def TextsAt (w : World) (a : Option Addr) (n : Nat) (ss : List ByteArray) : Prop :=
  ss.length = n ∧ n ≤ 140737488355328 ∧ (∀ s ∈ ss, s.size ≤ 140737488355328) ∧ (n = 0 ∨ ∃ b o, a = some ⟨b, o, none⟩ ∧ b < w.heap.size ∧ ∀ i s, ss[i]? = some s → w.cell? ⟨b, o + i, none⟩ = some (.string s))
/-- The digest of the law's records. -/
def digR (s : ByteArray) : ByteArray := (s ++ ⟨(zs 32).toArray⟩).extract 0 32
theorem digR_size (s : ByteArray) : (digR s).size = 32 := by
  have : (⟨(zs 32).toArray⟩ : ByteArray).size = 32 := by show (zs 32).toArray.size = 32; simp [zs]
  unfold digR
  rw [ByteArray.size_extract, ByteArray.size_append, this]
  omega
/-- The law's record. -/
def recR (n : Int) (s : ByteArray) : Rec := ⟨n, 1, 0, n, digR s⟩
theorem recR_may {n : Int} (s : ByteArray) (h1 : 1 ≤ n) (h2 : n < 32) : (recR n s).may = true := by
  have h3 : n ≤ 4611686018427387904 := by omega
  have h4 : (0 : Int) ≤ n := by omega
  have h5 : (digR s).size = 32 := digR_size s
  unfold recR Rec.may lev
  simp only [decide_eq_true h1, decide_eq_true h2, decide_eq_true h3, decide_eq_true h4, decide_eq_true h5]
  rfl
set_option maxRecDepth 100000 in
set_option maxHeartbeats 4000000 in
theorem lrecord_any (w : World) (n : Int) (hn : 0 ≤ n ∧ n < 32) (s : ByteArray) (hs : s.size ≤ 140737488355328) : Calls Tryz.prog 28 #[.int .i64 n, .string s] w fun e w' => e = .returned (.agg #[.int .i64 n, .int .i64 1, .int .i64 0, .int .i64 n, .string (digR s)]) ∧ LJ w w' := by
  obtain ⟨Z, hZ⟩ : ∃ Z : ByteArray, (⟨(zs 32).toArray⟩ : ByteArray) = Z := ⟨_, rfl⟩
  have hZs : Z.size = 32 := by rw [← hZ]; show (zs 32).toArray.size = 32; simp [zs]
  obtain ⟨C, hC⟩ : ∃ C, s ++ Z = C := ⟨_, rfl⟩
  have hCs : C.size = s.size + 32 := by rw [← hC, ByteArray.size_append, hZs]
  obtain ⟨H, hH⟩ : ∃ H : ByteArray, C.extract 0 32 = H := ⟨_, rfl⟩
  have HD := Lib.hid (show digR s = H from by unfold digR; rw [hZ, hC, hH])
  have HN := Lib.hid (fun W => show Calls Tryz.prog 11 #[.int .i64 32] W fun e w' => e = .returned (.string Z) ∧ LJ W w' from by rw [← hZ]; exact lnoughts_any W 32 (by omega))
  have hsl : ∀ W : World, (Instr.slice 9 (.string C) none (some (.int .i64 32)) none).run Tryz.prog W = .ok (.string H) W := fun W => by
    have h1 := slice_to W C 32 (by omega)
    rw [hH] at h1
    exact h1
  have hbig : ¬ 9223372036854775807 < s.size + Z.size := by omega
  have htm : n.tmod 32 = n := by rw [Int.tmod_eq_emod_of_nonneg hn.1]; omega
  have hwr : IntKind.i64.wrap n = n := by rw [IntKind.wrap_i64]; omega
  obtain ⟨w1, hw1⟩ : ∃ w1, w.alloc (.cells #[.int .i64 0, .int .i64 0, .int .i64 0, .int .i64 0, .string ⟨#[]⟩] 23) = w1 := ⟨_, rfl⟩
  obtain ⟨q, hq⟩ : ∃ q, w.heap.size = q := ⟨_, rfl⟩
  have HB1 := Lib.hid (show w1.heap[q]? = some (.cells #[.int .i64 0, .int .i64 0, .int .i64 0, .int .i64 0, .string ⟨#[]⟩] 23 (0, 0)) from by rw [← hw1, ← hq]; exact alloc_blk w _)
  have HL1 := Lib.hid (show LJ w w1 from by rw [← hw1]; exact (LJ.refl w).alloc _)
  have HW1 := Lib.hid hw1
  have HQ := Lib.hid hq
  rw [HD.out]
  clear hZ hH hs hn hCs hw1 hZs
  go_enter Tryz.func28, Tryz.ntmps28
  go_upto_region 1 with fail
  rw [HW1.out]
  clear hq
  go_wp2_with (first
    | (go_at_call 11; (with_reducible refine (HN.out _).mono ?_); rintro e w2 ⟨rfl, hl2⟩; have HL2 := Lib.hid hl2; clear hl2)
    | (refine wpList_store_row rfl 23 (.tmp 4) (.tmp 12) rfl q #[.int .i64 n, .int .i64 1, .int .i64 0, .int .i64 n, .string H] rfl rfl 23 _ (HL2.out.block HB1.out) info_rec rfl (by simp [Value.oneCell']) ?_)
    | fail)
  have HL12 := Lib.hid (HL1.out.trans HL2.out)
  refine bodyPost_ret (results_cell_row rfl _ _ q 23 #[.int .i64 n, .int .i64 1, .int .i64 0, .int .i64 n, .string H] (0, 0) _ rfl (setRow_heap' w2 q _ _ _ (HL2.out.block HB1.out)) Tryz.underlying23 rfl info_rec) rfl ?_
  exact ⟨rfl, lj_only HL12.out (setRow_only _ _ _) (fun k hk => by have h2 := HQ.out; show w.heap.size ≤ k; rw [h2]; exact Nat.le_of_eq hk.symm)⟩
end Go.Proofs.YtkkjhdpkakdjmaaGreatDoor
