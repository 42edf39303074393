/- The walk of JournalReads. -/
import Derived.Test.YtjgkhdanhglgeaaGreatDoorJg20
set_option linter.unusedSimpArgs false
set_option linter.unusedVariables false
namespace Go.Proofs.YtjgkhdanhglgeaaGreatDoor
open Go.RowKit PJ Go.Maps

theorem laid_no (w : World) (n : Nat) (h1 : 1 ≤ n) (h60 : n ≤ 60) (area : Int) (h : ¬ (4 ≤ area ∧ area < n)) : Calls Tryz.prog 8 #[.int .i64 n, .int .i64 area] w fun e w' => ∃ p, e = .returned (.tuple #[.pointer (some ⟨p, 0, none⟩), .pointer none, .int .i64 160]) ∧ LJ w w' :=
  laid_any w n h1 h60 area _ (fun _ _ _ h => h) (fun k hk h4 h8 _ _ _ => absurd ⟨by omega, by omega⟩ h)
theorem laid_yes (w : World) (n : Nat) (h60 : n ≤ 60) (k : Nat) (h4 : 4 ≤ k) (hk : k < n) : Calls Tryz.prog 8 #[.int .i64 n, .int .i64 k] w fun e w' => ∃ p b jb, e = .returned (.tuple #[.pointer (some ⟨p, 0, none⟩), .pointer (some ⟨jb, 0, none⟩), .int .i64 0]) ∧ JK w w' (fun _ => False) p b jb (J0 n k) := by
  refine laid_any w n (by omega) h60 k _ (fun h => absurd ⟨by omega, by omega⟩ h) (fun k' hk' h4 h8 e w' h => ?_)
  obtain ⟨p, b, jb, rfl, hj, hl⟩ := h
  have : k' = k := by omega
  subst this
  exact ⟨p, b, jb, rfl, since w w', hj, fun q hq => hq.1, fun q hq => hq.elim, hl⟩
theorem blocks_of (B : Int) : ∃ n : Nat, 1 + B % 60 = (n : Int) ∧ 1 ≤ n ∧ n ≤ 60 ∧ IntKind.i64.wrap (1 + B % 60) = (n : Int) := by
  refine ⟨(1 + B % 60).toNat, by omega, by omega, by omega, ?_⟩
  rw [IntKind.wrap_i64]
  omega
set_option maxRecDepth 100000 in
set_option maxHeartbeats 4000000 in
theorem jreads_any (w : World) (B A C : Int) (hB : -9223372036854775808 ≤ B ∧ B ≤ 9223372036854775807) (hA : -9223372036854775808 ≤ A ∧ A ≤ 9223372036854775807) (da : Option Addr) (N dcap : Nat) (hD : DeedsAt w da N dcap) :
    Calls Tryz.prog 3 #[.agg #[.int .i64 B, .int .i64 A, .int .i64 C], .slice da N dcap] w fun e w' => e = .returned (.bool true) ∧ LJ w w' := by
  obtain ⟨w1, hw1⟩ : ∃ w1, w.alloc (.cells #[.int .i64 B, .int .i64 A, .int .i64 C] 23) = w1 := ⟨_, rfl⟩
  have hl1 : LJ w w1 := by rw [← hw1]; exact (LJ.refl w).alloc _
  have hb1 : w1.heap[w.heap.size]? = some (.cells #[.int .i64 B, .int .i64 A, .int .i64 C] 23 (0, 0)) := by rw [← hw1]; exact alloc_blk w _
  have HX0 := Lib.hid (fun W (hW : LJ w1 W) => LJ.cell hW (cell_blk hb1 0))
  have HX1 := Lib.hid (fun W (hW : LJ w1 W) => show W.cell? ⟨w.heap.size, 1, none⟩ = some (.int .i64 A) from LJ.cell hW (cell_blk hb1 1))
  have x0 : w1.cell? ⟨w.heap.size, 0, none⟩ = some (.int .i64 B) := cell_blk hb1 0
  have x1 : w1.cell? ⟨w.heap.size, 1, none⟩ = some (.int .i64 A) := cell_blk hb1 1
  have HW1 := Lib.hid hw1
  have HL1 := Lib.hid hl1
  have HD1 := Lib.hid (hD.later hl1)
  obtain ⟨n, hn, hn1, hn60, hnw⟩ := blocks_of B
  have HPL := Lib.hid (place_any w1 B hB)
  have HFX := Lib.hid (fun W => jfixed_any W)
  clear hw1 hl1 hb1 hD hB hn
  by_cases hyes : 4 ≤ A ∧ A < n
  · obtain ⟨k, rfl⟩ := Int.eq_ofNat_of_zero_le (show 0 ≤ A by omega)
    obtain ⟨h4, hkn⟩ : 4 ≤ k ∧ k < n := by omega
    have HLA := Lib.hid (laid_yes w1 n hn60 k h4 hkn)
    obtain ⟨m, hm⟩ : ∃ m, n - k = m := ⟨_, rfl⟩
    have hm1 : 1 ≤ m := by omega
    have hm60 : m ≤ 60 := by omega
    have hmw : IntKind.i64.wrap ((n : Int) - (k : Int)) = (m : Int) := by rw [IntKind.wrap_i64]; omega
    have HM := Lib.hid hm
    have HKN := Lib.hid (And.intro h4 hkn)
    clear hA hyes hm h4 hkn
    go_enter Tryz.func3, Tryz.ntmps3
    go_upto_region 1 with fail
    rw [HW1.out]
    go_upto_region 5 with (first
      | (go_at_call 7; (with_reducible refine HPL.out.mono ?_); rintro e wp ⟨rfl, hwp⟩; subst hwp)
      | (go_at_call 8; (with_reducible refine HLA.out.mono ?_); rintro e w2 ⟨p, b, jb, rfl, hk2⟩; have HK2 := Lib.hid hk2; clear hk2)
      | fail)
    have hr := k_reads HK2.out (show n ≤ 60 from hn60)
    rw [show (J0 n k).n - (J0 n k).area = m from HM.out] at hr
    have HR := Lib.hid hr
    clear hr
    go_upto_region 6 with (first
      | (go_at_call 10; (with_reducible refine HR.out.mono ?_); rintro e w3 ⟨g0, cap0, rfl, hg0, hc0, hs0, hk3, -⟩
         have y1 := HX1.out w3 hk3.lj
         have HS3 := Lib.hid hs0
         have HK3 := Lib.hid hk3
         clear hs0 hk3)
      | fail)
    obtain ⟨hDc, hDn, hDD⟩ := HD1.out
    have HDN := Lib.hid hDn
    have HDD := Lib.hid hDD
    clear hDn hDD HD1
    go_wp2_with fail
    go_loopw [9, 11] (fun v9 v11 wr => ∃ (i : Nat) (J : Jn) (g cap : Nat), i ≤ N ∧ v11 = .int .i64 (i : Int) ∧ v9 = .slice (some ⟨g, 0, none⟩) m cap ∧ m ≤ cap ∧ Hid (JK w1 wr (fun q => q = g) p b jb J) ∧ Hid (SCells wr g J.read) ∧ Hid (Carry n k i J)) (fun _ v11 _ => N - (intOf v11).toNat)
    case atStart =>
      exact ⟨0, J0 n k, g0, cap0, by omega, rfl, rfl, hc0, Lib.hid (HK3.out.less (fun q hq => .inr hq)), HS3, Lib.hid ⟨rfl, rfl, by show 1 ≤ 1 + 0; omega, by show 2 ≤ 2 + 0; omega⟩⟩
    case round =>
      obtain ⟨i, J, g, cap, hi, rfl, rfl, hcap, HK, HS, HC⟩ := hrel
      have hmJ : J.n - J.area = m := by rw [HC.out.n, HC.out.area]; exact HM.out
      have HMJ := Lib.hid hmJ
      clear hmJ
      by_cases hlt : i < N
      · have hili : (i : Int) < (N : Int) := by omega
        have hwi : IntKind.i64.wrap ((i : Int) + 1) = (i : Int) + 1 := by have := HDN.out; rw [IntKind.wrap_i64]; omega
        obtain ⟨hhd, hnx⟩ := HC.out.small (by have := HDN.out; omega)
        have hwn : IntKind.i64.wrap ((J.next : Int) + 1) = (J.next : Int) + 1 := by rw [IntKind.wrap_i64]; omega
        have hnn : ((J.next : Int) != (J.next : Int)) = false := by simp
        rcases HDD.out with h0 | ⟨gd, od, rfl, hc⟩
        · omega
        obtain ⟨lv, l, hlv, hld, hsz⟩ := hc i hlt
        obtain ⟨la, lc, rfl, -, -, -⟩ := id hld
        have HLV := Lib.hid (fun W (hW : LJ w1 W) => LJ.cell hW hlv)
        have k0 := HLV.out wr HK.out.lj
        have HLD := Lib.hid hld
        have HSZ := Lib.hid hsz
        have HRD := Lib.hid (deed_read HK.out.ok hhd (Nat.le_of_lt hnx) l)
        obtain ⟨dn1, dn2⟩ := deed_next J l
        have HDN1 := Lib.hid dn1
        have HDN2 := Lib.hid dn2
        have HNX := Lib.hid (k_next HK.out)
        have HBD := Lib.hid (And.intro hhd hnx)
        clear hc hlv hld hsz dn1 dn2 hhd hnx
        go_upto_region 12 with (first
          | (go_at_call 11; (with_reducible refine HNX.out.mono ?_); rintro e w4 ⟨rfl, hk4, hkp4⟩
             have k4 := HLV.out w4 hk4.lj
             have HK4 := Lib.hid hk4; have HP4 := Lib.hid hkp4; clear hk4 hkp4)
          | fail)
        have HCM := Lib.hid (k_commit HK4.out HBD.out.1 HBD.out.2 _ l HLD.out HSZ.out)
        obtain ⟨L, hL⟩ : ∃ L, l.length = L := ⟨_, rfl⟩
        rw [hL] at k0 k4 HCM HLV HLD
        -- ROUND
        have HCD := Lib.hid (HC.out.deed l)
        obtain ⟨RM, hRM⟩ : ∃ RM, (J.deed l).room = RM := ⟨_, rfl⟩
        obtain ⟨MO, hMO⟩ : ∃ MO, (J.deed l).most = MO := ⟨_, rfl⟩
        by_cases hE : deedE J l = 0
        · rw [hE] at HCM
          go_upto_region 14 with (first
            | (go_at_call 12; (with_reducible refine HCM.out.mono ?_); rintro e w5 ⟨rfl, hk5, hp5⟩
               have k5 := HLV.out w5 hk5.lj
               have HK5 := Lib.hid hk5; have HP5 := Lib.hid hp5; clear hk5 hp5)
            | fail)
          have hle := room_most HK5.out.ok
          rw [hRM, hMO] at hle
          have HRO := Lib.hid hRM
          have HMS := Lib.hid hMO
          have gr1 : decide ((RM : Int) < 0) = false := by simp
          have gr2 : decide ((MO : Int) < (RM : Int)) = false := by simp; omega
          have HBH := Lib.hid (k_behind HK5.out J.read g cap m (by rw [read_len]; exact HMJ.out) hm1 hm60 hcap (HS.out.kept ((HP4.out.trans HP5.out) g rfl)) _ l HLD.out)
          go_upto_region 15 with (first
            | (go_at_call 13; (with_reducible refine HBH.out.mono ?_); rintro e w6 ⟨g2, cap2, rfl, hg2, hc2, hs6, hk6, -⟩
               have k6 := HLV.out w6 hk6.lj
               rw [← (show (J.deed l).read = behindL J.read l from by rw [HRD.out, if_pos hE])] at hs6
               have HK6 := Lib.hid hk6; have HS6 := Lib.hid hs6; clear hk6 hs6)
            | fail)
          by_cases hl0 : l = []
          · have hL0 : L = 0 := by rw [← hL, hl0]; rfl
            clear hl0 hL
            subst hL0
            have HRM1 := Lib.hid (k_room HK6.out)
            go_upto_region 17 with (first
              | (go_at_call 14; (with_reducible refine HRM1.out.mono ?_); rintro e w8 ⟨rfl, hk8, hp8⟩; have HRM2 := Lib.hid (k_room hk8); have HP8 := Lib.hid hp8; clear hk8 hp8)
              | (go_at_call 14; (with_reducible refine HRM2.out.mono ?_); rintro e w9 ⟨rfl, hk9, hp9⟩; have HMO := Lib.hid (k_most hk9); have HP9 := Lib.hid hp9; clear hk9 hp9)
              | (go_at_call 15; (with_reducible refine HMO.out.mono ?_); rintro e wm ⟨rfl, hkm, hpm⟩; have HKM := Lib.hid hkm; have HPM := Lib.hid hpm; clear hkm hpm)
              | fail)
            have hsm := (HS6.out).kept ((HP8.out.trans (HP9.out.trans HPM.out)) g2 (.inr rfl))
            have HSM := Lib.hid hsm
            have hr := k_reads HKM.out (by rw [HCD.out.n]; exact hn60)
            rw [show (J.deed l).n - (J.deed l).area = m from by rw [HCD.out.n, HCD.out.area]; exact HM.out] at hr
            have HR2 := Lib.hid hr
            clear hr hsm
            go_wp2_with (first
              | (go_at_call 10; (with_reducible refine HR2.out.mono ?_); rintro e wq ⟨g3, cap3, rfl, hg3, hc3, hs3, hkq, hpq⟩
                 have HSA := Lib.hid (same_any wq g3 g2 cap3 cap2 m (J.deed l).read (by rw [read_len, HCD.out.n, HCD.out.area]; exact HM.out) hs3 (HSM.out.kept (hpq g2 (.inr rfl))) (by omega) hc3 (by omega))
                 have HSQ := Lib.hid (HSM.out.kept (hpq g2 (.inr rfl)))
                 have HKQ := Lib.hid hkq
                 clear hs3 hkq hpq)
              | (go_at_call 16; (with_reducible refine HSA.out.mono ?_); rintro e wz ⟨rfl, kz, rfl⟩)
              | fail)
            go_roundw
            case rel =>
              exact ⟨i + 1, J.deed l, g2, cap2, by omega, by simp, rfl, by omega, Lib.hid ((HKQ.out.later ((LJ.refl _).drewN kz)).less (fun q hq => by obtain rfl : q = g2 := hq; exact .inl (.inr rfl))), Lib.hid (HSQ.out.kept rfl), HCD⟩
            case measure => simp [intOf]; omega
          · have hL1 : 1 ≤ L := by rw [← hL]; cases l with | nil => exact absurd rfl hl0 | cons _ _ => simp
            have gl : decide (0 < (L : Int)) = true := by simp; omega
            have gl' : decide (0 < L) = true := by simp; omega
            have hnx2 := k_next HK6.out
            rw [HDN2.out hE hl0] at hnx2
            have hpc : ((J.next + 1 : Nat) : Int) = (J.next : Int) + 1 := by omega
            rw [hpc] at hnx2
            have HNX2 := Lib.hid hnx2
            clear hnx2 hpc
            go_upto_region 17 with (first
              | (go_at_call 11; (with_reducible refine HNX2.out.mono ?_); rintro e w7 ⟨rfl, hk7, hp7⟩; have HRM1 := Lib.hid (k_room hk7); have HP7 := Lib.hid hp7; clear hk7 hp7)
              | (go_at_call 14; (with_reducible refine HRM1.out.mono ?_); rintro e w8 ⟨rfl, hk8, hp8⟩; have HRM2 := Lib.hid (k_room hk8); have HP8 := Lib.hid hp8; clear hk8 hp8)
              | (go_at_call 14; (with_reducible refine HRM2.out.mono ?_); rintro e w9 ⟨rfl, hk9, hp9⟩; have HMO := Lib.hid (k_most hk9); have HP9 := Lib.hid hp9; clear hk9 hp9)
              | (go_at_call 15; (with_reducible refine HMO.out.mono ?_); rintro e wm ⟨rfl, hkm, hpm⟩; have HKM := Lib.hid hkm; have HPM := Lib.hid hpm; clear hkm hpm)
              | fail)
            have hsm := (HS6.out).kept ((HP7.out.trans (HP8.out.trans (HP9.out.trans HPM.out))) g2 (.inr rfl))
            have HSM := Lib.hid hsm
            have hr := k_reads HKM.out (by rw [HCD.out.n]; exact hn60)
            rw [show (J.deed l).n - (J.deed l).area = m from by rw [HCD.out.n, HCD.out.area]; exact HM.out] at hr
            have HR2 := Lib.hid hr
            clear hr hsm
            go_wp2_with (first
              | (go_at_call 10; (with_reducible refine HR2.out.mono ?_); rintro e wq ⟨g3, cap3, rfl, hg3, hc3, hs3, hkq, hpq⟩
                 have HSA := Lib.hid (same_any wq g3 g2 cap3 cap2 m (J.deed l).read (by rw [read_len, HCD.out.n, HCD.out.area]; exact HM.out) hs3 (HSM.out.kept (hpq g2 (.inr rfl))) (by omega) hc3 (by omega))
                 have HSQ := Lib.hid (HSM.out.kept (hpq g2 (.inr rfl)))
                 have HKQ := Lib.hid hkq
                 clear hs3 hkq hpq)
              | (go_at_call 16; (with_reducible refine HSA.out.mono ?_); rintro e wz ⟨rfl, kz, rfl⟩)
              | fail)
            go_roundw
            case rel =>
              exact ⟨i + 1, J.deed l, g2, cap2, by omega, by simp, rfl, by omega, Lib.hid ((HKQ.out.later ((LJ.refl _).drewN kz)).less (fun q hq => by obtain rfl : q = g2 := hq; exact .inl (.inr rfl))), Lib.hid (HSQ.out.kept rfl), HCD⟩
            case measure => simp [intOf]; omega
        · obtain ⟨E, hEE⟩ : ∃ E, deedE J l = E := ⟨_, rfl⟩
          have hr3 := deed_range J l
          rw [hEE] at HCM hr3
          have ge : (E == 0) = false := by simp; omega
          have ge2 : (E != 0) = true := by simp; omega
          have hEw : E = 161 ∨ E = 162 := by omega
          have HE := Lib.hid hEE
          clear hEE hr3
          go_upto_region 13 with (first
            | (go_at_call 12; (with_reducible refine HCM.out.mono ?_); rintro e w5 ⟨rfl, hk5, hp5⟩
               have k5 := HLV.out w5 hk5.lj
               have HK5 := Lib.hid hk5; have HP5 := Lib.hid hp5; clear hk5 hp5)
            | fail)
          have hle := room_most HK5.out.ok
          rw [hRM, hMO] at hle
          have HRO := Lib.hid hRM
          have HMS := Lib.hid hMO
          have gr1 : decide ((RM : Int) < 0) = false := by simp
          have gr2 : decide ((MO : Int) < (RM : Int)) = false := by simp; omega
          have hnx2 := k_next HK5.out
          rw [HDN1.out hE] at hnx2
          have HNX2 := Lib.hid hnx2
          clear hnx2
          go_upto_region 17 with (first
            | (go_at_call 11; (with_reducible refine HNX2.out.mono ?_); rintro e w7 ⟨rfl, hk7, hp7⟩; have HRM1 := Lib.hid (k_room hk7); have HP7 := Lib.hid hp7; clear hk7 hp7)
            | (go_at_call 14; (with_reducible refine HRM1.out.mono ?_); rintro e w8 ⟨rfl, hk8, hp8⟩; have HRM2 := Lib.hid (k_room hk8); have HP8 := Lib.hid hp8; clear hk8 hp8)
            | (go_at_call 14; (with_reducible refine HRM2.out.mono ?_); rintro e w9 ⟨rfl, hk9, hp9⟩; have HMO := Lib.hid (k_most hk9); have HP9 := Lib.hid hp9; clear hk9 hp9)
            | (go_at_call 15; (with_reducible refine HMO.out.mono ?_); rintro e wm ⟨rfl, hkm, hpm⟩; have HKM := Lib.hid hkm; have HPM := Lib.hid hpm; clear hkm hpm)
            | fail)
          have hsm := (show SCells w5 g (J.deed l).read from by rw [HRD.out, if_neg hE]; exact HS.out.kept ((HP4.out.trans HP5.out) g rfl)).kept ((HP7.out.trans (HP8.out.trans (HP9.out.trans HPM.out))) g rfl)
          have HSM := Lib.hid hsm
          have hr := k_reads HKM.out (by rw [HCD.out.n]; exact hn60)
          rw [show (J.deed l).n - (J.deed l).area = m from by rw [HCD.out.n, HCD.out.area]; exact HM.out] at hr
          have HR2 := Lib.hid hr
          clear hr hsm
          go_wp2_with (first
            | (go_at_call 10; (with_reducible refine HR2.out.mono ?_); rintro e wq ⟨g3, cap3, rfl, hg3, hc3, hs3, hkq, hpq⟩
               have HSA := Lib.hid (same_any wq g3 g cap3 cap m (J.deed l).read (by rw [read_len, HCD.out.n, HCD.out.area]; exact HM.out) hs3 (HSM.out.kept (hpq g rfl)) (by omega) hc3 (by omega))
               have HSQ := Lib.hid (HSM.out.kept (hpq g rfl))
               have HKQ := Lib.hid hkq
               clear hs3 hkq hpq)
            | (go_at_call 16; (with_reducible refine HSA.out.mono ?_); rintro e wz ⟨rfl, kz, rfl⟩)
            | fail)
          go_roundw
          case rel =>
            exact ⟨i + 1, J.deed l, g, cap, by omega, by simp, rfl, by omega, Lib.hid ((HKQ.out.later ((LJ.refl _).drewN kz)).less (fun q hq => by obtain rfl : q = g := hq; exact .inl rfl)), Lib.hid (HSQ.out.kept rfl), HCD⟩
          case measure => simp [intOf]; omega
        -- END ROUND
      · have hie : i = N := by omega
        subst hie
        have hcl := k_cells HK.out
        have ho := k_out HK.out (-1) (.inl (by omega))
        rw [HMJ.out] at hcl
        have HCL := Lib.hid hcl
        have HO1 := Lib.hid ho
        clear hcl ho
        go_upto_region 21 with (first
          | (go_at_call 17; (with_reducible refine HO1.out.mono ?_); rintro e w4 ⟨rfl, hk4, -⟩; have HK4 := Lib.hid hk4; clear hk4)
          | fail)
        have hcl := k_cells HK4.out
        rw [HMJ.out] at hcl
        have HCL := Lib.hid hcl
        clear hcl
        go_wp2_with (first
          | (go_at_call 18; (with_reducible refine HCL.out.mono ?_); rintro e w5 ⟨rfl, hk5, -⟩
             have HO2 := Lib.hid (k_out hk5 (m : Int) (.inr (by rw [HMJ.out]))); clear hk5)
          | (go_at_call 17; (with_reducible refine HO2.out.mono ?_); rintro e w6 ⟨rfl, hk6, -⟩; have HK6 := Lib.hid hk6; clear hk6)
          | (go_at_call 9; (with_reducible refine (HFX.out _).mono ?_); rintro e w7 ⟨rfl, hl7⟩; have HL7 := Lib.hid hl7; clear hl7)
          | fail)
        go_ret
        exact ⟨rfl, HL1.out.trans (HK6.out.lj.trans HL7.out)⟩
  · have HLA := Lib.hid (laid_no w1 n hn1 hn60 A hyes)
    go_enter Tryz.func3, Tryz.ntmps3
    go_upto_region 1 with fail
    rw [HW1.out]
    rcases Int.lt_or_le A 4 with h4 | h4
    · have g1 : decide (A < 4) = true := by simp; omega
      go_wp2_with (first
        | (go_at_call 7; (with_reducible refine HPL.out.mono ?_); rintro e wp ⟨rfl, hwp⟩; subst hwp)
        | (go_at_call 8; (with_reducible refine HLA.out.mono ?_); rintro e w2 ⟨p, rfl, hl2⟩; have y1 := HX1.out w2 hl2; have HL2 := Lib.hid hl2; clear hl2)
        | (go_at_call 9; (with_reducible refine (HFX.out _).mono ?_); rintro e w3 ⟨rfl, hl3⟩; have HL3 := Lib.hid hl3; clear hl3)
        | fail)
      go_ret
      exact ⟨rfl, HL1.out.trans (HL2.out.trans HL3.out)⟩
    · have g1 : decide (A < 4) = false := by simp; omega
      have g2 : decide ((n : Int) ≤ A) = true := by simp; omega
      go_wp2_with (first
        | (go_at_call 7; (with_reducible refine HPL.out.mono ?_); rintro e wp ⟨rfl, hwp⟩; subst hwp)
        | (go_at_call 8; (with_reducible refine HLA.out.mono ?_); rintro e w2 ⟨p, rfl, hl2⟩; have y1 := HX1.out w2 hl2; have HL2 := Lib.hid hl2; clear hl2)
        | (go_at_call 9; (with_reducible refine (HFX.out _).mono ?_); rintro e w3 ⟨rfl, hl3⟩; have HL3 := Lib.hid hl3; clear hl3)
        | fail)
      go_ret
      exact ⟨rfl, HL1.out.trans (HL2.out.trans HL3.out)⟩
end Go.Proofs.YtjgkhdanhglgeaaGreatDoor
