/- The walk of JournalStays. -/
import Derived.Test.YtjgkhdanhglgeaaGreatDoorJ75
set_option linter.unusedSimpArgs false
set_option linter.unusedVariables false
namespace Go.Proofs.YtjgkhdanhglgeaaGreatDoor
open Go.RowKit PJ Go.Maps

theorem JK.same {w W : World} {K : Nat → Prop} {p b jb : Nat} {J : Jn} (h : JK w W K p b jb J) (hf : J.first = J.next) : ∀ i, i < J.n → J.S i = J.V i := h.elim fun F h => h.1.same hf
theorem RK.lj {w W : World} {B p n : Nat} {V : View} (h : RK w B W p n V) : LJ w W := by
  obtain ⟨safe, g, mb, hd, hs, hp, hg, hm, hml, hl, hwB, hB⟩ := h
  exact hl
theorem Carry.sync {n k i : Nat} {J : Jn} (h : Carry n k i J) : Carry n k i { J with S := J.V } := ⟨h.n, h.area, h.next, h.head⟩
set_option maxRecDepth 100000 in
set_option maxHeartbeats 4000000 in
theorem jstays_any (w : World) (B A C : Int) (hB : -9223372036854775808 ≤ B ∧ B ≤ 9223372036854775807) (hA : -9223372036854775808 ≤ A ∧ A ≤ 9223372036854775807) (da : Option Addr) (N dcap : Nat) (hD : DeedsAt w da N dcap) (xa : Option Addr) (xn xc : Nat) :
    Calls Tryz.prog 4 #[.agg #[.int .i64 B, .int .i64 A, .int .i64 C], .slice da N dcap, .slice xa xn xc] w fun e w' => e = .returned (.bool true) ∧ LJ w w' := by
  obtain ⟨w1, hw1⟩ : ∃ w1, w.alloc (.cells #[.int .i64 B, .int .i64 A, .int .i64 C] 23) = w1 := ⟨_, rfl⟩
  have hl1 : LJ w w1 := by rw [← hw1]; exact (LJ.refl w).alloc _
  have hb1 : w1.heap[w.heap.size]? = some (.cells #[.int .i64 B, .int .i64 A, .int .i64 C] 23 (0, 0)) := by rw [← hw1]; exact alloc_blk w _
  have HX1 := Lib.hid (fun W (hW : LJ w1 W) => show W.cell? ⟨w.heap.size, 1, none⟩ = some (.int .i64 A) from LJ.cell hW (cell_blk hb1 1))
  have x0 : w1.cell? ⟨w.heap.size, 0, none⟩ = some (.int .i64 B) := cell_blk hb1 0
  have x1 : w1.cell? ⟨w.heap.size, 1, none⟩ = some (.int .i64 A) := cell_blk hb1 1
  have HW1 := Lib.hid hw1
  have HL1 := Lib.hid hl1
  have HD1 := Lib.hid (hD.later hl1)
  obtain ⟨n, hn, hn1, hn60, hnw⟩ := blocks_of B
  have HPL := Lib.hid (place_any w1 B hB)
  have HFX := Lib.hid (fun W => jfixed_any W)
  clear hw1 hl1 hb1 hD hB hn
  by_cases hyes : 4 ≤ A ∧ A < n
  · obtain ⟨k, rfl⟩ := Int.eq_ofNat_of_zero_le (show 0 ≤ A by omega)
    obtain ⟨h4, hkn⟩ : 4 ≤ k ∧ k < n := by omega
    have HLA := Lib.hid (laid_yes w1 n hn60 k h4 hkn)
    obtain ⟨m, hm⟩ : ∃ m, n - k = m := ⟨_, rfl⟩
    have hm1 : 1 ≤ m := by omega
    have hm60 : m ≤ 60 := by omega
    have HM := Lib.hid hm
    have HKN := Lib.hid (And.intro h4 hkn)
    clear hA hyes hm h4 hkn
    go_enter Tryz.func4, Tryz.ntmps4
    go_upto_region 1 with fail
    rw [HW1.out]
    go_upto_region 5 with (first
      | (go_at_call 7; (with_reducible refine HPL.out.mono ?_); rintro e wp ⟨rfl, hwp⟩; subst hwp)
      | (go_at_call 8; (with_reducible refine HLA.out.mono ?_); rintro e w2 ⟨p, b, jb, rfl, hk2⟩; have HK2 := Lib.hid hk2; clear hk2)
      | fail)
    obtain ⟨R0, hR0⟩ : ∃ R0, (J0 n k).room = R0 := ⟨_, rfl⟩
    have hrm := k_room HK2.out
    rw [hR0] at hrm
    have HRM := Lib.hid hrm
    have HR0 := Lib.hid hR0
    clear hrm hR0
    obtain ⟨hDc, hDn, hDD⟩ := HD1.out
    have HDN := Lib.hid hDn
    have HDD := Lib.hid hDD
    clear hDn hDD HD1
    go_wp2_with (first
      | (go_at_call 14; (with_reducible refine HRM.out.mono ?_); rintro e w3 ⟨rfl, hk3, -⟩; have HK3 := Lib.hid hk3; clear hk3)
      | fail)
    go_loopw [12] (fun v12 wr => ∃ (i : Nat) (J : Jn), i ≤ N ∧ v12 = .int .i64 (i : Int) ∧ Hid (JK w1 wr (fun _ => False) p b jb J) ∧ Hid (Carry n k i J)) (fun v12 _ => N - (intOf v12).toNat)
    case atStart =>
      exact ⟨0, J0 n k, by omega, rfl, HK3, Lib.hid ⟨rfl, rfl, by show 1 ≤ 1 + 0; omega, by show 2 ≤ 2 + 0; omega⟩⟩
    case round =>
      obtain ⟨i, J, hi, rfl, HK, HC⟩ := hrel
      obtain ⟨hhd, hnx⟩ := HC.out.small (by have := HDN.out; omega)
      have HBD := Lib.hid (And.intro hhd hnx)
      clear hhd hnx
      by_cases hlt : i < N
      · have hili : (i : Int) < (N : Int) := by omega
        have hwi : IntKind.i64.wrap ((i : Int) + 1) = (i : Int) + 1 := by have := HDN.out; rw [IntKind.wrap_i64]; omega
        rcases HDD.out with h0 | ⟨gd, od, rfl, hc⟩
        · omega
        obtain ⟨lv, l, hlv, hld, hsz⟩ := hc i hlt
        obtain ⟨la, lc, rfl, -, -, -⟩ := id hld
        have k0 := LJ.cell HK.out.lj hlv
        have HCM := Lib.hid (k_commit HK.out HBD.out.1 HBD.out.2 _ l hld hsz)
        have HCD := Lib.hid (HC.out.deed l)
        obtain ⟨L, hL⟩ : ∃ L, l.length = L := ⟨_, rfl⟩
        rw [hL] at k0 HCM
        obtain ⟨E, hE⟩ : ∃ E, deedE J l = E := ⟨_, rfl⟩
        rw [hE] at HCM
        clear hc hlv hld hsz hL hE
        by_cases hod : i % 2 = 1
        · have g1 : (i : Int).tmod 2 = 1 := by rw [Int.tmod_eq_emod_of_nonneg (by omega)]; omega
          have HOD := Lib.hid hod
          clear hod
          go_wp2_with (first
            | (go_at_call 12; (with_reducible refine HCM.out.mono ?_); rintro e w5 ⟨rfl, hk5, -⟩; have HSY := Lib.hid (k_sync hk5); clear hk5)
            | (go_at_call 19; (with_reducible refine HSY.out.mono ?_); rintro e w6 ⟨rfl, hk6, -⟩; have HK6 := Lib.hid hk6; clear hk6)
            | fail)
          go_roundw
          case rel => exact ⟨i + 1, _, by omega, by simp, HK6, Lib.hid HCD.out.sync⟩
          case measure => simp [intOf]; omega
        · have g1 : (i : Int).tmod 2 = 0 := by rw [Int.tmod_eq_emod_of_nonneg (by omega)]; omega
          have HOD := Lib.hid hod
          clear hod
          go_wp2_with (first
            | (go_at_call 12; (with_reducible refine HCM.out.mono ?_); rintro e w5 ⟨rfl, hk5, -⟩; have HK5 := Lib.hid hk5; clear hk5)
            | fail)
          go_roundw
          case rel => exact ⟨i + 1, _, by omega, by simp, HK5, HCD⟩
          case measure => simp [intOf]; omega
      · have hie : i = N := by omega
        subst hie
        obtain ⟨cn1, cn2, cn3, cn4, cn5⟩ := check_n J
        have hr := k_reads HK.out (by rw [HC.out.n]; exact hn60)
        rw [show J.n - J.area = m from by rw [HC.out.n, HC.out.area]; exact HM.out] at hr
        have HR := Lib.hid hr
        have HCN := Lib.hid (And.intro cn1 (And.intro cn2 (And.intro cn3 (And.intro cn4 cn5))))
        clear hr cn1 cn2 cn3 cn4 cn5
        go_upto_region 13 with (first
          | (go_at_call 10; (with_reducible refine HR.out.mono ?_); rintro e w4 ⟨g1, cap1, rfl, hg1, hc1, hs1, hk4, -⟩
             have HS4 := Lib.hid hs1; have HK4 := Lib.hid hk4; clear hs1 hk4)
          | fail)
        have HCK := Lib.hid (k_ckpt HK4.out HBD.out.1 (Nat.le_of_lt HBD.out.2))
        go_upto_region 15 with (first
          | (go_at_call 20; (with_reducible refine HCK.out.mono ?_); rintro e w5 ⟨rfl, hk5, hp5⟩
             have hrm := k_room hk5
             rw [show J.check.room = R0 from by rw [check_room hk5.ok, HC.out.area, ← HR0.out]; rfl] at hrm
             have HRM5 := Lib.hid hrm; have HP5 := Lib.hid hp5; clear hk5 hp5 hrm)
          | (go_at_call 14; (with_reducible refine HRM5.out.mono ?_); rintro e w6 ⟨rfl, hk6, hp6⟩
             have HK6 := Lib.hid hk6; have HP6 := Lib.hid hp6; clear hk6 hp6)
          | fail)
        have hs6 := HS4.out.kept ((HP5.out.trans HP6.out) g1 (.inr rfl))
        have hjr := check_read HK.out.ok
        obtain ⟨cn1, cn2, cn3, cn4, cn5⟩ := HCN.out
        have hbd := HBD.out
        have hck := HK6.out.ok
        have hsame := HK6.out.same cn4
        have hk6 := HK6.out
        rw [HC.out.n] at cn1
        rw [HC.out.area] at cn2
        obtain ⟨J', hJ'⟩ : ∃ J', J.check = J' := ⟨_, rfl⟩
        rw [hJ'] at hjr cn1 cn2 cn3 cn4 cn5 hck hsame hk6
        have hf2 : J'.first ≤ 4611686018427387904 := by omega
        have hh2 : J'.head ≤ 4611686018427387904 := by omega
        obtain ⟨NX, hNX⟩ : ∃ NX, J'.next = NX := ⟨_, rfl⟩
        obtain ⟨J2, hJ2⟩ : ∃ J2 : Jn, ({ J' with S := J'.V } : Jn) = J2 := ⟨_, rfl⟩
        have HJ2 := Lib.hid (show J2.n = n ∧ J2.area = k ∧ J2.next = NX ∧ J2.read = J.read from by rw [← hJ2]; exact ⟨cn1, cn2, hNX, hjr⟩)
        have HJE := Lib.hid hJ2
        have hr2 := k_reads hk6 (by rw [cn1]; exact hn60)
        rw [show J'.n - J'.area = m from by rw [cn1, cn2]; exact HM.out, hjr] at hr2
        have HR6 := Lib.hid hr2
        have HS6 := Lib.hid hs6
        have HJ' := Lib.hid (And.intro cn1 (And.intro cn2 (And.intro cn4 (And.intro hjr (And.intro hck (And.intro hsame (And.intro hf2 (And.intro hh2 hNX))))))))
        have HLR := Lib.hid (show J.read.length = m from by rw [read_len, HC.out.n, HC.out.area]; exact HM.out)
        obtain ⟨PD, hPD⟩ : ∃ PD : ByteArray, (⟨(padT ([] : List UInt8) 116).toArray⟩ : ByteArray) = PD := ⟨_, rfl⟩
        have hpz : PD.size = 116 := by rw [← hPD]; show (padT ([] : List UInt8) 116).toArray.size = 116; simp [padT]
        have HPA := Lib.hid (fun W => show Calls Tryz.prog 24 #[.string ⟨#[]⟩] W fun e w' => e = .returned (.string PD) ∧ LJ W w' from by rw [← hPD]; exact pad_any W ⟨#[]⟩ (by decide))
        clear hJ2 hs6 hjr cn1 cn2 cn3 cn4 cn5 hbd hck hsame hk6 hJ' hf2 hh2 hNX hr2 hPD HBD HCN HCK HRM5 HK6
        go_upto_region 18 with (first
          | (go_at_call 10; (with_reducible refine HR6.out.mono ?_); rintro e w7 ⟨g2, cap2, rfl, hg2, hc2, hs7, hk7, hp7⟩
             have hs7b := HS6.out.kept (hp7 g1 (.inr rfl))
             have HSA := Lib.hid (same_any w7 g2 g1 cap2 cap1 m J.read HLR.out hs7 hs7b (by omega) hc2 hc1)
             have HS7 := Lib.hid hs7b
             have HK7 := Lib.hid hk7
             clear hs7 hs7b hk7 hp7)
          | (go_at_call 16; (with_reducible refine HSA.out.mono ?_); rintro e w8 ⟨rfl, kz, rfl⟩
             have HCR := Lib.hid (k_crash (HK7.out.later ((LJ.refl w7).drewN kz)) xa xn xc (.inr HJ'.out.2.2.1)))
          | (go_at_call 21; (with_reducible refine HCR.out.mono ?_); rintro e w9 ⟨rfl, hd9, hp9, hx9, hjp, hjl, hKp⟩
             have HRV := Lib.hid (k_revive hd9)
             have HS9 := Lib.hid (SCells.kept (w := w7.drewN kz) (HS7.out.kept rfl) (hp9 g1 (.inl (.inr rfl))))
             have HX9 := Lib.hid hx9
             have HJP := Lib.hid hjp
             have HJL := Lib.hid hjl
             have HKP := Lib.hid hKp
             clear hd9 hp9 hx9 hjp hjl hKp)
          | fail)
        go_upto_region 20 with (first
          | (go_at_call 22; (with_reducible refine HRV.out.mono ?_); rintro e w10 ⟨rfl, hr10, ho10⟩
             have y10 := HX1.out w10 hr10.lj
             have hkg := HKP.out g1 (.inl (.inr rfl))
             have hs9 := HS9.out.lt (by rw [HLR.out]; exact hm1)
             have HS10 := Lib.hid (HS9.out.kept (ho10.block g1 hs9 hkg.1))
             have HX10 := Lib.hid ((World.cell?_of_block (a := ⟨jb, 4, none⟩) (ho10.block jb (World.block_lt_of_cell? _ _ HX9.out) HJP.out)).trans HX9.out)
             have hop := k_opened (K := fun q => q = g1 ∨ q = jb) hr10 (by rintro q (rfl | rfl); exact hkg; exact ⟨HJP.out, HJL.out⟩) J' HJ'.out.2.2.2.2.1 rfl HJ'.out.2.2.2.2.2.1 HJ'.out.2.2.1 HJ'.out.2.2.2.2.2.2.1 HJ'.out.2.2.2.2.2.2.2.1 0 (by omega)
             have HOP := Lib.hid (show Calls Tryz.prog 23 #[.pointer (some ⟨p, 0, none⟩), .int .i64 n, .int .i64 k, .int .i64 0] w10 fun e w' => ∃ b jb', e = .returned (.tuple #[.pointer (some ⟨jb', 0, none⟩), .int .i64 0]) ∧ JK w1 w' (fun q => q = g1 ∨ q = jb) p b jb' J2 ∧ KeptK (fun q => q = g1 ∨ q = jb) w10 w' from by rw [← HJE.out, ← HJ'.out.1, ← HJ'.out.2.1]; exact hop)
             clear hr10 ho10 hkg hs9 hop)
          | (go_at_call 23; (with_reducible refine HOP.out.mono ?_); rintro e w11 ⟨b2, j2, rfl, hk11, hp11⟩
             have hnx := k_next hk11
             rw [HJ2.out.2.2.1] at hnx
             have HN11 := Lib.hid hnx
             have HS11 := Lib.hid (HS10.out.kept (hp11 g1 (.inl rfl)))
             have HX11 := Lib.hid ((World.cell?_of_block (a := ⟨jb, 4, none⟩) (hp11 jb (.inr rfl))).trans HX10.out)
             clear hk11 hp11 hnx)
          | fail)
        have hnn : ((NX : Int) != (NX : Int)) = false := by simp
        go_upto_region 22 with (first
          | (go_at_call 11; (with_reducible refine HN11.out.mono ?_); rintro e w12 ⟨rfl, hk12, hp12⟩
             have hx12 := (World.cell?_of_block (a := ⟨jb, 4, none⟩) (hp12 jb (.inr rfl))).trans HX11.out
             rw [HJ'.out.2.2.2.2.2.2.2.2] at hx12
             have HNR := Lib.hid (next_raw w12 jb (NX : Int) hx12)
             have HS12 := Lib.hid (HS11.out.kept (hp12 g1 (.inl rfl)))
             have hr := k_reads hk12 (by rw [HJ2.out.1]; exact hn60)
             rw [show J2.n - J2.area = m from by rw [HJ2.out.1, HJ2.out.2.1]; exact HM.out, HJ2.out.2.2.2] at hr
             have HR12 := Lib.hid hr
             clear hk12 hp12 hx12 hr)
          | (go_at_call 11; (with_reducible refine HNR.out.mono ?_); rintro e wn ⟨rfl, hwn⟩; subst hwn)
          | fail)
        go_wp2_with (first
          | (go_at_call 10; (with_reducible refine HR12.out.mono ?_); rintro e w13 ⟨g3, cap3, rfl, hg3, hc3, hs13, hk13, hp13⟩
             have HSB := Lib.hid (same_any w13 g3 g1 cap3 cap1 m J.read HLR.out hs13 (HS12.out.kept (hp13 g1 (.inl rfl))) (by omega) hc3 hc1)
             have HK13 := Lib.hid hk13
             clear hs13 hk13 hp13)
          | (go_at_call 16; (with_reducible refine HSB.out.mono ?_); rintro e w14 ⟨rfl, ky, rfl⟩)
          | (go_at_call 24; (with_reducible refine (HPA.out _).mono ?_); rintro e w15 ⟨rfl, hl15⟩; have HL15 := Lib.hid hl15; clear hl15)
          | (go_at_call 9; (with_reducible refine (HFX.out _).mono ?_); rintro e w16 ⟨rfl, hl16⟩; have HL16 := Lib.hid hl16; clear hl16)
          | fail)
        go_ret
        exact ⟨rfl, HL1.out.trans ((HK13.out.lj.drewN ky).trans (HL15.out.trans HL16.out))⟩
  · have HLA := Lib.hid (laid_no w1 n hn1 hn60 A hyes)
    go_enter Tryz.func4, Tryz.ntmps4
    go_upto_region 1 with fail
    rw [HW1.out]
    rcases Int.lt_or_le A 4 with h4 | h4
    · have g1 : decide (A < 4) = true := by simp; omega
      go_wp2_with (first
        | (go_at_call 7; (with_reducible refine HPL.out.mono ?_); rintro e wp ⟨rfl, hwp⟩; subst hwp)
        | (go_at_call 8; (with_reducible refine HLA.out.mono ?_); rintro e w2 ⟨p, rfl, hl2⟩; have y1 := HX1.out w2 hl2; have HL2 := Lib.hid hl2; clear hl2)
        | (go_at_call 9; (with_reducible refine (HFX.out _).mono ?_); rintro e w3 ⟨rfl, hl3⟩; have HL3 := Lib.hid hl3; clear hl3)
        | fail)
      go_ret
      exact ⟨rfl, HL1.out.trans (HL2.out.trans HL3.out)⟩
    · have g1 : decide (A < 4) = false := by simp; omega
      have g2 : decide ((n : Int) ≤ A) = true := by simp; omega
      go_wp2_with (first
        | (go_at_call 7; (with_reducible refine HPL.out.mono ?_); rintro e wp ⟨rfl, hwp⟩; subst hwp)
        | (go_at_call 8; (with_reducible refine HLA.out.mono ?_); rintro e w2 ⟨p, rfl, hl2⟩; have y1 := HX1.out w2 hl2; have HL2 := Lib.hid hl2; clear hl2)
        | (go_at_call 9; (with_reducible refine (HFX.out _).mono ?_); rintro e w3 ⟨rfl, hl3⟩; have HL3 := Lib.hid hl3; clear hl3)
        | fail)
      go_ret
      exact ⟨rfl, HL1.out.trans (HL2.out.trans HL3.out)⟩
end Go.Proofs.YtjgkhdanhglgeaaGreatDoor
