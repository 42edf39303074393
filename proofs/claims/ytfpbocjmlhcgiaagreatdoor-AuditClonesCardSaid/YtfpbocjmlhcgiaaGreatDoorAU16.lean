/- The law's fixed. -/
import Derived.Test.YtfpbocjmlhcgiaaGreatDoorAg2
import Derived.Test.YtfpbocjmlhcgiaaGreatDoorAg3
set_option linter.unusedSimpArgs false
set_option linter.unusedVariables false
namespace Go.Proofs.YtfpbocjmlhcgiaaGreatDoor
open Go.RowKit PJ Go.Maps

/-- The first record's cells. -/
def FixS (g : Nat) (D : ByteArray) (w : World) : Prop := w.cell? ⟨g, 0, none⟩ = some (.int .i64 1) ∧ w.cell? ⟨g, 1, none⟩ = some (.int .i64 1) ∧ w.cell? ⟨g, 2, none⟩ = some (.int .i64 0) ∧ w.cell? ⟨g, 3, none⟩ = some (.int .i64 1) ∧ w.cell? ⟨g, 4, none⟩ = some (.string D)
theorem FixS.later {g : Nat} {D : ByteArray} {w w' : World} (h : FixS g D w) (hl : LJ w w') : FixS g D w' := ⟨hl.cell h.1, hl.cell h.2.1, hl.cell h.2.2.1, hl.cell h.2.2.2.1, hl.cell h.2.2.2.2⟩
theorem ak_open {w W : World} {K : Nat → Prop} {p b jb : Nat} {J : Jn} {A : Nat} {xs : List Rec} {B : Nat} (h : AK w W K p b jb J A xs B) (hB : B < 4611686018427387904) :
    Calls Tryz.prog 79 #[.pointer (some ⟨p, 0, none⟩), .int .i64 J.area] W fun e w' => ∃ b' jb' J' A', e = .returned (.tuple #[.pointer (some ⟨A', 0, none⟩), .int .i64 0]) ∧ AK w w' K p b' jb' J' A' xs (B + 1) ∧ J'.n = J.n ∧ J'.area = J.area ∧ KeptK K W w' := by
  obtain ⟨V, F, h1, h2, h3, h4, h5, h6⟩ := h.ex
  obtain ⟨L, hL⟩ := h.whole
  obtain ⟨hB1, hB2⟩ := h.hB
  exact (lopen_any W p b jb F J h1 L hL xs h.auc (by omega) (by omega)).mono fun e w' ho => h.opened h1 h5 (fun q hq => ⟨(h6 q hq).1, (h6 q hq).2.1, (h6 q hq).2.2.2⟩) ho
theorem app_n (J : Jn) (xs : List Rec) (x : Rec) : (J.app xs x).n = J.n ∧ (J.app xs x).area = J.area := ⟨(commit_dim J [wrA xs x]).1, (commit_dim J [wrA xs x]).2.1⟩
set_option maxRecDepth 100000 in
set_option maxHeartbeats 4000000 in
theorem afixed_any (w : World) : Calls Tryz.prog 27 #[] w fun e w' => e = .returned (.bool true) ∧ LJ w w' := by
  have HLA := Lib.hid (show Calls Tryz.prog 78 #[.int .i64 2, .int .i64 5] w fun e w' => ∃ p b jb J A, e = .returned (.tuple #[.pointer (some ⟨p, 0, none⟩), .pointer (some ⟨A, 0, none⟩)]) ∧ AK w w' (fun _ => False) p b jb J A [] 3 ∧ J.n = 7 ∧ J.area = 5 from llaid_any w 2 5 (by omega) (by omega) (by omega) (by omega))
  obtain ⟨Z, hZ⟩ : ∃ Z : ByteArray, (⟨(zs 32).toArray⟩ : ByteArray) = Z := ⟨_, rfl⟩
  have HNO := Lib.hid (fun W => show Calls Tryz.prog 12 #[.int .i64 32] W fun e w' => e = .returned (.string Z) ∧ LJ W w' from by rw [← hZ]; exact lnoughts_any W 32 (by omega))
  obtain ⟨DX, hDX⟩ : ∃ D, digR ⟨#[120]⟩ = D := ⟨_, rfl⟩
  obtain ⟨DY, hDY⟩ : ∃ D, digR ⟨#[121]⟩ = D := ⟨_, rfl⟩
  obtain ⟨DZ, hDZ⟩ : ∃ D, digR ⟨#[122]⟩ = D := ⟨_, rfl⟩
  have m1 : Rec.may ⟨1, 1, 0, 1, DX⟩ = true := by have := recR_may ⟨#[120]⟩ (n := 1) (by omega) (by omega); unfold recR at this; rw [hDX] at this; exact this
  have m2x : Rec.may ⟨2, 1, 0, 2, DX⟩ = true := by have := recR_may ⟨#[120]⟩ (n := 2) (by omega) (by omega); unfold recR at this; rw [hDX] at this; exact this
  have m2 : Rec.may ⟨2, 1, 0, 2, DY⟩ = true := by have := recR_may ⟨#[121]⟩ (n := 2) (by omega) (by omega); unfold recR at this; rw [hDY] at this; exact this
  have m3 : Rec.may ⟨3, 1, 0, 3, DZ⟩ = true := by have := recR_may ⟨#[122]⟩ (n := 3) (by omega) (by omega); unfold recR at this; rw [hDZ] at this; exact this
  have HR2x := Lib.hid (fun W => show Calls Tryz.prog 23 #[.int .i64 2, .string ⟨#[120]⟩] W fun e w' => e = .returned (.agg #[.int .i64 2, .int .i64 1, .int .i64 0, .int .i64 2, .string DX]) ∧ LJ W w' from by rw [← hDX]; exact lrecord_any W 2 (by omega) _ (by decide))
  have HR1x := Lib.hid (fun W => show Calls Tryz.prog 23 #[.int .i64 1, .string ⟨#[120]⟩] W fun e w' => e = .returned (.agg #[.int .i64 1, .int .i64 1, .int .i64 0, .int .i64 1, .string DX]) ∧ LJ W w' from by rw [← hDX]; exact lrecord_any W 1 (by omega) _ (by decide))
  have HR2y := Lib.hid (fun W => show Calls Tryz.prog 23 #[.int .i64 2, .string ⟨#[121]⟩] W fun e w' => e = .returned (.agg #[.int .i64 2, .int .i64 1, .int .i64 0, .int .i64 2, .string DY]) ∧ LJ W w' from by rw [← hDY]; exact lrecord_any W 2 (by omega) _ (by decide))
  have HR3z := Lib.hid (fun W => show Calls Tryz.prog 23 #[.int .i64 3, .string ⟨#[122]⟩] W fun e w' => e = .returned (.agg #[.int .i64 3, .int .i64 1, .int .i64 0, .int .i64 3, .string DZ]) ∧ LJ W w' from by rw [← hDZ]; exact lrecord_any W 3 (by omega) _ (by decide))
  obtain ⟨BX, hBX⟩ : ∃ B : ByteArray, (⟨(Rec.bytes ⟨1, 1, 0, 1, DX⟩).toArray⟩ : ByteArray) = B := ⟨_, rfl⟩
  obtain ⟨BY, hBY⟩ : ∃ B : ByteArray, (⟨(Rec.bytes ⟨2, 1, 0, 2, DY⟩).toArray⟩ : ByteArray) = B := ⟨_, rfl⟩
  have HBX := Lib.hid (fun W => show Calls Tryz.prog 67 #[.agg #[.int .i64 1, .int .i64 1, .int .i64 0, .int .i64 1, .string DX]] W fun e w' => e = .returned (.tuple #[.string BX, .int .i64 0]) ∧ LJ W w' from by rw [← hBX]; exact abytes_yes W 1 1 0 1 DX m1)
  have HBY := Lib.hid (fun W => show Calls Tryz.prog 67 #[.agg #[.int .i64 2, .int .i64 1, .int .i64 0, .int .i64 2, .string DY]] W fun e w' => e = .returned (.tuple #[.string BY, .int .i64 0]) ∧ LJ W w' from by rw [← hBY]; exact abytes_yes W 2 1 0 2 DY m2)
  have HB0 := Lib.hid (fun W => show Calls Tryz.prog 67 #[.agg #[.int .i64 0, .int .i64 0, .int .i64 0, .int .i64 0, .string ⟨#[]⟩]] W fun e w' => e = .returned (.tuple #[.string ⟨#[]⟩, .int .i64 210]) ∧ LJ W w' from abytes_no W 0 0 0 0 ⟨#[]⟩ (by rfl))
  have s32 : ∀ {l : List UInt8} {b : ByteArray}, l.length = 32 → (⟨l.toArray⟩ : ByteArray) = b → b.size = 32 := fun hl hb => by rw [← hb]; show (_ : Array UInt8).size = 32; simp [hl]
  have hBXs : BX.size = 43 := by rw [← hBX]; show (Rec.bytes _).toArray.size = 43; rw [List.size_toArray, Rec.bytes_len (by rw [← hDX]; exact digR_size _)]
  have hBYs : BY.size = 43 := by rw [← hBY]; show (Rec.bytes _).toArray.size = 43; rw [List.size_toArray, Rec.bytes_len (by rw [← hDY]; exact digR_size _)]
  obtain ⟨L1, hL1⟩ : ∃ B : ByteArray, (⟨(lastL [⟨1, 1, 0, 1, DX⟩]).toArray⟩ : ByteArray) = B := ⟨_, rfl⟩
  obtain ⟨L2, hL2⟩ : ∃ B : ByteArray, (⟨(lastL [⟨1, 1, 0, 1, DX⟩, ⟨2, 1, 0, 2, DY⟩]).toArray⟩ : ByteArray) = B := ⟨_, rfl⟩
  have HLK1 := Lib.hid (fun W => show Calls Tryz.prog 68 #[.string Z, .string BX] W fun e w' => e = .returned (.string L1) ∧ LJ W w' from by
    have h := hlink_any W Z BX (by rw [s32 (by simp [zs]) hZ]; omega) (by omega)
    have e1 : (⟨(linkB Z.data.toList BX.data.toList).toArray⟩ : ByteArray) = L1 := by
      rw [← hL1, show lastL [⟨1, 1, 0, 1, DX⟩] = linkB (zs 32) (Rec.bytes ⟨1, 1, 0, 1, DX⟩) from lastL_snoc [] _, ← hZ, ← hBX]
    rw [e1] at h
    exact h)
  have HLK2 := Lib.hid (fun W => show Calls Tryz.prog 68 #[.string L1, .string BY] W fun e w' => e = .returned (.string L2) ∧ LJ W w' from by
    have h := hlink_any W L1 BY (by rw [s32 (lastL_len _) hL1]; omega) (by omega)
    have e2 : (⟨(linkB L1.data.toList BY.data.toList).toArray⟩ : ByteArray) = L2 := by
      rw [← hL2, show lastL [⟨1, 1, 0, 1, DX⟩, ⟨2, 1, 0, 2, DY⟩] = linkB (lastL [⟨1, 1, 0, 1, DX⟩]) (Rec.bytes ⟨2, 1, 0, 2, DY⟩) from lastL_snoc [_] _, ← hL1, ← hBY]
    rw [e2] at h
    exact h)
  have HM := Lib.hid (And.intro m1 (And.intro m2x (And.intro m2 m3)))
  have HZ := Lib.hid hZ
  have HL2 := Lib.hid hL2
  have hzz : (Z.toList == Z.toList) = true := beq_self_eq_true _
  have hzz2 : (Z.toList != Z.toList) = false := bne_self_eq_false _
  have hdd : (DX.toList == DX.toList) = true := beq_self_eq_true _
  have hll : (L2.toList == L2.toList) = true := beq_self_eq_true _
  clear hZ hDX hDY hDZ m1 m2x m2 m3 hBX hBY s32 hBXs hBYs hL1 hL2
  go_enter Tryz.func27, Tryz.ntmps27
  go_upto_region 2 with (first
    | (go_at_call 78; (with_reducible refine HLA.out.mono ?_); rintro e w1 ⟨p, b, jb, J, A, rfl, hk1, hJn, hJa⟩
       have HK1 := Lib.hid hk1
       have HJ := Lib.hid (And.intro hJn hJa)
       clear hk1 hJn hJa)
    | fail)
  have HRM1 := Lib.hid (show Calls Tryz.prog 25 #[.pointer (some ⟨A, 0, none⟩)] w1 fun e w' => e = .returned (.int .i64 2) ∧ LJ w1 w' from by
    have h := ak_room HK1.out
    rw [HJ.out.1, HJ.out.2] at h
    exact h.mono (by rintro e w' ⟨rfl, n, rfl⟩; exact ⟨rfl, (LJ.refl _).drewN n⟩))
  go_upto_region 5 with (first
    | (go_at_call 25; (with_reducible refine HRM1.out.mono ?_); rintro e w2 ⟨rfl, hl2⟩
       have HK2 := Lib.hid (HK1.out.later hl2)
       have HLN2 := Lib.hid (show Calls Tryz.prog 22 #[.pointer (some ⟨A, 0, none⟩)] w2 fun e w' => e = .returned (.string Z) ∧ w2 = w' from (by rw [← HZ.out]; exact ak_link HK2.out))
       clear hl2)
    | (go_at_call 22; (with_reducible refine HLN2.out.mono ?_); rintro e wl ⟨rfl, hwl⟩; subst hwl)
    | (go_at_call 12; (with_reducible refine (HNO.out _).mono ?_); rintro e w3 ⟨rfl, hl3⟩; have HK3 := Lib.hid (HK2.out.later hl3); clear hl3)
    | (go_at_call 23; (with_reducible refine (HR2x.out _).mono ?_); rintro e w4 ⟨rfl, hl4⟩; have HK4 := Lib.hid (HK3.out.later hl4); have HA4 := Lib.hid (ak_serial HK4.out 2 1 0 2 DX HM.out.2.1 (by decide)); clear hl4)
    | (go_at_call 24; (with_reducible refine HA4.out.mono ?_); rintro e w5 ⟨rfl, hl5⟩; have HK5 := Lib.hid (HK4.out.later hl5); clear hl5)
    | (go_at_call 23; (with_reducible refine (HR1x.out _).mono ?_); rintro e w6 ⟨rfl, hl6⟩; have HK6 := Lib.hid (HK5.out.later hl6); have HA6 := Lib.hid (ak_yes HK6.out (by decide) 1 1 0 1 DX HM.out.1 rfl (by rw [HJ.out.1, HJ.out.2]; decide)); clear hl6)
    | (go_at_call 24; (with_reducible refine HA6.out.mono ?_); rintro e w7 ⟨rfl, hk7, -⟩; have HK7 := Lib.hid hk7; clear hk7)
    | (go_at_call 23; (with_reducible refine (HR2y.out _).mono ?_); rintro e w8 ⟨rfl, hl8⟩; have HK8 := Lib.hid (HK7.out.later hl8); have HA8 := Lib.hid (ak_yes HK8.out (by decide) 2 1 0 2 DY HM.out.2.2.1 rfl (by rw [(app_n _ _ _).1, (app_n _ _ _).2, HJ.out.1, HJ.out.2]; show 1 < 2; omega)); clear hl8)
    | (go_at_call 24; (with_reducible refine HA8.out.mono ?_); rintro e w9 ⟨rfl, hk9, -⟩; have HK9 := Lib.hid hk9; clear hk9)
    | (go_at_call 23; (with_reducible refine (HR3z.out _).mono ?_); rintro e w10 ⟨rfl, hl10⟩; have HK10 := Lib.hid (HK9.out.later hl10); have HA10 := Lib.hid (ak_full HK10.out 3 1 0 3 DZ HM.out.2.2.2 rfl (by rw [(app_n _ _ _).1, (app_n _ _ _).2, (app_n _ _ _).1, (app_n _ _ _).2, HJ.out.1, HJ.out.2]; rfl)); clear hl10)
    | (go_at_call 24; (with_reducible refine HA10.out.mono ?_); rintro e w11 ⟨rfl, hl11⟩; have HK11 := Lib.hid (HK10.out.later hl11)
       have HO11 := Lib.hid (show Calls Tryz.prog 79 #[.pointer (some ⟨p, 0, none⟩), .int .i64 5] w11 fun e w' => ∃ b' jb' J' A', e = .returned (.tuple #[.pointer (some ⟨A', 0, none⟩), .int .i64 0]) ∧ AK w w' (fun _ => False) p b' jb' J' A' [⟨1, 1, 0, 1, DX⟩, ⟨2, 1, 0, 2, DY⟩] 6 ∧ J'.n = 7 ∧ J'.area = 5 ∧ KeptK (fun _ => False) w11 w' from (by
         have h := ak_open HK11.out (by decide)
         rw [(app_n _ _ _).1, (app_n _ _ _).2, (app_n _ _ _).1, (app_n _ _ _).2, HJ.out.1, HJ.out.2] at h
         exact h))
       clear hl11)
    | (go_at_call 79; (with_reducible refine HO11.out.mono ?_); rintro e w12 ⟨b2, j2, J2, A2, rfl, hk12, hn2, ha2, -⟩; have HK12 := Lib.hid hk12; have HJ2 := Lib.hid (And.intro hn2 ha2); clear hk12 hn2 ha2)
    | fail)
  have HRC := Lib.hid (ak_records HK12.out)
  go_upto_region 11 with (first
    | (go_at_call 21; (with_reducible refine HRC.out.mono ?_); rintro e w13 ⟨⟨lv, rfl, hlv, hlo⟩, hl13⟩; have HK13 := Lib.hid (HK12.out.later hl13); have HLV := Lib.hid hlv; clear hlv hlo hl13)
    | (go_at_call 23; (with_reducible refine (HR1x.out _).mono ?_); rintro e w14 ⟨rfl, hl14⟩; have HL14 := Lib.hid hl14; clear hl14)
    | (go_at_call 67; (with_reducible refine (HBX.out _).mono ?_); rintro e w15 ⟨rfl, hl15⟩; have HL15 := Lib.hid hl15; clear hl15)
    | (go_at_call 23; (with_reducible refine (HR2y.out _).mono ?_); rintro e w16 ⟨rfl, hl16⟩; have HL16 := Lib.hid hl16; clear hl16)
    | (go_at_call 67; (with_reducible refine (HBY.out _).mono ?_); rintro e w17 ⟨rfl, hl17⟩; have HL17 := Lib.hid hl17; clear hl17)
    | (go_at_call 67; (with_reducible refine (HB0.out _).mono ?_); rintro e w18 ⟨rfl, hl18⟩; have HL18 := Lib.hid hl18; clear hl18)
    | fail)
  have HL1318 := Lib.hid (((HL14.out.trans HL15.out).trans (HL16.out.trans HL17.out)).trans HL18.out)
  rcases HLV.out with ⟨-, e⟩ | ⟨g, cap, hlv, hcp, hgl, hcell⟩
  · cases e
  have hlv' : lv = .slice (some ⟨g, 0, none⟩) 2 cap := hlv
  subst hlv'
  have hS : FixS g DX w13 := ⟨hcell 0 _ rfl, hcell 1 _ rfl, hcell 2 _ rfl, hcell 3 _ rfl, hcell 4 _ rfl⟩
  have HS := Lib.hid (hS.later HL1318.out)
  have HK18 := Lib.hid (HK13.out.later HL1318.out)
  clear hlv hcp hgl hcell hS
  refine wp_region_held_drew (S := FixS g DX) (by kernel_rfl) HS.out (fun hHeld => ?_)
  have hL := Lib.hid (LJ.refl w18).drew
  have HLN := Lib.hid (fun W (hl : LJ w18 W) => show Calls Tryz.prog 22 #[.pointer (some ⟨A2, 0, none⟩)] W fun e w' => e = .returned (.string L2) ∧ LJ W w' from (ak_link (HK18.out.later hl)).mono (by rintro e w' ⟨rfl, rfl⟩; exact ⟨by rw [HL2.out], LJ.refl _⟩))
  have HRM := Lib.hid (fun W (hl : LJ w18 W) => show Calls Tryz.prog 25 #[.pointer (some ⟨A2, 0, none⟩)] W fun e w' => e = .returned (.int .i64 0) ∧ LJ W w' from by
    have h := ak_room (HK18.out.later hl)
    rw [HJ2.out.1, HJ2.out.2] at h
    exact h.mono (by rintro e w' ⟨rfl, n, rfl⟩; exact ⟨rfl, (LJ.refl _).drewN n⟩))
  refine tkS 0 hHeld ?_
  refine tkS 1 hHeld ?_
  refine tkS 2 hHeld ?_
  refine tkS 3 hHeld ?_
  refine tkS 4 hHeld ?_
  refine tkS 5 hHeld ?_
  refine tkS 6 hHeld ?_ (hy := by intro w hSw; obtain ⟨l0, l1, l2, l3, l4⟩ := hSw; go_simp; (try with_reducible rfl))
  refine wpAnyH_ready (rs := [7]) (by kernel_rfl) (by simp) ?_
  refine AllReadyH.cons rfl (fun K hK => ?_) AllReadyH.nil
  go_simp
  (with_reducible refine (HR1x.out _).mono ?_); rintro e wx ⟨rfl, hx⟩
  have hS2 := hHeld.later hx
  have hL := Lib.hid (hL.out.trans hx)
  clear hx
  refine hK.out _ _ hS2 (fun hHeld => ?_)
  clear hK K hS2
  refine tkS 8 hHeld ?_
  refine tkS 9 hHeld ?_
  refine tkS 10 hHeld ?_
  refine tkS 11 hHeld ?_
  refine tkS 12 hHeld ?_
  refine tkS 13 hHeld ?_
  refine tkS 14 hHeld ?_
  refine tkS 15 hHeld ?_
  refine tkS 16 hHeld ?_
  refine tkS 17 hHeld ?_
  refine tkS 18 hHeld ?_
  refine tkS 19 hHeld ?_
  refine tkS 22 hHeld ?_
  refine tkS 24 hHeld ?_
  refine wpAnyH_ready (rs := [20]) (by kernel_rfl) (by simp) ?_
  refine AllReadyH.cons rfl (fun K hK => ?_) AllReadyH.nil
  go_simp
  (with_reducible refine (HLN.out _ hL.out).mono ?_); rintro e wx ⟨rfl, hx⟩
  have hS2 := hHeld.later hx
  have hL := Lib.hid (hL.out.trans hx)
  clear hx
  refine hK.out _ _ hS2 (fun hHeld => ?_)
  clear hK K hS2
  refine wpAnyH_ready (rs := [21]) (by kernel_rfl) (by simp) ?_
  refine AllReadyH.cons rfl (fun K hK => ?_) AllReadyH.nil
  go_simp
  (with_reducible refine (HNO.out _).mono ?_); rintro e wx ⟨rfl, hx⟩
  have hS2 := hHeld.later hx
  have hL := Lib.hid (hL.out.trans hx)
  clear hx
  refine hK.out _ _ hS2 (fun hHeld => ?_)
  clear hK K hS2
  refine wpAnyH_ready (rs := [23]) (by kernel_rfl) (by simp) ?_
  refine AllReadyH.cons rfl (fun K hK => ?_) AllReadyH.nil
  go_simp
  (with_reducible refine (HLK1.out _).mono ?_); rintro e wx ⟨rfl, hx⟩
  have hS2 := hHeld.later hx
  have hL := Lib.hid (hL.out.trans hx)
  clear hx
  refine hK.out _ _ hS2 (fun hHeld => ?_)
  clear hK K hS2
  refine wpAnyH_ready (rs := [25]) (by kernel_rfl) (by simp) ?_
  refine AllReadyH.cons rfl (fun K hK => ?_) AllReadyH.nil
  go_simp
  (with_reducible refine (HLK2.out _).mono ?_); rintro e wx ⟨rfl, hx⟩
  have hS2 := hHeld.later hx
  have hL := Lib.hid (hL.out.trans hx)
  clear hx
  refine hK.out _ _ hS2 (fun hHeld => ?_)
  clear hK K hS2
  refine tkS 26 hHeld ?_
  refine tkS 27 hHeld ?_
  refine tkS 28 hHeld ?_
  refine tkS 29 hHeld ?_
  refine wpAnyH_ready (rs := [30]) (by kernel_rfl) (by simp) ?_
  refine AllReadyH.cons rfl (fun K hK => ?_) AllReadyH.nil
  go_simp
  (with_reducible refine (HRM.out _ hL.out).mono ?_); rintro e wx ⟨rfl, hx⟩
  have hS2 := hHeld.later hx
  have hL := Lib.hid (hL.out.trans hx)
  clear hx
  refine hK.out _ _ hS2 (fun hHeld => ?_)
  clear hK K hS2
  refine tkS 31 hHeld ?_
  refine tkS 32 hHeld ?_
  refine tkS 33 hHeld ?_
  refine wpAnyH_done (by kernel_rfl) ?_ _
  go_simp
  go_wp2_with fail
  go_ret
  exact ⟨rfl, HK18.out.lj.trans hL.out⟩
end Go.Proofs.YtfpbocjmlhcgiaaGreatDoor
