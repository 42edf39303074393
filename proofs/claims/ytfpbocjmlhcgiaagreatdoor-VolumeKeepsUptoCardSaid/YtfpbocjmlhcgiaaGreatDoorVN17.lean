/- The law VolumeKeeps. -/
import Derived.Test.YtfpbocjmlhcgiaaGreatDoorVgg
set_option linter.unusedSimpArgs false
set_option linter.unusedVariables false
namespace Go.Proofs.YtfpbocjmlhcgiaaGreatDoor
open Go.RowKit PJ Go.Maps

set_option maxRecDepth 100000 in
set_option maxHeartbeats 32000000 in
theorem vkeeps_any (w : World) (c m k : Int) (hc : -9223372036854775808 ≤ c ∧ c ≤ 9223372036854775807) (hm : -9223372036854775808 ≤ m ∧ m ≤ 9223372036854775807) (hk : -9223372036854775808 ≤ k ∧ k ≤ 9223372036854775807) (a : Option Addr) (n cap : Nat) (ops : List OpV) (hops : OpsAt w a n ops) :
    Calls Tryz.prog 8 #[.agg #[.int .i64 c, .int .i64 m, .int .i64 k], .slice a n cap] w fun e w' => e = .returned (.bool true) ∧ LJ w w' := by
  obtain ⟨w1, hw1⟩ : ∃ w1, w.alloc (.cells #[.int .i64 c, .int .i64 m, .int .i64 k] 57) = w1 := ⟨_, rfl⟩
  obtain ⟨q3, hq3⟩ : ∃ q, w.heap.size = q := ⟨_, rfl⟩
  have hl1 : LJ w w1 := by rw [← hw1]; exact (LJ.refl w).alloc _
  have hb3 : w1.heap[q3]? = some (.cells #[.int .i64 c, .int .i64 m, .int .i64 k] 57 (0, 0)) := by rw [← hw1, ← hq3]; exact alloc_blk w _
  have HL1 := Lib.hid hl1
  have k0 : w1.cell? ⟨q3, 0, none⟩ = some (.int .i64 c) := cell_blk hb3 0
  have k1 : w1.cell? ⟨q3, 1, none⟩ = some (.int .i64 m) := cell_blk hb3 1
  have k2 : w1.cell? ⟨q3, 2, none⟩ = some (.int .i64 k) := cell_blk hb3 2
  have HLD := Lib.hid (show Calls Tryz.prog 31 #[.agg #[.int .i64 c, .int .i64 m, .int .i64 k]] w1 fun e w' => ∃ p b jb vb J, e = .returned (.tuple #[.pointer (some ⟨p, 0, none⟩), .pointer (some ⟨vb, 0, none⟩)]) ∧ VK w1 w' (fun _ => False) p b jb vb J [] 3 from by
    refine (l17laid_any w1 c m k hc hm hk).mono ?_
    rintro e w' ⟨p, b, jb, vb, J, rfl, h1, h2, h3⟩
    exact ⟨p, b, jb, vb, J, rfl, h1⟩)
  have HFX := Lib.hid (fun W => fixed17_any W)
  have hn6 := hops.2.1
  have HOP := Lib.hid hops
  have HW1 := Lib.hid hw1
  have HQ3 := Lib.hid hq3
  clear hc hm hk hops hw1 hq3 hb3 hl1
  go_enter Tryz.func8, Tryz.ntmps8
  go_upto_region 1 with fail
  rw [HW1.out, HQ3.out]
  go_wp2_with (first
    | (go_at_call 31; (with_reducible refine HLD.out.mono ?_); rintro e w2 ⟨p, b, jb, vb, J0, rfl, h1⟩; have H0 := Lib.hid h1; clear h1)
    | fail)
  clear k0 k1 k2
  go_loopw [7] (fun v7 wr => ∃ (i : Nat) (J : Jn) (l : List Ent), i ≤ n ∧ v7 = .int .i64 (i : Int) ∧ Hid (VK w1 wr (fun _ => False) p b jb vb J l (3 + i))) (fun v7 _ => n - (intOf v7).toNat)
  case atStart => exact ⟨0, J0, [], by omega, rfl, H0⟩
  case round =>
    obtain ⟨i, J, l, hi, rfl, HV⟩ := hrel
    by_cases hlt : i < n
    case neg =>
      have hie : i = n := by omega
      subst hie
      have hin : ¬ (i : Int) < (i : Int) := by omega
      go_wp2_with (first
        | (go_at_call 30; (with_reducible refine (HFX.out _).mono ?_); rintro e w4 ⟨rfl, hl4⟩; have HL4 := Lib.hid hl4; clear hl4)
        | fail)
      go_ret
      exact ⟨rfl, HL1.out.trans (HV.out.lj.trans HL4.out)⟩
    case pos =>
    have hin : (i : Int) < (n : Int) := by omega
    have hwi : IntKind.i64.wrap ((i : Int) + 1) = (i : Int) + 1 := by rw [IntKind.wrap_i64]; omega
    obtain ⟨o1, o2, o3, o4⟩ := HOP.out
    obtain ⟨x, hx⟩ : ∃ x, ops[i]? = some x := ⟨_, List.getElem?_eq_getElem (by omega)⟩
    have hok := o3 x (List.mem_of_getElem? hx)
    obtain ⟨g, o, rfl, hcs⟩ := o4.resolve_left (by omega)
    obtain ⟨c0, c1, c2, c3, c4, c5, c6⟩ := (hcs i x hx).later (HL1.out.trans HV.out.lj)
    obtain ⟨xon, xkd, xa, xb, xP, xQ, xca, xcn, xcc⟩ := x
    have HXS := Lib.hid hok
    obtain ⟨wq, hwq⟩ : ∃ W, wr.alloc (.cells #[.int .i64 xon, .int .i64 xkd, .int .i64 xa, .int .i64 xb, .string xP, .string xQ, .slice xca xcn xcc] 66) = W := ⟨_, rfl⟩
    obtain ⟨q8, hq8⟩ : ∃ q, wr.heap.size = q := ⟨_, rfl⟩
    have HLQ := Lib.hid (show LJ wr wq from by rw [← hwq]; exact (LJ.refl wr).alloc _)
    have HBQ := Lib.hid (show wq.heap[q8]? = some (.cells #[.int .i64 xon, .int .i64 xkd, .int .i64 xa, .int .i64 xb, .string xP, .string xQ, .slice xca xcn xcc] 66 (0, 0)) from by rw [← hwq, ← hq8]; exact alloc_blk wr _)
    have HVQ := Lib.hid (show VK w1 wq (fun q => q = q8) p b jb vb J l (3 + i) from HV.out.more HLQ.out (by rintro q rfl; exact .inr ⟨by omega, lt_blk HBQ.out⟩))
    have HWQ := Lib.hid hwq
    have HQ8 := Lib.hid hq8
    clear o1 o2 o3 o4 hx hok hcs hwq hq8
    go_upto_region 8 with fail
    rw [HWQ.out, HQ8.out]
    clear c0 c1 c2 c3 c4 c5 c6
    have d1 : wq.cell? ⟨q8, 1, none⟩ = some (.int .i64 xkd) := cell_blk HBQ.out 1
    by_cases h5 : 5 ≤ xkd
    case pos =>
      go_wp2_with fail
      go_roundw
      case rel => exact ⟨i + 1, J, l, by omega, by simp, Lib.hid ((HV.out.later HLQ.out).up (by omega))⟩
      case measure => simp [intOf]; omega
    case neg =>
    have hlt5 : xkd < 5 := by omega
    have hvj := HV.out.vj
    have hinv := hvj.inv
    have hle : (imageE l).length ≤ J.room' := hvj.voc.le
    have h40 : J.room' ≤ 4640 := by have := hvj.c40; unfold Jn.room'; omega
    have hl4 : l.length ≤ 4096 := by have := hvj.count; omega
    obtain ⟨room, hroom⟩ : ∃ r, J.room' = r := ⟨_, rfl⟩
    rw [hroom] at hle h40
    have HRM := Lib.hid hroom
    obtain ⟨FR, hFR⟩ : ∃ x, room - (imageE l).length = x := ⟨_, rfl⟩
    obtain ⟨IMG, hIMG⟩ : ∃ X : ByteArray, (⟨(imgV J.n J.V).toArray⟩ : ByteArray) = X := ⟨_, rfl⟩
    have HEN := Lib.hid (vk_entries HVQ.out)
    have HIM := Lib.hid (fun W K B (h : VK w1 W K p b jb vb J l B) => show Calls Tryz.prog 26 #[.pointer (some ⟨p, 0, none⟩)] W fun e w' => e = .returned (.string IMG) ∧ LJ W w' from by rw [← hIMG]; exact vk_image h)
    have HFE := Lib.hid (fun W K B (h : VK w1 W K p b jb vb J l B) => show Calls Tryz.prog 45 #[.pointer (some ⟨vb, 0, none⟩)] W fun e w' => e = .returned (.int .i64 (FR : Int)) ∧ LJ W w' from by have h3 := vk_free h; rw [hroom, hFR] at h3; exact h3)
    have HSM := Lib.hid (fun W v1 v2 h1 h2 => esame_any W v1 v2 l hl4 h1 h2)
    obtain ⟨A, hA⟩ : ∃ A, doE room l xkd xa xb xP xQ = A := ⟨_, rfl⟩
    have hAok := doE_ok (room := room) hinv hle xkd xa xb xP xQ
    rw [hA] at hAok
    have HDO := Lib.hid (fun W K (h : VK w1 W K p b jb vb J l (3 + i)) => show Calls Tryz.prog 32 #[.pointer (some ⟨vb, 0, none⟩), .agg #[.int .i64 xon, .int .i64 xkd, .int .i64 xa, .int .i64 xb, .string xP, .string xQ, .slice xca xcn xcc]] W (DoesO w1 W K p b jb vb J l (3 + i) A) from by have h3 := ldoes_any h (by omega) xon xkd xa xb xP xQ xca xcn xcc HXS.out.P HXS.out.Q; rw [hroom, hA] at h3; exact h3)
    have HA := Lib.hid hA
    have HFR := Lib.hid hFR
    have HLE := Lib.hid hle
    have HINV := Lib.hid hinv
    obtain ⟨nl, hnl⟩ : ∃ x, l.length = x := ⟨_, rfl⟩
    rw [hnl] at HEN
    have HNL := Lib.hid hnl
    clear hIMG hA hFR hvj hinv hle hl4 hroom hnl
    go_upto_region 10 with (first
      | (go_at_call 33; (with_reducible refine HEN.out.mono ?_); rintro e w3 ⟨a3, cap3, rfl, h1, h2, h3⟩; have HE3 := Lib.hid h1; have HV3 := Lib.hid h3; have HB3 := Lib.hid (h2.block HBQ.out); clear h1 h2 h3)
      | (go_at_call 26; (with_reducible refine (HIM.out _ _ _ HV3.out).mono ?_); rintro e w4 ⟨rfl, h1⟩; have HL4 := Lib.hid h1; clear h1)
      | (go_at_call 45; (with_reducible refine (HFE.out _ _ _ (HV3.out.later HL4.out)).mono ?_); rintro e w5 ⟨rfl, h1⟩; have HL5 := Lib.hid (HL4.out.trans h1); clear h1)
      | fail)
    clear d1
    have HB5 := Lib.hid (HL5.out.block HB3.out)
    have HE5 := Lib.hid (HE3.out.later HL5.out)
    have HD5 := Lib.hid (HDO.out w5 _ (HV3.out.later HL5.out))
    have b0 : w5.cell? ⟨q8, 0, none⟩ = some (.int .i64 xon) := cell_blk HB5.out 0
    have b1 : w5.cell? ⟨q8, 1, none⟩ = some (.int .i64 xkd) := cell_blk HB5.out 1
    have b2 : w5.cell? ⟨q8, 2, none⟩ = some (.int .i64 xa) := cell_blk HB5.out 2
    have b3 : w5.cell? ⟨q8, 3, none⟩ = some (.int .i64 xb) := cell_blk HB5.out 3
    have b4 : w5.cell? ⟨q8, 4, none⟩ = some (.string xP) := cell_blk HB5.out 4
    have b5 : w5.cell? ⟨q8, 5, none⟩ = some (.string xQ) := cell_blk HB5.out 5
    have b6 : w5.cell? ⟨q8, 6, none⟩ = some (.slice xca xcn xcc) := cell_blk HB5.out 6
    obtain ⟨r, now⟩ := A
    go_upto_region 11 with (first
      | (go_at_call 32; (with_reducible refine HD5.out.mono ?_); rintro e w6 ⟨rfl, h1, h2⟩; have HV6 := Lib.hid h1; have HE6 := Lib.hid (HE5.out.kept h2 (fun q hq => .inr hq)); have HB6 := Lib.hid ((h2 q8 (.inl rfl)).trans HB5.out); clear h1 h2)
      | fail)
    clear b0 b1 b2 b3 b4 b5 b6
    rcases hAok with ⟨hr, hnow⟩ | ⟨hr, hin2, hle2⟩
    · have hr' : r ≠ 0 := hr
      have hnow' : now = l := hnow
      subst hnow'
      have hrb : (r != 0) = true := by simpa using hr'
      have HV6' := HV6
      rw [ans_not _ _ hr] at HV6'
      have HEN6 := Lib.hid (vk_entries HV6'.out)
      rw [HNL.out] at HEN6
      clear hr hnow
      go_wp2_with (first
        | (go_at_call 33; (with_reducible refine HEN6.out.mono ?_); rintro e w7 ⟨a7, cap7, rfl, h1, h2, h3⟩; have HE7 := Lib.hid h1; have HL7 := Lib.hid h2; have HV7 := Lib.hid h3; clear h1 h2 h3)
        | (go_at_call 35; (with_reducible refine (HSM.out _ _ _ HE7.out (HE6.out.later HL7.out)).mono ?_); rintro e w8 ⟨rfl, h1⟩; have HL8 := Lib.hid h1; clear h1)
        | (go_at_call 26; (with_reducible refine (HIM.out _ _ _ (HV7.out.later HL8.out)).mono ?_); rintro e w9 ⟨rfl, h1⟩; have HL9 := Lib.hid (HL8.out.trans h1); clear h1)
        | fail)
      go_roundw
      case rel => exact ⟨i + 1, _, _, by omega, by simp, Lib.hid (((HV7.out.later HL9.out).less (fun _ h => h.elim)).up (by omega))⟩
      case measure => simp [intOf]; omega
    have hr' : r = 0 := hr
    subst hr'
    have hle2' : (imageE now).length ≤ room := hle2
    have hin2' : VInv now := hin2
    clear hr hle2 hin2
    obtain ⟨FR2, hFR2⟩ : ∃ x, room - (imageE now).length = x := ⟨_, rfl⟩
    have HV6' := HV6
    obtain ⟨J2, hJ2⟩ : ∃ x, J.ans l (0, now) = x := ⟨_, rfl⟩
    have hroom2 : J2.room' = room := by rw [← hJ2, ans_room]; exact HRM.out
    rw [hJ2] at HV6'
    have HFE2 := Lib.hid (fun W (hW : LJ w6 W) => show Calls Tryz.prog 45 #[.pointer (some ⟨vb, 0, none⟩)] W fun e w' => e = .returned (.int .i64 (FR2 : Int)) ∧ LJ W w' from by have h3 := vk_free (HV6'.out.later hW); rw [hroom2, hFR2] at h3; exact h3)
    have HST := Lib.hid (fun W (hW : LJ w6 W) (X : ByteArray) (hX : X.size ≤ 1048576) => vk_stat (HV6'.out.later hW) X hX)
    have HRO := Lib.hid (fun W v (h : EntSl W v now) => lrooted_any W v now (by have := HV6'.out.vj.count; omega) hin2' h)
    have HEN7 := Lib.hid (fun W (hW : LJ w6 W) => vk_entries (HV6'.out.later hW))
    obtain ⟨n2, hn2⟩ : ∃ x, now.length = x := ⟨_, rfl⟩
    rw [hn2] at HEN7
    have HL66 := Lib.hid (LJ.refl w6)
    have e1 : w6.cell? ⟨q8, 1, none⟩ = some (.int .i64 xkd) := cell_blk HB6.out 1
    have e4 : w6.cell? ⟨q8, 4, none⟩ = some (.string xP) := cell_blk HB6.out 4
    have HFR2 := Lib.hid hFR2
    have HF0 := Lib.hid h40
    have HLE2 := Lib.hid hle2'
    have HPS : xP.size ≤ 1048576 := HXS.out.P
    have HQS : xQ.size ≤ 1048576 := HXS.out.Q
    have hFR2h : FR2 ≤ 4640 := by omega
    clear hFR2 hn2 hroom2 hle2' hin2' h40 hJ2
    by_cases hkd : xkd = 0
    · subst hkd
      have hfa := mk_facts (room := room) (now := now) (p := xP.data.toList) (d := true) HINV.out (by have h3 := HA.out; unfold doE at h3; rw [if_pos rfl] at h3; exact h3)
      obtain ⟨m1, m2, m3, m4⟩ := hfa
      have hps : xP.data.toList.length = xP.size := by rw [Array.length_toList]; rfl
      rw [hps] at m3
      have hfr : FR = FR2 + 4 + xP.size := by have h6 := HFR.out; have h7 := HFR2.out; have h8 := HLE.out; omega
      obtain ⟨F4, hF4⟩ : ∃ x : Nat, FR2 + xP.size = x := ⟨_, rfl⟩
      have w1 : IntKind.i64.wrap ((FR : Int) - 4) = (F4 : Int) := by rw [IntKind.wrap_i64]; omega
      have w2 : IntKind.i64.wrap ((F4 : Int) - (xP.size : Int)) = (FR2 : Int) := by rw [IntKind.wrap_i64]; omega
      have HS1 := Lib.hid (fun W (hW : LJ w6 W) => show Calls Tryz.prog 40 #[.pointer (some ⟨vb, 0, none⟩), .string xP] W fun e w' => e = .returned (.tuple #[.bool true, .int .i64 0, .int .i64 0]) ∧ LJ W w' from by have h3 := HST.out W hW xP HPS; rw [m2] at h3; exact h3)
      clear m1 m2 m3 m4 hps hfr hF4
      go_upto_region 18 with (first
        | (go_at_call 40; (with_reducible refine (HS1.out _ HL66.out).mono ?_); rintro e w7 ⟨rfl, h1⟩; have HL7 := Lib.hid h1; have HB7 := Lib.hid (h1.block HB6.out); have f1 := cell_blk HB7.out 1; have f4 := cell_blk HB7.out 4; have f5 := cell_blk HB7.out 5; clear h1)
        | fail)
      clear e1 e4
      clear f1 f4 f5
      refine wp_region_held_drew (S := (fun w' => w'.heap[q8]? = some (.cells #[.int .i64 xon, .int .i64 0, .int .i64 xa, .int .i64 xb, .string xP, .string xQ, .slice xca xcn xcc] 66 (0, 0)))) (by kernel_rfl) (HB7.out) (fun hHeld => ?_)
      have hL := Lib.hid HL7.out.drew
      refine tkS 0 hHeld ?_
      refine tkS 1 hHeld ?_
      refine tkS 2 hHeld ?_
      refine tkS 3 hHeld ?_
      refine tkS 4 hHeld ?_
      refine tkS 5 hHeld ?_ (hy := by intro w hSw; have l1 : w.cell? ⟨q8, 1, none⟩ = some (.int .i64 0) := cell_blk hSw 1; go_simp; (try with_reducible rfl))
      refine tkS 6 hHeld ?_
      refine tkS 7 hHeld ?_
      refine tkS 8 hHeld ?_
      refine tkS 9 hHeld ?_
      refine tkS 10 hHeld ?_
      refine tkS 11 hHeld ?_
      refine tkS 12 hHeld ?_
      refine tkS 13 hHeld ?_
      refine tkS 14 hHeld ?_
      refine tkS 16 hHeld ?_
      refine tkS 17 hHeld ?_
      refine tkS 18 hHeld ?_
      refine tkS 19 hHeld ?_ (hy := by intro w hSw; have l4 : w.cell? ⟨q8, 4, none⟩ = some (.string xP) := cell_blk hSw 4; go_simp; (try with_reducible rfl))
      refine tkS 20 hHeld ?_
      refine tkS 21 hHeld ?_
      refine wpAnyH_ready (rs := [15]) (by kernel_rfl) (by simp) ?_
      refine AllReadyH.cons rfl (fun KK hK => ?_) AllReadyH.nil
      go_simp
      have hLx := hL
      (with_reducible refine (HFE2.out _ hL.out).mono ?_); rintro e wx ⟨rfl, hx⟩
      have hL := Lib.hid (hL.out.trans hx)
      have hS2 := hx.block hHeld
      clear hx
      refine hK.out _ _ hS2 (fun hHeld => ?_)
      clear hK KK hS2
      refine tkS 22 hHeld ?_
      refine tkS 23 hHeld ?_
      refine wpAnyH_done (by kernel_rfl) ?_ _
      go_simp
      go_wp2_with (first
        | (go_at_call 33; (with_reducible refine (HEN7.out _ hL.out).mono ?_); rintro e wt1 ⟨at1, capt1, rfl, h1, h2, h3⟩; have HT1 := Lib.hid h1; have HL71 := Lib.hid (hL.out.trans h2); clear h1 h2 h3)
        | (go_at_call 47; (with_reducible refine (HRO.out _ _ HT1.out).mono ?_); rintro e wt2 ⟨rfl, h1⟩; have HL72 := Lib.hid (HL71.out.trans h1); clear h1)
        | (go_at_call 45; (with_reducible refine (HFE2.out _ HL72.out).mono ?_); rintro e wt3 ⟨rfl, h1⟩; have HL73 := Lib.hid (HL72.out.trans h1); clear h1)
        | fail)
      go_roundw
      case rel => exact ⟨i + 1, _, _, by omega, by simp, Lib.hid ((HV6'.out.later HL73.out).less (fun _ h => h.elim))⟩
      case measure => simp [intOf]; omega
    by_cases hkd1 : xkd = 1
    · subst hkd1
      have hfa := mk_facts (room := room) (now := now) (p := xP.data.toList) (d := false) HINV.out (by have h3 := HA.out; unfold doE at h3; rw [if_neg (by decide), if_pos rfl] at h3; exact h3)
      obtain ⟨m1, m2, m3, m4⟩ := hfa
      have hps : xP.data.toList.length = xP.size := by rw [Array.length_toList]; rfl
      rw [hps] at m3
      have hfr : FR = FR2 + 4 + xP.size := by have h6 := HFR.out; have h7 := HFR2.out; have h8 := HLE.out; omega
      obtain ⟨F4, hF4⟩ : ∃ x : Nat, FR2 + xP.size = x := ⟨_, rfl⟩
      have w1 : IntKind.i64.wrap ((FR : Int) - 4) = (F4 : Int) := by rw [IntKind.wrap_i64]; omega
      have w2 : IntKind.i64.wrap ((F4 : Int) - (xP.size : Int)) = (FR2 : Int) := by rw [IntKind.wrap_i64]; omega
      have HS1 := Lib.hid (fun W (hW : LJ w6 W) => show Calls Tryz.prog 40 #[.pointer (some ⟨vb, 0, none⟩), .string xP] W fun e w' => e = .returned (.tuple #[.bool false, .int .i64 0, .int .i64 0]) ∧ LJ W w' from by have h3 := HST.out W hW xP HPS; rw [m2] at h3; exact h3)
      clear m1 m2 m3 m4 hps hfr hF4
      go_upto_region 18 with (first
        | (go_at_call 40; (with_reducible refine (HS1.out _ HL66.out).mono ?_); rintro e w7 ⟨rfl, h1⟩; have HL7 := Lib.hid h1; have HB7 := Lib.hid (h1.block HB6.out); have f1 := cell_blk HB7.out 1; have f4 := cell_blk HB7.out 4; have f5 := cell_blk HB7.out 5; clear h1)
        | fail)
      clear e1 e4
      clear f1 f4 f5
      refine wp_region_held_drew (S := (fun w' => w'.heap[q8]? = some (.cells #[.int .i64 xon, .int .i64 1, .int .i64 xa, .int .i64 xb, .string xP, .string xQ, .slice xca xcn xcc] 66 (0, 0)))) (by kernel_rfl) (HB7.out) (fun hHeld => ?_)
      have hL := Lib.hid HL7.out.drew
      refine tkS 0 hHeld ?_
      refine tkS 1 hHeld ?_
      refine tkS 2 hHeld ?_
      refine tkS 3 hHeld ?_
      refine tkS 4 hHeld ?_
      refine tkS 5 hHeld ?_ (hy := by intro w hSw; have l1 : w.cell? ⟨q8, 1, none⟩ = some (.int .i64 1) := cell_blk hSw 1; go_simp; (try with_reducible rfl))
      refine tkS 6 hHeld ?_
      refine tkS 7 hHeld ?_
      refine tkS 8 hHeld ?_
      refine tkS 9 hHeld ?_
      refine tkS 10 hHeld ?_
      refine tkS 11 hHeld ?_
      refine tkS 12 hHeld ?_
      refine tkS 13 hHeld ?_
      refine tkS 14 hHeld ?_
      refine tkS 16 hHeld ?_
      refine tkS 17 hHeld ?_
      refine tkS 18 hHeld ?_
      refine tkS 19 hHeld ?_ (hy := by intro w hSw; have l4 : w.cell? ⟨q8, 4, none⟩ = some (.string xP) := cell_blk hSw 4; go_simp; (try with_reducible rfl))
      refine tkS 20 hHeld ?_
      refine tkS 21 hHeld ?_
      refine wpAnyH_ready (rs := [15]) (by kernel_rfl) (by simp) ?_
      refine AllReadyH.cons rfl (fun KK hK => ?_) AllReadyH.nil
      go_simp
      have hLx := hL
      (with_reducible refine (HFE2.out _ hL.out).mono ?_); rintro e wx ⟨rfl, hx⟩
      have hL := Lib.hid (hL.out.trans hx)
      have hS2 := hx.block hHeld
      clear hx
      refine hK.out _ _ hS2 (fun hHeld => ?_)
      clear hK KK hS2
      refine tkS 22 hHeld ?_
      refine tkS 23 hHeld ?_
      refine wpAnyH_done (by kernel_rfl) ?_ _
      go_simp
      go_wp2_with (first
        | (go_at_call 33; (with_reducible refine (HEN7.out _ hL.out).mono ?_); rintro e wt1 ⟨at1, capt1, rfl, h1, h2, h3⟩; have HT1 := Lib.hid h1; have HL71 := Lib.hid (hL.out.trans h2); clear h1 h2 h3)
        | (go_at_call 47; (with_reducible refine (HRO.out _ _ HT1.out).mono ?_); rintro e wt2 ⟨rfl, h1⟩; have HL72 := Lib.hid (HL71.out.trans h1); clear h1)
        | (go_at_call 45; (with_reducible refine (HFE2.out _ HL72.out).mono ?_); rintro e wt3 ⟨rfl, h1⟩; have HL73 := Lib.hid (HL72.out.trans h1); clear h1)
        | fail)
      go_roundw
      case rel => exact ⟨i + 1, _, _, by omega, by simp, Lib.hid ((HV6'.out.later HL73.out).less (fun _ h => h.elim))⟩
      case measure => simp [intOf]; omega
    by_cases hkd2 : xkd = 2
    · subst hkd2
      obtain ⟨DD, hDD⟩ : ∃ D, dataE xQ xb = D := ⟨_, rfl⟩
      have hDs : DD.data.toList.length = DD.size := by rw [Array.length_toList]; rfl
      have hfa := wr_facts (room := room) (now := now) (p := xP.data.toList) (a := xa) (data := DD.data.toList) HINV.out (by have h3 := HA.out; unfold doE at h3; rw [if_neg (by decide), if_neg (by decide), if_pos rfl, hDD] at h3; exact h3)
      rw [hDs] at hfa
      obtain ⟨m1, ⟨N, m2, m3, m3'⟩, m4, m5, m6, m7⟩ := hfa
      obtain ⟨SUM, hSUM⟩ : ∃ x : Int, xa + (DD.size : Int) = x := ⟨_, rfl⟩
      have w1 : IntKind.i64.wrap (xa + (DD.size : Int)) = SUM := by rw [IntKind.wrap_i64]; omega
      have w2 : decide ((N : Int) < SUM) = false := decide_eq_false (by omega)
      have HS1 := Lib.hid (fun W (hW : LJ w6 W) => show Calls Tryz.prog 40 #[.pointer (some ⟨vb, 0, none⟩), .string xP] W fun e w' => e = .returned (.tuple #[.bool false, .int .i64 (N : Int), .int .i64 0]) ∧ LJ W w' from by have h3 := HST.out W hW xP HPS; rw [m2] at h3; exact h3)
      have HRD := Lib.hid (fun W (hW : LJ w6 W) => show Calls Tryz.prog 39 #[.pointer (some ⟨vb, 0, none⟩), .string xP, .int .i64 xa, .int .i64 (DD.size : Int)] W fun e w' => e = .returned (.tuple #[.string DD, .int .i64 0]) ∧ LJ W w' from by
        have h3 := vk_read (HV6'.out.later hW) xP HPS xa (DD.size : Int) (by omega)
        rw [m4] at h3
        rw [show (⟨(DD.data.toList, (0 : Int)).1.toArray⟩ : ByteArray) = DD from by cases DD; rfl] at h3
        exact h3)
      have HDA := Lib.hid (fun W => show Calls Tryz.prog 46 #[.agg #[.int .i64 xon, .int .i64 2, .int .i64 xa, .int .i64 xb, .string xP, .string xQ, .slice xca xcn xcc]] W fun e w' => e = .returned (.string DD) ∧ LJ W w' from by rw [← hDD]; exact ldata_any W xon 2 xa xb xP xQ _ (by omega))
      have hneD : (DD.toList != DD.toList) = false := by simp
      clear m1 m2 m3 m3' m4 m5 m6 m7 hDs hSUM hDD
      go_upto_region 21 with (first
        | (go_at_call 40; (with_reducible refine (HS1.out _ HL66.out).mono ?_); rintro e w7 ⟨rfl, h1⟩; have HL7 := Lib.hid h1; have HB7 := Lib.hid (h1.block HB6.out); have f1 := cell_blk HB7.out 1; have f4 := cell_blk HB7.out 4; have f5 := cell_blk HB7.out 5; clear h1)
        | fail)
      clear e1 e4
      clear f1 f4 f5
      refine wp_region_held_drew (S := (fun w' => w'.heap[q8]? = some (.cells #[.int .i64 xon, .int .i64 2, .int .i64 xa, .int .i64 xb, .string xP, .string xQ, .slice xca xcn xcc] 66 (0, 0)))) (by kernel_rfl) (HB7.out) (fun hHeld => ?_)
      have hL := Lib.hid HL7.out.drew
      refine tkS 0 hHeld ?_
      refine tkS 1 hHeld ?_
      refine tkS 2 hHeld ?_ (hy := by intro w hSw; have l4 : w.cell? ⟨q8, 4, none⟩ = some (.string xP) := cell_blk hSw 4; go_simp; (try with_reducible rfl))
      refine tkS 3 hHeld ?_
      refine tkS 4 hHeld ?_ (hy := by intro w hSw; have l2 : w.cell? ⟨q8, 2, none⟩ = some (.int .i64 xa) := cell_blk hSw 2; go_simp; (try with_reducible rfl))
      refine tkS 5 hHeld ?_ (hy := by intro w hSw; have l0 : w.cell? ⟨q8, 0, none⟩ = some (.int .i64 xon) := cell_blk hSw 0; have l1 : w.cell? ⟨q8, 1, none⟩ = some (.int .i64 2) := cell_blk hSw 1; have l2 : w.cell? ⟨q8, 2, none⟩ = some (.int .i64 xa) := cell_blk hSw 2; have l3 : w.cell? ⟨q8, 3, none⟩ = some (.int .i64 xb) := cell_blk hSw 3; have l4 : w.cell? ⟨q8, 4, none⟩ = some (.string xP) := cell_blk hSw 4; have l5 : w.cell? ⟨q8, 5, none⟩ = some (.string xQ) := cell_blk hSw 5; have l6 : w.cell? ⟨q8, 6, none⟩ = some (.slice xca xcn xcc) := cell_blk hSw 6; go_simp; (try with_reducible rfl))
      refine wpAnyH_ready (rs := [6]) (by kernel_rfl) (by simp) ?_
      refine AllReadyH.cons rfl (fun KK hK => ?_) AllReadyH.nil
      go_simp
      (with_reducible refine (HDA.out _).mono ?_); rintro e wx ⟨rfl, hx⟩
      have hL := Lib.hid (hL.out.trans hx)
      have hS2 := hx.block hHeld
      clear hx
      refine hK.out _ _ hS2 (fun hHeld => ?_)
      clear hK KK hS2
      refine tkS 7 hHeld ?_
      refine wpAnyH_ready (rs := [8]) (by kernel_rfl) (by simp) ?_
      refine AllReadyH.cons rfl (fun KK hK => ?_) AllReadyH.nil
      go_simp
      (with_reducible refine (HRD.out _ hL.out).mono ?_); rintro e wx ⟨rfl, hx⟩
      have hL := Lib.hid (hL.out.trans hx)
      have hS2 := hx.block hHeld
      clear hx
      refine hK.out _ _ hS2 (fun hHeld => ?_)
      clear hK KK hS2
      refine tkS 9 hHeld ?_
      refine tkS 10 hHeld ?_
      refine tkS 11 hHeld ?_
      refine tkS 12 hHeld ?_
      refine tkS 13 hHeld ?_
      refine wpAnyH_done (by kernel_rfl) ?_ _
      go_simp
      have HB8 := Lib.hid hHeld
      have HL8 := hL
      clear hHeld hL
      go_upto_region 22 with fail
      refine wp_region_held_drew (S := (fun w' => w'.heap[q8]? = some (.cells #[.int .i64 xon, .int .i64 2, .int .i64 xa, .int .i64 xb, .string xP, .string xQ, .slice xca xcn xcc] 66 (0, 0)))) (by kernel_rfl) (HB8.out) (fun hHeld => ?_)
      have hL := Lib.hid HL8.out.drew
      refine tkS 0 hHeld ?_
      refine tkS 1 hHeld ?_
      refine tkS 2 hHeld ?_
      refine tkS 3 hHeld ?_
      refine tkS 4 hHeld ?_
      refine tkS 5 hHeld ?_
      refine tkS 6 hHeld ?_
      refine tkS 7 hHeld ?_
      refine tkS 8 hHeld ?_
      refine tkS 9 hHeld ?_
      refine tkS 10 hHeld ?_
      refine tkS 11 hHeld ?_ (hy := by intro w hSw; have l0 : w.cell? ⟨q8, 0, none⟩ = some (.int .i64 xon) := cell_blk hSw 0; have l1 : w.cell? ⟨q8, 1, none⟩ = some (.int .i64 2) := cell_blk hSw 1; have l2 : w.cell? ⟨q8, 2, none⟩ = some (.int .i64 xa) := cell_blk hSw 2; have l3 : w.cell? ⟨q8, 3, none⟩ = some (.int .i64 xb) := cell_blk hSw 3; have l4 : w.cell? ⟨q8, 4, none⟩ = some (.string xP) := cell_blk hSw 4; have l5 : w.cell? ⟨q8, 5, none⟩ = some (.string xQ) := cell_blk hSw 5; have l6 : w.cell? ⟨q8, 6, none⟩ = some (.slice xca xcn xcc) := cell_blk hSw 6; go_simp; (try with_reducible rfl))
      refine wpAnyH_ready (rs := [12]) (by kernel_rfl) (by simp) ?_
      refine AllReadyH.cons rfl (fun KK hK => ?_) AllReadyH.nil
      go_simp
      (with_reducible refine (HDA.out _).mono ?_); rintro e wx ⟨rfl, hx⟩
      have hL := Lib.hid (hL.out.trans hx)
      have hS2 := hx.block hHeld
      clear hx
      refine hK.out _ _ hS2 (fun hHeld => ?_)
      clear hK KK hS2
      refine tkS 13 hHeld ?_
      refine tkS 14 hHeld ?_
      refine tkS 15 hHeld ?_
      refine tkS 16 hHeld ?_
      refine tkS 17 hHeld ?_
      refine tkS 18 hHeld ?_ (hy := by intro w hSw; have l2 : w.cell? ⟨q8, 2, none⟩ = some (.int .i64 xa) := cell_blk hSw 2; go_simp; (try with_reducible rfl))
      refine tkS 19 hHeld ?_ (hy := by intro w hSw; have l0 : w.cell? ⟨q8, 0, none⟩ = some (.int .i64 xon) := cell_blk hSw 0; have l1 : w.cell? ⟨q8, 1, none⟩ = some (.int .i64 2) := cell_blk hSw 1; have l2 : w.cell? ⟨q8, 2, none⟩ = some (.int .i64 xa) := cell_blk hSw 2; have l3 : w.cell? ⟨q8, 3, none⟩ = some (.int .i64 xb) := cell_blk hSw 3; have l4 : w.cell? ⟨q8, 4, none⟩ = some (.string xP) := cell_blk hSw 4; have l5 : w.cell? ⟨q8, 5, none⟩ = some (.string xQ) := cell_blk hSw 5; have l6 : w.cell? ⟨q8, 6, none⟩ = some (.slice xca xcn xcc) := cell_blk hSw 6; go_simp; (try with_reducible rfl))
      refine wpAnyH_ready (rs := [20]) (by kernel_rfl) (by simp) ?_
      refine AllReadyH.cons rfl (fun KK hK => ?_) AllReadyH.nil
      go_simp
      (with_reducible refine (HDA.out _).mono ?_); rintro e wx ⟨rfl, hx⟩
      have hL := Lib.hid (hL.out.trans hx)
      have hS2 := hx.block hHeld
      clear hx
      refine hK.out _ _ hS2 (fun hHeld => ?_)
      clear hK KK hS2
      refine tkS 21 hHeld ?_
      refine tkS 22 hHeld ?_
      refine tkS 23 hHeld ?_
      refine tkS 24 hHeld ?_
      refine wpAnyH_done (by kernel_rfl) ?_ _
      go_simp
      go_wp2_with (first
        | (go_at_call 33; (with_reducible refine (HEN7.out _ hL.out).mono ?_); rintro e wt1 ⟨at1, capt1, rfl, h1, h2, h3⟩; have HT1 := Lib.hid h1; have HL71 := Lib.hid (hL.out.trans h2); clear h1 h2 h3)
        | (go_at_call 47; (with_reducible refine (HRO.out _ _ HT1.out).mono ?_); rintro e wt2 ⟨rfl, h1⟩; have HL72 := Lib.hid (HL71.out.trans h1); clear h1)
        | (go_at_call 45; (with_reducible refine (HFE2.out _ HL72.out).mono ?_); rintro e wt3 ⟨rfl, h1⟩; have HL73 := Lib.hid (HL72.out.trans h1); clear h1)
        | fail)
      go_roundw
      case rel => exact ⟨i + 1, _, _, by omega, by simp, Lib.hid ((HV6'.out.later HL73.out).less (fun _ h => h.elim))⟩
      case measure => simp [intOf]; omega
    by_cases hkd3 : xkd = 3
    · subst hkd3
      have hfa := rm_facts (room := room) (now := now) (p := xP.data.toList) HINV.out (by have h3 := HA.out; unfold doE at h3; rw [if_neg (by decide), if_neg (by decide), if_neg (by decide), if_pos rfl] at h3; exact h3)
      obtain ⟨m1, m2, m3⟩ := hfa
      have HS1 := Lib.hid (fun W (hW : LJ w6 W) => show Calls Tryz.prog 40 #[.pointer (some ⟨vb, 0, none⟩), .string xP] W fun e w' => e = .returned (.tuple #[.bool false, .int .i64 0, .int .i64 172]) ∧ LJ W w' from by have h3 := HST.out W hW xP HPS; rw [m2] at h3; exact h3)
      clear m1 m2 m3
      go_upto_region 25 with (first
        | (go_at_call 40; (with_reducible refine (HS1.out _ HL66.out).mono ?_); rintro e w7 ⟨rfl, h1⟩; have HL7 := Lib.hid h1; have HB7 := Lib.hid (h1.block HB6.out); have f1 := cell_blk HB7.out 1; have f4 := cell_blk HB7.out 4; have f5 := cell_blk HB7.out 5; clear h1)
        | fail)
      clear e1 e4
      go_wp2_with (first
        | (go_at_call 33; (with_reducible refine (HEN7.out _ HL7.out).mono ?_); rintro e wt1 ⟨at1, capt1, rfl, h1, h2, h3⟩; have HT1 := Lib.hid h1; have HL71 := Lib.hid (HL7.out.trans h2); clear h1 h2 h3)
        | (go_at_call 47; (with_reducible refine (HRO.out _ _ HT1.out).mono ?_); rintro e wt2 ⟨rfl, h1⟩; have HL72 := Lib.hid (HL71.out.trans h1); clear h1)
        | (go_at_call 45; (with_reducible refine (HFE2.out _ HL72.out).mono ?_); rintro e wt3 ⟨rfl, h1⟩; have HL73 := Lib.hid (HL72.out.trans h1); clear h1)
        | fail)
      go_roundw
      case rel => exact ⟨i + 1, _, _, by omega, by simp, Lib.hid ((HV6'.out.later HL73.out).less (fun _ h => h.elim))⟩
      case measure => simp [intOf]; omega
    by_cases hkd4 : xkd = 4
    · subst hkd4
      have hfa := rn_told (room := room) (now := now) (p := xP.data.toList) (q := xQ.data.toList) HINV.out (by have h3 := HA.out; unfold doE at h3; rw [if_neg (by decide), if_neg (by decide), if_neg (by decide), if_neg (by decide), if_pos rfl] at h3; exact h3)
      obtain ⟨m1, m2, ⟨dq, nq, m3, m3'⟩, m4, m5⟩ := hfa
      have hps : xP.data.toList.length = xP.size := by rw [Array.length_toList]; rfl
      have hqs : xQ.data.toList.length = xQ.size := by rw [Array.length_toList]; rfl
      rw [hps, hqs] at m4
      have hfr : FR + xP.size = FR2 + xQ.size := by have h6 := HFR.out; have h7 := HFR2.out; have h8 := HLE.out; omega
      obtain ⟨F4, hF4⟩ : ∃ x : Nat, FR + xP.size = x := ⟨_, rfl⟩
      have w1 : IntKind.i64.wrap ((FR : Int) + (xP.size : Int)) = (F4 : Int) := by rw [IntKind.wrap_i64]; omega
      have w2 : IntKind.i64.wrap ((F4 : Int) - (xQ.size : Int)) = (FR2 : Int) := by rw [IntKind.wrap_i64]; omega
      have HS1 := Lib.hid (fun W (hW : LJ w6 W) => show Calls Tryz.prog 40 #[.pointer (some ⟨vb, 0, none⟩), .string xP] W fun e w' => e = .returned (.tuple #[.bool false, .int .i64 0, .int .i64 172]) ∧ LJ W w' from by have h3 := HST.out W hW xP HPS; rw [m2] at h3; exact h3)
      have HS2 := Lib.hid (fun W (hW : LJ w6 W) => show Calls Tryz.prog 40 #[.pointer (some ⟨vb, 0, none⟩), .string xQ] W fun e w' => e = .returned (.tuple #[.bool dq, .int .i64 (nq : Int), .int .i64 0]) ∧ LJ W w' from by have h3 := HST.out W hW xQ HQS; rw [m3] at h3; exact h3)
      clear m1 m2 m3 m3' m4 m5 hps hqs hfr hF4
      go_upto_region 28 with (first
        | (go_at_call 40; (with_reducible refine (HS1.out _ HL66.out).mono ?_); rintro e w7 ⟨rfl, h1⟩; have HL7 := Lib.hid h1; have HB7 := Lib.hid (h1.block HB6.out); have f1 := cell_blk HB7.out 1; have f4 := cell_blk HB7.out 4; have f5 := cell_blk HB7.out 5; clear h1)
        | fail)
      clear e1 e4
      go_upto_region 29 with (first
        | (go_at_call 40; (with_reducible refine (HS2.out _ HL7.out).mono ?_); rintro e w8 ⟨rfl, h1⟩; have HL8 := Lib.hid (HL7.out.trans h1); have HB8 := Lib.hid (h1.block HB7.out); clear h1)
        | fail)
      clear f1 f4 f5
      refine wp_region_held_drew (S := (fun w' => w'.heap[q8]? = some (.cells #[.int .i64 xon, .int .i64 4, .int .i64 xa, .int .i64 xb, .string xP, .string xQ, .slice xca xcn xcc] 66 (0, 0)))) (by kernel_rfl) (HB8.out) (fun hHeld => ?_)
      have hL := Lib.hid HL8.out.drew
      refine tkS 0 hHeld ?_
      refine tkS 1 hHeld ?_
      refine tkS 2 hHeld ?_
      refine tkS 3 hHeld ?_
      refine tkS 4 hHeld ?_
      refine tkS 5 hHeld ?_
      refine tkS 6 hHeld ?_
      refine tkS 7 hHeld ?_
      refine tkS 9 hHeld ?_
      refine tkS 10 hHeld ?_
      refine tkS 11 hHeld ?_ (hy := by intro w hSw; have l4 : w.cell? ⟨q8, 4, none⟩ = some (.string xP) := cell_blk hSw 4; go_simp; (try with_reducible rfl))
      refine tkS 12 hHeld ?_
      refine tkS 13 hHeld ?_
      refine tkS 14 hHeld ?_
      refine tkS 15 hHeld ?_ (hy := by intro w hSw; have l5 : w.cell? ⟨q8, 5, none⟩ = some (.string xQ) := cell_blk hSw 5; go_simp; (try with_reducible rfl))
      refine tkS 16 hHeld ?_
      refine tkS 17 hHeld ?_
      refine wpAnyH_ready (rs := [8]) (by kernel_rfl) (by simp) ?_
      refine AllReadyH.cons rfl (fun KK hK => ?_) AllReadyH.nil
      go_simp
      (with_reducible refine (HFE2.out _ hL.out).mono ?_); rintro e wx ⟨rfl, hx⟩
      have hL := Lib.hid (hL.out.trans hx)
      have hS2 := hx.block hHeld
      clear hx
      refine hK.out _ _ hS2 (fun hHeld => ?_)
      clear hK KK hS2
      refine tkS 18 hHeld ?_
      refine tkS 19 hHeld ?_
      refine wpAnyH_done (by kernel_rfl) ?_ _
      go_simp
      go_wp2_with (first
        | (go_at_call 33; (with_reducible refine (HEN7.out _ hL.out).mono ?_); rintro e wt1 ⟨at1, capt1, rfl, h1, h2, h3⟩; have HT1 := Lib.hid h1; have HL71 := Lib.hid (hL.out.trans h2); clear h1 h2 h3)
        | (go_at_call 47; (with_reducible refine (HRO.out _ _ HT1.out).mono ?_); rintro e wt2 ⟨rfl, h1⟩; have HL72 := Lib.hid (HL71.out.trans h1); clear h1)
        | (go_at_call 45; (with_reducible refine (HFE2.out _ HL72.out).mono ?_); rintro e wt3 ⟨rfl, h1⟩; have HL73 := Lib.hid (HL72.out.trans h1); clear h1)
        | fail)
      go_roundw
      case rel => exact ⟨i + 1, _, _, by omega, by simp, Lib.hid ((HV6'.out.later HL73.out).less (fun _ h => h.elim))⟩
      case measure => simp [intOf]; omega
    have g0 : (xkd == 0) = false := by simpa using hkd
    have g1 : (xkd == 1) = false := by simpa using hkd1
    have g2 : (xkd == 2) = false := by simpa using hkd2
    have g3 : (xkd == 3) = false := by simpa using hkd3
    have g4 : (xkd == 4) = false := by simpa using hkd4
    obtain ⟨ST, hSTE⟩ : ∃ x, stE now xP.data.toList = x := ⟨_, rfl⟩
    obtain ⟨sd, sn, se⟩ := ST
    have HS1 := Lib.hid (fun W (hW : LJ w6 W) => show Calls Tryz.prog 40 #[.pointer (some ⟨vb, 0, none⟩), .string xP] W fun e w' => e = .returned (.tuple #[.bool sd, .int .i64 (sn : Int), .int .i64 se]) ∧ LJ W w' from by have h3 := HST.out W hW xP HPS; rw [hSTE] at h3; exact h3)
    clear hSTE hkd hkd1 hkd2 hkd3 hkd4
    go_upto_region 31 with (first
      | (go_at_call 40; (with_reducible refine (HS1.out _ HL66.out).mono ?_); rintro e w7 ⟨rfl, h1⟩; have HL7 := Lib.hid h1; have HB7 := Lib.hid (h1.block HB6.out); have f1 := cell_blk HB7.out 1; have f4 := cell_blk HB7.out 4; have f5 := cell_blk HB7.out 5; clear h1)
      | fail)
    clear e1 e4
    go_wp2_with (first
      | (go_at_call 33; (with_reducible refine (HEN7.out _ HL7.out).mono ?_); rintro e wt1 ⟨at1, capt1, rfl, h1, h2, h3⟩; have HT1 := Lib.hid h1; have HL71 := Lib.hid (HL7.out.trans h2); clear h1 h2 h3)
      | (go_at_call 47; (with_reducible refine (HRO.out _ _ HT1.out).mono ?_); rintro e wt2 ⟨rfl, h1⟩; have HL72 := Lib.hid (HL71.out.trans h1); clear h1)
      | (go_at_call 45; (with_reducible refine (HFE2.out _ HL72.out).mono ?_); rintro e wt3 ⟨rfl, h1⟩; have HL73 := Lib.hid (HL72.out.trans h1); clear h1)
      | fail)
    go_roundw
    case rel => exact ⟨i + 1, _, _, by omega, by simp, Lib.hid ((HV6'.out.later HL73.out).less (fun _ h => h.elim))⟩
    case measure => simp [intOf]; omega
theorem vkeeps_card (w : World) (c m k : Int) (hc : -9223372036854775808 ≤ c ∧ c ≤ 9223372036854775807) (hm : -9223372036854775808 ≤ m ∧ m ≤ 9223372036854775807) (hk : -9223372036854775808 ≤ k ∧ k ≤ 9223372036854775807) (a : Option Addr) (n cap : Nat) (ops : List OpV) (hops : OpsAt w a n ops) :
    Calls Tryz.prog 8 #[.agg #[.int .i64 c, .int .i64 m, .int .i64 k], .slice a n cap] w fun e w' => e = .returned (.bool true) ∧ Below w.heap.size w w' := vkeeps_any w c m k hc hm hk a n cap ops hops
end Go.Proofs.YtfpbocjmlhcgiaaGreatDoor
