/- Vgg, merged: VN13 VN15 VN16. -/
import Derived.Test.YtfpbocjmlhcgiaaGreatDoorVgf
import Derived.Test.YtfpbocjmlhcgiaaGreatDoorVg4
import Derived.Test.YtfpbocjmlhcgiaaGreatDoorVgd
set_option linter.unusedSimpArgs false
set_option linter.unusedVariables false
/- The document's Find; the law's texts, rooted. -/
namespace Go.Proofs.YtfpbocjmlhcgiaaGreatDoor
open Go.RowKit PJ Go.Maps

/-- What Find leaves. -/
def FindO (w : World) (l : List Ent) (p : List UInt8) (e : Ending) (w' : World) : Prop := ∃ (k : Nat) (b : Bool), e = .returned (.tuple #[.int .i64 (k : Int), .bool b]) ∧ FindR l p k b ∧ LJ w w'
set_option maxRecDepth 100000 in
set_option maxHeartbeats 4000000 in
theorem rfind_any (w : World) (v : Value) (l : List Ent) (hx : l.length ≤ 4096) (h : EntSl w v l) (P : ByteArray) :
    Calls Tryz.prog 36 #[v, .string P] w (FindO w l P.data.toList) := by
  obtain ⟨a1, c1, rfl, f1⟩ := h.forms
  obtain ⟨m, hm⟩ : ∃ m, l.length = m := ⟨_, rfl⟩
  obtain ⟨pl, hpl⟩ : ∃ x, P.data.toList = x := ⟨_, rfl⟩
  have hPT : P.toList = pl := by rw [ByteArray.toList_eq, hpl]
  have HF1 := Lib.hid f1
  rw [hm] at HF1 hx ⊢
  have HM := Lib.hid hm
  have HJ0 := Lib.hid (LJ.refl w)
  rw [hpl]
  clear h f1 hm hpl
  go_enter Tryz.func36, Tryz.ntmps36
  go_wp2_with fail
  go_loopw [6] (fun v6 wr => ∃ k : Nat, k ≤ m ∧ v6 = .int .i64 (k : Int) ∧ Hid (∀ j x, j < k → l[j]? = some x → x.p < pl) ∧ Hid (LJ w wr)) (fun v6 _ => m - (intOf v6).toNat)
  case atStart => exact ⟨0, by omega, rfl, Lib.hid (fun j x hj => by omega), HJ0⟩
  case round =>
    obtain ⟨k, hk, rfl, HB, HL⟩ := hrel
    by_cases hlt : k < m
    · have hlk : (k : Int) < (m : Int) := by omega
      have hld : decide (k < m) = true := decide_eq_true hlt
      have hwk : IntKind.i64.wrap ((k : Int) + 1) = (k : Int) + 1 := by rw [IntKind.wrap_i64]; omega
      obtain ⟨x, hxx⟩ : ∃ x, l[k]? = some x := ⟨_, List.getElem?_eq_getElem (by rw [HM.out]; exact hlt)⟩
      rcases HF1.out with h0 | ⟨g1, rfl, hc1, k1⟩
      · omega
      obtain ⟨k10, k11, k12⟩ := k1 k x hxx
      obtain ⟨XP, hXP⟩ : ∃ X : ByteArray, (⟨x.p.toArray⟩ : ByteArray) = X := ⟨_, rfl⟩
      obtain ⟨xp, hxp⟩ : ∃ y, x.p = y := ⟨_, rfl⟩
      have hXT : XP.toList = xp := by rw [← hXP, ByteArray.toList_eq, hxp]
      have e0 : wr.cell? ⟨g1, k * 3, none⟩ = some (.string XP) := by rw [← hXP]; exact HL.out.cell k10
      have HX := Lib.hid hxx
      have HXP := Lib.hid hxp
      clear k1 k10 k11 k12 hxx hXP hxp
      by_cases hs : xp < pl
      · have hbl : Op.bytesLess xp pl = true := by rw [Proofs.bytesLess_eq, decide_eq_true hs]
        have HB2 := Lib.hid (show ∀ j x, j < k + 1 → l[j]? = some x → x.p < pl from fun j y hj hy => by
          rcases Nat.lt_or_ge j k with h | h
          · exact HB.out j y h hy
          · have : j = k := by omega
            subst this
            rw [HX.out] at hy
            rw [← Option.some.inj hy, HXP.out]
            exact hs)
        go_wp2_with fail
        go_roundw
        case rel => exact ⟨k + 1, by omega, by simp, HB2, HL⟩
        case measure => simp [intOf]; omega
      · have hbl : Op.bytesLess xp pl = false := by rw [Proofs.bytesLess_eq, decide_eq_false hs]
        obtain ⟨b, hb⟩ : ∃ b, (xp == pl) = b := ⟨_, rfl⟩
        have HR := Lib.hid (show FindR l pl k b from ⟨by have := HM.out; omega, HB.out, .inr ⟨x, HX.out, by rw [HXP.out]; exact hs, by rw [HXP.out, hb]⟩⟩)
        go_upto_region 4 with fail
        go_quiet (fail)
        have HL2 := Lib.hid (LJ.drewN HL.out nq)
        go_wp2_with fail
        go_ret2
        exact ⟨k, b, rfl, HR.out, HL2.out⟩
    · have hie : m = k := by omega
      subst hie
      have hld : decide (m < m) = false := decide_eq_false hlt
      have hlk : ¬ (m : Int) < (m : Int) := by omega
      have HR := Lib.hid (show FindR l pl m false from ⟨by have := HM.out; omega, HB.out, .inl ⟨HM.out.symm, rfl⟩⟩)
      go_upto_region 4 with fail
      go_quiet (fail)
      have HL2 := Lib.hid (LJ.drewN HL.out nq)
      go_wp2_with fail
      go_ret2
      exact ⟨m, false, rfl, HR.out, HL2.out⟩
end Go.Proofs.YtfpbocjmlhcgiaaGreatDoor
/- The law's texts, rooted. -/
namespace Go.Proofs.YtfpbocjmlhcgiaaGreatDoor
open Go.RowKit PJ Go.Maps

theorem SLs.forms {w : World} {v : Value} {xs : List (List UInt8)} (h : SLs w v xs) : ∃ ao cap, v = .slice ao xs.length cap ∧ (xs.length = 0 ∨ ∃ g, ao = some ⟨g, 0, none⟩ ∧ ∀ j s, xs[j]? = some s → w.cell? ⟨g, j, none⟩ = some (.string ⟨s.toArray⟩)) := by
  rcases h with ⟨rfl, rfl⟩ | ⟨g, c, rfl, h⟩
  · exact ⟨none, 0, rfl, .inl rfl⟩
  · exact ⟨_, c, rfl, .inr ⟨g, rfl, h⟩⟩
theorem SLs.later {w w' : World} {v : Value} {xs : List (List UInt8)} (h : SLs w v xs) (hl : LJ w w') : SLs w' v xs := by
  rcases h with h | ⟨g, c, e, h⟩
  · exact .inl h
  · exact .inr ⟨g, c, e, fun j s hs => hl.cell (h j s hs)⟩
set_option maxRecDepth 100000 in
set_option maxHeartbeats 4000000 in
theorem ltexts_any (w : World) (v1 v2 : Value) (xs : List (List UInt8)) (hx : xs.length ≤ 4096) (h1 : SLs w v1 xs) (h2 : SLs w v2 xs) :
    Calls Tryz.prog 44 #[v1, v2] w fun e w' => e = .returned (.bool true) ∧ LJ w w' := by
  obtain ⟨a1, c1, rfl, f1⟩ := h1.forms
  obtain ⟨a2, c2, rfl, f2⟩ := h2.forms
  obtain ⟨m, hm⟩ : ∃ m, xs.length = m := ⟨_, rfl⟩
  have HF1 := Lib.hid f1
  have HF2 := Lib.hid f2
  rw [hm] at HF1 HF2 hx ⊢
  have HM := Lib.hid hm
  have hne : ((m : Int) != (m : Int)) = false := bne_self_eq_false _
  have HJ0 := Lib.hid (LJ.refl w)
  clear h1 h2 f1 f2 hm
  go_enter Tryz.func44, Tryz.ntmps44
  go_wp2_with fail
  go_loopw [5] (fun v5 wr => ∃ i : Nat, i ≤ m ∧ v5 = .int .i64 (i : Int) ∧ Hid (LJ w wr)) (fun v5 _ => m - (intOf v5).toNat)
  case atStart => exact ⟨0, by omega, rfl, HJ0⟩
  case round =>
    obtain ⟨i, hi, rfl, HL⟩ := hrel
    by_cases hlt : i < m
    · have hli : (i : Int) < (m : Int) := by omega
      have hwi : IntKind.i64.wrap ((i : Int) + 1) = (i : Int) + 1 := by rw [IntKind.wrap_i64]; omega
      obtain ⟨x, hxx⟩ : ∃ x, xs[i]? = some x := ⟨_, List.getElem?_eq_getElem (by rw [HM.out]; exact hlt)⟩
      rcases HF1.out with h0 | ⟨g1, rfl, k1⟩
      · omega
      rcases HF2.out with h0 | ⟨g2, rfl, k2⟩
      · omega
      have k10 := k1 i x hxx
      have k20 := k2 i x hxx
      obtain ⟨XP, hXP⟩ : ∃ X : ByteArray, (⟨x.toArray⟩ : ByteArray) = X := ⟨_, rfl⟩
      have e0 : wr.cell? ⟨g1, i, none⟩ = some (.string XP) := by rw [← hXP]; exact HL.out.cell k10
      have d0 : wr.cell? ⟨g2, i, none⟩ = some (.string XP) := by rw [← hXP]; exact HL.out.cell k20
      have hdd : (XP.toList == XP.toList) = true := beq_self_eq_true _
      have hdn : (XP.toList != XP.toList) = false := by simp
      clear k1 k2 k10 k20 hxx hXP
      go_upto_region 6 with fail
      go_quiet (fail)
      have HL2 := Lib.hid (LJ.drewN HL.out nq)
      go_wp2_with fail
      go_roundw
      case rel => exact ⟨i + 1, by omega, by simp, HL2⟩
      case measure => simp [intOf]; omega
    · have hie : i = m := by omega
      subst hie
      go_wp2_with fail
      go_ret
      exact ⟨rfl, HL.out⟩
theorem upR_eq {p : List UInt8} (h : p.head? = some 47) : upR p = upP p := by
  unfold upR upP
  by_cases e : lastS p < 1
  · rw [if_pos e, show (max 1 (lastS p)) = 1 from by omega]
    cases p with
    | nil => simp at h
    | cons c r =>
      have h' : c = 47 := by simpa using h
      rw [h']
      rfl
  · rw [if_neg e, show max 1 (lastS p) = lastS p from by omega]
set_option maxRecDepth 100000 in
set_option maxHeartbeats 4000000 in
theorem lrooted_any (w : World) (v : Value) (l : List Ent) (hx : l.length ≤ 4096) (hi : VInv l) (h : EntSl w v l) :
    Calls Tryz.prog 47 #[v] w fun e w' => e = .returned (.bool true) ∧ LJ w w' := by
  have HFI := Lib.hid (fun W (hW : LJ w W) (P : ByteArray) => rfind_any W v l hx (h.later hW) P)
  obtain ⟨a1, c1, rfl, f1⟩ := h.forms
  obtain ⟨m, hm⟩ : ∃ m, l.length = m := ⟨_, rfl⟩
  have HF1 := Lib.hid f1
  rw [hm] at HF1 HFI hx ⊢
  have HM := Lib.hid hm
  have HJ0 := Lib.hid (LJ.refl w)
  have HINV := Lib.hid hi
  clear h f1 hm hi
  go_enter Tryz.func47, Tryz.ntmps47
  go_wp2_with fail
  go_loopw [3] (fun v3 wr => ∃ i : Nat, i ≤ m ∧ v3 = .int .i64 (i : Int) ∧ Hid (LJ w wr)) (fun v3 _ => m - (intOf v3).toNat)
  case atStart => exact ⟨0, by omega, rfl, HJ0⟩
  case round =>
    obtain ⟨i, hi, rfl, HL⟩ := hrel
    by_cases hlt : i < m
    · have hli : (i : Int) < (m : Int) := by omega
      have hwi : IntKind.i64.wrap ((i : Int) + 1) = (i : Int) + 1 := by rw [IntKind.wrap_i64]; omega
      obtain ⟨x, hxx⟩ : ∃ x, l[i]? = some x := ⟨_, List.getElem?_eq_getElem (by rw [HM.out]; exact hlt)⟩
      have hxm := List.mem_of_getElem? hxx
      rcases HF1.out with h0 | ⟨g1, rfl, hc1, k1⟩
      · omega
      have HKS := Lib.hid k1
      obtain ⟨k10, k11, k12⟩ := k1 i x hxx
      obtain ⟨hpb, hpr⟩ := HINV.out.path x hxm
      obtain ⟨p2, p48, phd⟩ := pathB_len hpb hpr
      obtain ⟨XP, hXP⟩ : ∃ X : ByteArray, (⟨x.p.toArray⟩ : ByteArray) = X := ⟨_, rfl⟩
      have hXd : XP.data.toList = x.p := by rw [← hXP]
      have hXs : XP.size = x.p.length := by rw [← hXP]; show x.p.toArray.size = _; rw [List.size_toArray]
      have e0 : wr.cell? ⟨g1, i * 3, none⟩ = some (.string XP) := by rw [← hXP]; exact HL.out.cell k10
      obtain ⟨up, hup⟩ : ∃ u, upP x.p = u := ⟨_, rfl⟩
      obtain ⟨UP, hUP⟩ : ∃ X : ByteArray, (⟨up.toArray⟩ : ByteArray) = X := ⟨_, rfl⟩
      have hUT : UP.toList = up := by rw [← hUP, ByteArray.toList_eq]
      have HUP := Lib.hid (fun W => show Calls Tryz.prog 41 #[.string XP] W fun e w' => e = .returned (.string UP) ∧ W = w' from by
        have h3 := rup_any W XP (by omega) (by omega)
        rw [hXd, upR_eq phd, hup, hUP] at h3
        exact h3)
      have HPA := Lib.hid (fun W => show Calls Tryz.prog 29 #[.string XP] W fun e w' => e = .returned (.bool true) ∧ LJ W w' from by
        have h3 := rpath_any W XP (by omega)
        rw [hXd, hpb] at h3
        exact h3)
      have hUd : UP.data.toList = up := by rw [← hUP]
      have HUPX := Lib.hid (show up = [47] ∨ ∃ u, findE l up = some u ∧ u.d = true from by
        rw [← hup]
        rcases HINV.out.up x hxm with e | ⟨u, hu, e, hd⟩
        · exact .inl e
        · exact .inr ⟨u, by rw [← e]; exact findE_of HINV.out.rise hu, hd⟩)
      have HUD := Lib.hid hUd
      have HFU := Lib.hid (fun W (hW : LJ w W) => HFI.out W hW UP)
      clear k1 k10 k11 k12 hxx hXP hup hUP hxm hpb hpr p2 p48 phd hXd hXs hUd
      by_cases hr : up = [47]
      · have hrb : (up == [47]) = true := by simpa using hr
        have hrn : (up != [47]) = false := by simpa using hr
        go_wp2_with (first
          | (go_at_call 41; (with_reducible refine (HUP.out _).mono ?_); rintro e wx ⟨rfl, hwx⟩; subst hwx)
          | (go_at_call 36; (with_reducible refine (HFU.out _ HL.out).mono ?_); rintro e w2 ⟨k, b, rfl, hfr, hl2⟩; have HL2 := Lib.hid (HL.out.trans hl2); have HFR := Lib.hid hfr; have e2 : w2.cell? ⟨g1, i * 3, none⟩ = some (.string XP) := hl2.cell e0; clear hl2 hfr)
          | (go_at_call 29; (with_reducible refine (HPA.out _).mono ?_); rintro e w3 ⟨rfl, hl3⟩; have HL3 := Lib.hid (HL2.out.trans hl3); clear hl3)
          | fail)
        go_roundw
        case rel => exact ⟨i + 1, by omega, by simp, HL3⟩
        case measure => simp [intOf]; omega
      · have hrb : (up == [47]) = false := by simpa using hr
        have hrn : (up != [47]) = true := by simpa using hr
        have HUX := Lib.hid (show ∀ k b (W : World), FindR l UP.data.toList k b → LJ w W → b = true ∧ k < m ∧ W.cell? ⟨g1, k * 3 + 1, none⟩ = some (.bool true) from fun k b W hfr hlw => by
          obtain ⟨u, hu1, hu2⟩ := HUPX.out.resolve_left hr
          rw [HUD.out] at hfr
          obtain ⟨f1, f2⟩ := findR HINV.out.rise hfr
          have f3 := f2 u hu1
          have c1 := (HKS.out k u f3).2.1
          rw [hu2] at c1
          exact ⟨by rw [f1, hu1]; rfl, by have := (List.getElem?_eq_some_iff.1 f3).1; have := HM.out; omega, hlw.cell c1⟩)
        go_wp2_with (first
          | (go_at_call 41; (with_reducible refine (HUP.out _).mono ?_); rintro e wx ⟨rfl, hwx⟩; subst hwx)
          | (go_at_call 36; (with_reducible refine (HFU.out _ HL.out).mono ?_); rintro e w2 ⟨k, b, rfl, hfr, hl2⟩; have HL2 := Lib.hid (HL.out.trans hl2); have e2 : w2.cell? ⟨g1, i * 3, none⟩ = some (.string XP) := hl2.cell e0; obtain ⟨hbt, hkm, hdk⟩ := HUX.out k b w2 hfr HL2.out; subst hbt; clear hl2 hfr)
          | (go_at_call 29; (with_reducible refine (HPA.out _).mono ?_); rintro e w3 ⟨rfl, hl3⟩; have HL3 := Lib.hid (HL2.out.trans hl3); clear hl3)
          | fail)
        go_roundw
        case rel => exact ⟨i + 1, by omega, by simp, HL3⟩
        case measure => simp [intOf]; omega
    · have hie : i = m := by omega
      subst hie
      go_wp2_with fail
      go_ret
      exact ⟨rfl, HL.out⟩
end Go.Proofs.YtfpbocjmlhcgiaaGreatDoor
/- The law VolumeMoves. -/
namespace Go.Proofs.YtfpbocjmlhcgiaaGreatDoor
open Go.RowKit PJ Go.Maps

theorem rn_or (room : Nat) (l : List Ent) (hi : VInv l) (hl : (imageE l).length ≤ room) (p q : List UInt8) : ((rnE room l p q).1 ≠ 0 ∧ (rnE room l p q).2 = l) ∨ (rnE room l p q).1 = 0 := by
  rcases rnE_ok hi p q (room := room) with h | h
  · exact .inl h
  · exact .inr h.1
theorem EntSl.at {w : World} {a : Option Addr} {n cap : Nat} {l : List Ent} (h : EntSl w (.slice a n cap) l) (hl : 0 < l.length) : ∃ g, a = some ⟨g, 0, none⟩ ∧ ∀ i x, l[i]? = some x → w.cell? ⟨g, i * 3, none⟩ = some (.string ⟨x.p.toArray⟩) ∧ w.cell? ⟨g, i * 3 + 1, none⟩ = some (.bool x.d) ∧ w.cell? ⟨g, i * 3 + 2, none⟩ = some (.string ⟨x.s.toArray⟩) := by
  obtain ⟨ao, cp, e, h1⟩ := h.forms
  injection e with e1 e2 e3
  obtain ⟨g, h2, -, h3⟩ := h1.resolve_left (by omega)
  exact ⟨g, e1.trans h2, h3⟩
set_option maxRecDepth 100000 in
set_option maxHeartbeats 8000000 in
theorem moves_any (w : World) (c m k : Int) (hc : -9223372036854775808 ≤ c ∧ c ≤ 9223372036854775807) (hm : -9223372036854775808 ≤ m ∧ m ≤ 9223372036854775807) (hk : -9223372036854775808 ≤ k ∧ k ≤ 9223372036854775807) (a : Option Addr) (n cap : Nat) (ops : List OpV) (hops : OpsAt w a n ops) (P0 P1 : ByteArray) (hP0 : P0.size ≤ 1048576) (hP1 : P1.size ≤ 1048576) :
    Calls Tryz.prog 5 #[.agg #[.int .i64 c, .int .i64 m, .int .i64 k], .slice a n cap, .agg #[.string P0, .string P1]] w fun e w' => e = .returned (.bool true) ∧ LJ w w' := by
  obtain ⟨w0, hw0⟩ : ∃ w0, w.alloc (.cells #[.int .i64 c, .int .i64 m, .int .i64 k] 57) = w0 := ⟨_, rfl⟩
  obtain ⟨w1, hw1⟩ : ∃ w1, w0.alloc (.cells #[.string P0, .string P1] 59) = w1 := ⟨_, rfl⟩
  obtain ⟨q3, hq3⟩ : ∃ q, w.heap.size = q := ⟨_, rfl⟩
  obtain ⟨q5, hq5⟩ : ∃ q, w0.heap.size = q := ⟨_, rfl⟩
  have hl0 : LJ w w0 := by rw [← hw0]; exact (LJ.refl w).alloc _
  have hl1 : LJ w0 w1 := by rw [← hw1]; exact (LJ.refl w0).alloc _
  have hb3 : w1.heap[q3]? = some (.cells #[.int .i64 c, .int .i64 m, .int .i64 k] 57 (0, 0)) := hl1.block (by rw [← hw0, ← hq3]; exact alloc_blk w _)
  have hb5 : w1.heap[q5]? = some (.cells #[.string P0, .string P1] 59 (0, 0)) := by rw [← hw1, ← hq5]; exact alloc_blk w0 _
  have HL1 := Lib.hid (hl0.trans hl1)
  have k0 : w1.cell? ⟨q3, 0, none⟩ = some (.int .i64 c) := cell_blk hb3 0
  have k1 : w1.cell? ⟨q3, 1, none⟩ = some (.int .i64 m) := cell_blk hb3 1
  have k2 : w1.cell? ⟨q3, 2, none⟩ = some (.int .i64 k) := cell_blk hb3 2
  have HP0 := Lib.hid (show w1.cell? ⟨q5, 0, none⟩ = some (.string P0) from cell_blk hb5 0)
  have HP1 := Lib.hid (show w1.cell? ⟨q5, 1, none⟩ = some (.string P1) from cell_blk hb5 1)
  have HLD := Lib.hid (show Calls Tryz.prog 31 #[.agg #[.int .i64 c, .int .i64 m, .int .i64 k]] w1 fun e w' => ∃ p b jb vb J, e = .returned (.tuple #[.pointer (some ⟨p, 0, none⟩), .pointer (some ⟨vb, 0, none⟩)]) ∧ VK w1 w' (fun _ => False) p b jb vb J [] 3 from by
    refine (l17laid_any w1 c m k hc hm hk).mono ?_
    rintro e w' ⟨p, b, jb, vb, J, rfl, h1, h2, h3⟩
    exact ⟨p, b, jb, vb, J, rfl, h1⟩)
  have HFX := Lib.hid (fun W => fixed17_any W)
  have hn6 := hops.2.1
  have HOP := Lib.hid hops
  have HSZ := Lib.hid (And.intro hP0 hP1)
  have HW0 := Lib.hid hw0
  have HW1 := Lib.hid hw1
  have HQ3 := Lib.hid hq3
  have HQ5 := Lib.hid (show q3 + 1 = q5 from by rw [← hq3, ← hq5, ← hw0]; exact (World.size_alloc ..).symm)
  clear hc hm hk hops hP0 hP1 hw0 hw1 hq3 hq5 hb3 hb5 hl0 hl1
  go_enter Tryz.func5, Tryz.ntmps5
  go_upto_region 1 with fail
  rw [HW0.out, HW1.out, HQ3.out, HQ5.out]
  go_wp2_with (first
    | (go_at_call 31; (with_reducible refine HLD.out.mono ?_); rintro e w2 ⟨p, b, jb, vb, J0, rfl, h1⟩; have H0 := Lib.hid h1; clear h1)
    | fail)
  clear k0 k1 k2
  go_loopw [9] (fun v9 wr => ∃ (i : Nat) (J : Jn) (l : List Ent), i ≤ n ∧ v9 = .int .i64 (i : Int) ∧ Hid (VK w1 wr (fun _ => False) p b jb vb J l (3 + i))) (fun v9 _ => n - (intOf v9).toNat)
  case atStart => exact ⟨0, J0, [], by omega, rfl, H0⟩
  case round =>
    obtain ⟨i, J, l, hi, rfl, HV⟩ := hrel
    by_cases hlt : i < n
    · have hin : (i : Int) < (n : Int) := by omega
      have hwi : IntKind.i64.wrap ((i : Int) + 1) = (i : Int) + 1 := by rw [IntKind.wrap_i64]; omega
      obtain ⟨o1, o2, o3, o4⟩ := HOP.out
      obtain ⟨x, hx⟩ : ∃ x, ops[i]? = some x := ⟨_, List.getElem?_eq_getElem (by omega)⟩
      have hok := o3 x (List.mem_of_getElem? hx)
      obtain ⟨g, o, rfl, hcs⟩ := o4.resolve_left (by omega)
      obtain ⟨c0, c1, c2, c3, c4, c5, c6⟩ := (hcs i x hx).later (HL1.out.trans HV.out.lj)
      obtain ⟨xon, xkd, xa, xb, xP, xQ, xca, xcn, xcc⟩ := x
      have HDO := Lib.hid (ldoes_any HV.out (by omega) xon xkd xa xb xP xQ xca xcn xcc hok.P hok.Q)
      clear o1 o2 o3 o4 hx hok hcs
      go_wp2_with (first
        | (go_at_call 32; (with_reducible refine HDO.out.mono ?_); rintro e w3 ⟨rfl, h3, -⟩; have HV3 := Lib.hid h3; clear h3)
        | fail)
      go_roundw
      case rel => exact ⟨i + 1, _, _, by omega, by simp, HV3⟩
      case measure => simp [intOf]; omega
    · have hie : i = n := by omega
      subst hie
      have hin : ¬ (i : Int) < (i : Int) := by omega
      have hvj := HV.out.vj
      have hle : (imageE l).length ≤ J.room' := hvj.voc.le
      have HMB := Lib.hid (fun now h => moves_back (room := J.room') (now := now) (p := P0.data.toList) (q := P1.data.toList) hvj.inv hle h)
      have hcnt := hvj.count
      have HOR := Lib.hid (rn_or J.room' l hvj.inv hle P0.data.toList P1.data.toList)
      have HEN := Lib.hid (vk_entries HV.out)
      obtain ⟨nl, hnl⟩ : ∃ x, l.length = x := ⟨_, rfl⟩
      rw [hnl] at HEN hcnt
      have HNL := Lib.hid hnl
      clear hvj hle hnl
      go_upto_region 9 with (first
        | (go_at_call 33; (with_reducible refine HEN.out.mono ?_); rintro e w4 ⟨a4, cap4, rfl, h1, h2, h3⟩; have HE4 := Lib.hid h1; have HV4 := Lib.hid h3; have c50 := h3.lj.cell HP0.out; have c51 := h3.lj.cell HP1.out; clear h1 h2 h3)
        | fail)
      obtain ⟨A, hA⟩ : ∃ A, rnE J.room' l P0.data.toList P1.data.toList = A := ⟨_, rfl⟩
      have HRN := Lib.hid (show Calls Tryz.prog 34 #[.pointer (some ⟨vb, 0, none⟩), .string P0, .string P1] w4 fun e w' => e = .returned (.int .i64 A.1) ∧ VK w1 w' (fun q => False ∨ (Value.slice a4 nl cap4).ownBlock = some q) p b jb vb (J.ans l A) A.2 (3 + i + 1) ∧ KeptK (fun q => False ∨ (Value.slice a4 nl cap4).ownBlock = some q) w4 w' from by rw [← hA]; exact vk_rename HV4.out (by omega) P0 P1 HSZ.out.1 HSZ.out.2)
      rw [hA] at HOR
      have HA := Lib.hid hA
      clear hA
      obtain ⟨r, now⟩ := A
      rcases HOR.out with ⟨hr, hnow⟩ | hr
      · have hr' : r ≠ 0 := hr
        have hnow' : now = l := hnow
        subst hnow'
        have hrb : (r != 0) = true := by simpa using hr'
        clear hr hnow
        go_upto_region 10 with (first
          | (go_at_call 34; (with_reducible refine HRN.out.mono ?_); rintro e w5 ⟨rfl, h1, h2⟩; have HV5 := Lib.hid h1; have HE5 := Lib.hid (HE4.out.kept h2 (fun q hq => .inr hq)); clear h1 h2)
          | fail)
        have HEN5 := Lib.hid (vk_entries HV5.out)
        rw [HNL.out] at HEN5
        have HNN := Lib.hid hcnt
        have HSM := Lib.hid (fun W v1 v2 h1 h2 => esame_any W v1 v2 now (by have := HNL.out; have := HNN.out; omega) h1 h2)
        go_wp2_with (first
          | (go_at_call 33; (with_reducible refine HEN5.out.mono ?_); rintro e w6 ⟨a6, cap6, rfl, h1, h2, h3⟩; have HE6 := Lib.hid h1; have HL6 := Lib.hid h2; have HV6 := Lib.hid h3; clear h1 h2 h3)
          | (go_at_call 35; (with_reducible refine (HSM.out _ _ _ HE6.out (HE5.out.later HL6.out)).mono ?_); rintro e w7 ⟨rfl, h1⟩; have HL7 := Lib.hid h1; clear h1)
          | (go_at_call 30; (with_reducible refine (HFX.out _).mono ?_); rintro e w8 ⟨rfl, hl8⟩; have HL8 := Lib.hid hl8; clear hl8)
          | fail)
        go_ret
        exact ⟨rfl, HL1.out.trans (HV6.out.lj.trans (HL7.out.trans HL8.out))⟩
      · have hr' : r = 0 := hr
        subst hr'
        clear hr
        obtain ⟨x, m1, m2, m3, m4, m5⟩ := HMB.out now HA.out
        have hril := HV.out.vj.inv.rise
        have hlpos : 0 < l.length := by obtain ⟨hx, -⟩ := findE_some m1; exact List.length_pos_of_mem hx
        obtain ⟨g4, rfl, -⟩ := HE4.out.at hlpos
        have hl4096 : l.length ≤ 4096 := by have := HNL.out; omega
        have hnn4 : now.length = nl := m4.trans HNL.out
        have HM5 := Lib.hid m5
        have HFA := Lib.hid (fun W v (h : EntSl W v l) => show Calls Tryz.prog 36 #[v, .string P0] W fun e w' => ∃ k : Nat, e = .returned (.tuple #[.int .i64 (k : Int), .bool true]) ∧ k < nl ∧ l[k]? = some x ∧ LJ W w' from by
          refine (rfind_any W v l hl4096 h P0).mono ?_
          rintro e w' ⟨k, b, rfl, hfr, hl⟩
          obtain ⟨f1, f2⟩ := findR hril hfr
          have f3 := f2 x m1
          rw [m1] at f1
          have f1' : b = true := f1
          subst f1'
          exact ⟨k, rfl, by have := (List.getElem?_eq_some_iff.1 f3).1; have := HNL.out; omega, f3, hl⟩)
        have HFB := Lib.hid (fun W v (hr : Rise now) (h : EntSl W v now) => show Calls Tryz.prog 36 #[v, .string P1] W fun e w' => ∃ k : Nat, e = .returned (.tuple #[.int .i64 (k : Int), .bool true]) ∧ k < nl ∧ now[k]? = some ⟨P1.data.toList, x.d, x.s⟩ ∧ LJ W w' from by
          refine (rfind_any W v now (by omega) h P1).mono ?_
          rintro e w' ⟨k, b, rfl, hfr, hl⟩
          obtain ⟨f1, f2⟩ := findR hr hfr
          have f3 := f2 _ m2
          rw [m2] at f1
          have f1' : b = true := f1
          subst f1'
          exact ⟨k, rfl, by have := (List.getElem?_eq_some_iff.1 f3).1; omega, f3, hl⟩)
        have HFC := Lib.hid (fun W v (hr : Rise now) (h : EntSl W v now) => show Calls Tryz.prog 36 #[v, .string P0] W fun e w' => ∃ k : Nat, e = .returned (.tuple #[.int .i64 (k : Int), .bool false]) ∧ LJ W w' from by
          refine (rfind_any W v now (by omega) h P0).mono ?_
          rintro e w' ⟨k, b, rfl, hfr, hl⟩
          obtain ⟨f1, f2⟩ := findR hr hfr
          rw [m3] at f1
          have f1' : b = false := f1
          subst f1'
          exact ⟨k, rfl, hl⟩)
        have HSM := Lib.hid (fun W v1 v2 h1 h2 => esame_any W v1 v2 l hl4096 h1 h2)
        have HNN := Lib.hid hnn4
        have HPO := Lib.hid hlpos
        clear m1 m2 m3 m4 m5 hril hlpos hl4096 hnn4
        go_upto_region 11 with (first
          | (go_at_call 34; (with_reducible refine HRN.out.mono ?_); rintro e w5 ⟨rfl, h1, h2⟩; have HV5 := Lib.hid h1; have HE5 := Lib.hid (HE4.out.kept h2 (fun q hq => .inr hq)); clear h1 h2)
          | fail)
        clear c50 c51
        have HEN5 := Lib.hid (vk_entries HV5.out)
        rw [HNN.out] at HEN5
        have HRI := Lib.hid HV5.out.vj.inv.rise
        go_upto_region 12 with (first
          | (go_at_call 33; (with_reducible refine HEN5.out.mono ?_); rintro e w6 ⟨a6, cap6, rfl, h1, h2, h3⟩; have HE6 := Lib.hid h1; have HW6 := Lib.hid (HE5.out.later h2); have HV6 := Lib.hid h3; have c50 := h3.lj.cell HP0.out; clear h1 h2 h3)
          | fail)
        obtain ⟨g6, rfl, -⟩ := HE6.out.at (by have := HNN.out; have := HNL.out; have := HPO.out; omega)
        go_upto_region 13 with (first
          | (go_at_call 36; (with_reducible refine (HFA.out _ _ HW6.out).mono ?_); rintro e w7 ⟨f7, rfl, h1, h2, h3⟩; have hf7 := h1; have HF7 := Lib.hid h2; have HL7 := Lib.hid h3; have c71 := (HV6.out.lj.trans h3).cell HP1.out; clear h1 h2 h3)
          | fail)
        clear c50
        go_upto_region 14 with (first
          | (go_at_call 36; (with_reducible refine (HFB.out _ _ HRI.out (HE6.out.later HL7.out)).mono ?_); rintro e w8 ⟨f8, rfl, h1, h2, h3⟩; have hf8 := h1; have HF8 := Lib.hid h2; have HL8 := Lib.hid (HL7.out.trans h3); have c80 := (HV6.out.lj.trans HL8.out).cell HP0.out; clear h1 h2 h3)
          | fail)
        clear c71
        obtain ⟨XS, hXS⟩ : ∃ X : ByteArray, (⟨x.s.toArray⟩ : ByteArray) = X := ⟨_, rfl⟩
        have HXS := Lib.hid hXS
        clear hXS
        go_upto_region 15 with (first
          | (go_at_call 36; (with_reducible refine (HFC.out _ _ HRI.out (HE6.out.later HL8.out)).mono ?_); rintro e w9 ⟨f9, rfl, h3⟩; have HL9 := Lib.hid (HL8.out.trans h3); clear h3)
          | fail)
        clear c80
        have cw : w9.cell? ⟨g4, f7 * 3 + 2, none⟩ = some (.string XS) := by
          obtain ⟨g, e, h1⟩ := (HW6.out.later HL9.out).at HPO.out
          have e' : g4 = g := congrArg Addr.block (Option.some.inj e)
          have h2 := (h1 _ _ HF7.out).2.2
          rw [HXS.out, ← e'] at h2
          exact h2
        have cn : w9.cell? ⟨g6, f8 * 3 + 2, none⟩ = some (.string XS) := by
          obtain ⟨g, e, h1⟩ := (HE6.out.later HL9.out).at (by have := HNN.out; have := HNL.out; have := HPO.out; omega)
          have e' : g6 = g := congrArg Addr.block (Option.some.inj e)
          have h2 := (h1 _ _ HF8.out).2.2
          have h3 : w9.cell? ⟨g, f8 * 3 + 2, none⟩ = some (.string ⟨x.s.toArray⟩) := h2
          rw [HXS.out, ← e'] at h3
          exact h3
        have hdd : (XS.toList == XS.toList) = true := beq_self_eq_true _
        have hne : ((nl : Int) != (nl : Int)) = false := bne_self_eq_false _
        have hf7i : (f7 : Int) < (nl : Int) := by omega
        have hf8i : (f8 : Int) < (nl : Int) := by omega
        go_quiet (fail)
        have HL10 := Lib.hid (LJ.drewN HL9.out nq)
        clear cw cn
        go_upto_region 17 with fail
        obtain ⟨w10, hw10⟩ : ∃ W, w9.drewN nq = W := ⟨_, rfl⟩
        rw [hw10] at HL10 ⊢
        clear hw10
        have HV10 := Lib.hid (HV6.out.later HL10.out)
        have c50 := HV10.out.lj.cell HP0.out
        have c51 := HV10.out.lj.cell HP1.out
        have HE10 := Lib.hid (HW6.out.later HL10.out)
        have HRN2 := Lib.hid (show Calls Tryz.prog 34 #[.pointer (some ⟨vb, 0, none⟩), .string P1, .string P0] w10 fun e w' => e = .returned (.int .i64 0) ∧ (∃ J2 K2, VK w1 w' K2 p b jb vb J2 l (3 + i + 1 + 1)) ∧ EntSl w' (.slice (some ⟨g4, 0, none⟩) nl cap4) l from by
          have h1 := vk_rename HV10.out (by omega) P1 P0 HSZ.out.2 HSZ.out.1
          rw [ans_room, HM5.out] at h1
          refine h1.mono ?_
          rintro e w' ⟨rfl, h2, h3⟩
          exact ⟨rfl, ⟨_, _, h2⟩, HE10.out.kept h3 (fun q hq => .inl (.inr hq))⟩)
        go_wp2_with (first
          | (go_at_call 34; (with_reducible refine HRN2.out.mono ?_); rintro e w11 ⟨rfl, ⟨J2, K2, h1⟩, h2⟩; have HV11 := Lib.hid h1; have HE11 := Lib.hid h2; have HEN11 := Lib.hid (vk_entries h1); rw [HNL.out] at HEN11; clear h1 h2)
          | (go_at_call 33; (with_reducible refine HEN11.out.mono ?_); rintro e w12 ⟨a12, cap12, rfl, h1, h2, h3⟩; have HE12 := Lib.hid h1; have HL12 := Lib.hid h2; have HV12 := Lib.hid h3; clear h1 h2 h3)
          | (go_at_call 35; (with_reducible refine (HSM.out _ _ _ HE12.out (HE11.out.later HL12.out)).mono ?_); rintro e w13 ⟨rfl, h1⟩; have HL13 := Lib.hid h1; clear h1)
          | (go_at_call 30; (with_reducible refine (HFX.out _).mono ?_); rintro e w14 ⟨rfl, hl8⟩; have HL14 := Lib.hid hl8; clear hl8)
          | fail)
        go_ret
        exact ⟨rfl, HL1.out.trans (HV12.out.lj.trans (HL13.out.trans HL14.out))⟩
theorem vmoves_card (w : World) (c m k : Int) (hc : -9223372036854775808 ≤ c ∧ c ≤ 9223372036854775807) (hm : -9223372036854775808 ≤ m ∧ m ≤ 9223372036854775807) (hk : -9223372036854775808 ≤ k ∧ k ≤ 9223372036854775807) (a : Option Addr) (n cap : Nat) (ops : List OpV) (hops : OpsAt w a n ops) (P0 P1 : ByteArray) (hP0 : P0.size ≤ 1048576) (hP1 : P1.size ≤ 1048576) :
    Calls Tryz.prog 5 #[.agg #[.int .i64 c, .int .i64 m, .int .i64 k], .slice a n cap, .agg #[.string P0, .string P1]] w fun e w' => e = .returned (.bool true) ∧ Below w.heap.size w w' := moves_any w c m k hc hm hk a n cap ops hops P0 P1 hP0 hP1
end Go.Proofs.YtfpbocjmlhcgiaaGreatDoor
