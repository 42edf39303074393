/- The law VolumeLists. -/
import Derived.Test.YtfpbocjmlhcgiaaGreatDoorVgg
set_option linter.unusedSimpArgs false
set_option linter.unusedVariables false
namespace Go.Proofs.YtfpbocjmlhcgiaaGreatDoor
open Go.RowKit PJ Go.Maps

def namesE (l : List Ent) (p : List UInt8) : List (List UInt8) := (kidsE l p).map fun y => lastN y.p
theorem names_take {l : List Ent} {p : List UInt8} {i : Nat} {x : Ent} (h : l[i]? = some x) : namesE (l.take (i + 1)) p = if upP x.p == p then namesE (l.take i) p ++ [lastN x.p] else namesE (l.take i) p := by
  unfold namesE kidsE
  rw [List.take_add_one, h, List.filter_append, List.map_append]
  by_cases e : upP x.p == p
  · rw [if_pos e]; simp [e]
  · rw [if_neg e]; simp [e]
theorem names_le (l : List Ent) (p : List UInt8) : (namesE l p).length ≤ l.length := by
  unfold namesE kidsE
  rw [List.length_map]
  exact List.length_filter_le _ _
/-- What is told of a path, case by case. -/
theorem told_none {l : List Ent} {p : List UInt8} (h1 : pathB p = true) (h2 : p ≠ [47]) (h3 : findE l p = none) : lsE l p = ([], 172) ∧ stE l p = (false, 0, 172) := by
  have h4 : atE l p = none := by unfold atE; rw [if_neg h2, h3]
  unfold lsE stE
  rw [h1, h4]
  exact ⟨rfl, rfl⟩
theorem told_dir {l : List Ent} {p : List UInt8} (hi : VInv l) (h1 : pathB p = true) (h2 : p = [47] ∨ ∃ x, findE l p = some x ∧ x.d = true) : lsE l p = (namesE l p, 0) ∧ stE l p = (true, (namesE l p).length, 0) := by
  have h4 : ∃ x, atE l p = some x ∧ x.d = true ∧ x.s = [] := by
    unfold atE
    by_cases e : p = [47]
    · rw [if_pos e]; exact ⟨_, rfl, rfl, rfl⟩
    · obtain ⟨x, h5, h6⟩ := h2.resolve_left e
      rw [if_neg e, h5]
      exact ⟨x, rfl, h6, hi.dirS x (findE_some h5).1 h6⟩
  obtain ⟨x, h5, h6, h7⟩ := h4
  unfold lsE stE
  rw [h1, h5]
  simp only [Bool.true_eq_false, if_false]
  rw [if_pos h6, h6, h7]
  refine ⟨rfl, ?_⟩
  unfold namesE
  simp
theorem told_file {l : List Ent} {p : List UInt8} (hi : VInv l) (h1 : pathB p = true) (h2 : p ≠ [47]) {x : Ent} (h3 : findE l p = some x) (h4 : x.d = false) : lsE l p = ([], 174) ∧ stE l p = (false, x.s.length, 0) ∧ ∀ A : Nat, A ≤ x.s.length → rdE l p (A : Int) 7 = ((x.s.drop A).take 7, 0) := by
  have h5 : atE l p = some x := by unfold atE; rw [if_neg h2, h3]
  have h6 : kidsE l p = [] := kids_none hi h2 fun u hu e => by
    have h7 := findE_of hi.rise hu
    rw [e, h3] at h7
    rw [← Option.some.inj h7]
    exact h4
  unfold lsE stE rdE
  rw [h1, h5]
  simp only [Bool.true_eq_false, if_false]
  rw [if_neg (by rw [h4]; simp), h6, h4]
  refine ⟨rfl, rfl, fun A hA => ?_⟩
  rw [if_neg (by simp), if_neg (by omega)]
  rfl
theorem take_str (s : List UInt8) (A : Nat) : (⟨(s.take A).toArray⟩ : ByteArray) ++ ⟨((s.drop A).take 7).toArray⟩ = ⟨(s.take (A + 7)).toArray⟩ := by
  apply ByteArray.ext
  apply Array.toList_inj.1
  rw [app_data]
  show s.take A ++ (s.drop A).take 7 = s.take (A + 7)
  rw [List.take_add]
set_option maxRecDepth 100000 in
set_option maxHeartbeats 16000000 in
theorem vlists_any (w : World) (c m k : Int) (hc : -9223372036854775808 ≤ c ∧ c ≤ 9223372036854775807) (hm : -9223372036854775808 ≤ m ∧ m ≤ 9223372036854775807) (hk : -9223372036854775808 ≤ k ∧ k ≤ 9223372036854775807) (a : Option Addr) (n cap : Nat) (ops : List OpV) (hops : OpsAt w a n ops) (P : ByteArray) (hP : P.size ≤ 1048576) :
    Calls Tryz.prog 7 #[.agg #[.int .i64 c, .int .i64 m, .int .i64 k], .slice a n cap, .string P] w fun e w' => e = .returned (.bool true) ∧ LJ w w' := by
  obtain ⟨w1, hw1⟩ : ∃ w1, w.alloc (.cells #[.int .i64 c, .int .i64 m, .int .i64 k] 57) = w1 := ⟨_, rfl⟩
  obtain ⟨q3, hq3⟩ : ∃ q, w.heap.size = q := ⟨_, rfl⟩
  have hl1 : LJ w w1 := by rw [← hw1]; exact (LJ.refl w).alloc _
  have hb3 : w1.heap[q3]? = some (.cells #[.int .i64 c, .int .i64 m, .int .i64 k] 57 (0, 0)) := by rw [← hw1, ← hq3]; exact alloc_blk w _
  have HL1 := Lib.hid hl1
  have k0 : w1.cell? ⟨q3, 0, none⟩ = some (.int .i64 c) := cell_blk hb3 0
  have k1 : w1.cell? ⟨q3, 1, none⟩ = some (.int .i64 m) := cell_blk hb3 1
  have k2 : w1.cell? ⟨q3, 2, none⟩ = some (.int .i64 k) := cell_blk hb3 2
  have HLD := Lib.hid (show Calls Tryz.prog 31 #[.agg #[.int .i64 c, .int .i64 m, .int .i64 k]] w1 fun e w' => ∃ p b jb vb J, e = .returned (.tuple #[.pointer (some ⟨p, 0, none⟩), .pointer (some ⟨vb, 0, none⟩)]) ∧ VK w1 w' (fun _ => False) p b jb vb J [] 3 from by
    refine (l17laid_any w1 c m k hc hm hk).mono ?_
    rintro e w' ⟨p, b, jb, vb, J, rfl, h1, h2, h3⟩
    exact ⟨p, b, jb, vb, J, rfl, h1⟩)
  have HFX := Lib.hid (fun W => fixed17_any W)
  have hn6 := hops.2.1
  have HOP := Lib.hid hops
  have HPS := Lib.hid hP
  have HW1 := Lib.hid hw1
  have HQ3 := Lib.hid hq3
  obtain ⟨pl, hpl⟩ : ∃ x, P.data.toList = x := ⟨_, rfl⟩
  have hPT : P.toList = pl := by rw [ByteArray.toList_eq, hpl]
  have HPL := Lib.hid hpl
  obtain ⟨iS, hiS, hzS, hsS, hbS⟩ := info_parts info_strV
  have HPA := Lib.hid (fun W => show Calls Tryz.prog 29 #[.string P] W fun e w' => e = .returned (.bool (pathB pl)) ∧ LJ W w' from by
    have h3 := rpath_any W P (by omega)
    rw [hpl] at h3
    exact h3)
  clear hc hm hk hops hP hw1 hq3 hb3 hl1 hpl
  go_enter Tryz.func7, Tryz.ntmps7
  go_upto_region 1 with fail
  rw [HW1.out, HQ3.out]
  go_wp2_with (first
    | (go_at_call 31; (with_reducible refine HLD.out.mono ?_); rintro e w2 ⟨p, b, jb, vb, J0, rfl, h1⟩; have H0 := Lib.hid h1; clear h1)
    | fail)
  clear k0 k1 k2
  go_loopw [9] (fun v9 wr => ∃ (i : Nat) (J : Jn) (l : List Ent), i ≤ n ∧ v9 = .int .i64 (i : Int) ∧ Hid (VK w1 wr (fun _ => False) p b jb vb J l (3 + i))) (fun v9 _ => n - (intOf v9).toNat)
  case atStart => exact ⟨0, J0, [], by omega, rfl, H0⟩
  case round =>
    obtain ⟨i, J, l, hi, rfl, HV⟩ := hrel
    by_cases hlt : i < n
    · have hin : (i : Int) < (n : Int) := by omega
      have hwi : IntKind.i64.wrap ((i : Int) + 1) = (i : Int) + 1 := by rw [IntKind.wrap_i64]; omega
      obtain ⟨o1, o2, o3, o4⟩ := HOP.out
      obtain ⟨x, hx⟩ : ∃ x, ops[i]? = some x := ⟨_, List.getElem?_eq_getElem (by omega)⟩
      have hok := o3 x (List.mem_of_getElem? hx)
      obtain ⟨g, o, rfl, hcs⟩ := o4.resolve_left (by omega)
      obtain ⟨c0, c1, c2, c3, c4, c5, c6⟩ := (hcs i x hx).later (HL1.out.trans HV.out.lj)
      obtain ⟨xon, xkd, xa, xb, xP, xQ, xca, xcn, xcc⟩ := x
      have HDO := Lib.hid (ldoes_any HV.out (by omega) xon xkd xa xb xP xQ xca xcn xcc hok.P hok.Q)
      clear o1 o2 o3 o4 hx hok hcs
      go_wp2_with (first
        | (go_at_call 32; (with_reducible refine HDO.out.mono ?_); rintro e w3 ⟨rfl, h3, -⟩; have HV3 := Lib.hid h3; clear h3)
        | fail)
      go_roundw
      case rel => exact ⟨i + 1, _, _, by omega, by simp, HV3⟩
      case measure => simp [intOf]; omega
    · have hie : i = n := by omega
      subst hie
      have hin : ¬ (i : Int) < (i : Int) := by omega
      have hvj := HV.out.vj
      have hcnt := hvj.count
      have HINV := Lib.hid hvj.inv
      have HEN := Lib.hid (vk_entries HV.out)
      obtain ⟨nl, hnl⟩ : ∃ x, l.length = x := ⟨_, rfl⟩
      rw [hnl] at HEN hcnt
      have HNL := Lib.hid hnl
      clear hvj hnl
      go_upto_region 9 with (first
        | (go_at_call 33; (with_reducible refine HEN.out.mono ?_); rintro e w4 ⟨a4, cap4, rfl, h1, h2, h3⟩; have HE4 := Lib.hid h1; have HV4 := Lib.hid h3; clear h1 h2 h3)
        | fail)
      obtain ⟨w5, hw5⟩ : ∃ w5, w4.alloc (.cells #[] 9) = w5 := ⟨_, rfl⟩
      obtain ⟨q5, hq5⟩ : ∃ q, w4.heap.size = q := ⟨_, rfl⟩
      have HL5 := Lib.hid (show LJ w4 w5 from by rw [← hw5]; exact (LJ.refl w4).alloc _)
      have HROW0 := Lib.hid (show w5.ownsRow w4.heap.size 9 1 (.slice (some ⟨q5, 0, none⟩) 0 0) 0 [] from ⟨rfl, .inr ⟨q5, 0, #[], rfl, by omega, by rw [← hw5, ← hq5]; exact alloc_blk w4 _, by omega, by unfold maxLen; omega, rfl, rfl⟩⟩)
      have HW5 := Lib.hid hw5
      have HQ5 := Lib.hid hq5
      clear hw5 hq5
      go_upto_region 10 with fail
      rw [HW5.out, HQ5.out]
      have HF4 := Lib.hid HE4.out.forms
      go_wp2_with fail
      go_loopw [11, 12] (fun v11 v12 wr => ∃ (j g cp kk : Nat), j ≤ nl ∧ v12 = .int .i64 (j : Int) ∧ v11 = .slice (some ⟨g, 0, none⟩) kk cp ∧ kk ≤ j ∧ Hid (kk = (namesE (l.take j) pl).length) ∧ Hid (wr.ownsRow w4.heap.size 9 1 (.slice (some ⟨g, 0, none⟩) kk cp) kk ((namesE (l.take j) pl).map fun s => Value.string ⟨s.toArray⟩)) ∧ Hid (LJ w4 wr)) (fun _ v12 _ => nl - (intOf v12).toNat)
      case atStart => exact ⟨0, q5, 0, 0, by omega, rfl, rfl, by omega, Lib.hid rfl, HROW0, HL5⟩
      case round =>
        obtain ⟨j, g, cp, kk, hj, rfl, rfl, hkj, HKK, HR, HLR⟩ := hrel
        have hbw : w4.heap.size ≤ wr.heap.size := Below.size HLR.out
        by_cases hjl : j < nl
        · have hji : (j : Int) < (nl : Int) := by omega
          have hwj : IntKind.i64.wrap ((j : Int) + 1) = (j : Int) + 1 := by rw [IntKind.wrap_i64]; omega
          have hnl0 : 0 < l.length := by have := HNL.out; omega
          obtain ⟨x, hxx⟩ : ∃ x, l[j]? = some x := ⟨_, List.getElem?_eq_getElem (by have := HNL.out; omega)⟩
          obtain ⟨g4, e4, k4⟩ := HE4.out.at hnl0
          subst e4
          have hxm := List.mem_of_getElem? hxx
          obtain ⟨hpb, hpr⟩ := HINV.out.path x hxm
          obtain ⟨p2, p48, phd⟩ := pathB_len hpb hpr
          obtain ⟨XP, hXP⟩ : ∃ X : ByteArray, (⟨x.p.toArray⟩ : ByteArray) = X := ⟨_, rfl⟩
          have hXd : XP.data.toList = x.p := by rw [← hXP]
          have hXs : XP.size = x.p.length := by rw [← hXP]; show x.p.toArray.size = _; rw [List.size_toArray]
          have e0 : wr.cell? ⟨g4, j * 3, none⟩ = some (.string XP) := by rw [← hXP]; exact HLR.out.cell (k4 j x hxx).1
          obtain ⟨up, hup⟩ : ∃ u, upP x.p = u := ⟨_, rfl⟩
          obtain ⟨UP, hUP⟩ : ∃ X : ByteArray, (⟨up.toArray⟩ : ByteArray) = X := ⟨_, rfl⟩
          have hUT : UP.toList = up := by rw [← hUP, ByteArray.toList_eq]
          have HUP := Lib.hid (fun W => show Calls Tryz.prog 41 #[.string XP] W fun e w' => e = .returned (.string UP) ∧ W = w' from by
            have h3 := rup_any W XP (by omega) (by omega)
            rw [hXd, upR_eq phd, hup, hUP] at h3
            exact h3)
          obtain ⟨ln, hln⟩ : ∃ u, lastN x.p = u := ⟨_, rfl⟩
          obtain ⟨LN, hLN⟩ : ∃ X : ByteArray, (⟨ln.toArray⟩ : ByteArray) = X := ⟨_, rfl⟩
          have HNM := Lib.hid (fun W => show Calls Tryz.prog 42 #[.string XP] W fun e w' => ∃ g2 k2 cp2, e = .returned (.tuple #[.slice (some ⟨g2, 0, none⟩) (k2 + 1) cp2, .bool true]) ∧ k2 ≤ 50 ∧ w'.cell? ⟨g2, k2, none⟩ = some (.string LN) ∧ LJ W w' from by
            have h3 := rnames_any W XP (by omega)
            rw [hXd, hpb] at h3
            refine h3.mono ?_
            rintro e w' ⟨⟨v, rfl, h4⟩, hl⟩
            obtain ⟨g2, k2, cp2, rfl, h5, h6⟩ := h4 rfl hpr
            rw [hln, hLN] at h6
            exact ⟨g2, k2, cp2, rfl, h5, h6, hl⟩)
          have HTK := names_take (p := pl) hxx
          rw [hup, hln] at HTK
          have HTKE := Lib.hid HTK
          have HLNE := Lib.hid hLN
          have HJL := Lib.hid hjl
          have HKJ := Lib.hid hkj
          clear HTK hxx k4 hxm hpb hpr p2 p48 phd hXd hXs hXP hup hUP hln hLN hnl0
          by_cases hr : up = pl
          · have hrb : (up == pl) = true := by simpa using hr
            have hw1 : ∀ k2 : Nat, k2 ≤ 50 → IntKind.i64.wrap (((k2 + 1 : Nat) : Int) - 1) = (k2 : Int) := fun k2 h => by rw [IntKind.wrap_i64]; omega
            have HW1 := Lib.hid hw1
            clear hw1
            go_upto_region 17 with (first
              | (go_at_call 41; (with_reducible refine (HUP.out _).mono ?_); rintro e wx ⟨rfl, hwx⟩; subst hwx)
              | (go_at_call 42; (with_reducible refine (HNM.out _).mono ?_); rintro e w6 ⟨g2, k2, cp2, rfl, h1, h2, h3⟩; have hk50 := h1; have cln := h2; have HL6 := Lib.hid h3; have hk2 := HW1.out k2 h1; have hkne : ((k2 : Int) + 1 == 0) = false := (by simp; omega); clear h1 h2 h3)
              | fail)
            have HR6 := Lib.hid (own_below HR.out HL6.out)
            have HL46 := Lib.hid (HLR.out.trans HL6.out)
            have hb6 : w4.heap.size ≤ w6.heap.size := Below.size HL46.out
            go_wp2_with (first
              | (at_builtin; refine wpList_append_lies _ rfl (.tmp 74) (.tmp 81) 24 rfl w4.heap.size 9 iS (.string ⟨#[]⟩) 1 16 Tryz.underlying24 hiS hzS hsS hbS rfl (by decide) _ _ _ rfl (HR6.out.alloc _) ⟨w6.heap.size, 0, none⟩ 1 1 [.string LN] rfl rfl (cells_newJ w6 [.string LN] 9) (by intro u hu; simp only [List.mem_cons, List.not_mem_nil, or_false] at hu; rcases hu with rfl; rfl) (by omega) (by unfold maxLen; omega) (by omega) (by simp; omega) _ rfl ?_; intro g7 cap7 w7 hown7 hgrow7 hat7 hlt7)
              | fail)
            go_roundw
            case rel =>
              have hsz := hgrow7.size
              simp only [World.size_alloc] at hsz
              have hrow := fun q (hq : q < w6.heap.size) hne => (hgrow7.block q (by simp; omega) hne).trans (Below.heap_alloc _ _ _ hq)
              have hge := HR.out.lt g rfl
              refine ⟨j + 1, g7, cap7, kk + 1, by have := HJL.out; omega, by simp, rfl, by have := HKJ.out; omega, Lib.hid ?_, Lib.hid ?_, Lib.hid ⟨hgrow7.os.trans HL46.out.os, hgrow7.tape.trans HL46.out.tape, hgrow7.output.trans HL46.out.output, by omega, fun q hq => (hrow q (by omega) (fun e => by have e' : q = g := Option.some.inj e; omega)).trans (Below.block HL46.out q hq)⟩⟩
              · rw [HTKE.out, if_pos hrb, List.length_append, ← HKK.out]; rfl
              · rw [HTKE.out, if_pos hrb, List.map_append]
                simp only [List.map_cons, List.map_nil]
                rw [HLNE.out]
                exact hown7
            case measure => have := HJL.out; simp [intOf]; omega
          · have hrb : (up == pl) = false := by simpa using hr
            go_wp2_with (first
              | (go_at_call 41; (with_reducible refine (HUP.out _).mono ?_); rintro e wx ⟨rfl, hwx⟩; subst hwx)
              | fail)
            go_roundw
            case rel =>
              refine ⟨j + 1, g, cp, kk, by have := HJL.out; omega, by simp, rfl, by have := HKJ.out; omega, Lib.hid ?_, Lib.hid ?_, HLR⟩
              · rw [HTKE.out, if_neg (by rw [hrb]; simp)]; exact HKK.out
              · rw [HTKE.out, if_neg (by rw [hrb]; simp)]; exact HR.out
            case measure => have := HJL.out; simp [intOf]; omega
        · have hjn : j = nl := by omega
          subst hjn
          have hji : ¬ (j : Int) < (j : Int) := by omega
          have hlt0 : l.take j = l := List.take_of_length_le (by have := HNL.out; omega)
          have HKN := HKK
          have HRN := HR
          rw [hlt0] at HKN HRN
          obtain ⟨NE, hNE⟩ : ∃ x, namesE l pl = x := ⟨_, rfl⟩
          rw [hNE] at HKN HRN
          have HSW := Lib.hid (SLs.own HRN.out HKN.out)
          have HNE := Lib.hid hNE
          have HVR := Lib.hid (HV4.out.later HLR.out)
          have HER := Lib.hid (HE4.out.later HLR.out)
          have hPS := HPS.out
          have HFI := Lib.hid (show Calls Tryz.prog 36 #[.slice a4 j cap4, .string P] wr (FindO wr l pl) from by have h3 := rfind_any wr _ l (by have := HNL.out; omega) HER.out P; rw [HPL.out] at h3; exact h3)
          have HLS := Lib.hid (fun W (hW : LJ wr W) => show Calls Tryz.prog 43 #[.pointer (some ⟨vb, 0, none⟩), .string P] W _ from by have h3 := vk_list (HVR.out.later hW) P hPS; rw [HPL.out] at h3; exact h3)
          have HST := Lib.hid (fun W (hW : LJ wr W) => show Calls Tryz.prog 40 #[.pointer (some ⟨vb, 0, none⟩), .string P] W _ from by have h3 := vk_stat (HVR.out.later hW) P hPS; rw [HPL.out] at h3; exact h3)
          have HLR2 := Lib.hid (HL1.out.trans HVR.out.lj)
          clear hlt0 hNE hPS
          cases hpb : pathB pl with
          | false =>
            have h1 : lsE l pl = ([], 171) := by unfold lsE; rw [hpb]; rfl
            have h2 : stE l pl = (false, 0, 171) := by unfold stE; rw [hpb]; rfl
            rw [h1] at HLS
            rw [h2] at HST
            rw [hpb] at HPA
            clear h1 h2 hpb
            go_wp2_with (first
              | (go_at_call 36; (with_reducible refine HFI.out.mono ?_); rintro e w6 ⟨kf, bf, rfl, h1, h2⟩; have HL6 := Lib.hid h2; clear h1 h2)
              | (go_at_call 43; (with_reducible refine (HLS.out _ HL6.out).mono ?_); rintro e w7 ⟨v7, rfl, h1, h2⟩; have HL7 := Lib.hid (HL6.out.trans h2); clear h1 h2)
              | (go_at_call 40; (with_reducible refine (HST.out _ HL7.out).mono ?_); rintro e w8 ⟨rfl, h2⟩; have HL8 := Lib.hid (HL7.out.trans h2); clear h2)
              | (go_at_call 29; (with_reducible refine (HPA.out _).mono ?_); rintro e w9 ⟨rfl, h2⟩; have HL9 := Lib.hid (HL8.out.trans h2); clear h2)
              | (go_at_call 30; (with_reducible refine (HFX.out _).mono ?_); rintro e w10 ⟨rfl, h2⟩; have HL10 := Lib.hid (HL9.out.trans h2); clear h2)
              | fail)
            go_ret
            exact ⟨rfl, HLR2.out.trans HL10.out⟩
          | true =>
            rw [hpb] at HPA
            have hpb' := hpb
            clear hpb
            by_cases hroot : pl = [47]
            · obtain ⟨hls, hst⟩ := told_dir HINV.out hpb' (.inl hroot)
              rw [hls] at HLS
              rw [hst] at HST
              rw [HNE.out] at HLS HST
              rw [← HKN.out] at HST
              have hrt : (pl == [47]) = true := by simpa using hroot
              have hrn : (pl != [47]) = false := by simpa using hroot
              have HTX := Lib.hid (fun W v (h : SLs W v NE) (hW : LJ wr W) => ltexts_any W v _ NE (by have h3 := names_le l pl; rw [HNE.out] at h3; have := HNL.out; omega) h (HSW.out.later hW))
              have hkk : ((kk : Int) == (kk : Int)) = true := beq_self_eq_true _
              clear hls hst hroot hpb'
              go_wp2_with (first
                | (go_at_call 36; (with_reducible refine HFI.out.mono ?_); rintro e w6 ⟨kf, bf, rfl, h1, h2⟩; have HL6 := Lib.hid h2; clear h1 h2)
                | (go_at_call 43; (with_reducible refine (HLS.out _ HL6.out).mono ?_); rintro e w7 ⟨v7, rfl, h1, h2⟩; have HS7 := Lib.hid h1; have HL7 := Lib.hid (HL6.out.trans h2); clear h1 h2)
                | (go_at_call 40; (with_reducible refine (HST.out _ HL7.out).mono ?_); rintro e w8 ⟨rfl, h2⟩; have HS8 := Lib.hid (HS7.out.later h2); have HL8 := Lib.hid (HL7.out.trans h2); clear h2)
                | (go_at_call 29; (with_reducible refine (HPA.out _).mono ?_); rintro e w9 ⟨rfl, h2⟩; have HS9 := Lib.hid (HS8.out.later h2); have HL9 := Lib.hid (HL8.out.trans h2); clear h2)
                | (go_at_call 44; (with_reducible refine (HTX.out _ _ HS9.out HL9.out).mono ?_); rintro e wt ⟨rfl, h2⟩; have HLT := Lib.hid (HL9.out.trans h2); clear h2)
                | (go_at_call 30; (with_reducible refine (HFX.out _).mono ?_); rintro e w10 ⟨rfl, h2⟩; have HL10 := Lib.hid (HLT.out.trans h2); clear h2)
                | fail)
              go_ret
              exact ⟨rfl, HLR2.out.trans HL10.out⟩
            have hrt : (pl == [47]) = false := by simpa using hroot
            have hrn : (pl != [47]) = true := by simpa using hroot
            cases hfe : findE l pl with
            | none =>
              obtain ⟨hls, hst⟩ := told_none hpb' hroot hfe
              rw [hls] at HLS
              rw [hst] at HST
              have HFN := Lib.hid (show Calls Tryz.prog 36 #[.slice a4 j cap4, .string P] wr fun e w' => ∃ k : Nat, e = .returned (.tuple #[.int .i64 (k : Int), .bool false]) ∧ LJ wr w' from by
                refine HFI.out.mono ?_
                rintro e w' ⟨k, b, rfl, hfr, hl⟩
                obtain ⟨f1, f2⟩ := findR HINV.out.rise hfr
                rw [hfe] at f1
                have f1' : b = false := f1
                subst f1'
                exact ⟨k, rfl, hl⟩)
              clear hls hst hroot hpb' hfe
              go_wp2_with (first
                | (go_at_call 36; (with_reducible refine HFN.out.mono ?_); rintro e w6 ⟨kf, rfl, h2⟩; have HL6 := Lib.hid h2; clear h2)
                | (go_at_call 43; (with_reducible refine (HLS.out _ HL6.out).mono ?_); rintro e w7 ⟨v7, rfl, h1, h2⟩; have HS7 := Lib.hid h1; have HL7 := Lib.hid (HL6.out.trans h2); clear h1 h2)
                | (go_at_call 40; (with_reducible refine (HST.out _ HL7.out).mono ?_); rintro e w8 ⟨rfl, h2⟩; have HS8 := Lib.hid (HS7.out.later h2); have HL8 := Lib.hid (HL7.out.trans h2); clear h2)
                | (go_at_call 29; (with_reducible refine (HPA.out _).mono ?_); rintro e w9 ⟨rfl, h2⟩; have HS9 := Lib.hid (HS8.out.later h2); have HL9 := Lib.hid (HL8.out.trans h2); clear h2)
                | (go_at_call 30; (with_reducible refine (HFX.out _).mono ?_); rintro e w10 ⟨rfl, h2⟩; have HL10 := Lib.hid (HL9.out.trans h2); clear h2)
                | fail)
              go_ret
              exact ⟨rfl, HLR2.out.trans HL10.out⟩
            | some x =>
              have hlpos : 0 < l.length := List.length_pos_of_mem (findE_some hfe).1
              obtain ⟨g4, rfl, k4⟩ := HER.out.at hlpos
              obtain ⟨XS, hXS⟩ : ∃ X : ByteArray, (⟨x.s.toArray⟩ : ByteArray) = X := ⟨_, rfl⟩
              have hXs : x.s.length = XS.size := by rw [← hXS]; show _ = x.s.toArray.size; rw [List.size_toArray]
              have hX1 : XS.size ≤ 1024 := by rw [← hXs]; exact HINV.out.file x (findE_some hfe).1
              have HFN := Lib.hid (show Calls Tryz.prog 36 #[.slice (some ⟨g4, 0, none⟩) j cap4, .string P] wr fun e w' => ∃ k : Nat, e = .returned (.tuple #[.int .i64 (k : Int), .bool true]) ∧ k < j ∧ (∀ W, LJ wr W → W.cell? ⟨g4, k * 3 + 1, none⟩ = some (.bool x.d) ∧ W.cell? ⟨g4, k * 3 + 2, none⟩ = some (.string XS)) ∧ LJ wr w' from by
                refine HFI.out.mono ?_
                rintro e w' ⟨k, b, rfl, hfr, hl⟩
                obtain ⟨f1, f2⟩ := findR HINV.out.rise hfr
                have f3 := f2 x hfe
                rw [hfe] at f1
                have f1' : b = true := f1
                subst f1'
                obtain ⟨-, k41, k42⟩ := k4 k x f3
                rw [hXS] at k42
                exact ⟨k, rfl, by have := (List.getElem?_eq_some_iff.1 f3).1; have := HNL.out; omega, fun W hW => ⟨hW.cell k41, hW.cell k42⟩, hl⟩)
              have HXS := Lib.hid hXS
              have HXSZ := Lib.hid hXs
              clear k4 hXS
              cases hxd : x.d with
              | true =>
                obtain ⟨hls, hst⟩ := told_dir HINV.out hpb' (.inr ⟨x, hfe, hxd⟩)
                rw [hls] at HLS
                rw [hst] at HST
                rw [HNE.out] at HLS HST
                rw [← HKN.out] at HST
                rw [hxd] at HFN
                have HTX := Lib.hid (fun W v (h : SLs W v NE) (hW : LJ wr W) => ltexts_any W v _ NE (by have h3 := names_le l pl; rw [HNE.out] at h3; have := HNL.out; omega) h (HSW.out.later hW))
                have hkk : ((kk : Int) == (kk : Int)) = true := beq_self_eq_true _
                clear hls hst hroot hpb' hfe hxd hXs hX1 hlpos
                go_wp2_with (first
                  | (go_at_call 36; (with_reducible refine HFN.out.mono ?_); rintro e w6 ⟨kf, rfl, h1, h3, h2⟩; have hkf := h1; have hkfi : (kf : Int) < (j : Int) := (by omega); have HCD := Lib.hid h3; have HL6 := Lib.hid h2; clear h1 h2 h3)
                  | (go_at_call 43; (with_reducible refine (HLS.out _ HL6.out).mono ?_); rintro e w7 ⟨v7, rfl, h1, h2⟩; have HS7 := Lib.hid h1; have HL7 := Lib.hid (HL6.out.trans h2); clear h1 h2)
                  | (go_at_call 40; (with_reducible refine (HST.out _ HL7.out).mono ?_); rintro e w8 ⟨rfl, h2⟩; have HS8 := Lib.hid (HS7.out.later h2); have HL8 := Lib.hid (HL7.out.trans h2); clear h2)
                  | (go_at_call 29; (with_reducible refine (HPA.out _).mono ?_); rintro e w9 ⟨rfl, h2⟩; have HS9 := Lib.hid (HS8.out.later h2); have HL9 := Lib.hid (HL8.out.trans h2); have cd := (HCD.out _ HL9.out).1; clear h2)
                  | (go_at_call 44; (with_reducible refine (HTX.out _ _ HS9.out HL9.out).mono ?_); rintro e wt ⟨rfl, h2⟩; have HLT := Lib.hid (HL9.out.trans h2); clear h2)
                  | (go_at_call 30; (with_reducible refine (HFX.out _).mono ?_); rintro e w10 ⟨rfl, h2⟩; have HL10 := Lib.hid (HLT.out.trans h2); clear h2)
                  | fail)
                go_ret
                exact ⟨rfl, HLR2.out.trans HL10.out⟩
              | false =>
                obtain ⟨hls, hst, hrd⟩ := told_file HINV.out hpb' hroot hfe hxd
                rw [hls] at HLS
                rw [hst, hXs] at HST
                rw [hxd] at HFN
                have HRD := Lib.hid (fun W (hW : LJ wr W) (A : Nat) (hA : A ≤ XS.size) => show Calls Tryz.prog 39 #[.pointer (some ⟨vb, 0, none⟩), .string P, .int .i64 (A : Int), .int .i64 7] W fun e w' => ∃ T : ByteArray, e = .returned (.tuple #[.string T, .int .i64 0]) ∧ T.size ≤ 7 ∧ T = ⟨((x.s.drop A).take 7).toArray⟩ ∧ LJ W w' from by
                  have h3 := vk_read (HVR.out.later hW) P HPS.out (A : Int) 7 (by omega)
                  rw [HPL.out, hrd A (by omega)] at h3
                  refine h3.mono ?_
                  rintro e w' ⟨rfl, hl⟩
                  refine ⟨⟨((x.s.drop A).take 7).toArray⟩, rfl, ?_, rfl, hl⟩
                  show ((x.s.drop A).take 7).toArray.size ≤ 7
                  rw [List.size_toArray, List.length_take]
                  omega)
                clear hls hst hrd hroot hpb' hfe hxd hXs hlpos
                go_upto_region 27 with (first
                  | (go_at_call 36; (with_reducible refine HFN.out.mono ?_); rintro e w6 ⟨kf, rfl, h1, h3, h2⟩; have hkf := h1; have hkfi : (kf : Int) < (j : Int) := (by omega); have HCD := Lib.hid h3; have HL6 := Lib.hid h2; clear h1 h2 h3)
                  | (go_at_call 43; (with_reducible refine (HLS.out _ HL6.out).mono ?_); rintro e w7 ⟨v7, rfl, h1, h2⟩; have HS7 := Lib.hid h1; have HL7 := Lib.hid (HL6.out.trans h2); clear h1 h2)
                  | (go_at_call 40; (with_reducible refine (HST.out _ HL7.out).mono ?_); rintro e w8 ⟨rfl, h2⟩; have HS8 := Lib.hid (HS7.out.later h2); have HL8 := Lib.hid (HL7.out.trans h2); clear h2)
                  | (go_at_call 29; (with_reducible refine (HPA.out _).mono ?_); rintro e w9 ⟨rfl, h2⟩; have HS9 := Lib.hid (HS8.out.later h2); have HL9 := Lib.hid (HL8.out.trans h2); have cd := (HCD.out _ HL9.out).1; clear h2)
                  | fail)
                clear cd
                have HZ0 := Lib.hid (show (⟨#[]⟩ : ByteArray) = ⟨(x.s.take 0).toArray⟩ from by rw [List.take_zero])
                go_wp2_with fail
                go_loopw [22, 23] (fun v22 v23 wl => ∃ (A : Nat) (O : ByteArray), A ≤ XS.size + 6 ∧ v23 = .int .i64 (A : Int) ∧ v22 = .string O ∧ O.size ≤ 1024 ∧ Hid (O = ⟨(x.s.take A).toArray⟩) ∧ Hid (LJ wr wl)) (fun _ v23 _ => XS.size + 7 - (intOf v23).toNat)
                case atStart => exact ⟨0, ⟨#[]⟩, by omega, rfl, rfl, by decide, HZ0, HL9⟩
                case round =>
                  obtain ⟨A, O, hA, rfl, rfl, hO, HOE, HLW⟩ := hrel
                  have cs := (HCD.out _ HLW.out).2
                  by_cases hAl : A < XS.size
                  · have hAi : (A : Int) < (XS.size : Int) := by omega
                    have hwA : IntKind.i64.wrap ((A : Int) + 7) = (A : Int) + 7 := by rw [IntKind.wrap_i64]; omega
                    have HRA := Lib.hid (HRD.out _ HLW.out A (by omega))
                    have HAL := Lib.hid hAl
                    go_upto_region 34 with (first
                      | (go_at_call 39; (with_reducible refine HRA.out.mono ?_); rintro e wm ⟨T, rfl, h1, h2, h3⟩; have hT7 := h1; have HTE := Lib.hid h2; have HLM := Lib.hid (HLW.out.trans h3); clear h1 h2 h3)
                      | fail)
                    have g1 : ¬ 9223372036854775807 < O.size + T.size := by omega
                    obtain ⟨OT, hOT⟩ : ∃ X, O ++ T = X := ⟨_, rfl⟩
                    have HOT := Lib.hid (show OT = ⟨(x.s.take (A + 7)).toArray⟩ from by rw [← hOT, HOE.out, HTE.out, take_str])
                    have HOS := Lib.hid (show OT.size ≤ 1024 from by
                      rw [HOT.out]
                      show (x.s.take (A + 7)).toArray.size ≤ 1024
                      rw [List.size_toArray, List.length_take]
                      have := HXSZ.out
                      omega)
                    go_wp2_with fail
                    go_roundw
                    case rel => exact ⟨A + 7, OT, by have := HAL.out; omega, by simp, rfl, HOS.out, HOT, HLM⟩
                    case measure => have := HAL.out; simp [intOf]; omega
                  · have hAi : ¬ (A : Int) < (XS.size : Int) := by omega
                    have hOX : O = XS := by
                      rw [HOE.out, ← HXS.out, List.take_of_length_le (by have := HXSZ.out; omega)]
                    subst hOX
                    have hbe : (O.toList == O.toList) = true := beq_self_eq_true _
                    have hbs : ((O.size : Int) == (O.size : Int)) = true := beq_self_eq_true _
                    go_wp2_with (first
                      | (go_at_call 30; (with_reducible refine (HFX.out _).mono ?_); rintro e w10 ⟨rfl, h2⟩; have HL10 := Lib.hid (HLW.out.trans h2); clear h2)
                      | fail)
                    go_ret
                    exact ⟨rfl, HLR2.out.trans HL10.out⟩
theorem vlists_card (w : World) (c m k : Int) (hc : -9223372036854775808 ≤ c ∧ c ≤ 9223372036854775807) (hm : -9223372036854775808 ≤ m ∧ m ≤ 9223372036854775807) (hk : -9223372036854775808 ≤ k ∧ k ≤ 9223372036854775807) (a : Option Addr) (n cap : Nat) (ops : List OpV) (hops : OpsAt w a n ops) (P : ByteArray) (hP : P.size ≤ 1048576) :
    Calls Tryz.prog 7 #[.agg #[.int .i64 c, .int .i64 m, .int .i64 k], .slice a n cap, .string P] w fun e w' => e = .returned (.bool true) ∧ Below w.heap.size w w' := vlists_any w c m k hc hm hk a n cap ops hops P hP
end Go.Proofs.YtfpbocjmlhcgiaaGreatDoor
