/- The volume's Rename. -/
import Derived.Test.YtfpbocjmlhcgiaaGreatDoorVg9
set_option linter.unusedSimpArgs false
set_option linter.unusedVariables false
namespace Go.Proofs.YtfpbocjmlhcgiaaGreatDoor
open Go.RowKit PJ Go.Maps Go.WideMaps Go.Shelf

theorem ans_inv {l now : List Ent} {f : Nat → Ans} (h : ∀ room, AnsOK room l (f room)) (hf : ∀ room, f room = becE room l now) : VInv now := by
  have h1 := h (imageE now).length
  rw [hf] at h1
  unfold becE at h1
  rw [if_neg (by omega)] at h1
  rcases h1 with ⟨e, -⟩ | ⟨-, e, -⟩
  · exact absurd rfl e
  · exact e
theorem rn_ask (l : List Ent) (hi : VInv l) (p q : List UInt8) (cs : List Chk) (K1 K2 K3 K4 K5 K6 K7 : FuncId) (c1 c2 c3 c4 c5 c6 c7 : Array Value) (hcs : cs = [⟨K1, c1, true, 2⟩, ⟨K2, c2, pathB p && pathB q, 171⟩, ⟨K3, c3, (atE l p).isSome, 172⟩, ⟨K4, c4, !((atE l p).getD zeroE).d, 174⟩, ⟨K5, c5, !(atE l q).isSome, 173⟩, ⟨K6, c6, (atE l (upP (q ++ [0]))).isSome, 172⟩, ⟨K7, c7, ((atE l (upP (q ++ [0]))).getD zeroE).d, 174⟩]) :
    (askE cs ≠ 0 ∧ ∀ room, rnE room l p q = (askE cs, l)) ∨ (askE cs = 0 ∧ ∃ x : Ent, atE l p = some x ∧ x ∈ l ∧ x.p = p ∧ x.d = false ∧ (∀ room, rnE room l p q = becE room l (putE (delE l p) ⟨q, x.d, x.s⟩)) ∧ VInv (putE (delE l p) ⟨q, x.d, x.s⟩)) := by
  have hok := fun room => rnE_ok (room := room) hi p q
  subst hcs
  unfold askE
  unfold rnE at hok ⊢
  simp only [if_true]
  unfold askE
  cases hp : (pathB p && pathB q) with
  | false => left; simp
  | true =>
    simp only [hp] at hok
    simp only [if_true]
    unfold askE
    cases hn : atE l p with
    | none => left; simp
    | some x =>
      simp only [hn] at hok
      simp only [Option.isSome_some, if_true, Option.getD_some]
      unfold askE
      cases hd : x.d with
      | true => left; simp
      | false =>
        simp only [hd] at hok
        simp only [Bool.not_false, if_true]
        unfold askE
        cases hq : atE l q with
        | some y => left; simp
        | none =>
          simp only [hq] at hok
          simp only [Option.isSome_none, Bool.not_false, if_true]
          unfold askE
          cases hu : atE l (upP (q ++ [0])) with
          | none => left; simp
          | some u =>
            simp only [hu] at hok
            simp only [Option.isSome_some, if_true, Option.getD_some]
            unfold askE
            cases hud : u.d with
            | false => left; simp
            | true =>
              simp only [hud] at hok
              right
              rcases atE_some hn with ⟨-, e⟩ | ⟨hr, hm, e⟩
              · rw [e] at hd; cases hd
              · refine ⟨by simp [askE], x, rfl, hm, e, hd, fun room => by simp [hd], ?_⟩
                refine ans_inv (fun room => hok room) (fun room => by simp [hd])
set_option maxRecDepth 100000 in
set_option maxHeartbeats 8000000 in
theorem vrename_any (w : World) (p b jb vb : Nat) (F : Nat → Prop) (J : Jn) (l : List Ent) (h : VAt w p b jb vb F J l) (hh : J.head < 4611686018427387904) (hn : J.next < 4611686018427387904) (P Q : ByteArray) (hP : P.size < 4294967280) (hQ : Q.size < 4294967280) :
    Calls Tryz.prog 34 #[.pointer (some ⟨vb, 0, none⟩), .string P, .string Q] w fun e w' => e = .returned (.int .i64 (rnE J.room' l P.data.toList Q.data.toList).1) ∧ VOut w p b jb vb F (J.ans l (rnE J.room' l P.data.toList Q.data.toList)) (rnE J.room' l P.data.toList Q.data.toList).2 w' := by
  obtain ⟨mb, hvc⟩ := h.vc
  have HV := Lib.hid h
  have HVJ := Lib.hid h.vj
  have HF := Lib.hid h.lt
  have HVC := Lib.hid hvc
  obtain ⟨pl, hpl⟩ : ∃ x, P.data.toList = x := ⟨_, rfl⟩
  obtain ⟨ql, hql⟩ : ∃ x, Q.data.toList = x := ⟨_, rfl⟩
  obtain ⟨UP, hUP⟩ : ∃ B : ByteArray, (⟨(upP (ql ++ [0])).toArray⟩ : ByteArray) = B := ⟨_, rfl⟩
  obtain ⟨up, hup⟩ : ∃ u, upP (ql ++ [0]) = u := ⟨_, rfl⟩
  have hUd : UP.data.toList = up := by rw [← hUP, hup]
  have hQl : ql.length = Q.size := by rw [← hql, Array.length_toList]; rfl
  have hUs : UP.size ≤ 140737488355328 := by
    have h1 : UP.size = (upP (ql ++ [0])).length := by rw [← hUP]; show (upP _).toArray.size = _; rw [List.size_toArray]
    rw [h1]
    unfold upP
    rw [List.length_take, List.length_append]
    simp only [List.length_cons, List.length_nil]
    omega
  have hz1 : (⟨#[0]⟩ : ByteArray).size = 1 := rfl
  have HPA := Lib.hid (fun W => show Calls Tryz.prog 89 #[.string (Q ++ ⟨#[0]⟩)] W fun e w' => e = .returned (.string UP) ∧ w' = W from by
    have h1 := vparent_any W (Q ++ ⟨#[0]⟩) (by rw [ByteArray.size_append]; omega) (by rw [ByteArray.size_append]; omega)
    rw [app_data, show (⟨#[0]⟩ : ByteArray).data.toList = [0] from rfl, hql, hUP] at h1
    exact h1)
  have HLV := Lib.hid (fun W (hW : LJ w W) => vlives_any W vb jb mb l (HVC.out.later hW))
  have HMY := Lib.hid (fun W (q : Nat) (hW : LJ w W) (hb : W.heap[q]? = some (.cells #[.string P, .string Q] 9 (0, 0))) => show Calls Tryz.prog 92 #[.pointer (some ⟨vb, 0, none⟩), .slice (some ⟨q, 0, none⟩) 2 2] W (MadeC W (pathB pl && pathB ql) 171) from by
    have h1 := vmay_any W vb q 2 2 [P, Q] rfl (by simp) (by intro x hx; simp only [List.mem_cons, List.not_mem_nil, or_false] at hx; rcases hx with rfl | rfl <;> omega) (fun j x hj => by
      match j, hj with
      | 0, hj =>
        obtain rfl : P = x := by simpa using hj
        exact cell_blk hb 0
      | 1, hj =>
        obtain rfl : Q = x := by simpa using hj
        exact cell_blk hb 1)
    rw [show ([P, Q].all fun x => pathB x.data.toList) = (pathB pl && pathB ql) from by simp [hpl, hql]] at h1
    exact h1)
  have HIS := Lib.hid (fun W (hW : LJ w W) => vis_any W vb jb mb l P pl hpl (by omega) (HVC.out.later hW))
  have HFI := Lib.hid (fun W (hW : LJ w W) => vfile_any W vb jb mb l P pl hpl (by omega) (HVC.out.later hW))
  have HNO := Lib.hid (fun W (hW : LJ w W) => vnone_any W vb jb mb l Q ql hql (by omega) (HVC.out.later hW))
  have HIU := Lib.hid (fun W (hW : LJ w W) => vis_any W vb jb mb l UP up hUd hUs (HVC.out.later hW))
  have HDI := Lib.hid (fun W (hW : LJ w W) => vdir_any W vb jb mb l UP up hUd hUs (HVC.out.later hW))
  have HMK := Lib.hid (fun cs K1 K2 K3 K4 K5 K6 K7 c1 c2 c3 c4 c5 c6 c7 hcs => rn_ask l HVJ.out.inv pl ql cs K1 K2 K3 K4 K5 K6 K7 c1 c2 c3 c4 c5 c6 c7 hcs)
  rw [hup] at HMK
  obtain ⟨x, hx⟩ : ∃ x, (atE l pl).getD zeroE = x := ⟨_, rfl⟩
  obtain ⟨ok, hok⟩ : ∃ b, (atE l pl).isSome = b := ⟨_, rfl⟩
  obtain ⟨XP, hXP⟩ : ∃ P : ByteArray, (⟨x.p.toArray⟩ : ByteArray) = P := ⟨_, rfl⟩
  obtain ⟨XD, hXD⟩ : ∃ D : ByteArray, (⟨x.s.toArray⟩ : ByteArray) = D := ⟨_, rfl⟩
  have hXDd : XD.data.toList = x.s := by rw [← hXD]
  have hval : x.val = .agg #[.string XP, .bool x.d, .string XD] := by rw [← hXP, ← hXD]; rfl
  obtain ⟨xd, hxd⟩ : ∃ b, x.d = b := ⟨_, rfl⟩
  rw [hxd] at hval
  have HAT := Lib.hid (fun W (hW : LJ w W) => show Calls Tryz.prog 97 #[.pointer (some ⟨vb, 0, none⟩), .string P] W fun e w' => e = .returned (.tuple #[.agg #[.string XP, .bool xd, .string XD], .bool ok]) ∧ LJ W w' from by
    have hat := vat_any W vb mb jb l P pl hpl (by omega) (HVC.out.later hW).blk (HVC.out.later hW).map
    rw [hx, hok, hval] at hat
    exact hat)
  obtain ⟨B2, hB2⟩ : ∃ b, (pathB pl && pathB ql) = b := ⟨_, rfl⟩
  obtain ⟨B4, hB4⟩ : ∃ b, (!x.d) = b := ⟨_, rfl⟩
  obtain ⟨B5, hB5⟩ : ∃ b, (!(atE l ql).isSome) = b := ⟨_, rfl⟩
  obtain ⟨B6, hB6⟩ : ∃ b, (atE l up).isSome = b := ⟨_, rfl⟩
  obtain ⟨B7, hB7⟩ : ∃ b, ((atE l up).getD zeroE).d = b := ⟨_, rfl⟩
  rw [hx, hok, hB2, hB4, hB5, hB6, hB7] at HMK
  rw [hB2] at HMY
  rw [hok] at HIS
  rw [hx, hB4] at HFI
  rw [hB5] at HNO
  rw [hB6] at HIU
  rw [hB7] at HDI
  have HWO := Lib.hid (fun W (hW : LJ w W) => vwithout_any W vb mb jb l P (by omega) (HVC.out.later hW).blk (HVC.out.later hW).map)
  rw [hpl] at HWO
  have HBEC := Lib.hid (fun W (hW : LJ w W) (m : Nat) (now : List Ent) (hm : EMap W m now) (hge : w.heap.size ≤ m) (hi : VInv now) (hlen : now.length ≤ 800) =>
    vbecomes_any W p b jb vb F J l now (HV.out.later hW) hh hn m hm (fun e => by have := HF.out m e; omega) hi hlen)
  have hcat : ¬ 9223372036854775807 < Q.size + (⟨#[0]⟩ : ByteArray).size := by omega
  have HX := Lib.hid (And.intro hx (And.intro hXDd hxd))
  have HQL := Lib.hid hql
  obtain ⟨room, hroom⟩ : ∃ r, J.room' = r := ⟨_, rfl⟩
  rw [hroom] at HBEC ⊢
  rw [hpl, hql]
  clear h hvc hUP hup hUd hUs hroom hB2 hB4 hB5 hB6 hB7 hx hok hXP hXD hXDd hval hxd hpl hql
  go_enter Tryz.func34, Tryz.ntmps34
  go_upto_region 2 with (first
    | (go_at_call 89; (with_reducible refine (HPA.out _).mono ?_); rintro e w6 ⟨rfl, hw6⟩; have hw6 := hw6.symm; subst hw6)
    | fail)
  go_upto_region 3 with (first
    | (go_at_call 91; (with_reducible refine (HLV.out _ (LJ.refl _)).mono ?_); rintro e w1 ⟨Kl, cl, rfl, hk, hx⟩; have HL1 := Lib.hid hx; have HKl := Lib.hid (hk.later ((LJ.refl w1).alloc (.cells #[.string P, .string Q] 9))); have HL1a := Lib.hid (hx.alloc (.cells #[.string P, .string Q] 9)); clear hk hx)
    | (go_at_call 92; (with_reducible refine (HMY.out _ _ HL1a.out (alloc_blk _ _)).mono ?_); rintro e w2 ⟨Km, cm, rfl, hk, hx⟩; have HL2 := Lib.hid (HL1a.out.trans hx); have HKl := Lib.hid (HKl.out.later hx); have HKm := Lib.hid hk; clear hk hx)
    | (go_at_call 93; (with_reducible refine (HIS.out _ HL2.out).mono ?_); rintro e w3 ⟨Ki, ci, rfl, hk, hx⟩; have HL3 := Lib.hid (HL2.out.trans hx); have HKl := Lib.hid (HKl.out.later hx); have HKm := Lib.hid (HKm.out.later hx); have HKi := Lib.hid hk; clear hk hx)
    | (go_at_call 94; (with_reducible refine (HFI.out _ HL3.out).mono ?_); rintro e w4 ⟨Kf, cf, rfl, hk, hx⟩; have HL4 := Lib.hid (HL3.out.trans hx); have HKl := Lib.hid (HKl.out.later hx); have HKm := Lib.hid (HKm.out.later hx); have HKi := Lib.hid (HKi.out.later hx); have HKf := Lib.hid hk; clear hk hx)
    | (go_at_call 95; (with_reducible refine (HNO.out _ HL4.out).mono ?_); rintro e w5 ⟨Kn, cn, rfl, hk, hx⟩; have HL5 := Lib.hid (HL4.out.trans hx); have HKl := Lib.hid (HKl.out.later hx); have HKm := Lib.hid (HKm.out.later hx); have HKi := Lib.hid (HKi.out.later hx); have HKf := Lib.hid (HKf.out.later hx); have HKn := Lib.hid hk; clear hk hx)
    | (go_at_call 93; (with_reducible refine (HIU.out _ HL5.out).mono ?_); rintro e w6 ⟨Ku, cu, rfl, hk, hx⟩; have HL6 := Lib.hid (HL5.out.trans hx); have HKl := Lib.hid (HKl.out.later hx); have HKm := Lib.hid (HKm.out.later hx); have HKi := Lib.hid (HKi.out.later hx); have HKf := Lib.hid (HKf.out.later hx); have HKn := Lib.hid (HKn.out.later hx); have HKu := Lib.hid hk; clear hk hx)
    | (go_at_call 96; (with_reducible refine (HDI.out _ HL6.out).mono ?_); rintro e w7 ⟨Kd, cd, rfl, hk, hx⟩
       have HL7 := Lib.hid (HL6.out.trans hx)
       have hla : LJ w7 (w7.alloc (.cells #[.func (.func Kl) #[] cl, .int .i64 2, .func (.func Km) #[] cm, .int .i64 171, .func (.func Ki) #[] ci, .int .i64 172, .func (.func Kf) #[] cf, .int .i64 174, .func (.func Kn) #[] cn, .int .i64 173, .func (.func Ku) #[] cu, .int .i64 172, .func (.func Kd) #[] cd, .int .i64 174] 146)) := (LJ.refl w7).alloc _
       have HASK := Lib.hid (asked_any _ [⟨Kl, cl, true, 2⟩, ⟨Km, cm, B2, 171⟩, ⟨Ki, ci, ok, 172⟩, ⟨Kf, cf, B4, 174⟩, ⟨Kn, cn, B5, 173⟩, ⟨Ku, cu, B6, 172⟩, ⟨Kd, cd, B7, 174⟩] w7.heap.size 7 7 rfl (by omega) (fun j c hj => chk_at (show (w7.alloc (.cells #[.func (.func Kl) #[] cl, .int .i64 2, .func (.func Km) #[] cm, .int .i64 171, .func (.func Ki) #[] ci, .int .i64 172, .func (.func Kf) #[] cf, .int .i64 174, .func (.func Kn) #[] cn, .int .i64 173, .func (.func Ku) #[] cu, .int .i64 172, .func (.func Kd) #[] cd, .int .i64 174] 146)).heap[w7.heap.size]? = some (.cells (chkRow [⟨Kl, cl, true, 2⟩, ⟨Km, cm, B2, 171⟩, ⟨Ki, ci, ok, 172⟩, ⟨Kf, cf, B4, 174⟩, ⟨Kn, cn, B5, 173⟩, ⟨Ku, cu, B6, 172⟩, ⟨Kd, cd, B7, 174⟩]).toArray 146 (0, 0)) from alloc_blk w7 _) j c hj) (by
         intro c hc
         simp only [List.mem_cons, List.not_mem_nil, or_false] at hc
         rcases hc with rfl | rfl | rfl | rfl | rfl | rfl | rfl
         · exact (HKl.out.later hx).later hla
         · exact (HKm.out.later hx).later hla
         · exact (HKi.out.later hx).later hla
         · exact (HKf.out.later hx).later hla
         · exact (HKn.out.later hx).later hla
         · exact (HKu.out.later hx).later hla
         · exact hk.later hla))
       have HL7a := Lib.hid (HL7.out.trans hla)
       clear hk hx hla)
    | (go_at_call 90; (with_reducible refine HASK.out.mono ?_); rintro e w8 ⟨rfl, hx⟩; have HL8 := Lib.hid (HL7a.out.trans hx); clear hx)
    | fail)
  have hmk := HMK.out [⟨Kl, cl, true, 2⟩, ⟨Km, cm, B2, 171⟩, ⟨Ki, ci, ok, 172⟩, ⟨Kf, cf, B4, 174⟩, ⟨Kn, cn, B5, 173⟩, ⟨Ku, cu, B6, 172⟩, ⟨Kd, cd, B7, 174⟩] Kl Km Ki Kf Kn Ku Kd cl cm ci cf cn cu cd rfl
  obtain ⟨E, hE⟩ : ∃ E, askE [⟨Kl, cl, true, 2⟩, ⟨Km, cm, B2, 171⟩, ⟨Ki, ci, ok, 172⟩, ⟨Kf, cf, B4, 174⟩, ⟨Kn, cn, B5, 173⟩, ⟨Ku, cu, B6, 172⟩, ⟨Kd, cd, B7, 174⟩] = E := ⟨_, rfl⟩
  rw [hE] at hmk ⊢
  clear hE
  rcases hmk with ⟨hne, hm⟩ | ⟨h0, y, hy1, hy2, hy3, hy4, hm, hvi⟩
  · have HM := Lib.hid (hm room)
    have hneb : (E != 0) = true := by simpa using hne
    have HNE := Lib.hid hne
    clear hm
    go_wp2_with fail
    go_ret
    rw [HM.out]
    have hja : J.ans l (E, l) = J := if_neg HNE.out
    rw [hja]
    exact ⟨rfl, VOut.same HV.out HL8.out⟩
  · subst h0
    have HM := Lib.hid (hm room)
    have HVI := Lib.hid hvi
    obtain ⟨x1, x2, x3⟩ := HX.out
    rw [hy1] at x1
    have hyx : y = x := x1
    subst hyx
    rw [hy4] at x3
    have hxd : xd = false := x3.symm
    subst hxd
    have HPN := Lib.hid (show entOf Q false XD = ⟨ql, y.d, y.s⟩ from by unfold entOf; rw [HQL.out, x2, hy4])
    have HAT8 := Lib.hid (HAT.out w8 HL8.out)
    clear hm hvi hy1 hy2 hy3 hy4 x1 x2 x3
    go_upto_region 6 with (first
      | (go_at_call 97; (with_reducible refine HAT8.out.mono ?_); rintro e w9 ⟨rfl, hx⟩; have HL9 := Lib.hid (HL8.out.trans hx); clear hx)
      | fail)
    obtain ⟨w10, hw10⟩ : ∃ w10, w9.alloc (.cells #[.string XP, .bool false, .string XD] 74) = w10 := ⟨_, rfl⟩
    obtain ⟨q9, hq9⟩ : ∃ q, w9.heap.size = q := ⟨_, rfl⟩
    have HB10 := Lib.hid (show w10.heap[q9]? = some (.cells #[.string XP, .bool false, .string XD] 74 (0, 0)) from by rw [← hw10, ← hq9]; exact alloc_blk w9 _)
    have HL10 := Lib.hid (show LJ w w10 from by rw [← hw10]; exact HL9.out.alloc _)
    have HQ9 := Lib.hid (show w.heap.size ≤ q9 from by rw [← hq9]; exact Below.size HL9.out)
    rw [hw10, hq9]
    clear hw10 hq9
    have c0 := cell_blk HB10.out 0
    have f0 := free_blk HB10.out 0
    obtain ⟨w11, hw11⟩ : ∃ w11, w10.setCell ⟨q9, 0, none⟩ (.string Q) = w11 := ⟨_, rfl⟩
    have HB11 := Lib.hid (show w11.heap[q9]? = some (.cells #[.string Q, .bool false, .string XD] 74 (0, 0)) from by rw [← hw11]; exact heap_setCell_same _ _ 0 _ _ (.string Q) HB10.out)
    have HL11 := Lib.hid (show LJ w w11 from by
      rw [← hw11]
      exact lj_onlyV HL10.out (setCell_only _ _ _ _) (fun k hk => by rw [show k = q9 from hk]; exact HQ9.out))
    have HWO2 := Lib.hid (HWO.out w11 HL11.out)
    go_upto_region 7 with fail
    clear hw11 c0 f0
    go_upto_region 8 with (first
      | (go_at_call 98; (with_reducible refine HWO2.out.mono ?_); rintro e w12 ⟨m, rfl, hm12, hge, hx⟩; have HM12 := Lib.hid hm12; have HGE := Lib.hid (show w.heap.size ≤ m from Nat.le_trans (Below.size HL11.out) hge); have HL12 := Lib.hid (HL11.out.trans hx); have HB12 := Lib.hid (hx.block HB11.out); clear hm12 hge hx)
      | fail)
    obtain ⟨w13, hrun, hm13, hg13⟩ := HM12.out.put Q false XD (by omega) (by have h1 := del_len_le l pl; have h2 := HVJ.out.count; omega)
    rw [HPN.out] at hm13
    have HM13 := Lib.hid hm13
    have HL13 := Lib.hid (show LJ w w13 from Below.grown HL12.out hg13 (Below.size HL12.out) (fun k hk => by cases hk; exact HGE.out))
    have HBX := Lib.hid (HBEC.out w13 HL13.out m _ HM13.out HGE.out HVI.out (by have h1 := put_len_le (del_rise HVJ.out.inv.rise pl) (⟨ql, y.d, y.s⟩ : Ent); have h2 := HVJ.out.count; have h3 := del_len_le l pl; omega))
    have l0 := cell_blk HB12.out 0
    have l1 := cell_blk HB12.out 1
    have l2 := cell_blk HB12.out 2
    clear hm13 hg13
    go_wp2_with (first
      | (go_at_call 99; (with_reducible refine HBX.out.mono ?_); rintro e w14 ⟨rfl, hv9, ho9⟩; have HV9 := Lib.hid hv9; have HO9 := Lib.hid ho9; clear hv9 ho9)
      | fail)
    go_ret
    rw [HM.out]
    exact ⟨rfl, VOut.bec HF.out HL13.out HGE.out HM13.out.lt HV9.out HO9.out⟩
end Go.Proofs.YtfpbocjmlhcgiaaGreatDoor
