/- The volume's Remove. -/
import Derived.Test.YtfpbocjmlhcgiaaGreatDoorVM25
import Derived.Test.YtfpbocjmlhcgiaaGreatDoorVg9
import Derived.Test.YtfpbocjmlhcgiaaGreatDoorVgb
set_option linter.unusedSimpArgs false
set_option linter.unusedVariables false
namespace Go.Proofs.YtfpbocjmlhcgiaaGreatDoor
open Go.RowKit PJ Go.Maps Go.WideMaps Go.Shelf

theorem kids_empty (l : List Ent) (p : List UInt8) : (kidsE l p).isEmpty = !(l.any (fun x => upP x.p == p)) := by
  unfold kidsE
  induction l with
  | nil => rfl
  | cons x xs ih =>
    simp only [List.filter_cons, List.any_cons, decide_eq_true_eq]
    by_cases h : upP x.p = p
    · simp [h]
    · rw [if_neg (by simpa using h), ih]
      simp [h]
theorem rm_ask (l : List Ent) (hi : VInv l) (p : List UInt8) (cs : List Chk) (K1 K2 K3 K4 K5 : FuncId) (c1 c2 c3 c4 c5 : Array Value) (hcs : cs = [⟨K1, c1, true, 2⟩, ⟨K2, c2, pathB p, 171⟩, ⟨K3, c3, (atE l p).isSome, 172⟩, ⟨K4, c4, !(p == [47]), 174⟩, ⟨K5, c5, (kidsE l p).isEmpty, 177⟩]) :
    (askE cs ≠ 0 ∧ ∀ room, rmE room l p = (askE cs, l)) ∨ (askE cs = 0 ∧ (∀ room, rmE room l p = becE room l (delE l p)) ∧ VInv (delE l p)) := by
  have hok := fun room => rmE_ok (room := room) hi p
  subst hcs
  rw [kids_empty]
  unfold askE
  unfold rmE at hok ⊢
  simp only [if_true]
  unfold askE
  cases hp : pathB p with
  | false => left; simp
  | true =>
    simp only [hp] at hok
    simp only [if_true]
    unfold askE
    cases hn : atE l p with
    | none => left; simp
    | some x =>
      simp only [hn] at hok
      simp only [Option.isSome_some, if_true]
      unfold askE
      by_cases hr : p = [47]
      · left; simp [hr]
      · simp only [hr, if_false] at hok
        have hrb : (p == [47]) = false := by simpa using hr
        simp only [hrb, Bool.not_false, if_true]
        unfold askE
        cases hk : l.any (fun x => upP x.p == p) with
        | true => left; simp [hr]
        | false =>
          simp only [hk] at hok
          right
          exact ⟨by simp [askE], fun room => by simp [hr], ans_inv (fun room => hok room) (fun room => by simp)⟩
theorem vremove1_any (w : World) (p3 : Nat) (S : ByteArray) (h : w.cell? ⟨p3, 0, none⟩ = some (.string S)) :
    Calls Tryz.prog 146 #[.pointer (some ⟨p3, 0, none⟩)] w fun e w' => e = .returned (.bool (!(S.data.toList == [47]))) ∧ w' = w := by
  go_enter Tryz.func146, Tryz.ntmps146
  go_wp2_with fail
  go_ret
  refine ⟨?_, rfl⟩
  rw [ByteArray.toList_eq]
  rfl
set_option maxRecDepth 100000 in
set_option maxHeartbeats 8000000 in
theorem vremove_any (w : World) (p b jb vb : Nat) (F : Nat → Prop) (J : Jn) (l : List Ent) (h : VAt w p b jb vb F J l) (hh : J.head < 4611686018427387904) (hn : J.next < 4611686018427387904) (P : ByteArray) (hP : P.size < 4294967280) :
    Calls Tryz.prog 85 #[.pointer (some ⟨vb, 0, none⟩), .string P] w fun e w' => e = .returned (.int .i64 (rmE J.room' l P.data.toList).1) ∧ VOut w p b jb vb F (J.ans l (rmE J.room' l P.data.toList)) (rmE J.room' l P.data.toList).2 w' := by
  have hmf : ∀ (fn : Fn) (first cap : Array Value) (w : World), (Instr.makeFunc fn first cap).run Tryz.prog w = .ok (.func fn first cap) w := fun _ _ _ _ => rfl
  obtain ⟨mb, hvc⟩ := h.vc
  have HV := Lib.hid h
  have HVJ := Lib.hid h.vj
  have HF := Lib.hid h.lt
  obtain ⟨pl, hpl⟩ : ∃ x, P.data.toList = x := ⟨_, rfl⟩
  obtain ⟨w1, hw1⟩ : ∃ w1, w.alloc (.cells #[.pointer (some ⟨vb, 0, none⟩)] 60) = w1 := ⟨_, rfl⟩
  obtain ⟨q2, hq2⟩ : ∃ q, w.heap.size = q := ⟨_, rfl⟩
  have hb2 : w1.heap[q2]? = some (.cells #[.pointer (some ⟨vb, 0, none⟩)] 60 (0, 0)) := by rw [← hw1, ← hq2]; exact alloc_blk w _
  have hl1 : LJ w w1 := by rw [← hw1]; exact (LJ.refl w).alloc _
  obtain ⟨w2, hw2⟩ : ∃ w2, w1.alloc (.cells #[.string P] 9) = w2 := ⟨_, rfl⟩
  have hs1 : w1.heap.size = q2 + 1 := by rw [← hw1, World.size_alloc, hq2]
  obtain ⟨q3, hq3⟩ : ∃ q3, q2 + 1 = q3 := ⟨_, rfl⟩
  have HB3 := Lib.hid (show w2.heap[q3]? = some (.cells #[.string P] 9 (0, 0)) from by rw [← hw2, ← hq3, ← hs1]; exact alloc_blk w1 _)
  have hl2 : LJ w1 w2 := by rw [← hw2]; exact (LJ.refl w1).alloc _
  have HB2 := Lib.hid (hl2.block hb2)
  have HL2 := Lib.hid (hl1.trans hl2)
  have HVC := Lib.hid (hvc.later HL2.out)
  have HLV := Lib.hid (fun W (hW : LJ w2 W) => vlives_any W vb jb mb l (HVC.out.later hW))
  have HMY := Lib.hid (fun W (q : Nat) (hW : LJ w2 W) (hb : W.heap[q]? = some (.cells #[.string P] 9 (0, 0))) => show Calls Tryz.prog 92 #[.pointer (some ⟨vb, 0, none⟩), .slice (some ⟨q, 0, none⟩) 1 1] W (MadeC W (pathB pl) 171) from by
    have h1 := vmay_any W vb q 1 1 [P] rfl (by simp) (by intro x hx; rw [List.mem_singleton.1 hx]; omega) (fun j x hj => by
      match j, hj with
      | 0, hj =>
        obtain rfl : P = x := by simpa using hj
        exact cell_blk hb 0)
    rw [show ([P].all fun x => pathB x.data.toList) = pathB pl from by simp [hpl]] at h1
    exact h1)
  have HIS := Lib.hid (fun W (hW : LJ w2 W) => vis_any W vb jb mb l P pl hpl (by omega) (HVC.out.later hW))
  have HMK := Lib.hid (fun cs K1 K2 K3 K4 K5 c1 c2 c3 c4 c5 hcs => rm_ask l HVJ.out.inv pl cs K1 K2 K3 K4 K5 c1 c2 c3 c4 c5 hcs)
  obtain ⟨B2, hB2⟩ : ∃ b, pathB pl = b := ⟨_, rfl⟩
  obtain ⟨B3, hB3⟩ : ∃ b, (atE l pl).isSome = b := ⟨_, rfl⟩
  obtain ⟨B4, hB4⟩ : ∃ b, (!(pl == [47])) = b := ⟨_, rfl⟩
  obtain ⟨B5, hB5⟩ : ∃ b, (kidsE l pl).isEmpty = b := ⟨_, rfl⟩
  rw [hB2, hB3, hB4, hB5] at HMK
  rw [hB2] at HMY
  rw [hB3] at HIS
  have HKI := Lib.hid (fun W (h2 : W.cell? ⟨q3, 0, none⟩ = some (.string P)) => show Calls Tryz.prog 146 #[.pointer (some ⟨q3, 0, none⟩)] W fun e w' => e = .returned (.bool B4) ∧ LJ W w' from by
    have h3 := vremove1_any W q3 P h2
    rw [hpl, hB4] at h3
    refine h3.mono ?_
    rintro e w' ⟨h5, rfl⟩
    exact ⟨h5, LJ.refl _⟩)
  have HEM := Lib.hid (fun W (hW : LJ w2 W) (h1 : W.cell? ⟨q2, 0, none⟩ = some (.pointer (some ⟨vb, 0, none⟩))) (h2 : W.cell? ⟨q3, 0, none⟩ = some (.string P)) => show Calls Tryz.prog 147 #[.pointer (some ⟨q2, 0, none⟩), .pointer (some ⟨q3, 0, none⟩)] W fun e w' => e = .returned (.bool B5) ∧ LJ W w' from by
    have h3 := vempty_any W q2 q3 vb jb mb l P HVJ.out.inv (by have := HVJ.out.count; omega) (HVC.out.later hW) h1 h2
    rw [hpl, hB5] at h3
    exact h3)
  have HBEC := Lib.hid (fun W (hW : LJ w W) (m : Nat) (now : List Ent) (hm : EMap W m now) (hge : w.heap.size ≤ m) (hi : VInv now) (hlen : now.length ≤ 800) =>
    vbecomes_any W p b jb vb F J l now (HV.out.later hW) hh hn m hm (fun e => by have := HF.out m e; omega) hi hlen)
  have HWO := Lib.hid (fun W (hW : LJ w2 W) => show Calls Tryz.prog 98 #[.pointer (some ⟨vb, 0, none⟩), .string P] W fun e w' => ∃ m, e = .returned (.map (some m)) ∧ EMap w' m (delE l pl) ∧ W.heap.size ≤ m ∧ LJ W w' from by
    have h3 := vwithout_any W vb mb jb l P (by omega) (HVC.out.later hW).blk (HVC.out.later hW).map
    rw [hpl] at h3
    exact h3)
  have HDL := Lib.hid (show (delE l pl).length ≤ 800 from by
    have h1 : (delE l pl).length ≤ l.length := List.length_filter_le _ _
    have := HVJ.out.count
    omega)
  have HW1 := Lib.hid hw1
  have HW2 := Lib.hid hw2
  have HQ3 := Lib.hid (And.intro hq3 hs1)
  have HQ2 := Lib.hid (show w.heap.size ≤ q2 ∧ w.heap.size ≤ q3 from by omega)
  obtain ⟨room, hroom⟩ : ∃ r, J.room' = r := ⟨_, rfl⟩
  rw [hroom] at HBEC ⊢
  rw [hpl]
  clear h hvc hw1 hw2 hl1 hl2 hb2 hB2 hB3 hB4 hB5 hroom hs1 hpl
  go_enter Tryz.func85, Tryz.ntmps85
  go_upto_region 1 with fail
  rw [HW1.out, HW2.out]
  clear hq2
  obtain ⟨w5, hw5⟩ : ∃ w5, w2.alloc (.cells #[Value.nilFunc, .int .i64 0] 146) = w5 := ⟨_, rfl⟩
  obtain ⟨q5, hq5⟩ : ∃ q, w2.heap.size = q := ⟨_, rfl⟩
  have HB5 := Lib.hid (show w5.heap[q5]? = some (.cells #[Value.nilFunc, .int .i64 0] 146 (0, 0)) from by rw [← hw5, ← hq5]; exact alloc_blk w2 _)
  obtain ⟨w6, hw6⟩ : ∃ w6, w5.setRow q5 #[.func (.func 146) #[] #[.pointer (some ⟨q3, 0, none⟩)], .int .i64 174] = w6 := ⟨_, rfl⟩
  have HB5a := Lib.hid (show w6.heap[q5]? = some (.cells #[.func (.func 146) #[] #[.pointer (some ⟨q3, 0, none⟩)], .int .i64 174] 146 (0, 0)) from by rw [← hw6]; exact vrow_heap w5 q5 _ _ _ HB5.out)
  have HL6 := Lib.hid (show LJ w2 w6 from by rw [← hw6]; exact lj_onlyV (show LJ w2 w5 from by rw [← hw5]; exact (LJ.refl w2).alloc _) (vrow_only _ _ _) (fun k hk => by rw [show k = q5 from hk]; omega))
  have HW5 := Lib.hid hw5
  have HW6 := Lib.hid hw6
  clear hw6
  go_upto_region 2 with (first
    | (refine wpList_store_row rfl 146 (.tmp 5) (.tmp 9) rfl q5 #[.func (.func 146) #[] #[.pointer (some ⟨q3, 0, none⟩)], .int .i64 174] rfl rfl 146 _ HB5.out info_chk rfl (chk_all _ _ _) ?_; rw [HW6.out])
    | fail)
  clear hq5 hw5
  obtain ⟨w7, hw7⟩ : ∃ w7, w6.alloc (.cells #[Value.nilFunc, .int .i64 0] 146) = w7 := ⟨_, rfl⟩
  obtain ⟨q6, hq6⟩ : ∃ q, w6.heap.size = q := ⟨_, rfl⟩
  have HB7a := Lib.hid (show w7.heap[q6]? = some (.cells #[Value.nilFunc, .int .i64 0] 146 (0, 0)) from by rw [← hw7, ← hq6]; exact alloc_blk w6 _)
  obtain ⟨w8, hw8⟩ : ∃ w8, w7.setRow q6 #[.func (.func 147) #[] #[.pointer (some ⟨q2, 0, none⟩), .pointer (some ⟨q3, 0, none⟩)], .int .i64 177] = w8 := ⟨_, rfl⟩
  have HB68 := Lib.hid (show w8.heap[q6]? = some (.cells #[.func (.func 147) #[] #[.pointer (some ⟨q2, 0, none⟩), .pointer (some ⟨q3, 0, none⟩)], .int .i64 177] 146 (0, 0)) from by rw [← hw8]; exact vrow_heap w7 q6 _ _ _ HB7a.out)
  have HL8a := Lib.hid (show LJ w6 w8 from by rw [← hw8]; exact lj_onlyV (show LJ w6 w7 from by rw [← hw7]; exact (LJ.refl w6).alloc _) (vrow_only _ _ _) (fun k hk => by rw [show k = q6 from hk]; omega))
  have HW7 := Lib.hid hw7
  have HW8 := Lib.hid hw8
  clear hw8
  go_upto_region 3 with (first
    | (refine wpList_store_row rfl 146 (.tmp 6) (.tmp 11) rfl q6 #[.func (.func 147) #[] #[.pointer (some ⟨q2, 0, none⟩), .pointer (some ⟨q3, 0, none⟩)], .int .i64 177] rfl rfl 146 _ HB7a.out info_chk rfl (chk_all _ _ _) ?_; rw [HW8.out])
    | fail)
  clear hq6 hmf hw7
  have HB58 := Lib.hid (HL8a.out.block HB5a.out)
  have HL28 := Lib.hid (HL6.out.trans HL8a.out)
  have HB28 := Lib.hid (HL28.out.block HB2.out)
  have HB38 := Lib.hid (HL28.out.block HB3.out)
  have HK1 := Lib.hid (show ChkOK w8 ⟨146, #[.pointer (some ⟨q3, 0, none⟩)], B4, 174⟩ from ⟨enters_of Tryz.func146 (by kernel_rfl) rfl, fun W hW => HKI.out W (cell_blk (hW.block HB38.out) 0)⟩)
  have HK2 := Lib.hid (show ChkOK w8 ⟨147, #[.pointer (some ⟨q2, 0, none⟩), .pointer (some ⟨q3, 0, none⟩)], B5, 177⟩ from ⟨enters_of Tryz.func147 (by kernel_rfl) rfl, fun W hW => HEM.out W (HL28.out.trans hW) (cell_blk (hW.block HB28.out) 0) (cell_blk (hW.block HB38.out) 0)⟩)
  have HLV := Lib.hid (fun W (hW : LJ w8 W) => HLV.out W (HL28.out.trans hW))
  have HMY := Lib.hid (fun W q (hW : LJ w8 W) hb => HMY.out W q (HL28.out.trans hW) hb)
  have HIS := Lib.hid (fun W (hW : LJ w8 W) => HIS.out W (HL28.out.trans hW))
  clear hq3
  simp only [Go.Act.put]
  go_cut [7] from 12 to 24 (fun v7 wx => ∃ cs K1 K2 K3 K4 K5 c1 c2 c3 c4 c5, cs = [⟨K1, c1, true, 2⟩, ⟨K2, c2, B2, 171⟩, ⟨K3, c3, B3, 172⟩, ⟨K4, c4, B4, 174⟩, ⟨K5, c5, B5, 177⟩] ∧ v7 = .int .i64 (askE cs) ∧ LJ w8 wx)
  case first =>
    refine wp_region_held_drew (S := fun w' => w'.heap[q2]? = some (.cells #[.pointer (some ⟨vb, 0, none⟩)] 60 (0, 0)) ∧ w'.heap[q3]? = some (.cells #[.string P] 9 (0, 0)) ∧ w'.heap[q5]? = some (.cells #[.func (.func 146) #[] #[.pointer (some ⟨q3, 0, none⟩)], .int .i64 174] 146 (0, 0)) ∧ w'.heap[q6]? = some (.cells #[.func (.func 147) #[] #[.pointer (some ⟨q2, 0, none⟩), .pointer (some ⟨q3, 0, none⟩)], .int .i64 177] 146 (0, 0))) (by kernel_rfl) ⟨HB28.out, HB38.out, HB58.out, HB68.out⟩ (fun hHeld => ?_)
    have hL := Lib.hid (LJ.refl w8).drew
    refine tkS 0 hHeld ?_ (hy := by intro w hSw; have l0 := cell_blk hSw.1 0; have l1 := cell_blk hSw.2.1 0; have m0 := cell_blk hSw.2.2.1 0; have m1 := cell_blk hSw.2.2.1 1; have n0 := cell_blk hSw.2.2.2 0; have n1 := cell_blk hSw.2.2.2 1; go_simp; (try with_reducible rfl))
    refine tkS 2 hHeld ?_ (hy := by intro w hSw; have l0 := cell_blk hSw.1 0; have l1 := cell_blk hSw.2.1 0; have m0 := cell_blk hSw.2.2.1 0; have m1 := cell_blk hSw.2.2.1 1; have n0 := cell_blk hSw.2.2.2 0; have n1 := cell_blk hSw.2.2.2 1; go_simp; (try with_reducible rfl))
    refine tkS 3 hHeld ?_ (hy := by intro w hSw; have l0 := cell_blk hSw.1 0; have l1 := cell_blk hSw.2.1 0; have m0 := cell_blk hSw.2.2.1 0; have m1 := cell_blk hSw.2.2.1 1; have n0 := cell_blk hSw.2.2.2 0; have n1 := cell_blk hSw.2.2.2 1; go_simp; (try with_reducible rfl))
    refine tkS 6 hHeld ?_ (hy := by intro w hSw; have l0 := cell_blk hSw.1 0; have l1 := cell_blk hSw.2.1 0; have m0 := cell_blk hSw.2.2.1 0; have m1 := cell_blk hSw.2.2.1 1; have n0 := cell_blk hSw.2.2.2 0; have n1 := cell_blk hSw.2.2.2 1; go_simp; (try with_reducible rfl))
    refine tkS 7 hHeld ?_ (hy := by intro w hSw; have l0 := cell_blk hSw.1 0; have l1 := cell_blk hSw.2.1 0; have m0 := cell_blk hSw.2.2.1 0; have m1 := cell_blk hSw.2.2.1 1; have n0 := cell_blk hSw.2.2.2 0; have n1 := cell_blk hSw.2.2.2 1; go_simp; (try with_reducible rfl))
    refine tkS 9 hHeld ?_ (hy := by intro w hSw; have l0 := cell_blk hSw.1 0; have l1 := cell_blk hSw.2.1 0; have m0 := cell_blk hSw.2.2.1 0; have m1 := cell_blk hSw.2.2.1 1; have n0 := cell_blk hSw.2.2.2 0; have n1 := cell_blk hSw.2.2.2 1; go_simp; (try with_reducible rfl))
    refine tkS 10 hHeld ?_ (hy := by intro w hSw; have l0 := cell_blk hSw.1 0; have l1 := cell_blk hSw.2.1 0; have m0 := cell_blk hSw.2.2.1 0; have m1 := cell_blk hSw.2.2.1 1; have n0 := cell_blk hSw.2.2.2 0; have n1 := cell_blk hSw.2.2.2 1; go_simp; (try with_reducible rfl))
    refine wpAnyH_ready (rs := [1, 4]) (by kernel_rfl) (by simp) ?_
    refine AllReadyH.cons rfl (fun K hK => ?_) (AllReadyH.cons rfl (fun K hK => ?_) AllReadyH.nil)
    · go_simp
      (with_reducible refine (HLV.out _ hL.out).mono ?_); rintro e wx ⟨Kl, cl, rfl, hk, hx⟩
      have hL := Lib.hid (hL.out.trans hx)
      have HKl := Lib.hid hk
      have hS2 := And.intro (hx.block hHeld.1) (And.intro (hx.block hHeld.2.1) (And.intro (hx.block hHeld.2.2.1) (hx.block hHeld.2.2.2)))
      clear hx hk
      refine hK.out _ _ hS2 (fun hHeld => ?_)
      clear hK K hS2
      refine wpAnyH_ready (rs := [4]) (by kernel_rfl) (by simp) ?_
      refine AllReadyH.cons rfl (fun K hK => ?_) AllReadyH.nil
      go_simp
      obtain ⟨q, hq⟩ : ∃ q, wx.heap.size = q := ⟨_, rfl⟩
      obtain ⟨wq, hwq⟩ : ∃ wq, (wx.alloc (.cells #[.string P] 9)) = wq := ⟨_, rfl⟩
      have hx : LJ wx wq := by rw [← hwq]; exact ((LJ.refl _).alloc _)
      have HQB := Lib.hid (show wq.heap[q]? = some (.cells #[.string P] 9 (0, 0)) from by rw [← hwq, ← hq]; exact alloc_blk _ _)
      have hL := Lib.hid (hL.out.trans hx)
      have HKl := Lib.hid (HKl.out.later hx)
      have hS2 := And.intro (hx.block hHeld.1) (And.intro (hx.block hHeld.2.1) (And.intro (hx.block hHeld.2.2.1) (hx.block hHeld.2.2.2)))
      rw [hq, hwq]
      clear hq hwq hx
      refine hK.out _ _ hS2 (fun hHeld => ?_)
      clear hK K hS2
      refine wpAnyH_ready (rs := [5]) (by kernel_rfl) (by simp) ?_
      refine AllReadyH.cons rfl (fun K hK => ?_) AllReadyH.nil
      have HMYW := Lib.hid (fun W (hW : LJ _ W) (hb : W.heap[q]? = _) => HMY.out W q hW hb)
      go_simp
      (with_reducible refine (HMYW.out _ hL.out HQB.out).mono ?_); rintro e wx ⟨Km, cm, rfl, hk, hx⟩
      have hL := Lib.hid (hL.out.trans hx)
      have HKl := Lib.hid (HKl.out.later hx)
      have HKm := Lib.hid hk
      have hS2 := And.intro (hx.block hHeld.1) (And.intro (hx.block hHeld.2.1) (And.intro (hx.block hHeld.2.2.1) (hx.block hHeld.2.2.2)))
      clear hx hk HMYW
      refine hK.out _ _ hS2 (fun hHeld => ?_)
      clear hK K hS2
      refine wpAnyH_ready (rs := [8]) (by kernel_rfl) (by simp) ?_
      refine AllReadyH.cons rfl (fun K hK => ?_) AllReadyH.nil
      go_simp
      (with_reducible refine (HIS.out _ hL.out).mono ?_); rintro e wx ⟨Ki, ci, rfl, hk, hx⟩
      have hL := Lib.hid (hL.out.trans hx)
      have HKl := Lib.hid (HKl.out.later hx)
      have HKm := Lib.hid (HKm.out.later hx)
      have HKi := Lib.hid hk
      have hS2 := And.intro (hx.block hHeld.1) (And.intro (hx.block hHeld.2.1) (And.intro (hx.block hHeld.2.2.1) (hx.block hHeld.2.2.2)))
      clear hx hk
      refine hK.out _ _ hS2 (fun hHeld => ?_)
      clear hK K hS2
      refine wpAnyH_ready (rs := [11]) (by kernel_rfl) (by simp) ?_
      refine AllReadyH.cons rfl (fun K hK => ?_) AllReadyH.nil
      go_simp
      obtain ⟨r, hr⟩ : ∃ r, wx.heap.size = r := ⟨_, rfl⟩
      obtain ⟨wr, hwr⟩ : ∃ wr, wx.alloc (.cells #[.func (.func Kl) #[] cl, .int .i64 2, .func (.func Km) #[] cm, .int .i64 171, .func (.func Ki) #[] ci, .int .i64 172, .func (.func 146) #[] #[.pointer (some ⟨q3, 0, none⟩)], .int .i64 174, .func (.func 147) #[] #[.pointer (some ⟨q2, 0, none⟩), .pointer (some ⟨q3, 0, none⟩)], .int .i64 177] 146) = wr := ⟨_, rfl⟩
      have hx : LJ wx wr := by rw [← hwr]; exact (LJ.refl _).alloc _
      have HRB := Lib.hid (show wr.heap[r]? = some (.cells (chkRow [⟨Kl, cl, true, 2⟩, ⟨Km, cm, B2, 171⟩, ⟨Ki, ci, B3, 172⟩, ⟨146, #[.pointer (some ⟨q3, 0, none⟩)], B4, 174⟩, ⟨147, #[.pointer (some ⟨q2, 0, none⟩), .pointer (some ⟨q3, 0, none⟩)], B5, 177⟩]).toArray 146 (0, 0)) from by rw [← hwr, ← hr]; exact alloc_blk _ _)
      have hL := Lib.hid (hL.out.trans hx)
      have HKl := Lib.hid (HKl.out.later hx)
      have HKm := Lib.hid (HKm.out.later hx)
      have HKi := Lib.hid (HKi.out.later hx)
      have hS2 := And.intro (hx.block hHeld.1) (And.intro (hx.block hHeld.2.1) (And.intro (hx.block hHeld.2.2.1) (hx.block hHeld.2.2.2)))
      rw [hr, hwr]
      clear hr hwr hx
      refine hK.out _ _ hS2 (fun hHeld => ?_)
      clear hK K hS2
      have HASK := Lib.hid (asked_any wr [⟨Kl, cl, true, 2⟩, ⟨Km, cm, B2, 171⟩, ⟨Ki, ci, B3, 172⟩, ⟨146, #[.pointer (some ⟨q3, 0, none⟩)], B4, 174⟩, ⟨147, #[.pointer (some ⟨q2, 0, none⟩), .pointer (some ⟨q3, 0, none⟩)], B5, 177⟩] r 5 5 rfl (by omega) (fun j c hj => chk_at HRB.out j c hj) (by intro c hc; simp only [List.mem_cons, List.not_mem_nil, or_false] at hc; rcases hc with rfl | rfl | rfl | rfl | rfl; exact HKl.out; exact HKm.out; exact HKi.out; exact HK1.out.later hL.out; exact HK2.out.later hL.out))
      refine wpAnyH_ready (rs := [12]) (by kernel_rfl) (by simp) ?_
      refine AllReadyH.cons rfl (fun K hK => ?_) AllReadyH.nil
      go_simp
      (with_reducible refine HASK.out.mono ?_); rintro e wz ⟨rfl, hx⟩
      have hL := Lib.hid (hL.out.trans hx)
      have hS2 := And.intro (hx.block hHeld.1) (And.intro (hx.block hHeld.2.1) (And.intro (hx.block hHeld.2.2.1) (hx.block hHeld.2.2.2)))
      clear hx
      refine hK.out _ _ hS2 (fun hHeld => ?_)
      clear hK K hS2
      refine tkS 13 hHeld ?_
      refine wpAnyH_done (by kernel_rfl) ?_ _
      go_wp2_with fail
      go_meet
      case rel => exact ⟨_, Kl, Km, Ki, _, _, cl, cm, ci, _, _, rfl, rfl, hL.out⟩
    · go_simp
      obtain ⟨q, hq⟩ : ∃ q, w8.heap.size = q := ⟨_, rfl⟩
      obtain ⟨wq, hwq⟩ : ∃ wq, (w8.alloc (.cells #[.string P] 9)).drew = wq := ⟨_, rfl⟩
      have hx : LJ w8 wq := by rw [← hwq]; exact ((LJ.refl _).alloc _).drew
      have HQB := Lib.hid (show wq.heap[q]? = some (.cells #[.string P] 9 (0, 0)) from by rw [← hwq, ← hq]; exact alloc_blk _ _)
      have hL := Lib.hid (hx)
      have hS2 := And.intro (hx.block hHeld.1) (And.intro (hx.block hHeld.2.1) (And.intro (hx.block hHeld.2.2.1) (hx.block hHeld.2.2.2)))
      rw [hq, hwq]
      clear hq hwq hx
      refine hK.out _ _ hS2 (fun hHeld => ?_)
      clear hK K hS2
      refine wpAnyH_ready (rs := [1]) (by kernel_rfl) (by simp) ?_
      refine AllReadyH.cons rfl (fun K hK => ?_) AllReadyH.nil
      go_simp
      (with_reducible refine (HLV.out _ hL.out).mono ?_); rintro e wx ⟨Kl, cl, rfl, hk, hx⟩
      have hL := Lib.hid (hL.out.trans hx)
      have HQB := Lib.hid (hx.block HQB.out)
      have HKl := Lib.hid hk
      have hS2 := And.intro (hx.block hHeld.1) (And.intro (hx.block hHeld.2.1) (And.intro (hx.block hHeld.2.2.1) (hx.block hHeld.2.2.2)))
      clear hx hk
      refine hK.out _ _ hS2 (fun hHeld => ?_)
      clear hK K hS2
      refine wpAnyH_ready (rs := [5]) (by kernel_rfl) (by simp) ?_
      refine AllReadyH.cons rfl (fun K hK => ?_) AllReadyH.nil
      have HMYW := Lib.hid (fun W (hW : LJ _ W) (hb : W.heap[q]? = _) => HMY.out W q hW hb)
      go_simp
      (with_reducible refine (HMYW.out _ hL.out HQB.out).mono ?_); rintro e wx ⟨Km, cm, rfl, hk, hx⟩
      have hL := Lib.hid (hL.out.trans hx)
      have HKl := Lib.hid (HKl.out.later hx)
      have HKm := Lib.hid hk
      have hS2 := And.intro (hx.block hHeld.1) (And.intro (hx.block hHeld.2.1) (And.intro (hx.block hHeld.2.2.1) (hx.block hHeld.2.2.2)))
      clear hx hk HMYW
      refine hK.out _ _ hS2 (fun hHeld => ?_)
      clear hK K hS2
      refine wpAnyH_ready (rs := [8]) (by kernel_rfl) (by simp) ?_
      refine AllReadyH.cons rfl (fun K hK => ?_) AllReadyH.nil
      go_simp
      (with_reducible refine (HIS.out _ hL.out).mono ?_); rintro e wx ⟨Ki, ci, rfl, hk, hx⟩
      have hL := Lib.hid (hL.out.trans hx)
      have HKl := Lib.hid (HKl.out.later hx)
      have HKm := Lib.hid (HKm.out.later hx)
      have HKi := Lib.hid hk
      have hS2 := And.intro (hx.block hHeld.1) (And.intro (hx.block hHeld.2.1) (And.intro (hx.block hHeld.2.2.1) (hx.block hHeld.2.2.2)))
      clear hx hk
      refine hK.out _ _ hS2 (fun hHeld => ?_)
      clear hK K hS2
      refine wpAnyH_ready (rs := [11]) (by kernel_rfl) (by simp) ?_
      refine AllReadyH.cons rfl (fun K hK => ?_) AllReadyH.nil
      go_simp
      obtain ⟨r, hr⟩ : ∃ r, wx.heap.size = r := ⟨_, rfl⟩
      obtain ⟨wr, hwr⟩ : ∃ wr, wx.alloc (.cells #[.func (.func Kl) #[] cl, .int .i64 2, .func (.func Km) #[] cm, .int .i64 171, .func (.func Ki) #[] ci, .int .i64 172, .func (.func 146) #[] #[.pointer (some ⟨q3, 0, none⟩)], .int .i64 174, .func (.func 147) #[] #[.pointer (some ⟨q2, 0, none⟩), .pointer (some ⟨q3, 0, none⟩)], .int .i64 177] 146) = wr := ⟨_, rfl⟩
      have hx : LJ wx wr := by rw [← hwr]; exact (LJ.refl _).alloc _
      have HRB := Lib.hid (show wr.heap[r]? = some (.cells (chkRow [⟨Kl, cl, true, 2⟩, ⟨Km, cm, B2, 171⟩, ⟨Ki, ci, B3, 172⟩, ⟨146, #[.pointer (some ⟨q3, 0, none⟩)], B4, 174⟩, ⟨147, #[.pointer (some ⟨q2, 0, none⟩), .pointer (some ⟨q3, 0, none⟩)], B5, 177⟩]).toArray 146 (0, 0)) from by rw [← hwr, ← hr]; exact alloc_blk _ _)
      have hL := Lib.hid (hL.out.trans hx)
      have HKl := Lib.hid (HKl.out.later hx)
      have HKm := Lib.hid (HKm.out.later hx)
      have HKi := Lib.hid (HKi.out.later hx)
      have hS2 := And.intro (hx.block hHeld.1) (And.intro (hx.block hHeld.2.1) (And.intro (hx.block hHeld.2.2.1) (hx.block hHeld.2.2.2)))
      rw [hr, hwr]
      clear hr hwr hx
      refine hK.out _ _ hS2 (fun hHeld => ?_)
      clear hK K hS2
      have HASK := Lib.hid (asked_any wr [⟨Kl, cl, true, 2⟩, ⟨Km, cm, B2, 171⟩, ⟨Ki, ci, B3, 172⟩, ⟨146, #[.pointer (some ⟨q3, 0, none⟩)], B4, 174⟩, ⟨147, #[.pointer (some ⟨q2, 0, none⟩), .pointer (some ⟨q3, 0, none⟩)], B5, 177⟩] r 5 5 rfl (by omega) (fun j c hj => chk_at HRB.out j c hj) (by intro c hc; simp only [List.mem_cons, List.not_mem_nil, or_false] at hc; rcases hc with rfl | rfl | rfl | rfl | rfl; exact HKl.out; exact HKm.out; exact HKi.out; exact HK1.out.later hL.out; exact HK2.out.later hL.out))
      refine wpAnyH_ready (rs := [12]) (by kernel_rfl) (by simp) ?_
      refine AllReadyH.cons rfl (fun K hK => ?_) AllReadyH.nil
      go_simp
      (with_reducible refine HASK.out.mono ?_); rintro e wz ⟨rfl, hx⟩
      have hL := Lib.hid (hL.out.trans hx)
      have hS2 := And.intro (hx.block hHeld.1) (And.intro (hx.block hHeld.2.1) (And.intro (hx.block hHeld.2.2.1) (hx.block hHeld.2.2.2)))
      clear hx
      refine hK.out _ _ hS2 (fun hHeld => ?_)
      clear hK K hS2
      refine tkS 13 hHeld ?_
      refine wpAnyH_done (by kernel_rfl) ?_ _
      go_wp2_with fail
      go_meet
      case rel => exact ⟨_, Kl, Km, Ki, _, _, cl, cm, ci, _, _, rfl, rfl, hL.out⟩
  case rest =>
    obtain ⟨cs, K1, K2, K3, K4, K5, c1, c2, c3, c4, c5, hcs, rfl, hlc⟩ := hcut
    have HLC := Lib.hid hlc
    have HWX := Lib.hid (HL2.out.trans (HL28.out.trans hlc))
    have hmk := HMK.out cs K1 K2 K3 K4 K5 c1 c2 c3 c4 c5 hcs
    obtain ⟨E, hE⟩ : ∃ E, askE cs = E := ⟨_, rfl⟩
    rw [hE] at hmk ⊢
    clear hcs hE hlc
    rcases hmk with ⟨hne, hm⟩ | ⟨h0, hm, hvi⟩
    · have HM := Lib.hid (hm room)
      have hneb : (E != 0) = true := by simpa using hne
      have HNE := Lib.hid hne
      clear hm
      go_wp2_with fail
      go_ret
      rw [HM.out]
      have hja : J.ans l (E, l) = J := if_neg HNE.out
      rw [hja]
      exact ⟨rfl, VOut.same HV.out HWX.out⟩
    · subst h0
      have HM := Lib.hid (hm room)
      have HVI := Lib.hid hvi
      have HBC2 := Lib.hid (HLC.out.block HB28.out)
      have HBC3 := Lib.hid (HLC.out.block HB38.out)
      have HWO2 := Lib.hid (HWO.out wc.drew (HL28.out.trans HLC.out).drew)
      clear hm hvi
      go_upto_region 6 with fail
      have HBEC2 := Lib.hid (fun W (hW : LJ wc.drew W) (m : Nat) (hm : EMap W m (delE l pl)) (hge : wc.drew.heap.size ≤ m) => HBEC.out W (HWX.out.drew.trans hW) m (delE l pl) hm (Nat.le_trans (Below.size HWX.out) hge) HVI.out HDL.out)
      refine wp_region_held_drew (S := fun w' => w'.heap[q2]? = some (.cells #[.pointer (some ⟨vb, 0, none⟩)] 60 (0, 0)) ∧ w'.heap[q3]? = some (.cells #[.string P] 9 (0, 0))) (by kernel_rfl) ⟨HBC2.out, HBC3.out⟩ (fun hHeld => ?_)
      refine tkS 0 hHeld ?_ (hy := by intro w hSw; have l0 := cell_blk hSw.1 0; have l1 := cell_blk hSw.2 0; go_simp; (try with_reducible rfl))
      refine tkS 1 hHeld ?_ (hy := by intro w hSw; have l0 := cell_blk hSw.1 0; have l1 := cell_blk hSw.2 0; go_simp; (try with_reducible rfl))
      refine tkS 2 hHeld ?_ (hy := by intro w hSw; have l0 := cell_blk hSw.1 0; have l1 := cell_blk hSw.2 0; go_simp; (try with_reducible rfl))
      refine wpAnyH_ready (rs := [3]) (by kernel_rfl) (by simp) ?_
      refine AllReadyH.cons rfl (fun K hK => ?_) AllReadyH.nil
      go_simp
      (with_reducible refine HWO2.out.mono ?_); rintro e wy ⟨m, rfl, hm1, hm2, hly⟩
      have HB9 := Lib.hid (HBEC2.out wy hly m hm1 hm2)
      have HLY := Lib.hid (HWX.out.drew.trans hly)
      have HGE := Lib.hid (show w.heap.size ≤ m from Nat.le_trans (Below.size HWX.out.drew) hm2)
      have HM7 := Lib.hid hm1
      have hS2 := And.intro (hly.block hHeld.1) (hly.block hHeld.2)
      refine hK.out _ _ hS2 (fun hHeld => ?_)
      clear hK K hS2 hm1 hm2 hly
      refine wpAnyH_ready (rs := [4]) (by kernel_rfl) (by simp) ?_
      refine AllReadyH.cons rfl (fun K hK => ?_) AllReadyH.nil
      go_simp
      (with_reducible refine HB9.out.mono ?_); rintro e wz ⟨rfl, hv9, ho9⟩
      have HV9 := Lib.hid hv9
      have HO9 := Lib.hid ho9
      clear hv9 ho9
      refine hK.out _ _ ?_ (fun hHeld => ?_)
      case refine_1 =>
        have h1 := HQ2.out
        have h2 := Below.size HLY.out
        have b2 := lt_blk hHeld.1
        have b3 := lt_blk hHeld.2
        exact ⟨(HO9.out.block q2 b2 (fun e => by have := HF.out q2 e; omega)).trans hHeld.1, (HO9.out.block q3 b3 (fun e => by have := HF.out q3 e; omega)).trans hHeld.2⟩
      case refine_2 =>
        clear hK K
        refine tkS 5 hHeld ?_
        refine wpAnyH_done (by kernel_rfl) ?_ _
        go_wp2_with fail
        go_ret
        rw [HM.out]
        exact ⟨rfl, VOut.bec HF.out HLY.out HGE.out HM7.out.lt HV9.out HO9.out⟩
end Go.Proofs.YtfpbocjmlhcgiaaGreatDoor

