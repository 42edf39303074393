/- Vgj, merged: VM24 VM25. -/
import Derived.Test.YtfpbocjmlhcgiaaGreatDoorVg9
set_option linter.unusedSimpArgs false
set_option linter.unusedVariables false
/- The volume's Write. -/
namespace Go.Proofs.YtfpbocjmlhcgiaaGreatDoor
open Go.RowKit PJ Go.Maps Go.WideMaps Go.Shelf

def wrNow (x : Ent) (p : List UInt8) (k : Nat) (data : List UInt8) : Ent := ⟨p, false, x.s.take k ++ (data ++ x.s.drop (min x.s.length (k + data.length)))⟩
/-- A file's bytes are others. -/
theorem h_put_same {l : List Ent} (h : VInv l) {x : Ent} {p : List UInt8} (hm : x ∈ l) (hr : p ≠ [47]) (e : x.p = p) (hd : x.d = false) (s : List UInt8) (hs : s.length ≤ 1024) : VInv (putE l ⟨p, false, s⟩) := by
  subst e
  refine h.put _ (h.path x hm).1 hr (fun e => by cases e) hs (h.up x hm) (fun y hy e hyd => ?_)
  rw [h.rise.inj hy hm e] at hyd
  rw [hyd] at hd
  cases hd
theorem wr_ask (l : List Ent) (hi : VInv l) (p : List UInt8) (a : Int) (data : List UInt8) (cs : List Chk) (K1 K2 K3 K4 K5 K6 : FuncId) (c1 c2 c3 c4 c5 c6 : Array Value) (hcs : cs = [⟨K1, c1, true, 2⟩, ⟨K2, c2, pathB p, 171⟩, ⟨K3, c3, (atE l p).isSome, 172⟩, ⟨K4, c4, !((atE l p).getD zeroE).d, 174⟩, ⟨K5, c5, inB a ((atE l p).getD zeroE).s.length, 1⟩, ⟨K6, c6, decide ((data.length : Int) ≤ IntKind.i64.wrap (1024 - a)), 176⟩]) :
    (askE cs ≠ 0 ∧ ∀ room, wrE room l p a data = (askE cs, l)) ∨ (askE cs = 0 ∧ ∃ (x : Ent) (k : Nat), atE l p = some x ∧ x ∈ l ∧ x.p = p ∧ x.d = false ∧ a = (k : Int) ∧ k ≤ x.s.length ∧ x.s.length ≤ 1024 ∧ k + data.length ≤ 1024 ∧ (∀ room, wrE room l p a data = becE room l (putE l (wrNow x p k data))) ∧ VInv (putE l (wrNow x p k data))) := by
  subst hcs
  unfold askE wrE
  simp only [if_true]
  unfold askE
  cases hp : pathB p with
  | false => left; simp
  | true =>
    simp only [if_true]
    unfold askE
    cases hn : atE l p with
    | none => left; simp
    | some x =>
      simp only [Option.isSome_some, if_true, Option.getD_some]
      unfold askE
      cases hd : x.d with
      | true => left; simp
      | false =>
        simp only [Bool.not_false, if_true]
        unfold askE
        rcases atE_some hn with ⟨-, e⟩ | ⟨hr, hm, e⟩
        · rw [e] at hd; cases hd
        · have hf := hi.file x hm
          cases hb : inB a x.s.length with
          | false =>
            left
            have h1 : a < 0 ∨ (x.s.length : Int) < a := by
              unfold inB at hb
              rw [Bool.and_eq_false_iff, decide_eq_false_iff_not, decide_eq_false_iff_not] at hb
              omega
            refine ⟨by simp, fun room => ?_⟩
            simp [h1]
          | true =>
            unfold inB at hb
            rw [Bool.and_eq_true, decide_eq_true_eq, decide_eq_true_eq] at hb
            obtain ⟨b1, b2⟩ := hb
            obtain ⟨k, hk⟩ := Int.eq_ofNat_of_zero_le b1
            have hw : IntKind.i64.wrap (1024 - a) = 1024 - a := by rw [IntKind.wrap_i64]; omega
            rw [hw]
            simp only [if_true]
            unfold askE
            have hno : ¬ (a < 0 ∨ (x.s.length : Int) < a) := by omega
            by_cases hs : (data.length : Int) ≤ 1024 - a
            · right
              have hs' : ¬ (1024 - a < (data.length : Int)) := by omega
              have hnow : (⟨p, false, x.s.take a.toNat ++ (data ++ x.s.drop (min x.s.length (a.toNat + data.length)))⟩ : Ent) = wrNow x p k data := by rw [hk]; rfl
              refine ⟨by simp [hs, askE], x, k, rfl, hm, e, hd, hk, by omega, hf, by omega, fun room => ?_, ?_⟩
              · simp only [hno, hs', if_false, Bool.false_eq_true, hnow]
                simp
              · have hx := h_put_same hi hm hr e hd (x.s.take k ++ (data ++ x.s.drop (min x.s.length (k + data.length)))) (by simp only [List.length_append, List.length_take, List.length_drop]; omega)
                exact hx
            · left
              have hs' : 1024 - a < (data.length : Int) := by omega
              refine ⟨by simp [hs], fun room => ?_⟩
              simp [hno, hs', hs]
set_option maxRecDepth 100000 in
set_option maxHeartbeats 8000000 in
theorem vwrite_any (w : World) (p b jb vb : Nat) (F : Nat → Prop) (J : Jn) (l : List Ent) (h : VAt w p b jb vb F J l) (hh : J.head < 4611686018427387904) (hn : J.next < 4611686018427387904) (P : ByteArray) (hP : P.size < 4294967280) (a : Int) (S : ByteArray) (hS : S.size ≤ 140737488355328) :
    Calls Tryz.prog 38 #[.pointer (some ⟨vb, 0, none⟩), .string P, .int .i64 a, .string S] w fun e w' => e = .returned (.int .i64 (wrE J.room' l P.data.toList a S.data.toList).1) ∧ VOut w p b jb vb F (J.ans l (wrE J.room' l P.data.toList a S.data.toList)) (wrE J.room' l P.data.toList a S.data.toList).2 w' := by
  have hmf : ∀ (fn : Fn) (first cap : Array Value) (w : World), (Instr.makeFunc fn first cap).run Tryz.prog w = .ok (.func fn first cap) w := fun _ _ _ _ => rfl
  obtain ⟨mb, hvc⟩ := h.vc
  have HV := Lib.hid h
  have HVJ := Lib.hid h.vj
  have HF := Lib.hid h.lt
  obtain ⟨pl, hpl⟩ : ∃ x, P.data.toList = x := ⟨_, rfl⟩
  have hSl : S.data.toList.length = S.size := by rw [Array.length_toList]; rfl
  obtain ⟨w1, hw1⟩ : ∃ w1, w.alloc (.cells #[.int .i64 a] 3) = w1 := ⟨_, rfl⟩
  obtain ⟨q6, hq6⟩ : ∃ q, w.heap.size = q := ⟨_, rfl⟩
  have HB6 := Lib.hid (show w1.heap[q6]? = some (.cells #[.int .i64 a] 3 (0, 0)) from by rw [← hw1, ← hq6]; exact alloc_blk w _)
  have hl1 : LJ w w1 := by rw [← hw1]; exact (LJ.refl w).alloc _
  obtain ⟨w2, hw2⟩ : ∃ w2, w1.alloc (.cells #[.string S] 9) = w2 := ⟨_, rfl⟩
  have hs1 : w1.heap.size = q6 + 1 := by rw [← hw1, World.size_alloc, hq6]
  obtain ⟨q7, hq7⟩ : ∃ q7, q6 + 1 = q7 := ⟨_, rfl⟩
  have HB7 := Lib.hid (show w2.heap[q7]? = some (.cells #[.string S] 9 (0, 0)) from by rw [← hw2, ← hq7, ← hs1]; exact alloc_blk w1 _)
  have hl2 : LJ w1 w2 := by rw [← hw2]; exact (LJ.refl w1).alloc _
  have HL2 := Lib.hid (hl1.trans hl2)
  have HB62 := Lib.hid (hl2.block HB6.out)
  have HVC := Lib.hid (hvc.later HL2.out)
  have hat := vat_any w2 vb mb jb l P pl hpl (by omega) HVC.out.blk HVC.out.map
  obtain ⟨x, hx⟩ : ∃ x, (atE l pl).getD zeroE = x := ⟨_, rfl⟩
  obtain ⟨ok, hok⟩ : ∃ b, (atE l pl).isSome = b := ⟨_, rfl⟩
  rw [hx, hok] at hat
  obtain ⟨XP, hXP⟩ : ∃ P : ByteArray, (⟨x.p.toArray⟩ : ByteArray) = P := ⟨_, rfl⟩
  obtain ⟨XD, hXD⟩ : ∃ D : ByteArray, (⟨x.s.toArray⟩ : ByteArray) = D := ⟨_, rfl⟩
  have hXPd : XP.data.toList = x.p := by rw [← hXP]
  have hXDd : XD.data.toList = x.s := by rw [← hXD]
  have hXDs : XD.size = x.s.length := by rw [← hXD]; show x.s.toArray.size = _; rw [List.size_toArray]
  have hval : x.val = .agg #[.string XP, .bool x.d, .string XD] := by rw [← hXP, ← hXD]; rfl
  obtain ⟨xd, hxd⟩ : ∃ b, x.d = b := ⟨_, rfl⟩
  rw [hxd] at hval
  rw [hval] at hat
  have HAT := Lib.hid hat
  have HLV := Lib.hid (fun W (hW : LJ w2 W) => vlives_any W vb jb mb l (HVC.out.later hW))
  have HMY := Lib.hid (fun W (q : Nat) (hW : LJ w2 W) (hb : W.heap[q]? = some (.cells #[.string P] 9 (0, 0))) => show Calls Tryz.prog 92 #[.pointer (some ⟨vb, 0, none⟩), .slice (some ⟨q, 0, none⟩) 1 1] W (MadeC W (pathB pl) 171) from by
    have h1 := vmay_any W vb q 1 1 [P] rfl (by simp) (by intro x hx; rw [List.mem_singleton.1 hx]; omega) (fun j x hj => by
      match j, hj with
      | 0, hj =>
        obtain rfl : P = x := by simpa using hj
        exact cell_blk hb 0)
    rw [show ([P].all fun x => pathB x.data.toList) = pathB pl from by simp [hpl]] at h1
    exact h1)
  have HIS := Lib.hid (fun W (hW : LJ w2 W) => vis_any W vb jb mb l P pl hpl (by omega) (HVC.out.later hW))
  have HFI := Lib.hid (fun W (hW : LJ w2 W) => vfile_any W vb jb mb l P pl hpl (by omega) (HVC.out.later hW))
  have HMK := Lib.hid (fun cs K1 K2 K3 K4 K5 K6 c1 c2 c3 c4 c5 c6 hcs => wr_ask l HVJ.out.inv pl a S.data.toList cs K1 K2 K3 K4 K5 K6 c1 c2 c3 c4 c5 c6 hcs)
  rw [hSl, hx] at HMK
  obtain ⟨B2, hB2⟩ : ∃ b, pathB pl = b := ⟨_, rfl⟩
  obtain ⟨B4, hB4⟩ : ∃ b, (!x.d) = b := ⟨_, rfl⟩
  obtain ⟨B5, hB5⟩ : ∃ b, inB a x.s.length = b := ⟨_, rfl⟩
  obtain ⟨B6, hB6'⟩ : ∃ b, decide ((S.size : Int) ≤ IntKind.i64.wrap (1024 - a)) = b := ⟨_, rfl⟩
  rw [hx] at HFI
  rw [hB2] at HMY
  rw [hok] at HIS
  rw [hB4] at HFI
  rw [hB2, hok, hB4, hB5, hB6'] at HMK
  have HIN := Lib.hid (fun W q9 (h1 : W.cell? ⟨q6, 0, none⟩ = some (.int .i64 a)) (h2 : W.heap[q9]? = some (.cells #[.string XP, .bool xd, .string XD] 74 (0, 0))) => show Calls Tryz.prog 101 #[.pointer (some ⟨q6, 0, none⟩), .pointer (some ⟨q9, 0, none⟩)] W fun e w' => e = .returned (.bool B5) ∧ LJ W w' from by
    have h3 := vwrite1_any W q6 q9 a XP XD xd h1 h2
    rw [hXDs, hB5] at h3
    exact h3)
  have HSH := Lib.hid (fun W (h1 : W.cell? ⟨q6, 0, none⟩ = some (.int .i64 a)) (h2 : W.cell? ⟨q7, 0, none⟩ = some (.string S)) => show Calls Tryz.prog 102 #[.pointer (some ⟨q7, 0, none⟩), .pointer (some ⟨q6, 0, none⟩)] W fun e w' => e = .returned (.bool B6) ∧ LJ W w' from by
    have h3 := vwrite2_any W q7 q6 a S h1 h2
    rw [hB6'] at h3
    exact h3)
  have HBEC := Lib.hid (fun W (hW : LJ w W) (m : Nat) (now : List Ent) (hm : EMap W m now) (hge : w.heap.size ≤ m) (hi : VInv now) (hlen : now.length ≤ 800) =>
    vbecomes_any W p b jb vb F J l now (HV.out.later hW) hh hn m hm (fun e => by have := HF.out m e; omega) hi hlen)
  have HWI := Lib.hid (fun W (hW : LJ w2 W) (D : ByteArray) (hX : XP.size ≤ 140737488355328) => vwith_any W vb mb jb l XP false D hX (by have := HVJ.out.count; omega) (HVC.out.later hW).blk (HVC.out.later hW).map)
  have HW1 := Lib.hid hw1
  have HW2 := Lib.hid hw2
  have HX := Lib.hid (And.intro hx (And.intro hXPd (And.intro hXDd (And.intro hXDs hxd))))
  have HSL := Lib.hid hSl
  have HQ6 := Lib.hid hq6
  have HQ7 := Lib.hid (And.intro hq7 hs1)
  obtain ⟨room, hroom⟩ : ∃ r, J.room' = r := ⟨_, rfl⟩
  rw [hroom] at HBEC ⊢
  rw [hpl]
  obtain ⟨sl, hsl⟩ : ∃ x, S.data.toList = x := ⟨_, rfl⟩
  rw [hsl] at HMK ⊢
  have HSD := Lib.hid hsl
  clear h hvc hw1 hw2 hl1 hl2 hat hx hok hXP hXD hXPd hXDd hXDs hval hB2 hB4 hB5 hB6' hroom hSl hsl hs1 hxd
  go_enter Tryz.func38, Tryz.ntmps38
  go_upto_region 1 with fail
  rw [HW1.out, HW2.out]
  go_upto_region 2 with (first
    | (go_at_call 97; (with_reducible refine HAT.out.mono ?_); rintro e w3 ⟨rfl, hl3⟩; have HL3 := Lib.hid hl3; clear hl3)
    | fail)
  obtain ⟨w4, hw4⟩ : ∃ w4, w3.alloc (.cells #[.string XP, .bool xd, .string XD] 74) = w4 := ⟨_, rfl⟩
  obtain ⟨q9, hq9⟩ : ∃ q, w3.heap.size = q := ⟨_, rfl⟩
  have HB9 := Lib.hid (show w4.heap[q9]? = some (.cells #[.string XP, .bool xd, .string XD] 74 (0, 0)) from by rw [← hw4, ← hq9]; exact alloc_blk w3 _)
  have HL4 := Lib.hid (show LJ w2 w4 from by rw [← hw4]; exact HL3.out.alloc _)
  have HQ9 := Lib.hid (show w2.heap.size ≤ q9 from by rw [← hq9]; exact Below.size HL3.out)
  rw [hw4, hq9]
  clear hw4 hq9
  obtain ⟨w5, hw5⟩ : ∃ w5, w4.alloc (.cells #[Value.nilFunc, .int .i64 0] 146) = w5 := ⟨_, rfl⟩
  obtain ⟨q11, hq11⟩ : ∃ q, w4.heap.size = q := ⟨_, rfl⟩
  have HB5 := Lib.hid (show w5.heap[q11]? = some (.cells #[Value.nilFunc, .int .i64 0] 146 (0, 0)) from by rw [← hw5, ← hq11]; exact alloc_blk w4 _)
  obtain ⟨w6, hw6⟩ : ∃ w6, w5.setRow q11 #[.func (.func 101) #[] #[.pointer (some ⟨q6, 0, none⟩), .pointer (some ⟨q9, 0, none⟩)], .int .i64 1] = w6 := ⟨_, rfl⟩
  have HB11a := Lib.hid (show w6.heap[q11]? = some (.cells #[.func (.func 101) #[] #[.pointer (some ⟨q6, 0, none⟩), .pointer (some ⟨q9, 0, none⟩)], .int .i64 1] 146 (0, 0)) from by rw [← hw6]; exact vrow_heap w5 q11 _ _ _ HB5.out)
  have HL6 := Lib.hid (show LJ w4 w6 from by rw [← hw6]; exact lj_onlyV (show LJ w4 w5 from by rw [← hw5]; exact (LJ.refl w4).alloc _) (vrow_only _ _ _) (fun k hk => by rw [show k = q11 from hk]; omega))
  have HW5 := Lib.hid hw5
  have HW6 := Lib.hid hw6
  clear hw6
  go_upto_region 3 with (first
    | (refine wpList_store_row rfl 146 (.tmp 11) (.tmp 21) rfl q11 #[.func (.func 101) #[] #[.pointer (some ⟨q6, 0, none⟩), .pointer (some ⟨q9, 0, none⟩)], .int .i64 1] rfl rfl 146 _ HB5.out info_chk rfl (chk_all _ _ _) ?_; rw [HW6.out])
    | fail)
  clear hq11 hw5
  obtain ⟨w7, hw7⟩ : ∃ w7, w6.alloc (.cells #[Value.nilFunc, .int .i64 0] 146) = w7 := ⟨_, rfl⟩
  obtain ⟨q12, hq12⟩ : ∃ q, w6.heap.size = q := ⟨_, rfl⟩
  have HB7a := Lib.hid (show w7.heap[q12]? = some (.cells #[Value.nilFunc, .int .i64 0] 146 (0, 0)) from by rw [← hw7, ← hq12]; exact alloc_blk w6 _)
  obtain ⟨w8, hw8⟩ : ∃ w8, w7.setRow q12 #[.func (.func 102) #[] #[.pointer (some ⟨q7, 0, none⟩), .pointer (some ⟨q6, 0, none⟩)], .int .i64 176] = w8 := ⟨_, rfl⟩
  have HB12 := Lib.hid (show w8.heap[q12]? = some (.cells #[.func (.func 102) #[] #[.pointer (some ⟨q7, 0, none⟩), .pointer (some ⟨q6, 0, none⟩)], .int .i64 176] 146 (0, 0)) from by rw [← hw8]; exact vrow_heap w7 q12 _ _ _ HB7a.out)
  have HL8a := Lib.hid (show LJ w6 w8 from by rw [← hw8]; exact lj_onlyV (show LJ w6 w7 from by rw [← hw7]; exact (LJ.refl w6).alloc _) (vrow_only _ _ _) (fun k hk => by rw [show k = q12 from hk]; omega))
  have HW7 := Lib.hid hw7
  have HW8 := Lib.hid hw8
  clear hw8
  go_upto_region 4 with (first
    | (refine wpList_store_row rfl 146 (.tmp 12) (.tmp 23) rfl q12 #[.func (.func 102) #[] #[.pointer (some ⟨q7, 0, none⟩), .pointer (some ⟨q6, 0, none⟩)], .int .i64 176] rfl rfl 146 _ HB7a.out info_chk rfl (chk_all _ _ _) ?_; rw [HW8.out])
    | fail)
  clear hq12 hmf hw7
  have HB11 := Lib.hid (HL8a.out.block HB11a.out)
  have HL48 := Lib.hid (HL6.out.trans HL8a.out)
  have HL28 := Lib.hid (HL4.out.trans HL48.out)
  have HB98 := Lib.hid (HL48.out.block HB9.out)
  have HB68 := Lib.hid (HL28.out.block HB62.out)
  have HB78 := Lib.hid (HL28.out.block HB7.out)
  have HK1 := Lib.hid (show ChkOK w8 ⟨101, #[.pointer (some ⟨q6, 0, none⟩), .pointer (some ⟨q9, 0, none⟩)], B5, 1⟩ from ⟨enters_of Tryz.func101 (by kernel_rfl) rfl, fun W hW => HIN.out W q9 (cell_blk (hW.block HB68.out) 0) (hW.block HB98.out)⟩)
  have HK2 := Lib.hid (show ChkOK w8 ⟨102, #[.pointer (some ⟨q7, 0, none⟩), .pointer (some ⟨q6, 0, none⟩)], B6, 176⟩ from ⟨enters_of Tryz.func102 (by kernel_rfl) rfl, fun W hW => HSH.out W (cell_blk (hW.block HB68.out) 0) (cell_blk (hW.block HB78.out) 0)⟩)
  have HLV := Lib.hid (fun W (hW : LJ w8 W) => HLV.out W (HL28.out.trans hW))
  have HMY := Lib.hid (fun W q (hW : LJ w8 W) hb => HMY.out W q (HL28.out.trans hW) hb)
  have HIS := Lib.hid (fun W (hW : LJ w8 W) => HIS.out W (HL28.out.trans hW))
  have HFI := Lib.hid (fun W (hW : LJ w8 W) => HFI.out W (HL28.out.trans hW))
  clear hq7
  simp only [Go.Act.put]
  go_cut [13] from 24 to 39 (fun v13 wx => ∃ cs K1 K2 K3 K4 K5 K6 c1 c2 c3 c4 c5 c6, cs = [⟨K1, c1, true, 2⟩, ⟨K2, c2, B2, 171⟩, ⟨K3, c3, ok, 172⟩, ⟨K4, c4, B4, 174⟩, ⟨K5, c5, B5, 1⟩, ⟨K6, c6, B6, 176⟩] ∧ v13 = .int .i64 (askE cs) ∧ LJ w8 wx)
  case first =>
    refine wp_region_held_drew (S := fun w' => w'.heap[q11]? = some (.cells #[.func (.func 101) #[] #[.pointer (some ⟨q6, 0, none⟩), .pointer (some ⟨q9, 0, none⟩)], .int .i64 1] 146 (0, 0)) ∧ w'.heap[q12]? = some (.cells #[.func (.func 102) #[] #[.pointer (some ⟨q7, 0, none⟩), .pointer (some ⟨q6, 0, none⟩)], .int .i64 176] 146 (0, 0))) (by kernel_rfl) ⟨HB11.out, HB12.out⟩ (fun hHeld => ?_)
    have hL := Lib.hid (LJ.refl w8).drew
    refine tkS 0 hHeld ?_ (hy := by intro w hSw; have l0 := cell_blk hSw.1 0; have l1 := cell_blk hSw.1 1; have m0 := cell_blk hSw.2 0; have m1 := cell_blk hSw.2 1; go_simp; (try with_reducible rfl))
    refine tkS 2 hHeld ?_ (hy := by intro w hSw; have l0 := cell_blk hSw.1 0; have l1 := cell_blk hSw.1 1; have m0 := cell_blk hSw.2 0; have m1 := cell_blk hSw.2 1; go_simp; (try with_reducible rfl))
    refine tkS 3 hHeld ?_ (hy := by intro w hSw; have l0 := cell_blk hSw.1 0; have l1 := cell_blk hSw.1 1; have m0 := cell_blk hSw.2 0; have m1 := cell_blk hSw.2 1; go_simp; (try with_reducible rfl))
    refine tkS 6 hHeld ?_ (hy := by intro w hSw; have l0 := cell_blk hSw.1 0; have l1 := cell_blk hSw.1 1; have m0 := cell_blk hSw.2 0; have m1 := cell_blk hSw.2 1; go_simp; (try with_reducible rfl))
    refine tkS 7 hHeld ?_ (hy := by intro w hSw; have l0 := cell_blk hSw.1 0; have l1 := cell_blk hSw.1 1; have m0 := cell_blk hSw.2 0; have m1 := cell_blk hSw.2 1; go_simp; (try with_reducible rfl))
    refine tkS 9 hHeld ?_ (hy := by intro w hSw; have l0 := cell_blk hSw.1 0; have l1 := cell_blk hSw.1 1; have m0 := cell_blk hSw.2 0; have m1 := cell_blk hSw.2 1; go_simp; (try with_reducible rfl))
    refine tkS 10 hHeld ?_ (hy := by intro w hSw; have l0 := cell_blk hSw.1 0; have l1 := cell_blk hSw.1 1; have m0 := cell_blk hSw.2 0; have m1 := cell_blk hSw.2 1; go_simp; (try with_reducible rfl))
    refine tkS 12 hHeld ?_ (hy := by intro w hSw; have l0 := cell_blk hSw.1 0; have l1 := cell_blk hSw.1 1; have m0 := cell_blk hSw.2 0; have m1 := cell_blk hSw.2 1; go_simp; (try with_reducible rfl))
    refine tkS 13 hHeld ?_ (hy := by intro w hSw; have l0 := cell_blk hSw.1 0; have l1 := cell_blk hSw.1 1; have m0 := cell_blk hSw.2 0; have m1 := cell_blk hSw.2 1; go_simp; (try with_reducible rfl))
    refine wpAnyH_ready (rs := [1, 4]) (by kernel_rfl) (by simp) ?_
    refine AllReadyH.cons rfl (fun K hK => ?_) (AllReadyH.cons rfl (fun K hK => ?_) AllReadyH.nil)
    · go_simp
      (with_reducible refine (HLV.out _ hL.out).mono ?_); rintro e wx ⟨Kl, cl, rfl, hk, hx⟩
      have hL := Lib.hid (hL.out.trans hx)
      have HKl := Lib.hid hk
      have hS2 := And.intro (hx.block hHeld.1) (hx.block hHeld.2)
      clear hx hk
      refine hK.out _ _ hS2 (fun hHeld => ?_)
      clear hK K hS2
      refine wpAnyH_ready (rs := [4]) (by kernel_rfl) (by simp) ?_
      refine AllReadyH.cons rfl (fun K hK => ?_) AllReadyH.nil
      go_simp
      obtain ⟨q, hq⟩ : ∃ q, wx.heap.size = q := ⟨_, rfl⟩
      obtain ⟨wq, hwq⟩ : ∃ wq, (wx.alloc (.cells #[.string P] 9)) = wq := ⟨_, rfl⟩
      have hx : LJ wx wq := by rw [← hwq]; exact ((LJ.refl _).alloc _)
      have HQB := Lib.hid (show wq.heap[q]? = some (.cells #[.string P] 9 (0, 0)) from by rw [← hwq, ← hq]; exact alloc_blk _ _)
      have hL := Lib.hid (hL.out.trans hx)
      have HKl := Lib.hid (HKl.out.later hx)
      have hS2 := And.intro (hx.block hHeld.1) (hx.block hHeld.2)
      rw [hq, hwq]
      clear hq hwq hx
      refine hK.out _ _ hS2 (fun hHeld => ?_)
      clear hK K hS2
      refine wpAnyH_ready (rs := [5]) (by kernel_rfl) (by simp) ?_
      refine AllReadyH.cons rfl (fun K hK => ?_) AllReadyH.nil
      have HMYW := Lib.hid (fun W (hW : LJ _ W) (hb : W.heap[q]? = _) => HMY.out W q hW hb)
      go_simp
      (with_reducible refine (HMYW.out _ hL.out HQB.out).mono ?_); rintro e wx ⟨Km, cm, rfl, hk, hx⟩
      have hL := Lib.hid (hL.out.trans hx)
      have HKl := Lib.hid (HKl.out.later hx)
      have HKm := Lib.hid hk
      have hS2 := And.intro (hx.block hHeld.1) (hx.block hHeld.2)
      clear hx hk HMYW
      refine hK.out _ _ hS2 (fun hHeld => ?_)
      clear hK K hS2
      refine wpAnyH_ready (rs := [8]) (by kernel_rfl) (by simp) ?_
      refine AllReadyH.cons rfl (fun K hK => ?_) AllReadyH.nil
      go_simp
      (with_reducible refine (HIS.out _ hL.out).mono ?_); rintro e wx ⟨Ki, ci, rfl, hk, hx⟩
      have hL := Lib.hid (hL.out.trans hx)
      have HKl := Lib.hid (HKl.out.later hx)
      have HKm := Lib.hid (HKm.out.later hx)
      have HKi := Lib.hid hk
      have hS2 := And.intro (hx.block hHeld.1) (hx.block hHeld.2)
      clear hx hk
      refine hK.out _ _ hS2 (fun hHeld => ?_)
      clear hK K hS2
      refine wpAnyH_ready (rs := [11]) (by kernel_rfl) (by simp) ?_
      refine AllReadyH.cons rfl (fun K hK => ?_) AllReadyH.nil
      go_simp
      (with_reducible refine (HFI.out _ hL.out).mono ?_); rintro e wx ⟨Kf, cf, rfl, hk, hx⟩
      have hL := Lib.hid (hL.out.trans hx)
      have HKl := Lib.hid (HKl.out.later hx)
      have HKm := Lib.hid (HKm.out.later hx)
      have HKi := Lib.hid (HKi.out.later hx)
      have HKf := Lib.hid hk
      have hS2 := And.intro (hx.block hHeld.1) (hx.block hHeld.2)
      clear hx hk
      refine hK.out _ _ hS2 (fun hHeld => ?_)
      clear hK K hS2
      refine wpAnyH_ready (rs := [14]) (by kernel_rfl) (by simp) ?_
      refine AllReadyH.cons rfl (fun K hK => ?_) AllReadyH.nil
      go_simp
      obtain ⟨r, hr⟩ : ∃ r, wx.heap.size = r := ⟨_, rfl⟩
      obtain ⟨wr, hwr⟩ : ∃ wr, wx.alloc (.cells #[.func (.func Kl) #[] cl, .int .i64 2, .func (.func Km) #[] cm, .int .i64 171, .func (.func Ki) #[] ci, .int .i64 172, .func (.func Kf) #[] cf, .int .i64 174, .func (.func 101) #[] #[.pointer (some ⟨q6, 0, none⟩), .pointer (some ⟨q9, 0, none⟩)], .int .i64 1, .func (.func 102) #[] #[.pointer (some ⟨q7, 0, none⟩), .pointer (some ⟨q6, 0, none⟩)], .int .i64 176] 146) = wr := ⟨_, rfl⟩
      have hx : LJ wx wr := by rw [← hwr]; exact (LJ.refl _).alloc _
      have HRB := Lib.hid (show wr.heap[r]? = some (.cells (chkRow [⟨Kl, cl, true, 2⟩, ⟨Km, cm, B2, 171⟩, ⟨Ki, ci, ok, 172⟩, ⟨Kf, cf, B4, 174⟩, ⟨101, #[.pointer (some ⟨q6, 0, none⟩), .pointer (some ⟨q9, 0, none⟩)], B5, 1⟩, ⟨102, #[.pointer (some ⟨q7, 0, none⟩), .pointer (some ⟨q6, 0, none⟩)], B6, 176⟩]).toArray 146 (0, 0)) from by rw [← hwr, ← hr]; exact alloc_blk _ _)
      have hL := Lib.hid (hL.out.trans hx)
      have HKl := Lib.hid (HKl.out.later hx)
      have HKm := Lib.hid (HKm.out.later hx)
      have HKi := Lib.hid (HKi.out.later hx)
      have HKf := Lib.hid (HKf.out.later hx)
      have hS2 := And.intro (hx.block hHeld.1) (hx.block hHeld.2)
      rw [hr, hwr]
      clear hr hwr hx
      refine hK.out _ _ hS2 (fun hHeld => ?_)
      clear hK K hS2
      have HASK := Lib.hid (asked_any wr [⟨Kl, cl, true, 2⟩, ⟨Km, cm, B2, 171⟩, ⟨Ki, ci, ok, 172⟩, ⟨Kf, cf, B4, 174⟩, ⟨101, #[.pointer (some ⟨q6, 0, none⟩), .pointer (some ⟨q9, 0, none⟩)], B5, 1⟩, ⟨102, #[.pointer (some ⟨q7, 0, none⟩), .pointer (some ⟨q6, 0, none⟩)], B6, 176⟩] r 6 6 rfl (by omega) (fun j c hj => chk_at HRB.out j c hj) (by intro c hc; simp only [List.mem_cons, List.not_mem_nil, or_false] at hc; rcases hc with rfl | rfl | rfl | rfl | rfl | rfl; exact HKl.out; exact HKm.out; exact HKi.out; exact HKf.out; exact HK1.out.later hL.out; exact HK2.out.later hL.out))
      refine wpAnyH_ready (rs := [15]) (by kernel_rfl) (by simp) ?_
      refine AllReadyH.cons rfl (fun K hK => ?_) AllReadyH.nil
      go_simp
      (with_reducible refine HASK.out.mono ?_); rintro e wz ⟨rfl, hx⟩
      have hL := Lib.hid (hL.out.trans hx)
      have hS2 := And.intro (hx.block hHeld.1) (hx.block hHeld.2)
      clear hx
      refine hK.out _ _ hS2 (fun hHeld => ?_)
      clear hK K hS2
      refine tkS 16 hHeld ?_
      refine wpAnyH_done (by kernel_rfl) ?_ _
      go_wp2_with fail
      go_meet
      case rel => exact ⟨_, Kl, Km, Ki, Kf, _, _, cl, cm, ci, cf, _, _, rfl, rfl, hL.out⟩
    · go_simp
      obtain ⟨q, hq⟩ : ∃ q, w8.heap.size = q := ⟨_, rfl⟩
      obtain ⟨wq, hwq⟩ : ∃ wq, (w8.alloc (.cells #[.string P] 9)).drew = wq := ⟨_, rfl⟩
      have hx : LJ w8 wq := by rw [← hwq]; exact ((LJ.refl _).alloc _).drew
      have HQB := Lib.hid (show wq.heap[q]? = some (.cells #[.string P] 9 (0, 0)) from by rw [← hwq, ← hq]; exact alloc_blk _ _)
      have hL := Lib.hid (hx)
      have hS2 := And.intro (hx.block hHeld.1) (hx.block hHeld.2)
      rw [hq, hwq]
      clear hq hwq hx
      refine hK.out _ _ hS2 (fun hHeld => ?_)
      clear hK K hS2
      refine wpAnyH_ready (rs := [1]) (by kernel_rfl) (by simp) ?_
      refine AllReadyH.cons rfl (fun K hK => ?_) AllReadyH.nil
      go_simp
      (with_reducible refine (HLV.out _ hL.out).mono ?_); rintro e wx ⟨Kl, cl, rfl, hk, hx⟩
      have hL := Lib.hid (hL.out.trans hx)
      have HQB := Lib.hid (hx.block HQB.out)
      have HKl := Lib.hid hk
      have hS2 := And.intro (hx.block hHeld.1) (hx.block hHeld.2)
      clear hx hk
      refine hK.out _ _ hS2 (fun hHeld => ?_)
      clear hK K hS2
      refine wpAnyH_ready (rs := [5]) (by kernel_rfl) (by simp) ?_
      refine AllReadyH.cons rfl (fun K hK => ?_) AllReadyH.nil
      have HMYW := Lib.hid (fun W (hW : LJ _ W) (hb : W.heap[q]? = _) => HMY.out W q hW hb)
      go_simp
      (with_reducible refine (HMYW.out _ hL.out HQB.out).mono ?_); rintro e wx ⟨Km, cm, rfl, hk, hx⟩
      have hL := Lib.hid (hL.out.trans hx)
      have HKl := Lib.hid (HKl.out.later hx)
      have HKm := Lib.hid hk
      have hS2 := And.intro (hx.block hHeld.1) (hx.block hHeld.2)
      clear hx hk HMYW
      refine hK.out _ _ hS2 (fun hHeld => ?_)
      clear hK K hS2
      refine wpAnyH_ready (rs := [8]) (by kernel_rfl) (by simp) ?_
      refine AllReadyH.cons rfl (fun K hK => ?_) AllReadyH.nil
      go_simp
      (with_reducible refine (HIS.out _ hL.out).mono ?_); rintro e wx ⟨Ki, ci, rfl, hk, hx⟩
      have hL := Lib.hid (hL.out.trans hx)
      have HKl := Lib.hid (HKl.out.later hx)
      have HKm := Lib.hid (HKm.out.later hx)
      have HKi := Lib.hid hk
      have hS2 := And.intro (hx.block hHeld.1) (hx.block hHeld.2)
      clear hx hk
      refine hK.out _ _ hS2 (fun hHeld => ?_)
      clear hK K hS2
      refine wpAnyH_ready (rs := [11]) (by kernel_rfl) (by simp) ?_
      refine AllReadyH.cons rfl (fun K hK => ?_) AllReadyH.nil
      go_simp
      (with_reducible refine (HFI.out _ hL.out).mono ?_); rintro e wx ⟨Kf, cf, rfl, hk, hx⟩
      have hL := Lib.hid (hL.out.trans hx)
      have HKl := Lib.hid (HKl.out.later hx)
      have HKm := Lib.hid (HKm.out.later hx)
      have HKi := Lib.hid (HKi.out.later hx)
      have HKf := Lib.hid hk
      have hS2 := And.intro (hx.block hHeld.1) (hx.block hHeld.2)
      clear hx hk
      refine hK.out _ _ hS2 (fun hHeld => ?_)
      clear hK K hS2
      refine wpAnyH_ready (rs := [14]) (by kernel_rfl) (by simp) ?_
      refine AllReadyH.cons rfl (fun K hK => ?_) AllReadyH.nil
      go_simp
      obtain ⟨r, hr⟩ : ∃ r, wx.heap.size = r := ⟨_, rfl⟩
      obtain ⟨wr, hwr⟩ : ∃ wr, wx.alloc (.cells #[.func (.func Kl) #[] cl, .int .i64 2, .func (.func Km) #[] cm, .int .i64 171, .func (.func Ki) #[] ci, .int .i64 172, .func (.func Kf) #[] cf, .int .i64 174, .func (.func 101) #[] #[.pointer (some ⟨q6, 0, none⟩), .pointer (some ⟨q9, 0, none⟩)], .int .i64 1, .func (.func 102) #[] #[.pointer (some ⟨q7, 0, none⟩), .pointer (some ⟨q6, 0, none⟩)], .int .i64 176] 146) = wr := ⟨_, rfl⟩
      have hx : LJ wx wr := by rw [← hwr]; exact (LJ.refl _).alloc _
      have HRB := Lib.hid (show wr.heap[r]? = some (.cells (chkRow [⟨Kl, cl, true, 2⟩, ⟨Km, cm, B2, 171⟩, ⟨Ki, ci, ok, 172⟩, ⟨Kf, cf, B4, 174⟩, ⟨101, #[.pointer (some ⟨q6, 0, none⟩), .pointer (some ⟨q9, 0, none⟩)], B5, 1⟩, ⟨102, #[.pointer (some ⟨q7, 0, none⟩), .pointer (some ⟨q6, 0, none⟩)], B6, 176⟩]).toArray 146 (0, 0)) from by rw [← hwr, ← hr]; exact alloc_blk _ _)
      have hL := Lib.hid (hL.out.trans hx)
      have HKl := Lib.hid (HKl.out.later hx)
      have HKm := Lib.hid (HKm.out.later hx)
      have HKi := Lib.hid (HKi.out.later hx)
      have HKf := Lib.hid (HKf.out.later hx)
      have hS2 := And.intro (hx.block hHeld.1) (hx.block hHeld.2)
      rw [hr, hwr]
      clear hr hwr hx
      refine hK.out _ _ hS2 (fun hHeld => ?_)
      clear hK K hS2
      have HASK := Lib.hid (asked_any wr [⟨Kl, cl, true, 2⟩, ⟨Km, cm, B2, 171⟩, ⟨Ki, ci, ok, 172⟩, ⟨Kf, cf, B4, 174⟩, ⟨101, #[.pointer (some ⟨q6, 0, none⟩), .pointer (some ⟨q9, 0, none⟩)], B5, 1⟩, ⟨102, #[.pointer (some ⟨q7, 0, none⟩), .pointer (some ⟨q6, 0, none⟩)], B6, 176⟩] r 6 6 rfl (by omega) (fun j c hj => chk_at HRB.out j c hj) (by intro c hc; simp only [List.mem_cons, List.not_mem_nil, or_false] at hc; rcases hc with rfl | rfl | rfl | rfl | rfl | rfl; exact HKl.out; exact HKm.out; exact HKi.out; exact HKf.out; exact HK1.out.later hL.out; exact HK2.out.later hL.out))
      refine wpAnyH_ready (rs := [15]) (by kernel_rfl) (by simp) ?_
      refine AllReadyH.cons rfl (fun K hK => ?_) AllReadyH.nil
      go_simp
      (with_reducible refine HASK.out.mono ?_); rintro e wz ⟨rfl, hx⟩
      have hL := Lib.hid (hL.out.trans hx)
      have hS2 := And.intro (hx.block hHeld.1) (hx.block hHeld.2)
      clear hx
      refine hK.out _ _ hS2 (fun hHeld => ?_)
      clear hK K hS2
      refine tkS 16 hHeld ?_
      refine wpAnyH_done (by kernel_rfl) ?_ _
      go_wp2_with fail
      go_meet
      case rel => exact ⟨_, Kl, Km, Ki, Kf, _, _, cl, cm, ci, cf, _, _, rfl, rfl, hL.out⟩
  case rest =>
    obtain ⟨cs, K1, K2, K3, K4, K5, K6, c1, c2, c3, c4, c5, c6, hcs, rfl, hlc⟩ := hcut
    have HLC := Lib.hid hlc
    have HWX := Lib.hid (HL2.out.trans (HL28.out.trans hlc))
    have hmk := HMK.out cs K1 K2 K3 K4 K5 K6 c1 c2 c3 c4 c5 c6 hcs
    obtain ⟨E, hE⟩ : ∃ E, askE cs = E := ⟨_, rfl⟩
    rw [hE] at hmk ⊢
    clear hcs hE hlc
    rcases hmk with ⟨hne, hm⟩ | ⟨h0, y, k, hy1, hy2, hy3, hy4, hy5, hy6, hy7, hy8, hm, hvi⟩
    · have HM := Lib.hid (hm room)
      have hneb : (E != 0) = true := by simpa using hne
      have HNE := Lib.hid hne
      clear hm
      go_wp2_with fail
      go_ret
      rw [HM.out]
      have hja : J.ans l (E, l) = J := if_neg HNE.out
      rw [hja]
      exact ⟨rfl, VOut.same HV.out HWX.out⟩
    · subst h0
      have HM := Lib.hid (hm room)
      have HVI := Lib.hid hvi
      obtain ⟨x1, x2, x3, x4, x5⟩ := HX.out
      rw [hy1] at x1
      have hyx : y = x := x1
      subst hyx
      rw [hy4] at x5
      have hxd : xd = false := x5.symm
      subst hxd
      have hsl : sl.length = S.size := by rw [← HSD.out]; exact HSL.out
      subst hy5
      obtain ⟨m, hmn⟩ : ∃ m, m = min XD.size (k + S.size) := ⟨_, rfl⟩
      have hkD : k ≤ XD.size := by omega
      have hmD : m ≤ XD.size := by omega
      have hw57 : IntKind.i64.wrap ((k : Int) + (S.size : Int)) = (k : Int) + (S.size : Int) := by rw [IntKind.wrap_i64]; omega
      have hmq : ∀ W ts t, (Builtin.min_ ts t #[.int .i64 (XD.size : Int), .int .i64 ((k : Int) + (S.size : Int))]).run Tryz.prog W = .ok (.int .i64 (m : Int)) W := fun W ts t => by
        have e : (if (k : Int) + (S.size : Int) < (XD.size : Int) then (k : Int) + (S.size : Int) else (XD.size : Int)) = (m : Int) := by split <;> omega
        rw [run_min2V, e]
      have hk0 : (0 : Int) ≤ (k : Int) := by omega
      have hk1 : (k : Int) ≤ (XD.size : Int) := by omega
      have hm0 : (0 : Int) ≤ (m : Int) := by omega
      have hm1 : (m : Int) ≤ (XD.size : Int) := by omega
      have hkt : (k : Int).toNat = k := by omega
      have hmt : (m : Int).toNat = m := by omega
      obtain ⟨E0, hE0⟩ : ∃ E0, XD.extract 0 k = E0 := ⟨_, rfl⟩
      obtain ⟨E1, hE1⟩ : ∃ E1, XD.extract m XD.size = E1 := ⟨_, rfl⟩
      have hs1 : E0.size = k := by rw [← hE0, ByteArray.size_extract]; omega
      have hs2 : E1.size = XD.size - m := by rw [← hE1, ByteArray.size_extract]; omega
      obtain ⟨C1, hC1⟩ : ∃ N, E0 ++ S = N := ⟨_, rfl⟩
      have hs3 : C1.size = k + S.size := by rw [← hC1, ByteArray.size_append, hs1]
      have g1 : ¬ 9223372036854775807 < E0.size + S.size := by omega
      have g2 : ¬ 9223372036854775807 < C1.size + E1.size := by omega
      obtain ⟨NS, hNS⟩ : ∃ N, C1 ++ E1 = N := ⟨_, rfl⟩
      have HPN := Lib.hid (show entOf XP false NS = wrNow y pl k sl from by
        unfold entOf wrNow
        rw [x2, hy3, ← hNS, ← hC1, ← hE0, ← hE1, app_data, app_data, ex_list, ex_list, x3, HSD.out, ← x4, hsl, ← hmn]
        congr 1
        rw [List.drop_zero, Nat.sub_zero, List.append_assoc]
        congr 2
        exact List.take_of_length_le (by rw [List.length_drop]; omega))
      have hXPs : XP.size ≤ 140737488355328 := by
        have h1 : XP.data.toList.length = XP.size := by rw [Array.length_toList]; rfl
        rw [x2] at h1
        have := (HVJ.out.inv.two y hy2).2
        omega
      have HBC9 := Lib.hid (HLC.out.block HB98.out)
      have z0 := cell_blk HBC9.out 0
      have z1 := cell_blk HBC9.out 1
      have z2 : wc.cell? ⟨q9, 2, none⟩ = some (.string XD) := cell_blk HBC9.out 2
      have y6 : wc.cell? ⟨q6, 0, none⟩ = some (.int .i64 (k : Int)) := cell_blk (HLC.out.block HB68.out) 0
      have y7 : wc.cell? ⟨q7, 0, none⟩ = some (.string S) := cell_blk (HLC.out.block HB78.out) 0
      have f2 := free_blk HBC9.out 2
      clear hm hvi hy1 hy3 hy4 hy6 hy7 hy8 x1 x2 x3 x4 x5 hsl hmn hs1 hs2 hs3 hkD hmD
      go_upto_region 7 with fail
      go_still_tail 19, (by kernel_rfl)
      change wpList _ _ _ _ _ wc.drew
      obtain ⟨wd, hwd⟩ : ∃ wd, wc.drew = wd := ⟨_, rfl⟩
      rw [hwd]
      have z2 : wd.cell? ⟨q9, 2, none⟩ = some (.string XD) := by rw [← hwd]; exact z2
      have f2 : wd.frozen? ⟨q9, 2, none⟩ = false := by rw [← hwd]; exact f2
      obtain ⟨we, hwe⟩ : ∃ we, wd.setCell ⟨q9, 2, none⟩ (.string NS) = we := ⟨_, rfl⟩
      have HBE := Lib.hid (show we.heap[q9]? = some (.cells #[.string XP, .bool false, .string NS] 74 (0, 0)) from by rw [← hwe, ← hwd]; exact heap_setCell_same _ _ 2 _ _ (.string NS) HBC9.out)
      have HL2E := Lib.hid (show LJ w2 we from by
        rw [← hwe, ← hwd]
        exact lj_onlyV ((HL28.out.trans HLC.out).drew) (setCell_only _ _ _ _) (fun k hk => by rw [show k = q9 from hk]; exact HQ9.out))
      have HWI2 := Lib.hid (HWI.out we HL2E.out NS hXPs)
      go_upto_region 8 with fail
      clear hwe hwd z0 z1 z2 y6 y7 f2 hmq
      have l0 := cell_blk HBE.out 0
      have l1 := cell_blk HBE.out 1
      have l2 := cell_blk HBE.out 2
      rw [HPN.out] at HWI2
      go_wp2_with (first
        | (go_at_call 103; (with_reducible refine HWI2.out.mono ?_); rintro e w7 ⟨m7, rfl, hm7, hge7, hl7⟩; have HM7 := Lib.hid hm7; have HGE := Lib.hid (show w.heap.size ≤ m7 from Nat.le_trans (Below.size (HL2.out.trans HL2E.out)) hge7); have HL7 := Lib.hid ((HL2.out.trans HL2E.out).trans hl7); have HBX := Lib.hid (HBEC.out w7 HL7.out m7 _ HM7.out HGE.out HVI.out (by have h1 := put_len_le HVJ.out.inv.rise (wrNow y pl k sl); have h2 := HVJ.out.count; omega)); clear hm7 hge7 hl7)
        | (go_at_call 99; (with_reducible refine HBX.out.mono ?_); rintro e w9 ⟨rfl, hv9, ho9⟩; have HV9 := Lib.hid hv9; have HO9 := Lib.hid ho9; clear hv9 ho9)
        | fail)
      go_ret
      rw [HM.out]
      exact ⟨rfl, VOut.bec HF.out HL7.out HGE.out HM7.out.lt HV9.out HO9.out⟩
end Go.Proofs.YtfpbocjmlhcgiaaGreatDoor
/- The volume's Rename. -/
namespace Go.Proofs.YtfpbocjmlhcgiaaGreatDoor
open Go.RowKit PJ Go.Maps Go.WideMaps Go.Shelf

theorem ans_inv {l now : List Ent} {f : Nat → Ans} (h : ∀ room, AnsOK room l (f room)) (hf : ∀ room, f room = becE room l now) : VInv now := by
  have h1 := h (imageE now).length
  rw [hf] at h1
  unfold becE at h1
  rw [if_neg (by omega)] at h1
  rcases h1 with ⟨e, -⟩ | ⟨-, e, -⟩
  · exact absurd rfl e
  · exact e
theorem rn_ask (l : List Ent) (hi : VInv l) (p q : List UInt8) (cs : List Chk) (K1 K2 K3 K4 K5 K6 K7 : FuncId) (c1 c2 c3 c4 c5 c6 c7 : Array Value) (hcs : cs = [⟨K1, c1, true, 2⟩, ⟨K2, c2, pathB p && pathB q, 171⟩, ⟨K3, c3, (atE l p).isSome, 172⟩, ⟨K4, c4, !((atE l p).getD zeroE).d, 174⟩, ⟨K5, c5, !(atE l q).isSome, 173⟩, ⟨K6, c6, (atE l (upP (q ++ [0]))).isSome, 172⟩, ⟨K7, c7, ((atE l (upP (q ++ [0]))).getD zeroE).d, 174⟩]) :
    (askE cs ≠ 0 ∧ ∀ room, rnE room l p q = (askE cs, l)) ∨ (askE cs = 0 ∧ ∃ x : Ent, atE l p = some x ∧ x ∈ l ∧ x.p = p ∧ x.d = false ∧ (∀ room, rnE room l p q = becE room l (putE (delE l p) ⟨q, x.d, x.s⟩)) ∧ VInv (putE (delE l p) ⟨q, x.d, x.s⟩)) := by
  have hok := fun room => rnE_ok (room := room) hi p q
  subst hcs
  unfold askE
  unfold rnE at hok ⊢
  simp only [if_true]
  unfold askE
  cases hp : (pathB p && pathB q) with
  | false => left; simp
  | true =>
    simp only [hp] at hok
    simp only [if_true]
    unfold askE
    cases hn : atE l p with
    | none => left; simp
    | some x =>
      simp only [hn] at hok
      simp only [Option.isSome_some, if_true, Option.getD_some]
      unfold askE
      cases hd : x.d with
      | true => left; simp
      | false =>
        simp only [hd] at hok
        simp only [Bool.not_false, if_true]
        unfold askE
        cases hq : atE l q with
        | some y => left; simp
        | none =>
          simp only [hq] at hok
          simp only [Option.isSome_none, Bool.not_false, if_true]
          unfold askE
          cases hu : atE l (upP (q ++ [0])) with
          | none => left; simp
          | some u =>
            simp only [hu] at hok
            simp only [Option.isSome_some, if_true, Option.getD_some]
            unfold askE
            cases hud : u.d with
            | false => left; simp
            | true =>
              simp only [hud] at hok
              right
              rcases atE_some hn with ⟨-, e⟩ | ⟨hr, hm, e⟩
              · rw [e] at hd; cases hd
              · refine ⟨by simp [askE], x, rfl, hm, e, hd, fun room => by simp [hd], ?_⟩
                refine ans_inv (fun room => hok room) (fun room => by simp [hd])
set_option maxRecDepth 100000 in
set_option maxHeartbeats 8000000 in
theorem vrename_any (w : World) (p b jb vb : Nat) (F : Nat → Prop) (J : Jn) (l : List Ent) (h : VAt w p b jb vb F J l) (hh : J.head < 4611686018427387904) (hn : J.next < 4611686018427387904) (P Q : ByteArray) (hP : P.size < 4294967280) (hQ : Q.size < 4294967280) :
    Calls Tryz.prog 34 #[.pointer (some ⟨vb, 0, none⟩), .string P, .string Q] w fun e w' => e = .returned (.int .i64 (rnE J.room' l P.data.toList Q.data.toList).1) ∧ VOut w p b jb vb F (J.ans l (rnE J.room' l P.data.toList Q.data.toList)) (rnE J.room' l P.data.toList Q.data.toList).2 w' := by
  obtain ⟨mb, hvc⟩ := h.vc
  have HV := Lib.hid h
  have HVJ := Lib.hid h.vj
  have HF := Lib.hid h.lt
  have HVC := Lib.hid hvc
  obtain ⟨pl, hpl⟩ : ∃ x, P.data.toList = x := ⟨_, rfl⟩
  obtain ⟨ql, hql⟩ : ∃ x, Q.data.toList = x := ⟨_, rfl⟩
  obtain ⟨UP, hUP⟩ : ∃ B : ByteArray, (⟨(upP (ql ++ [0])).toArray⟩ : ByteArray) = B := ⟨_, rfl⟩
  obtain ⟨up, hup⟩ : ∃ u, upP (ql ++ [0]) = u := ⟨_, rfl⟩
  have hUd : UP.data.toList = up := by rw [← hUP, hup]
  have hQl : ql.length = Q.size := by rw [← hql, Array.length_toList]; rfl
  have hUs : UP.size ≤ 140737488355328 := by
    have h1 : UP.size = (upP (ql ++ [0])).length := by rw [← hUP]; show (upP _).toArray.size = _; rw [List.size_toArray]
    rw [h1]
    unfold upP
    rw [List.length_take, List.length_append]
    simp only [List.length_cons, List.length_nil]
    omega
  have hz1 : (⟨#[0]⟩ : ByteArray).size = 1 := rfl
  have HPA := Lib.hid (fun W => show Calls Tryz.prog 89 #[.string (Q ++ ⟨#[0]⟩)] W fun e w' => e = .returned (.string UP) ∧ w' = W from by
    have h1 := vparent_any W (Q ++ ⟨#[0]⟩) (by rw [ByteArray.size_append]; omega) (by rw [ByteArray.size_append]; omega)
    rw [app_data, show (⟨#[0]⟩ : ByteArray).data.toList = [0] from rfl, hql, hUP] at h1
    exact h1)
  have HLV := Lib.hid (fun W (hW : LJ w W) => vlives_any W vb jb mb l (HVC.out.later hW))
  have HMY := Lib.hid (fun W (q : Nat) (hW : LJ w W) (hb : W.heap[q]? = some (.cells #[.string P, .string Q] 9 (0, 0))) => show Calls Tryz.prog 92 #[.pointer (some ⟨vb, 0, none⟩), .slice (some ⟨q, 0, none⟩) 2 2] W (MadeC W (pathB pl && pathB ql) 171) from by
    have h1 := vmay_any W vb q 2 2 [P, Q] rfl (by simp) (by intro x hx; simp only [List.mem_cons, List.not_mem_nil, or_false] at hx; rcases hx with rfl | rfl <;> omega) (fun j x hj => by
      match j, hj with
      | 0, hj =>
        obtain rfl : P = x := by simpa using hj
        exact cell_blk hb 0
      | 1, hj =>
        obtain rfl : Q = x := by simpa using hj
        exact cell_blk hb 1)
    rw [show ([P, Q].all fun x => pathB x.data.toList) = (pathB pl && pathB ql) from by simp [hpl, hql]] at h1
    exact h1)
  have HIS := Lib.hid (fun W (hW : LJ w W) => vis_any W vb jb mb l P pl hpl (by omega) (HVC.out.later hW))
  have HFI := Lib.hid (fun W (hW : LJ w W) => vfile_any W vb jb mb l P pl hpl (by omega) (HVC.out.later hW))
  have HNO := Lib.hid (fun W (hW : LJ w W) => vnone_any W vb jb mb l Q ql hql (by omega) (HVC.out.later hW))
  have HIU := Lib.hid (fun W (hW : LJ w W) => vis_any W vb jb mb l UP up hUd hUs (HVC.out.later hW))
  have HDI := Lib.hid (fun W (hW : LJ w W) => vdir_any W vb jb mb l UP up hUd hUs (HVC.out.later hW))
  have HMK := Lib.hid (fun cs K1 K2 K3 K4 K5 K6 K7 c1 c2 c3 c4 c5 c6 c7 hcs => rn_ask l HVJ.out.inv pl ql cs K1 K2 K3 K4 K5 K6 K7 c1 c2 c3 c4 c5 c6 c7 hcs)
  rw [hup] at HMK
  obtain ⟨x, hx⟩ : ∃ x, (atE l pl).getD zeroE = x := ⟨_, rfl⟩
  obtain ⟨ok, hok⟩ : ∃ b, (atE l pl).isSome = b := ⟨_, rfl⟩
  obtain ⟨XP, hXP⟩ : ∃ P : ByteArray, (⟨x.p.toArray⟩ : ByteArray) = P := ⟨_, rfl⟩
  obtain ⟨XD, hXD⟩ : ∃ D : ByteArray, (⟨x.s.toArray⟩ : ByteArray) = D := ⟨_, rfl⟩
  have hXDd : XD.data.toList = x.s := by rw [← hXD]
  have hval : x.val = .agg #[.string XP, .bool x.d, .string XD] := by rw [← hXP, ← hXD]; rfl
  obtain ⟨xd, hxd⟩ : ∃ b, x.d = b := ⟨_, rfl⟩
  rw [hxd] at hval
  have HAT := Lib.hid (fun W (hW : LJ w W) => show Calls Tryz.prog 97 #[.pointer (some ⟨vb, 0, none⟩), .string P] W fun e w' => e = .returned (.tuple #[.agg #[.string XP, .bool xd, .string XD], .bool ok]) ∧ LJ W w' from by
    have hat := vat_any W vb mb jb l P pl hpl (by omega) (HVC.out.later hW).blk (HVC.out.later hW).map
    rw [hx, hok, hval] at hat
    exact hat)
  obtain ⟨B2, hB2⟩ : ∃ b, (pathB pl && pathB ql) = b := ⟨_, rfl⟩
  obtain ⟨B4, hB4⟩ : ∃ b, (!x.d) = b := ⟨_, rfl⟩
  obtain ⟨B5, hB5⟩ : ∃ b, (!(atE l ql).isSome) = b := ⟨_, rfl⟩
  obtain ⟨B6, hB6⟩ : ∃ b, (atE l up).isSome = b := ⟨_, rfl⟩
  obtain ⟨B7, hB7⟩ : ∃ b, ((atE l up).getD zeroE).d = b := ⟨_, rfl⟩
  rw [hx, hok, hB2, hB4, hB5, hB6, hB7] at HMK
  rw [hB2] at HMY
  rw [hok] at HIS
  rw [hx, hB4] at HFI
  rw [hB5] at HNO
  rw [hB6] at HIU
  rw [hB7] at HDI
  have HWO := Lib.hid (fun W (hW : LJ w W) => vwithout_any W vb mb jb l P (by omega) (HVC.out.later hW).blk (HVC.out.later hW).map)
  rw [hpl] at HWO
  have HBEC := Lib.hid (fun W (hW : LJ w W) (m : Nat) (now : List Ent) (hm : EMap W m now) (hge : w.heap.size ≤ m) (hi : VInv now) (hlen : now.length ≤ 800) =>
    vbecomes_any W p b jb vb F J l now (HV.out.later hW) hh hn m hm (fun e => by have := HF.out m e; omega) hi hlen)
  have hcat : ¬ 9223372036854775807 < Q.size + (⟨#[0]⟩ : ByteArray).size := by omega
  have HX := Lib.hid (And.intro hx (And.intro hXDd hxd))
  have HQL := Lib.hid hql
  obtain ⟨room, hroom⟩ : ∃ r, J.room' = r := ⟨_, rfl⟩
  rw [hroom] at HBEC ⊢
  rw [hpl, hql]
  clear h hvc hUP hup hUd hUs hroom hB2 hB4 hB5 hB6 hB7 hx hok hXP hXD hXDd hval hxd hpl hql
  go_enter Tryz.func34, Tryz.ntmps34
  go_upto_region 2 with (first
    | (go_at_call 89; (with_reducible refine (HPA.out _).mono ?_); rintro e w6 ⟨rfl, hw6⟩; have hw6 := hw6.symm; subst hw6)
    | fail)
  go_upto_region 3 with (first
    | (go_at_call 91; (with_reducible refine (HLV.out _ (LJ.refl _)).mono ?_); rintro e w1 ⟨Kl, cl, rfl, hk, hx⟩; have HL1 := Lib.hid hx; have HKl := Lib.hid (hk.later ((LJ.refl w1).alloc (.cells #[.string P, .string Q] 9))); have HL1a := Lib.hid (hx.alloc (.cells #[.string P, .string Q] 9)); clear hk hx)
    | (go_at_call 92; (with_reducible refine (HMY.out _ _ HL1a.out (alloc_blk _ _)).mono ?_); rintro e w2 ⟨Km, cm, rfl, hk, hx⟩; have HL2 := Lib.hid (HL1a.out.trans hx); have HKl := Lib.hid (HKl.out.later hx); have HKm := Lib.hid hk; clear hk hx)
    | (go_at_call 93; (with_reducible refine (HIS.out _ HL2.out).mono ?_); rintro e w3 ⟨Ki, ci, rfl, hk, hx⟩; have HL3 := Lib.hid (HL2.out.trans hx); have HKl := Lib.hid (HKl.out.later hx); have HKm := Lib.hid (HKm.out.later hx); have HKi := Lib.hid hk; clear hk hx)
    | (go_at_call 94; (with_reducible refine (HFI.out _ HL3.out).mono ?_); rintro e w4 ⟨Kf, cf, rfl, hk, hx⟩; have HL4 := Lib.hid (HL3.out.trans hx); have HKl := Lib.hid (HKl.out.later hx); have HKm := Lib.hid (HKm.out.later hx); have HKi := Lib.hid (HKi.out.later hx); have HKf := Lib.hid hk; clear hk hx)
    | (go_at_call 95; (with_reducible refine (HNO.out _ HL4.out).mono ?_); rintro e w5 ⟨Kn, cn, rfl, hk, hx⟩; have HL5 := Lib.hid (HL4.out.trans hx); have HKl := Lib.hid (HKl.out.later hx); have HKm := Lib.hid (HKm.out.later hx); have HKi := Lib.hid (HKi.out.later hx); have HKf := Lib.hid (HKf.out.later hx); have HKn := Lib.hid hk; clear hk hx)
    | (go_at_call 93; (with_reducible refine (HIU.out _ HL5.out).mono ?_); rintro e w6 ⟨Ku, cu, rfl, hk, hx⟩; have HL6 := Lib.hid (HL5.out.trans hx); have HKl := Lib.hid (HKl.out.later hx); have HKm := Lib.hid (HKm.out.later hx); have HKi := Lib.hid (HKi.out.later hx); have HKf := Lib.hid (HKf.out.later hx); have HKn := Lib.hid (HKn.out.later hx); have HKu := Lib.hid hk; clear hk hx)
    | (go_at_call 96; (with_reducible refine (HDI.out _ HL6.out).mono ?_); rintro e w7 ⟨Kd, cd, rfl, hk, hx⟩
       have HL7 := Lib.hid (HL6.out.trans hx)
       have hla : LJ w7 (w7.alloc (.cells #[.func (.func Kl) #[] cl, .int .i64 2, .func (.func Km) #[] cm, .int .i64 171, .func (.func Ki) #[] ci, .int .i64 172, .func (.func Kf) #[] cf, .int .i64 174, .func (.func Kn) #[] cn, .int .i64 173, .func (.func Ku) #[] cu, .int .i64 172, .func (.func Kd) #[] cd, .int .i64 174] 146)) := (LJ.refl w7).alloc _
       have HASK := Lib.hid (asked_any _ [⟨Kl, cl, true, 2⟩, ⟨Km, cm, B2, 171⟩, ⟨Ki, ci, ok, 172⟩, ⟨Kf, cf, B4, 174⟩, ⟨Kn, cn, B5, 173⟩, ⟨Ku, cu, B6, 172⟩, ⟨Kd, cd, B7, 174⟩] w7.heap.size 7 7 rfl (by omega) (fun j c hj => chk_at (show (w7.alloc (.cells #[.func (.func Kl) #[] cl, .int .i64 2, .func (.func Km) #[] cm, .int .i64 171, .func (.func Ki) #[] ci, .int .i64 172, .func (.func Kf) #[] cf, .int .i64 174, .func (.func Kn) #[] cn, .int .i64 173, .func (.func Ku) #[] cu, .int .i64 172, .func (.func Kd) #[] cd, .int .i64 174] 146)).heap[w7.heap.size]? = some (.cells (chkRow [⟨Kl, cl, true, 2⟩, ⟨Km, cm, B2, 171⟩, ⟨Ki, ci, ok, 172⟩, ⟨Kf, cf, B4, 174⟩, ⟨Kn, cn, B5, 173⟩, ⟨Ku, cu, B6, 172⟩, ⟨Kd, cd, B7, 174⟩]).toArray 146 (0, 0)) from alloc_blk w7 _) j c hj) (by
         intro c hc
         simp only [List.mem_cons, List.not_mem_nil, or_false] at hc
         rcases hc with rfl | rfl | rfl | rfl | rfl | rfl | rfl
         · exact (HKl.out.later hx).later hla
         · exact (HKm.out.later hx).later hla
         · exact (HKi.out.later hx).later hla
         · exact (HKf.out.later hx).later hla
         · exact (HKn.out.later hx).later hla
         · exact (HKu.out.later hx).later hla
         · exact hk.later hla))
       have HL7a := Lib.hid (HL7.out.trans hla)
       clear hk hx hla)
    | (go_at_call 90; (with_reducible refine HASK.out.mono ?_); rintro e w8 ⟨rfl, hx⟩; have HL8 := Lib.hid (HL7a.out.trans hx); clear hx)
    | fail)
  have hmk := HMK.out [⟨Kl, cl, true, 2⟩, ⟨Km, cm, B2, 171⟩, ⟨Ki, ci, ok, 172⟩, ⟨Kf, cf, B4, 174⟩, ⟨Kn, cn, B5, 173⟩, ⟨Ku, cu, B6, 172⟩, ⟨Kd, cd, B7, 174⟩] Kl Km Ki Kf Kn Ku Kd cl cm ci cf cn cu cd rfl
  obtain ⟨E, hE⟩ : ∃ E, askE [⟨Kl, cl, true, 2⟩, ⟨Km, cm, B2, 171⟩, ⟨Ki, ci, ok, 172⟩, ⟨Kf, cf, B4, 174⟩, ⟨Kn, cn, B5, 173⟩, ⟨Ku, cu, B6, 172⟩, ⟨Kd, cd, B7, 174⟩] = E := ⟨_, rfl⟩
  rw [hE] at hmk ⊢
  clear hE
  rcases hmk with ⟨hne, hm⟩ | ⟨h0, y, hy1, hy2, hy3, hy4, hm, hvi⟩
  · have HM := Lib.hid (hm room)
    have hneb : (E != 0) = true := by simpa using hne
    have HNE := Lib.hid hne
    clear hm
    go_wp2_with fail
    go_ret
    rw [HM.out]
    have hja : J.ans l (E, l) = J := if_neg HNE.out
    rw [hja]
    exact ⟨rfl, VOut.same HV.out HL8.out⟩
  · subst h0
    have HM := Lib.hid (hm room)
    have HVI := Lib.hid hvi
    obtain ⟨x1, x2, x3⟩ := HX.out
    rw [hy1] at x1
    have hyx : y = x := x1
    subst hyx
    rw [hy4] at x3
    have hxd : xd = false := x3.symm
    subst hxd
    have HPN := Lib.hid (show entOf Q false XD = ⟨ql, y.d, y.s⟩ from by unfold entOf; rw [HQL.out, x2, hy4])
    have HAT8 := Lib.hid (HAT.out w8 HL8.out)
    clear hm hvi hy1 hy2 hy3 hy4 x1 x2 x3
    go_upto_region 6 with (first
      | (go_at_call 97; (with_reducible refine HAT8.out.mono ?_); rintro e w9 ⟨rfl, hx⟩; have HL9 := Lib.hid (HL8.out.trans hx); clear hx)
      | fail)
    obtain ⟨w10, hw10⟩ : ∃ w10, w9.alloc (.cells #[.string XP, .bool false, .string XD] 74) = w10 := ⟨_, rfl⟩
    obtain ⟨q9, hq9⟩ : ∃ q, w9.heap.size = q := ⟨_, rfl⟩
    have HB10 := Lib.hid (show w10.heap[q9]? = some (.cells #[.string XP, .bool false, .string XD] 74 (0, 0)) from by rw [← hw10, ← hq9]; exact alloc_blk w9 _)
    have HL10 := Lib.hid (show LJ w w10 from by rw [← hw10]; exact HL9.out.alloc _)
    have HQ9 := Lib.hid (show w.heap.size ≤ q9 from by rw [← hq9]; exact Below.size HL9.out)
    rw [hw10, hq9]
    clear hw10 hq9
    have c0 := cell_blk HB10.out 0
    have f0 := free_blk HB10.out 0
    obtain ⟨w11, hw11⟩ : ∃ w11, w10.setCell ⟨q9, 0, none⟩ (.string Q) = w11 := ⟨_, rfl⟩
    have HB11 := Lib.hid (show w11.heap[q9]? = some (.cells #[.string Q, .bool false, .string XD] 74 (0, 0)) from by rw [← hw11]; exact heap_setCell_same _ _ 0 _ _ (.string Q) HB10.out)
    have HL11 := Lib.hid (show LJ w w11 from by
      rw [← hw11]
      exact lj_onlyV HL10.out (setCell_only _ _ _ _) (fun k hk => by rw [show k = q9 from hk]; exact HQ9.out))
    have HWO2 := Lib.hid (HWO.out w11 HL11.out)
    go_upto_region 7 with fail
    clear hw11 c0 f0
    go_upto_region 8 with (first
      | (go_at_call 98; (with_reducible refine HWO2.out.mono ?_); rintro e w12 ⟨m, rfl, hm12, hge, hx⟩; have HM12 := Lib.hid hm12; have HGE := Lib.hid (show w.heap.size ≤ m from Nat.le_trans (Below.size HL11.out) hge); have HL12 := Lib.hid (HL11.out.trans hx); have HB12 := Lib.hid (hx.block HB11.out); clear hm12 hge hx)
      | fail)
    obtain ⟨w13, hrun, hm13, hg13⟩ := HM12.out.put Q false XD (by omega) (by have h1 := del_len_le l pl; have h2 := HVJ.out.count; omega)
    rw [HPN.out] at hm13
    have HM13 := Lib.hid hm13
    have HL13 := Lib.hid (show LJ w w13 from Below.grown HL12.out hg13 (Below.size HL12.out) (fun k hk => by cases hk; exact HGE.out))
    have HBX := Lib.hid (HBEC.out w13 HL13.out m _ HM13.out HGE.out HVI.out (by have h1 := put_len_le (del_rise HVJ.out.inv.rise pl) (⟨ql, y.d, y.s⟩ : Ent); have h2 := HVJ.out.count; have h3 := del_len_le l pl; omega))
    have l0 := cell_blk HB12.out 0
    have l1 := cell_blk HB12.out 1
    have l2 := cell_blk HB12.out 2
    clear hm13 hg13
    go_wp2_with (first
      | (go_at_call 99; (with_reducible refine HBX.out.mono ?_); rintro e w14 ⟨rfl, hv9, ho9⟩; have HV9 := Lib.hid hv9; have HO9 := Lib.hid ho9; clear hv9 ho9)
      | fail)
    go_ret
    rw [HM.out]
    exact ⟨rfl, VOut.bec HF.out HL13.out HGE.out HM13.out.lt HV9.out HO9.out⟩
end Go.Proofs.YtfpbocjmlhcgiaaGreatDoor
