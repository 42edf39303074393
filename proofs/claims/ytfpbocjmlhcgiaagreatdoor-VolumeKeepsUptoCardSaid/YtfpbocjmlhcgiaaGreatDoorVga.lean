/- Vga, merged: VM26 VM27. -/
import Derived.Test.YtfpbocjmlhcgiaaGreatDoorVg9
set_option linter.unusedSimpArgs false
set_option linter.unusedVariables false
/- The volume's Sync, Free, Entries, Read. -/
namespace Go.Proofs.YtfpbocjmlhcgiaaGreatDoor
open Go.RowKit PJ Go.Maps Go.WideMaps Go.Shelf

theorem VJ.safe {J : Jn} {l : List Ent} (h : VJ J l) : VJ { J with S := J.V } l := by
  obtain ⟨L, hL⟩ := h.whole
  exact ⟨h.inv, ⟨h.voc.le, h.voc.cell⟩, h.c40, h.ca, L, hL.safe _⟩
set_option maxRecDepth 100000 in
set_option maxHeartbeats 1000000 in
theorem vsync_any (w : World) (p b jb vb : Nat) (F : Nat → Prop) (J : Jn) (l : List Ent) (h : VAt w p b jb vb F J l) :
    Calls Tryz.prog 86 #[.pointer (some ⟨vb, 0, none⟩)] w fun e w' => e = .returned (.int .i64 0) ∧ VOut w p b jb vb F { J with S := J.V } l w' := by
  have hlF := h.lt
  obtain ⟨mb, FJ, hj, hv, hm, h4, h5, h6, h7, hvj⟩ := h
  have c0 : w.cell? ⟨vb, 0, none⟩ = some (.pointer (some ⟨jb, 0, none⟩)) := cell_blk hv 0
  have c2 : w.cell? ⟨vb, 2, none⟩ = some (.bool false) := cell_blk hv 2
  have HS := Lib.hid (sync_any w p b jb FJ J hj)
  have HB := Lib.hid (fun w6 (ho : JOut w p b jb FJ { J with S := J.V } w6) => show w6.heap[vb]? = some (.cells (volC jb mb) 143 (0, 0)) from (ho.2.block vb (lt_blk hv) h4).trans hv)
  have HFIN := Lib.hid (fun w6 (ho : JOut w p b jb FJ { J with S := J.V } w6) => show VOut w p b jb vb F { J with S := J.V } l (w6.setCell ⟨vb, 2, none⟩ (.bool false)) from by
    have hs2 := ho.2.size
    have fv := h6 vb (.inr (.inl rfl))
    have fm := h6 mb (.inr (.inr rfl))
    have hvl := lt_blk hv
    have hml := hm.lt
    have hb6 := (ho.2.block vb hvl h4).trans hv
    have hmv : mb ≠ vb := fun e => by
      obtain ⟨n, D, ⟨es, ck, hb, -⟩, -⟩ := hm
      rw [e, hv] at hb
      cases hb
    have hset := heap_setCell_same w6 vb 2 _ _ (.bool false) hb6
    have hsz : (w6.setCell ⟨vb, 2, none⟩ (.bool false)).heap.size = w6.heap.size := World.size_setCell ..
    refine ⟨⟨mb, grow FJ w w6, ho.1.kept (by rw [hsz]; exact Nat.le_refl _) (fun k hk => heap_setCell_other w6 ⟨vb, 2, none⟩ k _ (fun e => ?_)) (fun _ h => h) (fun q hq => by rw [hsz]; exact ho.1.lt q hq), hset, ?_, grow_not h4 hvl, grow_not h5 hml, ?_, ?_, hvj.safe⟩, ?_⟩
    · have e' : k = vb := e
      subst e'
      exact grow_not h4 hvl hk
    · exact hm.kept ((heap_setCell_other w6 ⟨vb, 2, none⟩ mb _ hmv).trans (ho.2.block mb hml h5))
    · rintro q ((hq | hq) | rfl | rfl)
      · exact .inl (h6 q (.inl hq))
      · exact .inr ⟨hq.1, by rw [hsz]; exact hq.2⟩
      · exact .inl fv
      · exact .inl fm
    · rintro q (hq | hq)
      · have := hlF q hq; omega
      · exact hq.2
    · refine (ho.2.mono fun q _ hq => h6 q (.inl hq)).trans ((setCell_only w6 vb 2 _).mono fun q _ hq => ?_)
      rw [show q = vb from hq]
      exact fv)
  clear hj hv hm h4 h5 h6 h7 hvj hlF
  go_enter Tryz.func86, Tryz.ntmps86
  go_wp2_with (first
    | (go_at_call 75; (with_reducible refine HS.out.mono ?_); rintro e w6 ⟨rfl, ho6⟩; have HO6 := Lib.hid ho6; have hb6 := HB.out _ ho6; have d2 := cell_blk hb6 2; have f2 := free_blk hb6 2; clear ho6 hb6)
    | fail)
  go_ret
  exact ⟨rfl, HFIN.out _ HO6.out⟩
set_option maxRecDepth 100000 in
set_option maxHeartbeats 1000000 in
theorem ventries_any (w : World) (vb jb mb : Nat) (l : List Ent) (hv : VC w vb jb mb l) (hi : VInv l) (hl : l.length ≤ 800) :
    Calls Tryz.prog 33 #[.pointer (some ⟨vb, 0, none⟩)] w fun e w' => ∃ a cap, e = .returned (.slice a l.length cap) ∧ w'.ownsRow w.heap.size 74 3 (.slice a l.length cap) l.length (entsC l) ∧ LJ w w' := by
  have c1 : w.cell? ⟨vb, 1, none⟩ = some (.map (some mb)) := cell_blk hv.blk 1
  obtain ⟨n, hn⟩ : ∃ n, l.length = n := ⟨_, rfl⟩
  have HS := Lib.hid (show Calls Tryz.prog 88 #[.map (some mb)] w fun e w' => ∃ a cap, e = .returned (.slice a n cap) ∧ w'.ownsRow w.heap.size 74 3 (.slice a n cap) n (entsC l) ∧ LJ w w' from by
    refine (vsorted_any w mb l hv.map (by omega) (fun x hx => by have := (hi.two x hx).2; omega)).mono ?_
    rintro e w' ⟨v, rfl, h2, h3⟩
    rw [hn] at h2
    rcases h2.2 with ⟨e1, e2⟩ | ⟨g, cap, cur, e1, _⟩
    · exact ⟨none, 0, by rw [e1, e2], by rw [e1] at h2; rw [e2] at h2 ⊢; exact h2, h3⟩
    · exact ⟨some ⟨g, 0, none⟩, cap, by rw [e1], by rw [e1] at h2; exact h2, h3⟩)
  rw [hn]
  clear hv hi hl hn
  go_enter Tryz.func33, Tryz.ntmps33
  go_wp2_with (first
    | (go_at_call 88; (with_reducible refine HS.out.mono ?_); rintro e w1 ⟨a, cap, rfl, ho1, hl1⟩; have HO1 := Lib.hid ho1; have HL1 := Lib.hid hl1; clear ho1 hl1)
    | fail)
  go_ret
  exact ⟨a, cap, rfl, HO1.out, HL1.out⟩
set_option maxRecDepth 100000 in
set_option maxHeartbeats 2000000 in
theorem vfree_any (w : World) (p b jb vb : Nat) (F : Nat → Prop) (J : Jn) (l : List Ent) (h : VAt w p b jb vb F J l) :
    Calls Tryz.prog 45 #[.pointer (some ⟨vb, 0, none⟩)] w fun e w' => e = .returned (.int .i64 ((J.room' - (imageE l).length : Nat) : Int)) ∧ LJ w w' := by
  have hvj := h.vj
  obtain ⟨mb, hvc⟩ := h.vc
  have HRM := Lib.hid (fun W (hW : LJ w W) => vroom_any W p b jb vb F J l (h.later hW))
  obtain ⟨IM, hIM⟩ : ∃ B : ByteArray, (⟨(imageE l).toArray⟩ : ByteArray) = B := ⟨_, rfl⟩
  have hIs : IM.size = (imageE l).length := by rw [← hIM]; show (imageE l).toArray.size = _; rw [List.size_toArray]
  have HIM := Lib.hid (fun W (hW : LJ w W) => show Calls Tryz.prog 110 #[.map (some mb)] W fun e w' => e = .returned (.string IM) ∧ LJ W w' from by rw [← hIM]; exact vimage_any W mb l (hvc.later hW).map hvj.inv (by have := hvj.count; omega))
  have HBV := Lib.hid hvc.blk
  have hle : (imageE l).length ≤ J.room' := hvj.voc.le
  have h40 : J.room' ≤ 4640 := by have := hvj.c40; unfold Jn.room'; omega
  obtain ⟨room, hroom⟩ : ∃ r, J.room' = r := ⟨_, rfl⟩
  rw [hroom] at HRM hle h40 ⊢
  have hwr : IntKind.i64.wrap ((room : Int) - (IM.size : Int)) = ((room - (imageE l).length : Nat) : Int) := by rw [IntKind.wrap_i64]; omega
  obtain ⟨res, hres⟩ : ∃ r : Nat, room - (imageE l).length = r := ⟨_, rfl⟩
  rw [hres] at hwr ⊢
  clear h hvj hvc hIM hIs hroom hle h40 hres
  go_enter Tryz.func45, Tryz.ntmps45
  go_upto_region 1 with fail
  refine wp_region_held_drew (S := fun w' => w'.heap[vb]? = some (.cells (volC jb mb) 143 (0, 0))) (by kernel_rfl) HBV.out (fun hHeld => ?_)
  have hL := Lib.hid (LJ.refl w).drew
  refine tkS 0 hHeld ?_
  refine tkS 2 hHeld ?_
  refine tkS 3 hHeld ?_
  refine tkS 4 hHeld ?_
  refine tkS 5 hHeld ?_ (hy := by intro w hSw; have l1 : w.cell? ⟨vb, 1, none⟩ = some (.map (some mb)) := cell_blk hSw 1; go_simp; (try with_reducible rfl))
  refine wpAnyH_ready (rs := [1]) (by kernel_rfl) (by simp) ?_
  refine AllReadyH.cons rfl (fun K hK => ?_) AllReadyH.nil
  go_simp
  (with_reducible refine (HRM.out _ hL.out).mono ?_); rintro e wx ⟨rfl, hx⟩
  have hL := Lib.hid (hL.out.trans hx)
  have hS2 := hx.block hHeld
  clear hx
  refine hK.out _ _ hS2 (fun hHeld => ?_)
  clear hK K hS2
  refine wpAnyH_ready (rs := [6]) (by kernel_rfl) (by simp) ?_
  refine AllReadyH.cons rfl (fun K hK => ?_) AllReadyH.nil
  go_simp
  (with_reducible refine (HIM.out _ hL.out).mono ?_); rintro e wx ⟨rfl, hx⟩
  have hL := Lib.hid (hL.out.trans hx)
  have hS2 := hx.block hHeld
  clear hx
  refine hK.out _ _ hS2 (fun hHeld => ?_)
  clear hK K hS2
  refine tkS 7 hHeld ?_
  refine tkS 8 hHeld ?_
  refine tkS 9 hHeld ?_
  refine wpAnyH_done (by kernel_rfl) ?_ _
  go_simp
  go_wp2_with fail
  go_ret
  exact ⟨rfl, hL.out⟩
end Go.Proofs.YtfpbocjmlhcgiaaGreatDoor
/- The volume's Read. -/
namespace Go.Proofs.YtfpbocjmlhcgiaaGreatDoor
open Go.RowKit PJ Go.Maps Go.WideMaps Go.Shelf

def inR (a n : Int) (m : Nat) : Bool := decide (0 ≤ a) && (decide (0 ≤ n) && decide (a ≤ (m : Int)))
set_option maxRecDepth 100000 in
theorem vread1_any (w : World) (q6 q7 q9 : Nat) (a n : Int) (P D : ByteArray) (d : Bool) (h1 : w.cell? ⟨q6, 0, none⟩ = some (.int .i64 a)) (h3 : w.cell? ⟨q7, 0, none⟩ = some (.int .i64 n)) (h2 : w.heap[q9]? = some (.cells #[.string P, .bool d, .string D] 74 (0, 0))) :
    Calls Tryz.prog 104 #[.pointer (some ⟨q6, 0, none⟩), .pointer (some ⟨q7, 0, none⟩), .pointer (some ⟨q9, 0, none⟩)] w fun e w' => e = .returned (.bool (inR a n D.size)) ∧ LJ w w' := by
  have c2 : w.cell? ⟨q9, 2, none⟩ = some (.string D) := cell_blk h2 2
  clear h2
  by_cases h0 : 0 ≤ a
  · by_cases hn : 0 ≤ n
    · by_cases h4 : a ≤ (D.size : Int)
      · have HX := Lib.hid (show inR a n D.size = true from by unfold inR; rw [decide_eq_true h0, decide_eq_true h4, decide_eq_true hn]; rfl)
        rw [HX.out]
        go_enter Tryz.func104, Tryz.ntmps104
        go_wp2_with fail
        go_ret
        exact ⟨rfl, LJ.refl _⟩
      · have HX := Lib.hid (show inR a n D.size = false from by unfold inR; rw [decide_eq_false h4, Bool.and_false, Bool.and_false])
        rw [HX.out]
        go_enter Tryz.func104, Tryz.ntmps104
        go_wp2_with fail
        go_ret
        exact ⟨rfl, LJ.refl _⟩
    · have HX := Lib.hid (show inR a n D.size = false from by unfold inR; rw [decide_eq_false hn, Bool.false_and, Bool.and_false])
      rw [HX.out]
      go_enter Tryz.func104, Tryz.ntmps104
      go_wp2_with fail
      go_ret
      exact ⟨rfl, LJ.refl _⟩
  · have HX := Lib.hid (show inR a n D.size = false from by unfold inR; rw [decide_eq_false h0, Bool.false_and])
    rw [HX.out]
    go_enter Tryz.func104, Tryz.ntmps104
    go_wp2_with fail
    go_ret
    exact ⟨rfl, LJ.refl _⟩
theorem rd_ask (l : List Ent) (p : List UInt8) (a n : Int) (cs : List Chk) (K1 K2 K3 K4 K5 : FuncId) (c1 c2 c3 c4 c5 : Array Value) (hcs : cs = [⟨K1, c1, true, 2⟩, ⟨K2, c2, pathB p, 171⟩, ⟨K3, c3, (atE l p).isSome, 172⟩, ⟨K4, c4, !((atE l p).getD zeroE).d, 174⟩, ⟨K5, c5, inR a n ((atE l p).getD zeroE).s.length, 1⟩]) :
    (askE cs ≠ 0 ∧ rdE l p a n = ([], askE cs)) ∨ (askE cs = 0 ∧ ∃ (x : Ent) (k m : Nat), atE l p = some x ∧ a = (k : Int) ∧ n = (m : Int) ∧ k ≤ x.s.length ∧ rdE l p a n = ((x.s.drop k).take m, 0)) := by
  subst hcs
  unfold askE rdE
  simp only [if_true]
  unfold askE
  cases hp : pathB p with
  | false => left; simp
  | true =>
    simp only [if_true]
    unfold askE
    cases hn : atE l p with
    | none => left; simp
    | some x =>
      simp only [Option.isSome_some, if_true, Option.getD_some]
      unfold askE
      cases hd : x.d with
      | true => left; simp
      | false =>
        simp only [Bool.not_false, if_true]
        unfold askE
        cases hb : inR a n x.s.length with
        | false =>
          left
          have h1 : a < 0 ∨ n < 0 ∨ (x.s.length : Int) < a := by
            unfold inR at hb
            rw [Bool.and_eq_false_iff, Bool.and_eq_false_iff, decide_eq_false_iff_not, decide_eq_false_iff_not, decide_eq_false_iff_not] at hb
            omega
          refine ⟨by simp, ?_⟩
          simp [h1]
        | true =>
          right
          unfold inR at hb
          rw [Bool.and_eq_true, Bool.and_eq_true, decide_eq_true_eq, decide_eq_true_eq, decide_eq_true_eq] at hb
          obtain ⟨b1, b2, b3⟩ := hb
          obtain ⟨k, hk⟩ := Int.eq_ofNat_of_zero_le b1
          obtain ⟨m, hm⟩ := Int.eq_ofNat_of_zero_le b2
          have hno : ¬ (a < 0 ∨ n < 0 ∨ (x.s.length : Int) < a) := by omega
          refine ⟨by simp [askE], x, k, m, rfl, hk, hm, by omega, ?_⟩
          simp only [hno, if_false, Bool.false_eq_true]
          rw [hk, hm]
          simp
set_option maxRecDepth 100000 in
set_option maxHeartbeats 8000000 in
theorem vreads_any (w : World) (p b jb vb : Nat) (F : Nat → Prop) (J : Jn) (l : List Ent) (h : VAt w p b jb vb F J l) (P : ByteArray) (hP : P.size < 4294967280) (a n : Int) (hnn : n ≤ 9223372036854775807) :
    Calls Tryz.prog 39 #[.pointer (some ⟨vb, 0, none⟩), .string P, .int .i64 a, .int .i64 n] w fun e w' => e = .returned (.tuple #[.string ⟨(rdE l P.data.toList a n).1.toArray⟩, .int .i64 (rdE l P.data.toList a n).2]) ∧ LJ w w' := by
  have hmf : ∀ (fn : Fn) (first cap : Array Value) (w : World), (Instr.makeFunc fn first cap).run Tryz.prog w = .ok (.func fn first cap) w := fun _ _ _ _ => rfl
  obtain ⟨mb, hvc⟩ := h.vc
  have hinv := h.vj.inv
  obtain ⟨pl, hpl⟩ : ∃ x, P.data.toList = x := ⟨_, rfl⟩
  obtain ⟨w1, hw1⟩ : ∃ w1, w.alloc (.cells #[.int .i64 a] 3) = w1 := ⟨_, rfl⟩
  obtain ⟨q6, hq6⟩ : ∃ q, w.heap.size = q := ⟨_, rfl⟩
  have HB6 := Lib.hid (show w1.heap[q6]? = some (.cells #[.int .i64 a] 3 (0, 0)) from by rw [← hw1, ← hq6]; exact alloc_blk w _)
  have hl1 : LJ w w1 := by rw [← hw1]; exact (LJ.refl w).alloc _
  obtain ⟨w2, hw2⟩ : ∃ w2, w1.alloc (.cells #[.int .i64 n] 3) = w2 := ⟨_, rfl⟩
  have hs1 : w1.heap.size = q6 + 1 := by rw [← hw1, World.size_alloc, hq6]
  obtain ⟨q7, hq7⟩ : ∃ q7, q6 + 1 = q7 := ⟨_, rfl⟩
  have HB7 := Lib.hid (show w2.heap[q7]? = some (.cells #[.int .i64 n] 3 (0, 0)) from by rw [← hw2, ← hq7, ← hs1]; exact alloc_blk w1 _)
  have hl2 : LJ w1 w2 := by rw [← hw2]; exact (LJ.refl w1).alloc _
  have HL2 := Lib.hid (hl1.trans hl2)
  have HB62 := Lib.hid (hl2.block HB6.out)
  have HVC := Lib.hid (hvc.later HL2.out)
  have hat := vat_any w2 vb mb jb l P pl hpl (by omega) HVC.out.blk HVC.out.map
  obtain ⟨x, hx⟩ : ∃ x, (atE l pl).getD zeroE = x := ⟨_, rfl⟩
  obtain ⟨ok, hok⟩ : ∃ b, (atE l pl).isSome = b := ⟨_, rfl⟩
  rw [hx, hok] at hat
  obtain ⟨XP, hXP⟩ : ∃ P : ByteArray, (⟨x.p.toArray⟩ : ByteArray) = P := ⟨_, rfl⟩
  obtain ⟨XD, hXD⟩ : ∃ D : ByteArray, (⟨x.s.toArray⟩ : ByteArray) = D := ⟨_, rfl⟩
  have hXDd : XD.data.toList = x.s := by rw [← hXD]
  have hXDs : XD.size = x.s.length := by rw [← hXD]; show x.s.toArray.size = _; rw [List.size_toArray]
  have hval : x.val = .agg #[.string XP, .bool x.d, .string XD] := by rw [← hXP, ← hXD]; rfl
  have hx24 : x.s.length ≤ 1024 := by
    rw [← hx]
    cases hn : atE l pl with
    | none => simp [zeroE]
    | some y =>
      rcases atE_some hn with ⟨-, e⟩ | ⟨-, hm, -⟩
      · rw [e]; simp [rootE]
      · exact hinv.file y hm
  obtain ⟨xd, hxd⟩ : ∃ b, x.d = b := ⟨_, rfl⟩
  rw [hxd] at hval
  rw [hval] at hat
  have HAT := Lib.hid hat
  have HLV := Lib.hid (fun W (hW : LJ w2 W) => vlives_any W vb jb mb l (HVC.out.later hW))
  have HMY := Lib.hid (fun W (q : Nat) (hW : LJ w2 W) (hb : W.heap[q]? = some (.cells #[.string P] 9 (0, 0))) => show Calls Tryz.prog 92 #[.pointer (some ⟨vb, 0, none⟩), .slice (some ⟨q, 0, none⟩) 1 1] W (MadeC W (pathB pl) 171) from by
    have h1 := vmay_any W vb q 1 1 [P] rfl (by simp) (by intro x hx; rw [List.mem_singleton.1 hx]; omega) (fun j x hj => by
      match j, hj with
      | 0, hj =>
        obtain rfl : P = x := by simpa using hj
        exact cell_blk hb 0)
    rw [show ([P].all fun x => pathB x.data.toList) = pathB pl from by simp [hpl]] at h1
    exact h1)
  have HIS := Lib.hid (fun W (hW : LJ w2 W) => vis_any W vb jb mb l P pl hpl (by omega) (HVC.out.later hW))
  have HFI := Lib.hid (fun W (hW : LJ w2 W) => vfile_any W vb jb mb l P pl hpl (by omega) (HVC.out.later hW))
  have HMK := Lib.hid (fun cs K1 K2 K3 K4 K5 c1 c2 c3 c4 c5 hcs => rd_ask l pl a n cs K1 K2 K3 K4 K5 c1 c2 c3 c4 c5 hcs)
  rw [hx] at HMK
  obtain ⟨B2, hB2⟩ : ∃ b, pathB pl = b := ⟨_, rfl⟩
  obtain ⟨B4, hB4⟩ : ∃ b, (!x.d) = b := ⟨_, rfl⟩
  obtain ⟨B5, hB5⟩ : ∃ b, inR a n x.s.length = b := ⟨_, rfl⟩
  rw [hx] at HFI
  rw [hB2] at HMY
  rw [hok] at HIS
  rw [hB4] at HFI
  rw [hB2, hok, hB4, hB5] at HMK
  have HIN := Lib.hid (fun W q9 (h1 : W.cell? ⟨q6, 0, none⟩ = some (.int .i64 a)) (h3 : W.cell? ⟨q7, 0, none⟩ = some (.int .i64 n)) (h2 : W.heap[q9]? = some (.cells #[.string XP, .bool xd, .string XD] 74 (0, 0))) => show Calls Tryz.prog 104 #[.pointer (some ⟨q6, 0, none⟩), .pointer (some ⟨q7, 0, none⟩), .pointer (some ⟨q9, 0, none⟩)] W fun e w' => e = .returned (.bool B5) ∧ LJ W w' from by
    have h4 := vread1_any W q6 q7 q9 a n XP XD xd h1 h3 h2
    rw [hXDs, hB5] at h4
    exact h4)
  have HW1 := Lib.hid hw1
  have HW2 := Lib.hid hw2
  have HX := Lib.hid (And.intro hx (And.intro hXDd (And.intro hXDs hx24)))
  obtain ⟨RD, hRD⟩ : ∃ r, rdE l pl a n = r := ⟨_, rfl⟩
  rw [hpl, hRD]
  rw [hRD] at HMK
  clear h hvc hinv hw1 hw2 hl1 hl2 hat hx hok hXP hXD hXDd hXDs hval hB2 hB4 hB5 hs1 hxd hx24 hRD hpl
  go_enter Tryz.func39, Tryz.ntmps39
  go_upto_region 1 with fail
  rw [HW1.out, HW2.out]
  go_upto_region 2 with (first
    | (go_at_call 97; (with_reducible refine HAT.out.mono ?_); rintro e w3 ⟨rfl, hl3⟩; have HL3 := Lib.hid hl3; clear hl3)
    | fail)
  obtain ⟨w4, hw4⟩ : ∃ w4, w3.alloc (.cells #[.string XP, .bool xd, .string XD] 74) = w4 := ⟨_, rfl⟩
  obtain ⟨q9, hq9⟩ : ∃ q, w3.heap.size = q := ⟨_, rfl⟩
  have HB9 := Lib.hid (show w4.heap[q9]? = some (.cells #[.string XP, .bool xd, .string XD] 74 (0, 0)) from by rw [← hw4, ← hq9]; exact alloc_blk w3 _)
  have HL4 := Lib.hid (show LJ w2 w4 from by rw [← hw4]; exact HL3.out.alloc _)
  rw [hw4, hq9]
  clear hw4 hq9
  obtain ⟨w5, hw5⟩ : ∃ w5, w4.alloc (.cells #[Value.nilFunc, .int .i64 0] 146) = w5 := ⟨_, rfl⟩
  obtain ⟨q11, hq11⟩ : ∃ q, w4.heap.size = q := ⟨_, rfl⟩
  have HB5 := Lib.hid (show w5.heap[q11]? = some (.cells #[Value.nilFunc, .int .i64 0] 146 (0, 0)) from by rw [← hw5, ← hq11]; exact alloc_blk w4 _)
  obtain ⟨w6, hw6⟩ : ∃ w6, w5.setRow q11 #[.func (.func 104) #[] #[.pointer (some ⟨q6, 0, none⟩), .pointer (some ⟨q7, 0, none⟩), .pointer (some ⟨q9, 0, none⟩)], .int .i64 1] = w6 := ⟨_, rfl⟩
  have HB11 := Lib.hid (show w6.heap[q11]? = some (.cells #[.func (.func 104) #[] #[.pointer (some ⟨q6, 0, none⟩), .pointer (some ⟨q7, 0, none⟩), .pointer (some ⟨q9, 0, none⟩)], .int .i64 1] 146 (0, 0)) from by rw [← hw6]; exact vrow_heap w5 q11 _ _ _ HB5.out)
  have HL6 := Lib.hid (show LJ w4 w6 from by rw [← hw6]; exact lj_onlyV (show LJ w4 w5 from by rw [← hw5]; exact (LJ.refl w4).alloc _) (vrow_only _ _ _) (fun k hk => by rw [show k = q11 from hk]; omega))
  have HW6 := Lib.hid hw6
  clear hw6
  go_upto_region 3 with (first
    | (refine wpList_store_row rfl 146 (.tmp 12) (.tmp 21) rfl q11 #[.func (.func 104) #[] #[.pointer (some ⟨q6, 0, none⟩), .pointer (some ⟨q7, 0, none⟩), .pointer (some ⟨q9, 0, none⟩)], .int .i64 1] rfl rfl 146 _ HB5.out info_chk rfl (chk_all _ _ _) ?_; rw [HW6.out])
    | fail)
  clear hq11 hw5 hmf
  have HL26 := Lib.hid (HL4.out.trans HL6.out)
  have HB96 := Lib.hid (HL6.out.block HB9.out)
  have HB66 := Lib.hid (HL26.out.block HB62.out)
  have HB76 := Lib.hid (HL26.out.block HB7.out)
  have HK1 := Lib.hid (show ChkOK w6 ⟨104, #[.pointer (some ⟨q6, 0, none⟩), .pointer (some ⟨q7, 0, none⟩), .pointer (some ⟨q9, 0, none⟩)], B5, 1⟩ from ⟨enters_of Tryz.func104 (by kernel_rfl) rfl, fun W hW => HIN.out W q9 (cell_blk (hW.block HB66.out) 0) (cell_blk (hW.block HB76.out) 0) (hW.block HB96.out)⟩)
  have HLV := Lib.hid (fun W (hW : LJ w6 W) => HLV.out W (HL26.out.trans hW))
  have HMY := Lib.hid (fun W q (hW : LJ w6 W) hb => HMY.out W q (HL26.out.trans hW) hb)
  have HIS := Lib.hid (fun W (hW : LJ w6 W) => HIS.out W (HL26.out.trans hW))
  have HFI := Lib.hid (fun W (hW : LJ w6 W) => HFI.out W (HL26.out.trans hW))
  clear hq7
  simp only [Go.Act.put]
  go_cut [13] from 22 to 36 (fun v13 wx => ∃ cs K1 K2 K3 K4 K5 c1 c2 c3 c4 c5, cs = [⟨K1, c1, true, 2⟩, ⟨K2, c2, B2, 171⟩, ⟨K3, c3, ok, 172⟩, ⟨K4, c4, B4, 174⟩, ⟨K5, c5, B5, 1⟩] ∧ v13 = .int .i64 (askE cs) ∧ LJ w6 wx)
  case first =>
    refine wp_region_held_drew (S := fun w' => w'.heap[q11]? = some (.cells #[.func (.func 104) #[] #[.pointer (some ⟨q6, 0, none⟩), .pointer (some ⟨q7, 0, none⟩), .pointer (some ⟨q9, 0, none⟩)], .int .i64 1] 146 (0, 0))) (by kernel_rfl) HB11.out (fun hHeld => ?_)
    have hL := Lib.hid (LJ.refl w6).drew
    refine tkS 0 hHeld ?_ (hy := by intro w hSw; have l0 := cell_blk hSw 0; have l1 := cell_blk hSw 1; go_simp; (try with_reducible rfl))
    refine tkS 2 hHeld ?_ (hy := by intro w hSw; have l0 := cell_blk hSw 0; have l1 := cell_blk hSw 1; go_simp; (try with_reducible rfl))
    refine tkS 3 hHeld ?_ (hy := by intro w hSw; have l0 := cell_blk hSw 0; have l1 := cell_blk hSw 1; go_simp; (try with_reducible rfl))
    refine tkS 6 hHeld ?_ (hy := by intro w hSw; have l0 := cell_blk hSw 0; have l1 := cell_blk hSw 1; go_simp; (try with_reducible rfl))
    refine tkS 7 hHeld ?_ (hy := by intro w hSw; have l0 := cell_blk hSw 0; have l1 := cell_blk hSw 1; go_simp; (try with_reducible rfl))
    refine tkS 9 hHeld ?_ (hy := by intro w hSw; have l0 := cell_blk hSw 0; have l1 := cell_blk hSw 1; go_simp; (try with_reducible rfl))
    refine tkS 10 hHeld ?_ (hy := by intro w hSw; have l0 := cell_blk hSw 0; have l1 := cell_blk hSw 1; go_simp; (try with_reducible rfl))
    refine tkS 12 hHeld ?_ (hy := by intro w hSw; have l0 := cell_blk hSw 0; have l1 := cell_blk hSw 1; go_simp; (try with_reducible rfl))
    refine wpAnyH_ready (rs := [1, 4]) (by kernel_rfl) (by simp) ?_
    refine AllReadyH.cons rfl (fun K hK => ?_) (AllReadyH.cons rfl (fun K hK => ?_) AllReadyH.nil)
    · go_simp
      (with_reducible refine (HLV.out _ hL.out).mono ?_); rintro e wx ⟨Kl, cl, rfl, hk, hx⟩
      have hL := Lib.hid (hL.out.trans hx)
      have HKl := Lib.hid hk
      have hS2 := hx.block hHeld
      clear hx hk
      refine hK.out _ _ hS2 (fun hHeld => ?_)
      clear hK K hS2
      refine wpAnyH_ready (rs := [4]) (by kernel_rfl) (by simp) ?_
      refine AllReadyH.cons rfl (fun K hK => ?_) AllReadyH.nil
      go_simp
      obtain ⟨q, hq⟩ : ∃ q, wx.heap.size = q := ⟨_, rfl⟩
      obtain ⟨wq, hwq⟩ : ∃ wq, (wx.alloc (.cells #[.string P] 9)) = wq := ⟨_, rfl⟩
      have hx : LJ wx wq := by rw [← hwq]; exact ((LJ.refl _).alloc _)
      have HQB := Lib.hid (show wq.heap[q]? = some (.cells #[.string P] 9 (0, 0)) from by rw [← hwq, ← hq]; exact alloc_blk _ _)
      have hL := Lib.hid (hL.out.trans hx)
      have HKl := Lib.hid (HKl.out.later hx)
      have hS2 := hx.block hHeld
      rw [hq, hwq]
      clear hq hwq hx
      refine hK.out _ _ hS2 (fun hHeld => ?_)
      clear hK K hS2
      refine wpAnyH_ready (rs := [5]) (by kernel_rfl) (by simp) ?_
      refine AllReadyH.cons rfl (fun K hK => ?_) AllReadyH.nil
      have HMYW := Lib.hid (fun W (hW : LJ _ W) (hb : W.heap[q]? = _) => HMY.out W q hW hb)
      go_simp
      (with_reducible refine (HMYW.out _ hL.out HQB.out).mono ?_); rintro e wx ⟨Km, cm, rfl, hk, hx⟩
      have hL := Lib.hid (hL.out.trans hx)
      have HKl := Lib.hid (HKl.out.later hx)
      have HKm := Lib.hid hk
      have hS2 := hx.block hHeld
      clear hx hk HMYW
      refine hK.out _ _ hS2 (fun hHeld => ?_)
      clear hK K hS2
      refine wpAnyH_ready (rs := [8]) (by kernel_rfl) (by simp) ?_
      refine AllReadyH.cons rfl (fun K hK => ?_) AllReadyH.nil
      go_simp
      (with_reducible refine (HIS.out _ hL.out).mono ?_); rintro e wx ⟨Ki, ci, rfl, hk, hx⟩
      have hL := Lib.hid (hL.out.trans hx)
      have HKl := Lib.hid (HKl.out.later hx)
      have HKm := Lib.hid (HKm.out.later hx)
      have HKi := Lib.hid hk
      have hS2 := hx.block hHeld
      clear hx hk
      refine hK.out _ _ hS2 (fun hHeld => ?_)
      clear hK K hS2
      refine wpAnyH_ready (rs := [11]) (by kernel_rfl) (by simp) ?_
      refine AllReadyH.cons rfl (fun K hK => ?_) AllReadyH.nil
      go_simp
      (with_reducible refine (HFI.out _ hL.out).mono ?_); rintro e wx ⟨Kf, cf, rfl, hk, hx⟩
      have hL := Lib.hid (hL.out.trans hx)
      have HKl := Lib.hid (HKl.out.later hx)
      have HKm := Lib.hid (HKm.out.later hx)
      have HKi := Lib.hid (HKi.out.later hx)
      have HKf := Lib.hid hk
      have hS2 := hx.block hHeld
      clear hx hk
      refine hK.out _ _ hS2 (fun hHeld => ?_)
      clear hK K hS2
      refine wpAnyH_ready (rs := [13]) (by kernel_rfl) (by simp) ?_
      refine AllReadyH.cons rfl (fun K hK => ?_) AllReadyH.nil
      go_simp
      obtain ⟨r, hr⟩ : ∃ r, wx.heap.size = r := ⟨_, rfl⟩
      obtain ⟨wr, hwr⟩ : ∃ wr, wx.alloc (.cells #[.func (.func Kl) #[] cl, .int .i64 2, .func (.func Km) #[] cm, .int .i64 171, .func (.func Ki) #[] ci, .int .i64 172, .func (.func Kf) #[] cf, .int .i64 174, .func (.func 104) #[] #[.pointer (some ⟨q6, 0, none⟩), .pointer (some ⟨q7, 0, none⟩), .pointer (some ⟨q9, 0, none⟩)], .int .i64 1] 146) = wr := ⟨_, rfl⟩
      have hx : LJ wx wr := by rw [← hwr]; exact (LJ.refl _).alloc _
      have HRB := Lib.hid (show wr.heap[r]? = some (.cells (chkRow [⟨Kl, cl, true, 2⟩, ⟨Km, cm, B2, 171⟩, ⟨Ki, ci, ok, 172⟩, ⟨Kf, cf, B4, 174⟩, ⟨104, #[.pointer (some ⟨q6, 0, none⟩), .pointer (some ⟨q7, 0, none⟩), .pointer (some ⟨q9, 0, none⟩)], B5, 1⟩]).toArray 146 (0, 0)) from by rw [← hwr, ← hr]; exact alloc_blk _ _)
      have hL := Lib.hid (hL.out.trans hx)
      have HKl := Lib.hid (HKl.out.later hx)
      have HKm := Lib.hid (HKm.out.later hx)
      have HKi := Lib.hid (HKi.out.later hx)
      have HKf := Lib.hid (HKf.out.later hx)
      have hS2 := hx.block hHeld
      rw [hr, hwr]
      clear hr hwr hx
      refine hK.out _ _ hS2 (fun hHeld => ?_)
      clear hK K hS2
      have HASK := Lib.hid (asked_any wr [⟨Kl, cl, true, 2⟩, ⟨Km, cm, B2, 171⟩, ⟨Ki, ci, ok, 172⟩, ⟨Kf, cf, B4, 174⟩, ⟨104, #[.pointer (some ⟨q6, 0, none⟩), .pointer (some ⟨q7, 0, none⟩), .pointer (some ⟨q9, 0, none⟩)], B5, 1⟩] r 5 5 rfl (by omega) (fun j c hj => chk_at HRB.out j c hj) (by intro c hc; simp only [List.mem_cons, List.not_mem_nil, or_false] at hc; rcases hc with rfl | rfl | rfl | rfl | rfl; exact HKl.out; exact HKm.out; exact HKi.out; exact HKf.out; exact HK1.out.later hL.out))
      refine wpAnyH_ready (rs := [14]) (by kernel_rfl) (by simp) ?_
      refine AllReadyH.cons rfl (fun K hK => ?_) AllReadyH.nil
      go_simp
      (with_reducible refine HASK.out.mono ?_); rintro e wz ⟨rfl, hx⟩
      have hL := Lib.hid (hL.out.trans hx)
      have hS2 := hx.block hHeld
      clear hx
      refine hK.out _ _ hS2 (fun hHeld => ?_)
      clear hK K hS2
      refine tkS 15 hHeld ?_
      refine wpAnyH_done (by kernel_rfl) ?_ _
      go_wp2_with fail
      go_meet
      case rel => exact ⟨_, Kl, Km, Ki, Kf, _, cl, cm, ci, cf, _, rfl, rfl, hL.out⟩
    · go_simp
      obtain ⟨q, hq⟩ : ∃ q, w6.heap.size = q := ⟨_, rfl⟩
      obtain ⟨wq, hwq⟩ : ∃ wq, (w6.alloc (.cells #[.string P] 9)).drew = wq := ⟨_, rfl⟩
      have hx : LJ w6 wq := by rw [← hwq]; exact ((LJ.refl _).alloc _).drew
      have HQB := Lib.hid (show wq.heap[q]? = some (.cells #[.string P] 9 (0, 0)) from by rw [← hwq, ← hq]; exact alloc_blk _ _)
      have hL := Lib.hid (hx)
      have hS2 := hx.block hHeld
      rw [hq, hwq]
      clear hq hwq hx
      refine hK.out _ _ hS2 (fun hHeld => ?_)
      clear hK K hS2
      refine wpAnyH_ready (rs := [1]) (by kernel_rfl) (by simp) ?_
      refine AllReadyH.cons rfl (fun K hK => ?_) AllReadyH.nil
      go_simp
      (with_reducible refine (HLV.out _ hL.out).mono ?_); rintro e wx ⟨Kl, cl, rfl, hk, hx⟩
      have hL := Lib.hid (hL.out.trans hx)
      have HQB := Lib.hid (hx.block HQB.out)
      have HKl := Lib.hid hk
      have hS2 := hx.block hHeld
      clear hx hk
      refine hK.out _ _ hS2 (fun hHeld => ?_)
      clear hK K hS2
      refine wpAnyH_ready (rs := [5]) (by kernel_rfl) (by simp) ?_
      refine AllReadyH.cons rfl (fun K hK => ?_) AllReadyH.nil
      have HMYW := Lib.hid (fun W (hW : LJ _ W) (hb : W.heap[q]? = _) => HMY.out W q hW hb)
      go_simp
      (with_reducible refine (HMYW.out _ hL.out HQB.out).mono ?_); rintro e wx ⟨Km, cm, rfl, hk, hx⟩
      have hL := Lib.hid (hL.out.trans hx)
      have HKl := Lib.hid (HKl.out.later hx)
      have HKm := Lib.hid hk
      have hS2 := hx.block hHeld
      clear hx hk HMYW
      refine hK.out _ _ hS2 (fun hHeld => ?_)
      clear hK K hS2
      refine wpAnyH_ready (rs := [8]) (by kernel_rfl) (by simp) ?_
      refine AllReadyH.cons rfl (fun K hK => ?_) AllReadyH.nil
      go_simp
      (with_reducible refine (HIS.out _ hL.out).mono ?_); rintro e wx ⟨Ki, ci, rfl, hk, hx⟩
      have hL := Lib.hid (hL.out.trans hx)
      have HKl := Lib.hid (HKl.out.later hx)
      have HKm := Lib.hid (HKm.out.later hx)
      have HKi := Lib.hid hk
      have hS2 := hx.block hHeld
      clear hx hk
      refine hK.out _ _ hS2 (fun hHeld => ?_)
      clear hK K hS2
      refine wpAnyH_ready (rs := [11]) (by kernel_rfl) (by simp) ?_
      refine AllReadyH.cons rfl (fun K hK => ?_) AllReadyH.nil
      go_simp
      (with_reducible refine (HFI.out _ hL.out).mono ?_); rintro e wx ⟨Kf, cf, rfl, hk, hx⟩
      have hL := Lib.hid (hL.out.trans hx)
      have HKl := Lib.hid (HKl.out.later hx)
      have HKm := Lib.hid (HKm.out.later hx)
      have HKi := Lib.hid (HKi.out.later hx)
      have HKf := Lib.hid hk
      have hS2 := hx.block hHeld
      clear hx hk
      refine hK.out _ _ hS2 (fun hHeld => ?_)
      clear hK K hS2
      refine wpAnyH_ready (rs := [13]) (by kernel_rfl) (by simp) ?_
      refine AllReadyH.cons rfl (fun K hK => ?_) AllReadyH.nil
      go_simp
      obtain ⟨r, hr⟩ : ∃ r, wx.heap.size = r := ⟨_, rfl⟩
      obtain ⟨wr, hwr⟩ : ∃ wr, wx.alloc (.cells #[.func (.func Kl) #[] cl, .int .i64 2, .func (.func Km) #[] cm, .int .i64 171, .func (.func Ki) #[] ci, .int .i64 172, .func (.func Kf) #[] cf, .int .i64 174, .func (.func 104) #[] #[.pointer (some ⟨q6, 0, none⟩), .pointer (some ⟨q7, 0, none⟩), .pointer (some ⟨q9, 0, none⟩)], .int .i64 1] 146) = wr := ⟨_, rfl⟩
      have hx : LJ wx wr := by rw [← hwr]; exact (LJ.refl _).alloc _
      have HRB := Lib.hid (show wr.heap[r]? = some (.cells (chkRow [⟨Kl, cl, true, 2⟩, ⟨Km, cm, B2, 171⟩, ⟨Ki, ci, ok, 172⟩, ⟨Kf, cf, B4, 174⟩, ⟨104, #[.pointer (some ⟨q6, 0, none⟩), .pointer (some ⟨q7, 0, none⟩), .pointer (some ⟨q9, 0, none⟩)], B5, 1⟩]).toArray 146 (0, 0)) from by rw [← hwr, ← hr]; exact alloc_blk _ _)
      have hL := Lib.hid (hL.out.trans hx)
      have HKl := Lib.hid (HKl.out.later hx)
      have HKm := Lib.hid (HKm.out.later hx)
      have HKi := Lib.hid (HKi.out.later hx)
      have HKf := Lib.hid (HKf.out.later hx)
      have hS2 := hx.block hHeld
      rw [hr, hwr]
      clear hr hwr hx
      refine hK.out _ _ hS2 (fun hHeld => ?_)
      clear hK K hS2
      have HASK := Lib.hid (asked_any wr [⟨Kl, cl, true, 2⟩, ⟨Km, cm, B2, 171⟩, ⟨Ki, ci, ok, 172⟩, ⟨Kf, cf, B4, 174⟩, ⟨104, #[.pointer (some ⟨q6, 0, none⟩), .pointer (some ⟨q7, 0, none⟩), .pointer (some ⟨q9, 0, none⟩)], B5, 1⟩] r 5 5 rfl (by omega) (fun j c hj => chk_at HRB.out j c hj) (by intro c hc; simp only [List.mem_cons, List.not_mem_nil, or_false] at hc; rcases hc with rfl | rfl | rfl | rfl | rfl; exact HKl.out; exact HKm.out; exact HKi.out; exact HKf.out; exact HK1.out.later hL.out))
      refine wpAnyH_ready (rs := [14]) (by kernel_rfl) (by simp) ?_
      refine AllReadyH.cons rfl (fun K hK => ?_) AllReadyH.nil
      go_simp
      (with_reducible refine HASK.out.mono ?_); rintro e wz ⟨rfl, hx⟩
      have hL := Lib.hid (hL.out.trans hx)
      have hS2 := hx.block hHeld
      clear hx
      refine hK.out _ _ hS2 (fun hHeld => ?_)
      clear hK K hS2
      refine tkS 15 hHeld ?_
      refine wpAnyH_done (by kernel_rfl) ?_ _
      go_wp2_with fail
      go_meet
      case rel => exact ⟨_, Kl, Km, Ki, Kf, _, cl, cm, ci, cf, _, rfl, rfl, hL.out⟩
  case rest =>
    obtain ⟨cs, K1, K2, K3, K4, K5, c1, c2, c3, c4, c5, hcs, rfl, hlc⟩ := hcut
    have HLC := Lib.hid hlc
    have HWX := Lib.hid (HL2.out.trans (HL26.out.trans hlc))
    have hmk := HMK.out cs K1 K2 K3 K4 K5 c1 c2 c3 c4 c5 hcs
    obtain ⟨E, hE⟩ : ∃ E, askE cs = E := ⟨_, rfl⟩
    rw [hE] at hmk ⊢
    clear hcs hE hlc
    rcases hmk with ⟨hne, hm⟩ | ⟨h0, y, k, m, hy1, hy2, hy3, hy4, hm⟩
    · have HM := Lib.hid hm
      have hneb : (E != 0) = true := by simpa using hne
      clear hm
      go_wp2_with fail
      go_ret2
      exact ⟨by rw [HM.out]; rfl, HWX.out⟩
    · subst h0
      obtain ⟨x1, x2, x3, x4⟩ := HX.out
      rw [hy1] at x1
      have hyx : y = x := x1
      subst hyx
      subst hy2
      subst hy3
      obtain ⟨mm, hmm⟩ : ∃ mm, mm = min m (XD.size - k) := ⟨_, rfl⟩
      have hkD : k ≤ XD.size := by omega
      have hw49 : IntKind.i64.wrap ((XD.size : Int) - (k : Int)) = ((XD.size - k : Nat) : Int) := by rw [IntKind.wrap_i64]; omega
      obtain ⟨dk, hdk⟩ : ∃ dk, XD.size - k = dk := ⟨_, rfl⟩
      rw [hdk] at hw49
      have hmq : ∀ W ts t, (Builtin.min_ ts t #[.int .i64 (m : Int), .int .i64 (dk : Int)]).run Tryz.prog W = .ok (.int .i64 (mm : Int)) W := fun W ts t => by
        have e : (if (dk : Int) < (m : Int) then (dk : Int) else (m : Int)) = (mm : Int) := by split <;> omega
        rw [run_min2V, e]
      obtain ⟨hi, hhi⟩ : ∃ hi, k + mm = hi := ⟨_, rfl⟩
      have hw51 : IntKind.i64.wrap ((k : Int) + (mm : Int)) = (hi : Int) := by rw [IntKind.wrap_i64]; omega
      have b1 : (0 : Int) ≤ (k : Int) := by omega
      have b2 : (k : Int) ≤ (hi : Int) := by omega
      have b3 : (hi : Int) ≤ (XD.size : Int) := by omega
      have b0 : (0 : Int) ≤ (hi : Int) := by omega
      have b4 : (k : Int).toNat = k := by omega
      have b5 : (hi : Int).toNat = hi := by omega
      have b6 : k ≤ hi := by omega
      have b7 : hi ≤ XD.size := by omega
      have HOUT := Lib.hid (show XD.extract k hi = ⟨RD.1.toArray⟩ ∧ (0 : Int) = RD.2 from by
        rw [hm]
        refine ⟨?_, rfl⟩
        apply ByteArray.ext
        apply Array.toList_inj.1
        rw [ex_list, x2]
        show (y.s.drop k).take (hi - k) = (y.s.drop k).take m
        have hl : (y.s.drop k).length = dk := by rw [List.length_drop]; omega
        rcases Nat.le_total m dk with e | e
        · rw [show hi - k = m from by omega]
        · rw [List.take_of_length_le (by omega), List.take_of_length_le (by omega)])
      have HBC9 := Lib.hid (HLC.out.block HB96.out)
      have z2 : wc.cell? ⟨q9, 2, none⟩ = some (.string XD) := cell_blk HBC9.out 2
      have y6 : wc.cell? ⟨q6, 0, none⟩ = some (.int .i64 (k : Int)) := cell_blk (HLC.out.block HB66.out) 0
      have y7 : wc.cell? ⟨q7, 0, none⟩ = some (.int .i64 (m : Int)) := cell_blk (HLC.out.block HB76.out) 0
      clear hm hy1 hy4 x1 x2 x3 x4 hmm hdk hhi hkD
      go_wp2_with fail
      go_ret2
      exact ⟨(show Ending.returned (.tuple #[.string (XD.extract k hi), .int .i64 0]) = _ from by rw [HOUT.out.1, ← HOUT.out.2]), HWX.out⟩
end Go.Proofs.YtfpbocjmlhcgiaaGreatDoor
