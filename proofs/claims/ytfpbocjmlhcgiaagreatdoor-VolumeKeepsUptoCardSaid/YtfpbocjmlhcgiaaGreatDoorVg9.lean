/- Vg9, merged: VM22 VM23. -/
import Derived.Test.YtfpbocjmlhcgiaaGreatDoorVg8
import Derived.Test.YtfpbocjmlhcgiaaGreatDoorVg6
import Derived.Test.YtfpbocjmlhcgiaaGreatDoorJNX
set_option linter.unusedSimpArgs false
set_option linter.unusedVariables false
/- The volume's makes. -/
namespace Go.Proofs.YtfpbocjmlhcgiaaGreatDoor
open Go.RowKit PJ Go.Maps Go.WideMaps Go.Shelf

def chkRow (l : List Chk) : List Value := l.flatMap fun c => [.func (.func c.K) #[] c.cp, .int .i64 c.e]
theorem chkRow_get : ∀ {l : List Chk} {j : Nat} {c : Chk}, l[j]? = some c → (chkRow l)[j * 2]? = some (.func (.func c.K) #[] c.cp) ∧ (chkRow l)[j * 2 + 1]? = some (.int .i64 c.e)
  | y :: r, 0, c, h => by
    obtain rfl : y = c := by simpa using h
    exact ⟨rfl, rfl⟩
  | y :: r, j + 1, c, h => by
    have ih := chkRow_get (l := r) (j := j) (c := c) (by simpa using h)
    have e : chkRow (y :: r) = .func (.func y.K) #[] y.cp :: .int .i64 y.e :: chkRow r := rfl
    rw [e, show (j + 1) * 2 = j * 2 + 1 + 1 from by omega]
    exact ih
theorem chk_at {w : World} {g : Nat} {l : List Chk} (h : w.heap[g]? = some (.cells (chkRow l).toArray 146 (0, 0))) (j : Nat) (c : Chk) (hj : l[j]? = some c) : w.cell? ⟨g, j * 2, none⟩ = some (.func (.func c.K) #[] c.cp) ∧ w.cell? ⟨g, j * 2 + 1, none⟩ = some (.int .i64 c.e) := by
  obtain ⟨h1, h2⟩ := chkRow_get hj
  exact ⟨(cell_blk h (j * 2)).trans (by simpa using h1), (cell_blk h (j * 2 + 1)).trans (by simpa using h2)⟩
/-- Behind a commit in the midst of a call. -/
theorem VOut.bec {w w7 w' : World} {p b jb vb : Nat} {F : Nat → Prop} {J : Jn} {l : List Ent} {m : Nat} (hF : ∀ q, F q → q < w.heap.size) (hl : LJ w w7) (hm : w.heap.size ≤ m) (hm7 : m < w7.heap.size) (h : VAt w' p b jb vb (grow (fun q => F q ∨ q = m) w7 w') J l) (ho : OnlyJ F w7 w') : VOut w p b jb vb F J l w' := by
  have h1 := Below.size hl
  have h2 := ho.size
  refine ⟨h.kept (Nat.le_refl _) (fun _ _ => rfl) ?_ (grow_lt hF (by omega)), (OnlyJ.of_below hl).trans ho⟩
  rintro q ((hq | rfl) | hq)
  · exact .inl hq
  · exact .inr ⟨hm, by omega⟩
  · exact .inr ⟨by omega, hq.2⟩
theorem mk_ask (l : List Ent) (p : List UInt8) (d : Bool) (cs : List Chk) (K1 K2 K3 K4 K5 : FuncId) (c1 c2 c3 c4 c5 : Array Value) (hcs : cs = [⟨K1, c1, true, 2⟩, ⟨K2, c2, pathB p, 171⟩, ⟨K3, c3, !(atE l p).isSome, 173⟩, ⟨K4, c4, (atE l (upP (p ++ [0]))).isSome, 172⟩, ⟨K5, c5, ((atE l (upP (p ++ [0]))).getD zeroE).d, 174⟩]) :
    (askE cs ≠ 0 ∧ ∀ room, mkE room l p d = (askE cs, l)) ∨ (askE cs = 0 ∧ (∀ room, mkE room l p d = becE room l (putE l ⟨p, d, []⟩)) ∧ (VInv l → VInv (putE l ⟨p, d, []⟩))) := by
  subst hcs
  unfold askE mkE
  simp only [if_true]
  unfold askE
  cases hp : pathB p with
  | false => left; simp
  | true =>
    simp only [if_true]
    unfold askE
    cases hn : atE l p with
    | some x => left; simp
    | none =>
      simp only [Option.isSome_none, Bool.not_false, if_true]
      unfold askE
      cases hu : atE l (upP (p ++ [0])) with
      | none => left; simp
      | some u =>
        simp only [Option.isSome_some, if_true, Option.getD_some]
        unfold askE
        cases hd : u.d with
        | false => left; simp
        | true =>
          right
          refine ⟨by simp [askE], fun room => by simp, fun h => ?_⟩
          obtain ⟨hr, hno⟩ := at_none hn
          have hl := (pathB_len hp hr).1
          exact h.put ⟨p, d, []⟩ hp hr (fun _ => rfl) (by simp) (up_ok (fun e => by have e' : p = [] := e; rw [e'] at hl; simp at hl) hu hd) (fun y hy e => absurd e (hno y hy))
set_option maxRecDepth 100000 in
set_option maxHeartbeats 8000000 in
theorem vmakes_any (w : World) (p b jb vb : Nat) (F : Nat → Prop) (J : Jn) (l : List Ent) (h : VAt w p b jb vb F J l) (hh : J.head < 4611686018427387904) (hn : J.next < 4611686018427387904) (P : ByteArray) (d : Bool) (hP : P.size < 4294967280) :
    Calls Tryz.prog 100 #[.pointer (some ⟨vb, 0, none⟩), .agg #[.string P, .bool d, .string ⟨#[]⟩]] w fun e w' => e = .returned (.int .i64 (mkE J.room' l P.data.toList d).1) ∧ VOut w p b jb vb F (J.ans l (mkE J.room' l P.data.toList d)) (mkE J.room' l P.data.toList d).2 w' := by
  obtain ⟨mb, hvc⟩ := h.vc
  have HV := Lib.hid h
  have HVJ := Lib.hid h.vj
  have HF := Lib.hid h.lt
  obtain ⟨w5, hw5⟩ : ∃ w5, w.alloc (.cells #[.string P, .bool d, .string ⟨#[]⟩] 74) = w5 := ⟨_, rfl⟩
  obtain ⟨q0, hq0⟩ : ∃ q, w.heap.size = q := ⟨_, rfl⟩
  have HB5 := Lib.hid (show w5.heap[q0]? = some (.cells #[.string P, .bool d, .string ⟨#[]⟩] 74 (0, 0)) from by rw [← hw5, ← hq0]; exact alloc_blk w _)
  have HL5 := Lib.hid (show LJ w w5 from by rw [← hw5]; exact (LJ.refl w).alloc _)
  have HVC := Lib.hid (hvc.later HL5.out)
  obtain ⟨UP, hUP⟩ : ∃ B : ByteArray, (⟨(upP (P.data.toList ++ [0])).toArray⟩ : ByteArray) = B := ⟨_, rfl⟩
  obtain ⟨up, hup⟩ : ∃ u, upP (P.data.toList ++ [0]) = u := ⟨_, rfl⟩
  have hUd : UP.data.toList = up := by rw [← hUP, hup]
  have hPl : P.data.toList.length = P.size := by rw [Array.length_toList]; rfl
  have hUs : UP.size ≤ 140737488355328 := by
    have h1 : UP.size = (upP (P.data.toList ++ [0])).length := by rw [← hUP]; show (upP _).toArray.size = _; rw [List.size_toArray]
    rw [h1]
    unfold upP
    rw [List.length_take, List.length_append]
    simp only [List.length_cons, List.length_nil]
    omega
  have hz1 : (⟨#[0]⟩ : ByteArray).size = 1 := rfl
  have HPA := Lib.hid (fun W => show Calls Tryz.prog 89 #[.string (P ++ ⟨#[0]⟩)] W fun e w' => e = .returned (.string UP) ∧ w' = W from by
    have h1 := vparent_any W (P ++ ⟨#[0]⟩) (by rw [ByteArray.size_append]; omega) (by rw [ByteArray.size_append]; omega)
    rw [app_data, show (⟨#[0]⟩ : ByteArray).data.toList = [0] from rfl, hUP] at h1
    exact h1)
  have HLV := Lib.hid (fun W (hW : LJ w5 W) => vlives_any W vb jb mb l (HVC.out.later hW))
  have HMY := Lib.hid (fun W (q : Nat) (hW : LJ w5 W) (hb : W.heap[q]? = some (.cells #[.string P] 9 (0, 0))) => show Calls Tryz.prog 92 #[.pointer (some ⟨vb, 0, none⟩), .slice (some ⟨q, 0, none⟩) 1 1] W (MadeC W (pathB P.data.toList) 171) from by
    have h1 := vmay_any W vb q 1 1 [P] rfl (by simp) (by intro x hx; rw [List.mem_singleton.1 hx]; omega) (fun j x hj => by
      match j, hj with
      | 0, hj =>
        obtain rfl : P = x := by simpa using hj
        exact cell_blk hb 0)
    simpa using h1)
  have HNO := Lib.hid (fun W (hW : LJ w5 W) => vnone_any W vb jb mb l P P.data.toList rfl (by omega) (HVC.out.later hW))
  have HIS := Lib.hid (fun W (hW : LJ w5 W) => vis_any W vb jb mb l UP up hUd hUs (HVC.out.later hW))
  have HDI := Lib.hid (fun W (hW : LJ w5 W) => vdir_any W vb jb mb l UP up hUd hUs (HVC.out.later hW))
  obtain ⟨B2, hB2⟩ : ∃ b, pathB P.data.toList = b := ⟨_, rfl⟩
  obtain ⟨B3, hB3⟩ : ∃ b, (!(atE l P.data.toList).isSome) = b := ⟨_, rfl⟩
  obtain ⟨B4, hB4⟩ : ∃ b, (atE l up).isSome = b := ⟨_, rfl⟩
  obtain ⟨B5, hB5⟩ : ∃ b, ((atE l up).getD zeroE).d = b := ⟨_, rfl⟩
  rw [hB2] at HMY
  rw [hB3] at HNO
  rw [hB4] at HIS
  rw [hB5] at HDI
  have HWI := Lib.hid (fun W (hW : LJ w5 W) => vwith_any W vb mb jb l P d ⟨#[]⟩ (by omega) (by have := HVJ.out.count; omega) (HVC.out.later hW).blk (HVC.out.later hW).map)
  have HQ0 := Lib.hid hq0
  have HMK := Lib.hid (fun cs K1 K2 K3 K4 K5 c1 c2 c3 c4 c5 hcs => mk_ask l P.data.toList d cs K1 K2 K3 K4 K5 c1 c2 c3 c4 c5 hcs)
  rw [hup, hB2, hB3, hB4, hB5] at HMK
  have HBEC := Lib.hid (fun W (hW : LJ w W) (m : Nat) (hm : EMap W m (putE l ⟨P.data.toList, d, []⟩)) (hge : w.heap.size ≤ m) (hi : VInv (putE l ⟨P.data.toList, d, []⟩)) =>
    vbecomes_any W p b jb vb F J l (putE l ⟨P.data.toList, d, []⟩) (HV.out.later hW) hh hn m hm (fun e => by have := HF.out m e; omega) hi (by have h1 := put_len_le HVJ.out.inv.rise (⟨P.data.toList, d, []⟩ : Ent); have h2 := HVJ.out.count; omega))
  have hcat : ¬ 9223372036854775807 < P.size + (⟨#[0]⟩ : ByteArray).size := by omega
  have l0 : w5.cell? ⟨q0, 0, none⟩ = some (.string P) := cell_blk HB5.out 0
  have HW5 := Lib.hid hw5
  obtain ⟨room, hroom⟩ : ∃ r, J.room' = r := ⟨_, rfl⟩
  rw [hroom] at HBEC ⊢
  clear h hvc hw5 hUP hup hUd hUs hroom hB2 hB3 hB4 hB5
  go_enter Tryz.func100, Tryz.ntmps100
  go_upto_region 1 with fail
  rw [HW5.out]
  clear hq0
  go_upto_region 2 with (first
    | (go_at_call 89; (with_reducible refine (HPA.out _).mono ?_); rintro e w6 ⟨rfl, hw6⟩; have hw6 := hw6.symm; subst hw6)
    | fail)
  clear l0
  go_cut [6] from 11 to 29 (fun v6 wx => ∃ cs K1 K2 K3 K4 K5 c1 c2 c3 c4 c5, cs = [⟨K1, c1, true, 2⟩, ⟨K2, c2, B2, 171⟩, ⟨K3, c3, B3, 173⟩, ⟨K4, c4, B4, 172⟩, ⟨K5, c5, B5, 174⟩] ∧ v6 = .int .i64 (askE cs) ∧ LJ w5 wx)
  case first =>
      refine wp_region_held_drew (S := fun w' => w'.heap[q0]? = some (.cells #[.string P, .bool d, .string ⟨#[]⟩] 74 (0, 0))) (by kernel_rfl) HB5.out (fun hHeld => ?_)
      have hL := Lib.hid (LJ.refl w5).drew
      refine tkS 0 hHeld ?_ (hy := by intro w hSw; have l0 := cell_blk hSw 0; have l1 := cell_blk hSw 1; have l2 := cell_blk hSw 2; go_simp; (try with_reducible rfl))
      refine tkS 2 hHeld ?_ (hy := by intro w hSw; have l0 := cell_blk hSw 0; have l1 := cell_blk hSw 1; have l2 := cell_blk hSw 2; go_simp; (try with_reducible rfl))
      refine tkS 3 hHeld ?_ (hy := by intro w hSw; have l0 := cell_blk hSw 0; have l1 := cell_blk hSw 1; have l2 := cell_blk hSw 2; go_simp; (try with_reducible rfl))
      refine tkS 4 hHeld ?_ (hy := by intro w hSw; have l0 := cell_blk hSw 0; have l1 := cell_blk hSw 1; have l2 := cell_blk hSw 2; go_simp; (try with_reducible rfl))
      refine tkS 7 hHeld ?_ (hy := by intro w hSw; have l0 := cell_blk hSw 0; have l1 := cell_blk hSw 1; have l2 := cell_blk hSw 2; go_simp; (try with_reducible rfl))
      refine tkS 8 hHeld ?_ (hy := by intro w hSw; have l0 := cell_blk hSw 0; have l1 := cell_blk hSw 1; have l2 := cell_blk hSw 2; go_simp; (try with_reducible rfl))
      refine tkS 9 hHeld ?_ (hy := by intro w hSw; have l0 := cell_blk hSw 0; have l1 := cell_blk hSw 1; have l2 := cell_blk hSw 2; go_simp; (try with_reducible rfl))
      refine tkS 11 hHeld ?_ (hy := by intro w hSw; have l0 := cell_blk hSw 0; have l1 := cell_blk hSw 1; have l2 := cell_blk hSw 2; go_simp; (try with_reducible rfl))
      refine tkS 12 hHeld ?_ (hy := by intro w hSw; have l0 := cell_blk hSw 0; have l1 := cell_blk hSw 1; have l2 := cell_blk hSw 2; go_simp; (try with_reducible rfl))
      refine tkS 14 hHeld ?_ (hy := by intro w hSw; have l0 := cell_blk hSw 0; have l1 := cell_blk hSw 1; have l2 := cell_blk hSw 2; go_simp; (try with_reducible rfl))
      refine tkS 15 hHeld ?_ (hy := by intro w hSw; have l0 := cell_blk hSw 0; have l1 := cell_blk hSw 1; have l2 := cell_blk hSw 2; go_simp; (try with_reducible rfl))
      refine wpAnyH_ready (rs := [1, 5]) (by kernel_rfl) (by simp) ?_
      refine AllReadyH.cons rfl (fun K hK => ?_) (AllReadyH.cons rfl (fun K hK => ?_) AllReadyH.nil)
      · go_simp
        (with_reducible refine (HLV.out _ hL.out).mono ?_); rintro e wx ⟨Kl, cl, rfl, hk, hx⟩
        have hL := Lib.hid (hL.out.trans hx)
        have HKl := Lib.hid hk
        have hS2 := hx.block hHeld
        clear hx hk
        refine hK.out _ _ hS2 (fun hHeld => ?_)
        clear hK K hS2
        refine wpAnyH_ready (rs := [5]) (by kernel_rfl) (by simp) ?_
        refine AllReadyH.cons rfl (fun K hK => ?_) AllReadyH.nil
        go_simp
        obtain ⟨q, hq⟩ : ∃ q, wx.heap.size = q := ⟨_, rfl⟩
        obtain ⟨wq, hwq⟩ : ∃ wq, (wx.alloc (.cells #[.string P] 9)) = wq := ⟨_, rfl⟩
        have hx : LJ wx wq := by rw [← hwq]; exact ((LJ.refl _).alloc _)
        have HQB := Lib.hid (show wq.heap[q]? = some (.cells #[.string P] 9 (0, 0)) from by rw [← hwq, ← hq]; exact alloc_blk _ _)
        have hL := Lib.hid (hL.out.trans hx)
        have HKl := Lib.hid (HKl.out.later hx)
        have hS2 := hx.block hHeld
        rw [hq, hwq]
        clear hq hwq hx
        refine hK.out _ _ hS2 (fun hHeld => ?_)
        clear hK K hS2
        refine wpAnyH_ready (rs := [6]) (by kernel_rfl) (by simp) ?_
        refine AllReadyH.cons rfl (fun K hK => ?_) AllReadyH.nil
        have HMYW := Lib.hid (fun W (hW : LJ _ W) (hb : W.heap[q]? = _) => HMY.out W q hW hb)
        go_simp
        (with_reducible refine (HMYW.out _ hL.out HQB.out).mono ?_); rintro e wx ⟨Km, cm, rfl, hk, hx⟩
        have hL := Lib.hid (hL.out.trans hx)
        have HKl := Lib.hid (HKl.out.later hx)
        have HKm := Lib.hid hk
        have hS2 := hx.block hHeld
        clear hx hk HMYW
        refine hK.out _ _ hS2 (fun hHeld => ?_)
        clear hK K hS2
        refine wpAnyH_ready (rs := [10]) (by kernel_rfl) (by simp) ?_
        refine AllReadyH.cons rfl (fun K hK => ?_) AllReadyH.nil
        go_simp
        (with_reducible refine (HNO.out _ hL.out).mono ?_); rintro e wx ⟨Kn, cn, rfl, hk, hx⟩
        have hL := Lib.hid (hL.out.trans hx)
        have HKl := Lib.hid (HKl.out.later hx)
        have HKm := Lib.hid (HKm.out.later hx)
        have HKn := Lib.hid hk
        have hS2 := hx.block hHeld
        clear hx hk
        refine hK.out _ _ hS2 (fun hHeld => ?_)
        clear hK K hS2
        refine wpAnyH_ready (rs := [13]) (by kernel_rfl) (by simp) ?_
        refine AllReadyH.cons rfl (fun K hK => ?_) AllReadyH.nil
        go_simp
        (with_reducible refine (HIS.out _ hL.out).mono ?_); rintro e wx ⟨Ki, ci, rfl, hk, hx⟩
        have hL := Lib.hid (hL.out.trans hx)
        have HKl := Lib.hid (HKl.out.later hx)
        have HKm := Lib.hid (HKm.out.later hx)
        have HKn := Lib.hid (HKn.out.later hx)
        have HKi := Lib.hid hk
        have hS2 := hx.block hHeld
        clear hx hk
        refine hK.out _ _ hS2 (fun hHeld => ?_)
        clear hK K hS2
        refine wpAnyH_ready (rs := [16]) (by kernel_rfl) (by simp) ?_
        refine AllReadyH.cons rfl (fun K hK => ?_) AllReadyH.nil
        go_simp
        (with_reducible refine (HDI.out _ hL.out).mono ?_); rintro e wx ⟨Kd, cd, rfl, hk, hx⟩
        have hL := Lib.hid (hL.out.trans hx)
        have HKl := Lib.hid (HKl.out.later hx)
        have HKm := Lib.hid (HKm.out.later hx)
        have HKn := Lib.hid (HKn.out.later hx)
        have HKi := Lib.hid (HKi.out.later hx)
        have HKd := Lib.hid hk
        have hS2 := hx.block hHeld
        clear hx hk
        refine hK.out _ _ hS2 (fun hHeld => ?_)
        clear hK K hS2
        refine wpAnyH_ready (rs := [17]) (by kernel_rfl) (by simp) ?_
        refine AllReadyH.cons rfl (fun K hK => ?_) AllReadyH.nil
        go_simp
        obtain ⟨r, hr⟩ : ∃ r, wx.heap.size = r := ⟨_, rfl⟩
        obtain ⟨wr, hwr⟩ : ∃ wr, wx.alloc (.cells #[.func (.func Kl) #[] cl, .int .i64 2, .func (.func Km) #[] cm, .int .i64 171, .func (.func Kn) #[] cn, .int .i64 173, .func (.func Ki) #[] ci, .int .i64 172, .func (.func Kd) #[] cd, .int .i64 174] 146) = wr := ⟨_, rfl⟩
        have hx : LJ wx wr := by rw [← hwr]; exact (LJ.refl _).alloc _
        have HRB := Lib.hid (show wr.heap[r]? = some (.cells (chkRow [⟨Kl, cl, true, 2⟩, ⟨Km, cm, B2, 171⟩, ⟨Kn, cn, B3, 173⟩, ⟨Ki, ci, B4, 172⟩, ⟨Kd, cd, B5, 174⟩]).toArray 146 (0, 0)) from by rw [← hwr, ← hr]; exact alloc_blk _ _)
        have hL := Lib.hid (hL.out.trans hx)
        have HKl := Lib.hid (HKl.out.later hx)
        have HKm := Lib.hid (HKm.out.later hx)
        have HKn := Lib.hid (HKn.out.later hx)
        have HKi := Lib.hid (HKi.out.later hx)
        have HKd := Lib.hid (HKd.out.later hx)
        have hS2 := hx.block hHeld
        rw [hr, hwr]
        clear hr hwr hx
        refine hK.out _ _ hS2 (fun hHeld => ?_)
        clear hK K hS2
        have HASK := Lib.hid (asked_any wr [⟨Kl, cl, true, 2⟩, ⟨Km, cm, B2, 171⟩, ⟨Kn, cn, B3, 173⟩, ⟨Ki, ci, B4, 172⟩, ⟨Kd, cd, B5, 174⟩] r 5 5 rfl (by omega) (fun j c hj => chk_at HRB.out j c hj) (by intro c hc; simp only [List.mem_cons, List.not_mem_nil, or_false] at hc; rcases hc with rfl | rfl | rfl | rfl | rfl; exact HKl.out; exact HKm.out; exact HKn.out; exact HKi.out; exact HKd.out))
        refine wpAnyH_ready (rs := [18]) (by kernel_rfl) (by simp) ?_
        refine AllReadyH.cons rfl (fun K hK => ?_) AllReadyH.nil
        go_simp
        (with_reducible refine HASK.out.mono ?_); rintro e wz ⟨rfl, hx⟩
        have hL := Lib.hid (hL.out.trans hx)
        have hS2 := hx.block hHeld
        clear hx
        refine hK.out _ _ hS2 (fun hHeld => ?_)
        clear hK K hS2
        refine tkS 19 hHeld ?_
        refine wpAnyH_done (by kernel_rfl) ?_ _
        go_wp2_with fail
        go_meet
        case rel => exact ⟨_, Kl, Km, Kn, Ki, Kd, cl, cm, cn, ci, cd, rfl, rfl, hL.out⟩
      · go_simp
        obtain ⟨q, hq⟩ : ∃ q, w5.heap.size = q := ⟨_, rfl⟩
        obtain ⟨wq, hwq⟩ : ∃ wq, (w5.alloc (.cells #[.string P] 9)).drew = wq := ⟨_, rfl⟩
        have hx : LJ w5 wq := by rw [← hwq]; exact ((LJ.refl _).alloc _).drew
        have HQB := Lib.hid (show wq.heap[q]? = some (.cells #[.string P] 9 (0, 0)) from by rw [← hwq, ← hq]; exact alloc_blk _ _)
        have hL := Lib.hid (hx)
        have hS2 := hx.block hHeld
        rw [hq, hwq]
        clear hq hwq hx
        refine hK.out _ _ hS2 (fun hHeld => ?_)
        clear hK K hS2
        refine wpAnyH_ready (rs := [1]) (by kernel_rfl) (by simp) ?_
        refine AllReadyH.cons rfl (fun K hK => ?_) AllReadyH.nil
        go_simp
        (with_reducible refine (HLV.out _ hL.out).mono ?_); rintro e wx ⟨Kl, cl, rfl, hk, hx⟩
        have hL := Lib.hid (hL.out.trans hx)
        have HQB := Lib.hid (hx.block HQB.out)
        have HKl := Lib.hid hk
        have hS2 := hx.block hHeld
        clear hx hk
        refine hK.out _ _ hS2 (fun hHeld => ?_)
        clear hK K hS2
        refine wpAnyH_ready (rs := [6]) (by kernel_rfl) (by simp) ?_
        refine AllReadyH.cons rfl (fun K hK => ?_) AllReadyH.nil
        have HMYW := Lib.hid (fun W (hW : LJ _ W) (hb : W.heap[q]? = _) => HMY.out W q hW hb)
        go_simp
        (with_reducible refine (HMYW.out _ hL.out HQB.out).mono ?_); rintro e wx ⟨Km, cm, rfl, hk, hx⟩
        have hL := Lib.hid (hL.out.trans hx)
        have HKl := Lib.hid (HKl.out.later hx)
        have HKm := Lib.hid hk
        have hS2 := hx.block hHeld
        clear hx hk HMYW
        refine hK.out _ _ hS2 (fun hHeld => ?_)
        clear hK K hS2
        refine wpAnyH_ready (rs := [10]) (by kernel_rfl) (by simp) ?_
        refine AllReadyH.cons rfl (fun K hK => ?_) AllReadyH.nil
        go_simp
        (with_reducible refine (HNO.out _ hL.out).mono ?_); rintro e wx ⟨Kn, cn, rfl, hk, hx⟩
        have hL := Lib.hid (hL.out.trans hx)
        have HKl := Lib.hid (HKl.out.later hx)
        have HKm := Lib.hid (HKm.out.later hx)
        have HKn := Lib.hid hk
        have hS2 := hx.block hHeld
        clear hx hk
        refine hK.out _ _ hS2 (fun hHeld => ?_)
        clear hK K hS2
        refine wpAnyH_ready (rs := [13]) (by kernel_rfl) (by simp) ?_
        refine AllReadyH.cons rfl (fun K hK => ?_) AllReadyH.nil
        go_simp
        (with_reducible refine (HIS.out _ hL.out).mono ?_); rintro e wx ⟨Ki, ci, rfl, hk, hx⟩
        have hL := Lib.hid (hL.out.trans hx)
        have HKl := Lib.hid (HKl.out.later hx)
        have HKm := Lib.hid (HKm.out.later hx)
        have HKn := Lib.hid (HKn.out.later hx)
        have HKi := Lib.hid hk
        have hS2 := hx.block hHeld
        clear hx hk
        refine hK.out _ _ hS2 (fun hHeld => ?_)
        clear hK K hS2
        refine wpAnyH_ready (rs := [16]) (by kernel_rfl) (by simp) ?_
        refine AllReadyH.cons rfl (fun K hK => ?_) AllReadyH.nil
        go_simp
        (with_reducible refine (HDI.out _ hL.out).mono ?_); rintro e wx ⟨Kd, cd, rfl, hk, hx⟩
        have hL := Lib.hid (hL.out.trans hx)
        have HKl := Lib.hid (HKl.out.later hx)
        have HKm := Lib.hid (HKm.out.later hx)
        have HKn := Lib.hid (HKn.out.later hx)
        have HKi := Lib.hid (HKi.out.later hx)
        have HKd := Lib.hid hk
        have hS2 := hx.block hHeld
        clear hx hk
        refine hK.out _ _ hS2 (fun hHeld => ?_)
        clear hK K hS2
        refine wpAnyH_ready (rs := [17]) (by kernel_rfl) (by simp) ?_
        refine AllReadyH.cons rfl (fun K hK => ?_) AllReadyH.nil
        go_simp
        obtain ⟨r, hr⟩ : ∃ r, wx.heap.size = r := ⟨_, rfl⟩
        obtain ⟨wr, hwr⟩ : ∃ wr, wx.alloc (.cells #[.func (.func Kl) #[] cl, .int .i64 2, .func (.func Km) #[] cm, .int .i64 171, .func (.func Kn) #[] cn, .int .i64 173, .func (.func Ki) #[] ci, .int .i64 172, .func (.func Kd) #[] cd, .int .i64 174] 146) = wr := ⟨_, rfl⟩
        have hx : LJ wx wr := by rw [← hwr]; exact (LJ.refl _).alloc _
        have HRB := Lib.hid (show wr.heap[r]? = some (.cells (chkRow [⟨Kl, cl, true, 2⟩, ⟨Km, cm, B2, 171⟩, ⟨Kn, cn, B3, 173⟩, ⟨Ki, ci, B4, 172⟩, ⟨Kd, cd, B5, 174⟩]).toArray 146 (0, 0)) from by rw [← hwr, ← hr]; exact alloc_blk _ _)
        have hL := Lib.hid (hL.out.trans hx)
        have HKl := Lib.hid (HKl.out.later hx)
        have HKm := Lib.hid (HKm.out.later hx)
        have HKn := Lib.hid (HKn.out.later hx)
        have HKi := Lib.hid (HKi.out.later hx)
        have HKd := Lib.hid (HKd.out.later hx)
        have hS2 := hx.block hHeld
        rw [hr, hwr]
        clear hr hwr hx
        refine hK.out _ _ hS2 (fun hHeld => ?_)
        clear hK K hS2
        have HASK := Lib.hid (asked_any wr [⟨Kl, cl, true, 2⟩, ⟨Km, cm, B2, 171⟩, ⟨Kn, cn, B3, 173⟩, ⟨Ki, ci, B4, 172⟩, ⟨Kd, cd, B5, 174⟩] r 5 5 rfl (by omega) (fun j c hj => chk_at HRB.out j c hj) (by intro c hc; simp only [List.mem_cons, List.not_mem_nil, or_false] at hc; rcases hc with rfl | rfl | rfl | rfl | rfl; exact HKl.out; exact HKm.out; exact HKn.out; exact HKi.out; exact HKd.out))
        refine wpAnyH_ready (rs := [18]) (by kernel_rfl) (by simp) ?_
        refine AllReadyH.cons rfl (fun K hK => ?_) AllReadyH.nil
        go_simp
        (with_reducible refine HASK.out.mono ?_); rintro e wz ⟨rfl, hx⟩
        have hL := Lib.hid (hL.out.trans hx)
        have hS2 := hx.block hHeld
        clear hx
        refine hK.out _ _ hS2 (fun hHeld => ?_)
        clear hK K hS2
        refine tkS 19 hHeld ?_
        refine wpAnyH_done (by kernel_rfl) ?_ _
        go_wp2_with fail
        go_meet
        case rel => exact ⟨_, Kl, Km, Kn, Ki, Kd, cl, cm, cn, ci, cd, rfl, rfl, hL.out⟩
  case rest =>
    obtain ⟨cs, K1, K2, K3, K4, K5, c1, c2, c3, c4, c5, hcs, rfl, hlc⟩ := hcut
    have HLC := Lib.hid hlc
    have HBC := Lib.hid (hlc.block HB5.out)
    have HWX := Lib.hid (HL5.out.trans hlc)
    have hmk := HMK.out cs K1 K2 K3 K4 K5 c1 c2 c3 c4 c5 hcs
    obtain ⟨E, hE⟩ : ∃ E, askE cs = E := ⟨_, rfl⟩
    rw [hE] at hmk ⊢
    clear hcs hE hlc
    rcases hmk with ⟨hne, hm⟩ | ⟨h0, hm, hvi⟩
    · have HM := Lib.hid (hm room)
      have hneb : (E != 0) = true := by simpa using hne
      have HNE := Lib.hid hne
      clear hm
      go_wp2_with fail
      go_ret
      rw [HM.out]
      have hja : J.ans l (E, l) = J := if_neg HNE.out
      rw [hja]
      exact ⟨rfl, VOut.same HV.out HWX.out⟩
    · subst h0
      have HM := Lib.hid (hm room)
      have HVI := Lib.hid (hvi HVJ.out.inv)
      have HWI2 := Lib.hid (HWI.out wc HLC.out)
      have l0 := cell_blk HBC.out 0
      have l1 := cell_blk HBC.out 1
      have l2 := cell_blk HBC.out 2
      clear hm hvi
      go_wp2_with (first
        | (go_at_call 103; (with_reducible refine HWI2.out.mono ?_); rintro e w7 ⟨m, rfl, hm7, hge7, hl7⟩; have HM7 := Lib.hid (show EMap w7 m (putE l ⟨P.data.toList, d, []⟩) from hm7); have HGE := Lib.hid (show w.heap.size ≤ m from Nat.le_trans (Below.size HWX.out) hge7); have HL7 := Lib.hid (HWX.out.trans hl7); have HBE := Lib.hid (HBEC.out w7 HL7.out m HM7.out HGE.out HVI.out); clear hm7 hge7 hl7)
        | (go_at_call 99; (with_reducible refine HBE.out.mono ?_); rintro e w8 ⟨rfl, hv8, ho8⟩; have HV8 := Lib.hid hv8; have HO8 := Lib.hid ho8; clear hv8 ho8)
        | fail)
      go_ret
      rw [HM.out]
      exact ⟨rfl, VOut.bec HF.out HL7.out HGE.out HM7.out.lt HV8.out HO8.out⟩
end Go.Proofs.YtfpbocjmlhcgiaaGreatDoor
/- The volume's Mkdir, Create, Write. -/
namespace Go.Proofs.YtfpbocjmlhcgiaaGreatDoor
open Go.RowKit PJ Go.Maps Go.WideMaps Go.Shelf

set_option maxRecDepth 100000 in
theorem vmkdir_any (w : World) (p b jb vb : Nat) (F : Nat → Prop) (J : Jn) (l : List Ent) (h : VAt w p b jb vb F J l) (hh : J.head < 4611686018427387904) (hn : J.next < 4611686018427387904) (P : ByteArray) (hP : P.size < 4294967280) :
    Calls Tryz.prog 84 #[.pointer (some ⟨vb, 0, none⟩), .string P] w fun e w' => e = .returned (.int .i64 (mkE J.room' l P.data.toList true).1) ∧ VOut w p b jb vb F (J.ans l (mkE J.room' l P.data.toList true)) (mkE J.room' l P.data.toList true).2 w' := by
  have HM := Lib.hid (vmakes_any w p b jb vb F J l h hh hn P true hP)
  obtain ⟨A, hA⟩ : ∃ A, mkE J.room' l P.data.toList true = A := ⟨_, rfl⟩
  rw [hA] at HM ⊢
  clear h hA
  go_enter Tryz.func84, Tryz.ntmps84
  go_wp2_with (first
    | (go_at_call 100; (with_reducible refine HM.out.mono ?_); rintro e w1 ⟨rfl, ho1⟩; have HO1 := Lib.hid ho1; clear ho1)
    | fail)
  go_ret
  exact ⟨rfl, HO1.out⟩
set_option maxRecDepth 100000 in
theorem vcreate_any (w : World) (p b jb vb : Nat) (F : Nat → Prop) (J : Jn) (l : List Ent) (h : VAt w p b jb vb F J l) (hh : J.head < 4611686018427387904) (hn : J.next < 4611686018427387904) (P : ByteArray) (hP : P.size < 4294967280) :
    Calls Tryz.prog 37 #[.pointer (some ⟨vb, 0, none⟩), .string P] w fun e w' => e = .returned (.int .i64 (mkE J.room' l P.data.toList false).1) ∧ VOut w p b jb vb F (J.ans l (mkE J.room' l P.data.toList false)) (mkE J.room' l P.data.toList false).2 w' := by
  have HM := Lib.hid (vmakes_any w p b jb vb F J l h hh hn P false hP)
  obtain ⟨A, hA⟩ : ∃ A, mkE J.room' l P.data.toList false = A := ⟨_, rfl⟩
  rw [hA] at HM ⊢
  clear h hA
  go_enter Tryz.func37, Tryz.ntmps37
  go_wp2_with (first
    | (go_at_call 100; (with_reducible refine HM.out.mono ?_); rintro e w1 ⟨rfl, ho1⟩; have HO1 := Lib.hid ho1; clear ho1)
    | fail)
  go_ret
  exact ⟨rfl, HO1.out⟩
def inB (a : Int) (n : Nat) : Bool := decide (0 ≤ a) && decide (a ≤ (n : Int))
set_option maxRecDepth 100000 in
theorem vwrite1_any (w : World) (q6 q9 : Nat) (a : Int) (P D : ByteArray) (d : Bool) (h1 : w.cell? ⟨q6, 0, none⟩ = some (.int .i64 a)) (h2 : w.heap[q9]? = some (.cells #[.string P, .bool d, .string D] 74 (0, 0))) :
    Calls Tryz.prog 101 #[.pointer (some ⟨q6, 0, none⟩), .pointer (some ⟨q9, 0, none⟩)] w fun e w' => e = .returned (.bool (inB a D.size)) ∧ LJ w w' := by
  have c2 : w.cell? ⟨q9, 2, none⟩ = some (.string D) := cell_blk h2 2
  clear h2
  by_cases h0 : 0 ≤ a
  · by_cases h3 : a ≤ (D.size : Int)
    · have HX := Lib.hid (show inB a D.size = true from by unfold inB; rw [decide_eq_true h0, decide_eq_true h3]; rfl)
      rw [HX.out]
      go_enter Tryz.func101, Tryz.ntmps101
      go_wp2_with fail
      go_ret
      exact ⟨rfl, LJ.refl _⟩
    · have HX := Lib.hid (show inB a D.size = false from by unfold inB; rw [decide_eq_false h3, Bool.and_false])
      rw [HX.out]
      go_enter Tryz.func101, Tryz.ntmps101
      go_wp2_with fail
      go_ret
      exact ⟨rfl, LJ.refl _⟩
  · have HX := Lib.hid (show inB a D.size = false from by unfold inB; rw [decide_eq_false h0, Bool.false_and])
    rw [HX.out]
    go_enter Tryz.func101, Tryz.ntmps101
    go_wp2_with fail
    go_ret
    exact ⟨rfl, LJ.refl _⟩
set_option maxRecDepth 100000 in
theorem vwrite2_any (w : World) (q7 q6 : Nat) (a : Int) (S : ByteArray) (h1 : w.cell? ⟨q6, 0, none⟩ = some (.int .i64 a)) (h2 : w.cell? ⟨q7, 0, none⟩ = some (.string S)) :
    Calls Tryz.prog 102 #[.pointer (some ⟨q7, 0, none⟩), .pointer (some ⟨q6, 0, none⟩)] w fun e w' => e = .returned (.bool (decide ((S.size : Int) ≤ IntKind.i64.wrap (1024 - a)))) ∧ LJ w w' := by
  obtain ⟨m, hm⟩ : ∃ m, IntKind.i64.wrap (1024 - a) = m := ⟨_, rfl⟩
  rw [hm]
  by_cases h3 : (S.size : Int) ≤ m
  · rw [decide_eq_true h3]
    go_enter Tryz.func102, Tryz.ntmps102
    go_wp2_with fail
    go_ret
    exact ⟨rfl, LJ.refl _⟩
  · rw [decide_eq_false h3]
    go_enter Tryz.func102, Tryz.ntmps102
    go_wp2_with fail
    go_ret
    exact ⟨rfl, LJ.refl _⟩
end Go.Proofs.YtfpbocjmlhcgiaaGreatDoor
