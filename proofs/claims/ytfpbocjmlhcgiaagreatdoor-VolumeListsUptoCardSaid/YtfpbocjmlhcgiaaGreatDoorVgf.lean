/- Vgf, merged: VN11 VN12. -/
import Derived.Test.YtfpbocjmlhcgiaaGreatDoorVge
import Derived.Test.YtfpbocjmlhcgiaaGreatDoorVgc
import Derived.Test.YtfpbocjmlhcgiaaGreatDoorCLb
set_option linter.unusedSimpArgs false
set_option linter.unusedVariables false
/- A volume's calls, among other things in memory. -/
namespace Go.Proofs.YtfpbocjmlhcgiaaGreatDoor
open Go.RowKit PJ Go.Maps

theorem vk_entries {w W : World} {K : Nat → Prop} {p b jb vb : Nat} {J : Jn} {l : List Ent} {B : Nat} (h : VK w W K p b jb vb J l B) :
    Calls Tryz.prog 33 #[.pointer (some ⟨vb, 0, none⟩)] W fun e w' => ∃ a cap, e = .returned (.slice a l.length cap) ∧ EntSl w' (.slice a l.length cap) l ∧ LJ W w' ∧ VK w w' (fun q => K q ∨ (Value.slice a l.length cap).ownBlock = some q) p b jb vb J l B := by
  obtain ⟨F, h1, -⟩ := id h
  obtain ⟨mb, hvc⟩ := h1.vc
  have hc := h1.vj.count
  refine (ventries_any W vb jb mb l hvc h1.vj.inv (by omega)).mono ?_
  rintro e w' ⟨a, cap, rfl, ho, hl⟩
  refine ⟨a, cap, rfl, own_ents ho, hl, h.more hl ?_⟩
  rintro q (hq | hq)
  · exact .inl hq
  · rcases ho.2 with ⟨e1, -⟩ | ⟨g, cap', cur, e1, e2, e3, -⟩
    · rw [e1] at hq; cases hq
    · rw [e1] at hq
      have hq' : g = q := Option.some.inj hq
      subst hq'
      exact .inr ⟨e2, lt_blk e3⟩
theorem vk_free {w W : World} {K : Nat → Prop} {p b jb vb : Nat} {J : Jn} {l : List Ent} {B : Nat} (h : VK w W K p b jb vb J l B) :
    Calls Tryz.prog 45 #[.pointer (some ⟨vb, 0, none⟩)] W fun e w' => e = .returned (.int .i64 ((J.room' - (imageE l).length : Nat) : Int)) ∧ LJ W w' := by
  obtain ⟨F, h1, -⟩ := id h
  exact vfree_any W p b jb vb F J l h1
theorem vk_stat {w W : World} {K : Nat → Prop} {p b jb vb : Nat} {J : Jn} {l : List Ent} {B : Nat} (h : VK w W K p b jb vb J l B) (P : ByteArray) (hP : P.size ≤ 1048576) :
    Calls Tryz.prog 40 #[.pointer (some ⟨vb, 0, none⟩), .string P] W fun e w' => e = .returned (.tuple #[.bool (stE l P.data.toList).1, .int .i64 ((stE l P.data.toList).2.1 : Int), .int .i64 (stE l P.data.toList).2.2]) ∧ LJ W w' := by
  obtain ⟨F, h1, -⟩ := id h
  exact vstat_any W p b jb vb F J l h1 P (by omega)
theorem vk_read {w W : World} {K : Nat → Prop} {p b jb vb : Nat} {J : Jn} {l : List Ent} {B : Nat} (h : VK w W K p b jb vb J l B) (P : ByteArray) (hP : P.size ≤ 1048576) (a n : Int) (hn : n ≤ 9223372036854775807) :
    Calls Tryz.prog 39 #[.pointer (some ⟨vb, 0, none⟩), .string P, .int .i64 a, .int .i64 n] W fun e w' => e = .returned (.tuple #[.string ⟨(rdE l P.data.toList a n).1.toArray⟩, .int .i64 (rdE l P.data.toList a n).2]) ∧ LJ W w' := by
  obtain ⟨F, h1, -⟩ := id h
  exact vreads_any W p b jb vb F J l h1 P (by omega) a n hn
theorem vk_list {w W : World} {K : Nat → Prop} {p b jb vb : Nat} {J : Jn} {l : List Ent} {B : Nat} (h : VK w W K p b jb vb J l B) (P : ByteArray) (hP : P.size ≤ 1048576) :
    Calls Tryz.prog 43 #[.pointer (some ⟨vb, 0, none⟩), .string P] W fun e w' => ∃ v, e = .returned (.tuple #[v, .int .i64 (lsE l P.data.toList).2]) ∧ SLs w' v (lsE l P.data.toList).1 ∧ LJ W w' := by
  obtain ⟨F, h1, -⟩ := id h
  exact vlist_any W p b jb vb F J l h1 P (by omega)
theorem vk_image {w W : World} {K : Nat → Prop} {p b jb vb : Nat} {J : Jn} {l : List Ent} {B : Nat} (h : VK w W K p b jb vb J l B) :
    Calls Tryz.prog 26 #[.pointer (some ⟨p, 0, none⟩)] W fun e w' => e = .returned (.string ⟨(imgV J.n J.V).toArray⟩) ∧ LJ W w' := by
  obtain ⟨F, h1, -⟩ := id h
  obtain ⟨mb, FJ, hj, -⟩ := h1
  obtain ⟨a, rfl, rfl, rfl, e4, e5, dt, hc, hok, hdt⟩ := hj
  obtain ⟨safe, U, cv, misses, ks, hd⟩ := hc.dev
  refine (dimage_any W a.p a.g a.mb a.n safe U hd.disk hd.keys).mono ?_
  rintro e w' ⟨rfl, hl⟩
  rw [imgV_congr (V' := J.V) (fun i hi => (hd.views i hi).1), e4]
  exact ⟨rfl, hl⟩
theorem vk_rename {w W : World} {K : Nat → Prop} {p b jb vb : Nat} {J : Jn} {l : List Ent} {B : Nat} (h : VK w W K p b jb vb J l B) (hB : B < 2305843009213693952) (P Q : ByteArray) (hP : P.size ≤ 1048576) (hQ : Q.size ≤ 1048576) :
    Calls Tryz.prog 34 #[.pointer (some ⟨vb, 0, none⟩), .string P, .string Q] W fun e w' => e = .returned (.int .i64 (rnE J.room' l P.data.toList Q.data.toList).1) ∧ VK w w' K p b jb vb (J.ans l (rnE J.room' l P.data.toList Q.data.toList)) (rnE J.room' l P.data.toList Q.data.toList).2 (B + 1) ∧ KeptK K W w' := by
  have hb := h.bd
  exact h.call fun F hv => vrename_any W p b jb vb F J l hv (by omega) (by omega) P Q (by omega) (by omega)
theorem EntSl.kept {w w' : World} {v : Value} {l : List Ent} (h : EntSl w v l) {K : Nat → Prop} (hk : KeptK K w w') (hK : ∀ q, v.ownBlock = some q → K q) : EntSl w' v l := by
  rcases h with h | ⟨g, cap, h1, h2, h3, h4⟩
  · exact .inl h
  · have e : w'.heap[g]? = w.heap[g]? := hk g (hK g (by rw [h1]; rfl))
    refine .inr ⟨g, cap, h1, h2, ?_, fun j u hu => ?_⟩
    · rw [Array.getElem?_eq_getElem h3] at e
      exact (Array.getElem?_eq_some_iff.1 e).1
    · have := h4 j u hu
      unfold World.cell? at this ⊢
      rw [e]
      exact this
theorem VK.less {w W : World} {K K' : Nat → Prop} {p b jb vb : Nat} {J : Jn} {l : List Ent} {B : Nat} (h : VK w W K p b jb vb J l B) (hK : ∀ q, K' q → K q) : VK w W K' p b jb vb J l B := by
  obtain ⟨F, h1, h2, h3, h4⟩ := h
  exact ⟨F, h1, h2, fun q hq => h3 q (hK q hq), h4⟩
end Go.Proofs.YtfpbocjmlhcgiaaGreatDoor
/- The law's Does: a call of a script. -/
namespace Go.Proofs.YtfpbocjmlhcgiaaGreatDoor
open Go.RowKit PJ Go.Maps

/-- What Does leaves. -/
def DoesO (w W : World) (K : Nat → Prop) (p b jb vb : Nat) (J : Jn) (l : List Ent) (B : Nat) (A : Ans) (e : Ending) (w' : World) : Prop :=
  e = .returned (.int .i64 A.1) ∧ VK w w' K p b jb vb (J.ans l A) A.2 (B + 1) ∧ KeptK K W w'
set_option maxRecDepth 100000 in
set_option maxHeartbeats 4000000 in
theorem ldoes_any {w W : World} {K : Nat → Prop} {p b jb vb : Nat} {J : Jn} {l : List Ent} {B : Nat} (h : VK w W K p b jb vb J l B) (hB : B < 2305843009213693952) (on kd a bb : Int) (P Q : ByteArray) (ca : Option Addr) (cn cc : Nat) (hP : P.size ≤ 1048576) (hQ : Q.size ≤ 1048576) :
    Calls Tryz.prog 32 #[.pointer (some ⟨vb, 0, none⟩), .agg #[.int .i64 on, .int .i64 kd, .int .i64 a, .int .i64 bb, .string P, .string Q, .slice ca cn cc]] W (DoesO w W K p b jb vb J l B (doE J.room' l kd a bb P Q)) := by
  obtain ⟨w1, hw1⟩ : ∃ w1, W.alloc (.cells #[.int .i64 on, .int .i64 kd, .int .i64 a, .int .i64 bb, .string P, .string Q, .slice ca cn cc] 66) = w1 := ⟨_, rfl⟩
  obtain ⟨q, hq⟩ : ∃ q, W.heap.size = q := ⟨_, rfl⟩
  have hb : w1.heap[q]? = some (.cells #[.int .i64 on, .int .i64 kd, .int .i64 a, .int .i64 bb, .string P, .string Q, .slice ca cn cc] 66 (0, 0)) := by rw [← hw1, ← hq]; exact alloc_blk W _
  have hl1 : LJ W w1 := by rw [← hw1]; exact (LJ.refl W).alloc _
  have k1 : w1.cell? ⟨q, 1, none⟩ = some (.int .i64 kd) := cell_blk hb 1
  have k4 : w1.cell? ⟨q, 4, none⟩ = some (.string P) := cell_blk hb 4
  have k5 : w1.cell? ⟨q, 5, none⟩ = some (.string Q) := cell_blk hb 5
  have HKP := Lib.hid (show KeptK K W w1 from h.elim fun F h => fun q hq => Below.block hl1 q (h.2.2.1 q hq).2)
  have HV := Lib.hid (h.later hl1)
  have hqs : q < w1.heap.size := lt_blk hb
  have HVQ := Lib.hid (show VK w w1 (fun x => K x ∨ x = q) p b jb vb J l B from h.more hl1 (by rintro x (hx | rfl); exact .inl hx; exact .inr ⟨by omega, hqs⟩))
  have hbd := h.bd
  obtain ⟨DD, hDD⟩ : ∃ D, dataE Q bb = D := ⟨_, rfl⟩
  have hDs : DD.size ≤ 1048576 := by have := dataE_size Q bb; rw [hDD] at this; omega
  have HW1 := Lib.hid hw1
  have HQ := Lib.hid hq
  have HBK := Lib.hid hb
  have HMK := Lib.hid (show Calls Tryz.prog 84 #[.pointer (some ⟨vb, 0, none⟩), .string P] w1 _ from HV.out.call (a := mkE J.room' l P.data.toList true) fun F hv => vmkdir_any w1 p b jb vb F J l hv (by omega) (by omega) P (by omega))
  have HCR := Lib.hid (show Calls Tryz.prog 37 #[.pointer (some ⟨vb, 0, none⟩), .string P] w1 _ from HV.out.call (a := mkE J.room' l P.data.toList false) fun F hv => vcreate_any w1 p b jb vb F J l hv (by omega) (by omega) P (by omega))
  have HWR := Lib.hid (fun W2 (hW : LJ w1 W2) => show Calls Tryz.prog 38 #[.pointer (some ⟨vb, 0, none⟩), .string P, .int .i64 a, .string DD] W2 _ from (HVQ.out.later hW).call (a := wrE J.room' l P.data.toList a DD.data.toList) fun F hv => vwrite_any W2 p b jb vb F J l hv (by omega) (by omega) P (by omega) a DD (by omega))
  have HRM := Lib.hid (show Calls Tryz.prog 85 #[.pointer (some ⟨vb, 0, none⟩), .string P] w1 _ from HV.out.call (a := rmE J.room' l P.data.toList) fun F hv => vremove_any w1 p b jb vb F J l hv (by omega) (by omega) P (by omega))
  have HRN := Lib.hid (show Calls Tryz.prog 34 #[.pointer (some ⟨vb, 0, none⟩), .string P, .string Q] w1 _ from HV.out.call (a := rnE J.room' l P.data.toList Q.data.toList) fun F hv => vrename_any w1 p b jb vb F J l hv (by omega) (by omega) P Q (by omega) (by omega))
  have HDA := Lib.hid (fun W2 => show Calls Tryz.prog 46 #[.agg #[.int .i64 on, .int .i64 kd, .int .i64 a, .int .i64 bb, .string P, .string Q, .slice ca cn cc]] W2 fun e w' => e = .returned (.string DD) ∧ LJ W2 w' from by rw [← hDD]; exact ldata_any W2 on kd a bb P Q _ (by omega))
  have HFIN := Lib.hid (fun A (hA : doE J.room' l kd a bb P Q = A) w' (h3 : VK w w' K p b jb vb (J.ans l A) A.2 (B + 1) ∧ ∃ W2, KeptK K W W2 ∧ KeptK K W2 w') => show DoesO w W K p b jb vb J l B A (.returned (.int .i64 A.1)) w' from ⟨rfl, h3.1, fun x hx => by
    obtain ⟨W2, g1, g2⟩ := h3.2
    exact (g2 x hx).trans (g1 x hx)⟩)
  obtain ⟨A, hA⟩ : ∃ A, doE J.room' l kd a bb P Q = A := ⟨_, rfl⟩
  rw [hA]
  have HA := Lib.hid hA
  have HD := Lib.hid hDD
  have HKL := Lib.hid (fun W2 (hW : LJ w1 W2) => show KeptK K W W2 from h.elim fun F h => fun q hq => Below.block (hl1.trans hW) q (h.2.2.1 q hq).2)
  have HEN := Lib.hid (show VK w w1 K p b jb vb J l (B + 1) from HV.out.up (by omega))
  clear hw1 hb hl1 h hq hA hDD hbd hDs hqs
  go_enter Tryz.func32, Tryz.ntmps32
  go_upto_region 1 with fail
  rw [HW1.out, HQ.out]
  by_cases h0 : kd = 0
  · have e0 : (kd == 0) = true := by simpa using h0
    have HE := Lib.hid (show doE J.room' l kd a bb P Q = mkE J.room' l P.data.toList true from by unfold doE; rw [if_pos h0])
    go_wp2_with (first
      | (go_at_call 84; (with_reducible refine HMK.out.mono ?_); rintro e w2 ⟨rfl, h3⟩; have H3 := Lib.hid h3; clear h3)
      | fail)
    go_ret
    rw [← HA.out, HE.out]
    exact HFIN.out _ HE.out _ ⟨H3.out.1, w1, HKP.out, H3.out.2⟩
  have e0 : (kd == 0) = false := by simpa using h0
  by_cases h1 : kd = 1
  · have e1 : (kd == 1) = true := by simpa using h1
    have HE := Lib.hid (show doE J.room' l kd a bb P Q = mkE J.room' l P.data.toList false from by unfold doE; rw [if_neg h0, if_pos h1])
    go_wp2_with (first
      | (go_at_call 37; (with_reducible refine HCR.out.mono ?_); rintro e w2 ⟨rfl, h3⟩; have H3 := Lib.hid h3; clear h3)
      | fail)
    go_ret
    rw [← HA.out, HE.out]
    exact HFIN.out _ HE.out _ ⟨H3.out.1, w1, HKP.out, H3.out.2⟩
  have e1 : (kd == 1) = false := by simpa using h1
  by_cases h2 : kd = 2
  · subst h2
    have HE := Lib.hid (show doE J.room' l 2 a bb P Q = wrE J.room' l P.data.toList a DD.data.toList from by unfold doE; rw [if_neg h0, if_neg h1, if_pos rfl, HD.out])
    clear h0 h1 e0 e1
    go_upto_region 7 with fail
    clear k1 k4 k5
    refine wp_region_held_drew (S := fun w' => w'.heap[q]? = some (.cells #[.int .i64 on, .int .i64 2, .int .i64 a, .int .i64 bb, .string P, .string Q, .slice ca cn cc] 66 (0, 0))) (by kernel_rfl) HBK.out (fun hHeld => ?_)
    have hL := Lib.hid (LJ.refl w1).drew
    refine tkS 0 hHeld ?_
    refine tkS 1 hHeld ?_
    refine tkS 2 hHeld ?_ (hy := by intro w hSw; have l1 : w.cell? ⟨q, 4, none⟩ = some (.string P) := cell_blk hSw 4; go_simp; (try with_reducible rfl))
    refine tkS 3 hHeld ?_
    refine tkS 4 hHeld ?_ (hy := by intro w hSw; have l1 : w.cell? ⟨q, 2, none⟩ = some (.int .i64 a) := cell_blk hSw 2; go_simp; (try with_reducible rfl))
    refine tkS 5 hHeld ?_ (hy := by intro w hSw; have l0 : w.cell? ⟨q, 0, none⟩ = some (.int .i64 on) := cell_blk hSw 0; have l1 : w.cell? ⟨q, 1, none⟩ = some (.int .i64 2) := cell_blk hSw 1; have l2 : w.cell? ⟨q, 2, none⟩ = some (.int .i64 a) := cell_blk hSw 2; have l3 : w.cell? ⟨q, 3, none⟩ = some (.int .i64 bb) := cell_blk hSw 3; have l4 : w.cell? ⟨q, 4, none⟩ = some (.string P) := cell_blk hSw 4; have l5 : w.cell? ⟨q, 5, none⟩ = some (.string Q) := cell_blk hSw 5; have l6 : w.cell? ⟨q, 6, none⟩ = some (.slice ca cn cc) := cell_blk hSw 6; go_simp; (try with_reducible rfl))
    refine wpAnyH_ready (rs := [6]) (by kernel_rfl) (by simp) ?_
    refine AllReadyH.cons rfl (fun KK hK => ?_) AllReadyH.nil
    go_simp
    (with_reducible refine (HDA.out _).mono ?_); rintro e wx ⟨rfl, hx⟩
    have hL := Lib.hid (hL.out.trans hx)
    have hS2 := hx.block hHeld
    clear hx
    refine hK.out _ _ hS2 (fun hHeld => ?_)
    clear hK KK hS2
    refine wpAnyH_ready (rs := [7]) (by kernel_rfl) (by simp) ?_
    refine AllReadyH.cons rfl (fun KK hK => ?_) AllReadyH.nil
    go_simp
    (with_reducible refine (HWR.out _ hL.out).mono ?_); rintro e w2 ⟨rfl, h3⟩
    have H3 := Lib.hid h3
    have H4 := Lib.hid (HKL.out _ hL.out)
    have hS2 := (h3.2 q (.inr rfl)).trans hHeld
    clear h3
    refine hK.out _ _ hS2 (fun hHeld => ?_)
    clear hK KK hS2
    refine tkS 8 hHeld ?_
    refine wpAnyH_done (by kernel_rfl) ?_ _
    go_simp
    go_wp2_with fail
    go_ret
    rw [← HA.out, HE.out]
    exact HFIN.out _ HE.out _ ⟨H3.out.1.less (fun _ h => .inl h), _, H4.out, fun x hx => H3.out.2 x (.inl hx)⟩
  have e2 : (kd == 2) = false := by simpa using h2
  by_cases h3 : kd = 3
  · have e3 : (kd == 3) = true := by simpa using h3
    have HE := Lib.hid (show doE J.room' l kd a bb P Q = rmE J.room' l P.data.toList from by unfold doE; rw [if_neg h0, if_neg h1, if_neg h2, if_pos h3])
    go_wp2_with (first
      | (go_at_call 85; (with_reducible refine HRM.out.mono ?_); rintro e w2 ⟨rfl, h3⟩; have H3 := Lib.hid h3; clear h3)
      | fail)
    go_ret
    rw [← HA.out, HE.out]
    exact HFIN.out _ HE.out _ ⟨H3.out.1, w1, HKP.out, H3.out.2⟩
  have e3 : (kd == 3) = false := by simpa using h3
  by_cases h4 : kd = 4
  · have e4 : (kd == 4) = true := by simpa using h4
    have HE := Lib.hid (show doE J.room' l kd a bb P Q = rnE J.room' l P.data.toList Q.data.toList from by unfold doE; rw [if_neg h0, if_neg h1, if_neg h2, if_neg h3, if_pos h4])
    go_wp2_with (first
      | (go_at_call 34; (with_reducible refine HRN.out.mono ?_); rintro e w2 ⟨rfl, h3⟩; have H3 := Lib.hid h3; clear h3)
      | fail)
    go_ret
    rw [← HA.out, HE.out]
    exact HFIN.out _ HE.out _ ⟨H3.out.1, w1, HKP.out, H3.out.2⟩
  have e4 : (kd == 4) = false := by simpa using h4
  have HE := Lib.hid (show doE J.room' l kd a bb P Q = (0, l) from by unfold doE; rw [if_neg h0, if_neg h1, if_neg h2, if_neg h3, if_neg h4])
  go_wp2_with fail
  go_ret
  rw [← HA.out, HE.out]
  exact ⟨rfl, by rw [ans_same]; exact HEN.out, HKP.out⟩
end Go.Proofs.YtfpbocjmlhcgiaaGreatDoor
