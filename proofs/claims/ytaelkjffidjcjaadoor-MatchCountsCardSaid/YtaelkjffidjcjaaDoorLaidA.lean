/- The walks of (*Machine).laid: a set, a row. -/
import Derived.Test.YtaelkjffidjcjaaDoorLaidL
set_option linter.unusedSimpArgs false
set_option linter.unusedVariables false
namespace Go.Proofs.YtaelkjffidjcjaaDoor
open Go.RowKit PX

set_option maxRecDepth 100000 in
set_option maxHeartbeats 2000000 in
theorem laid_set (mn mx s0 s1 s2 s3 : Int) (a : Option Addr) (cap : Nat) (l : List RxA) : LaidOK (.node 0 mn mx s0 s1 s2 s3 a cap l) := by
  intro w base p B v ws g next hm hin hBb hBp hf hg hn hbig
  obtain ⟨C, HC⟩ : ∃ C, Hid (C = #[Value.int .i64 0, .int .i64 mn, .int .i64 mx, .int .u64 s0, .int .u64 s1, .int .u64 s2, .int .u64 s3, .slice a l.length cap]) := ⟨_, rfl⟩
  have hm1 := Lib.hid (hm.alloc (.cells #[Value.int .i64 0, .int .i64 mn, .int .i64 mx, .int .u64 s0, .int .u64 s1, .int .u64 s2, .int .u64 s3, .slice a l.length cap] 26))
  have hfew := hm.few
  have hbp : 1 ≤ (RxA.node 0 mn mx s0 s1 s2 s3 a cap l).bare.big := Rx.big_pos _
  clear hm hin
  show Calls Tryd.prog 38 #[.pointer (some ⟨p, 0, none⟩), .agg #[.int .i64 0, .int .i64 mn, .int .i64 mx, .int .u64 s0, .int .u64 s1, .int .u64 s2, .int .u64 s3, .slice a l.length cap], .int .i64 next] w _
  go_enter Tryd.func38, Tryd.ntmps38
  go_wp2_with fail
  refine (add_any ⟨0, next, 0, s0, s1, s2, s3⟩ _ base p v ws g hm1.out (by omega)).mono ?_
  rintro e w1 ⟨rfl, v', hm', hk⟩
  go_wp2_with fail
  go_ret
  refine ⟨by simp [RxA.bare, Rx.lay], v', ?_, ((Keeps.refl base p w).alloc _).trans hk⟩
  simpa [RxA.bare, Rx.lay] using hm'

set_option maxRecDepth 100000 in
set_option maxHeartbeats 2000000 in
theorem laid_seq (mn mx s0 s1 s2 s3 : Int) (a : Option Addr) (cap : Nat) (l : List RxA) (ih : ∀ x ∈ l, LaidOK x) : LaidOK (.node 1 mn mx s0 s1 s2 s3 a cap l) := by
  intro w base p B v ws g next hm hin hBb hBp hf hg hn hbig
  have hin' := hin
  simp only [RxA.In] at hin'
  obtain ⟨-, hl1, hl2, -, hl⟩ := hin'
  clear hin
  unfold maxLen at hl2
  have hbase := hm.base
  have hB : B ≤ w.heap.size := by omega
  have hff : formAll (bareAll l) = true := ((formB_iff _ _ _ _ _ _ _ _).1 (by simpa only [RxA.bare] using hf)).2
  have hbl : 2 * bigAll (bareAll l) ≤ 2 * (RxA.node 1 mn mx s0 s1 s2 s3 a cap l).bare.big := by
    simp only [RxA.bare, Rx.big, times]; simp; have := bigAll_nonneg (bareAll l); omega
  have hll : (RxA.node 1 mn mx s0 s1 s2 s3 a cap l).bare.lay g next = seqTo l 0 g next := by simp [RxA.bare, Rx.lay, seqTo]
  obtain ⟨C, HC⟩ : ∃ C, Hid (C = #[Value.int .i64 1, .int .i64 mn, .int .i64 mx, .int .u64 s0, .int .u64 s1, .int .u64 s2, .int .u64 s3, .slice a l.length cap]) := ⟨_, rfl⟩
  have hg' : ∀ j (h : j < l.length), ∃ b o, a = some ⟨b, o, none⟩ ∧ b < B ∧ (∀ i, i < 8 → w.cell? ⟨b, o + j * 8 + i, none⟩ = l[j].cells[i]?) ∧ l[j].In w B := by
    intro j hj
    rcases hl with rfl | ⟨b, o, rfl, hb, hl⟩
    · simp at hj
    · have := RxA.In.get hl j hj
      exact ⟨b, o, rfl, hb, this.1, this.2⟩
  have HG := Lib.hid hg'; clear hg' hl
  have IH := Lib.hid ih; clear ih
  have HM := Lib.hid hm; clear hm
  have HLL := Lib.hid hll; clear hll
  have HFF := Lib.hid hff; clear hff hf
  have HPB : p ≠ w.heap.size := by have := lt_of_block HM.out.block; omega
  show Calls Tryd.prog 38 #[.pointer (some ⟨p, 0, none⟩), .agg #[.int .i64 1, .int .i64 mn, .int .i64 mx, .int .u64 s0, .int .u64 s1, .int .u64 s2, .int .u64 s3, .slice a l.length cap], .int .i64 next] w _
  go_enter Tryd.func38, Tryd.ntmps38
  go_wp2_with fail
  go_loopw [2, 7] (fun nx i wr => ∃ j : Nat, j ≤ l.length ∧ i = .int .i64 ((j : Int) - 1) ∧ nx = .int .i64 (seqTo l j g next).2 ∧
      ∃ v', MachAt wr base p v' ws (seqTo l j g next).1 ∧ Keeps base p (w.alloc (.cells C 26)) wr) (fun _ i _ => (intOf i + 1).toNat)
  case atStart => exact ⟨l.length, Nat.le_refl _, by simp, by rw [seqTo_end], v, by rw [seqTo_end, HC.out]; exact ⟨HM.out.alloc _, Keeps.refl _ _ _⟩⟩
  case round =>
    obtain ⟨j, hj, rfl, rfl, v', hm', hk⟩ := hrel
    have hkb := hk.other (k := w.heap.size) (alloc_block w _) (Ne.symm HPB) (by decide)
    have c7 : wr.cell? ⟨w.heap.size, 7, none⟩ = some (.slice a l.length cap) := by rw [cell_of_block hkb, HC.out]; rfl
    have hs := seqTo_sound HFF.out j hg hn
    have hkw : Keeps base p w wr := ((Keeps.refl base p w).alloc _).trans hk
    have HM' := Lib.hid hm'; clear hm'
    have HK := Lib.hid hkw; clear hkw hkb
    have HK0 := Lib.hid hk; clear hk
    by_cases h0 : 0 < j
    · obtain ⟨m, rfl⟩ : ∃ m, j = m + 1 := ⟨j - 1, by omega⟩
      have e1 : ((m + 1 : Nat) : Int) - 1 = m := by omega
      rw [e1]
      clear e1 h0
      obtain ⟨b, o, rfl, hb, hcs, hxin⟩ := HG.out m (by omega)
      have hih := IH.out l[m] (List.getElem_mem (by omega))
      have hst := seqTo_step l m (by omega) g next
      have hbd := big_drop l m (by omega)
      have hbd2 := bigAll_drop l m
      have hxf := formAll_of_mem HFF.out (List.getElem_mem (show m < l.length by omega))
      have hmost := hs.most
      have hok := hs.ok
      have hfst := hs.fst
      have hbp := Rx.big_pos l[m].bare
      generalize hxe : l[m] = x at *
      have HXE := Lib.hid hxe; clear hxe
      have HST := Lib.hid hst; clear hst
      have HIH := Lib.hid hih; clear hih
      have HXF := Lib.hid hxf; clear hxf
      have HOK := Lib.hid hok; clear hok hs
      have hws := HK.out.size
      have hbe := HK.out.below hB hBb hBp
      obtain ⟨k', mn', mx', s0', s1', s2', s3', a', cap', l'⟩ := x
      obtain ⟨d0, d1, d2, d3, d4, d5, d6, d7⟩ := node_cells (o := o + m * 8) (fun i hi => (hbe.cell (p := ⟨b, o + m * 8 + i, none⟩) hb).trans (hcs i hi))
      have HIN := Lib.hid (hxin.below hbe (Nat.le_refl _)); clear hxin hcs hbe
      generalize hbx : (RxA.node k' mn' mx' s0' s1' s2' s3' a' cap' l').bare.big = bx at *
      have HBX := Lib.hid hbx; clear hbx
      go_wp2_with fail
      refine (HIH.out wr base p B v' ws _ _ HM'.out HIN.out hBb hBp HXF.out HOK.out hfst (by rw [HBX.out]; omega)).mono ?_
      rintro e w1 ⟨rfl, v2, hm2, hk2⟩
      go_wp2_with fail
      go_roundw
      case rel => exact ⟨m, by omega, by go_num, by rw [HST.out], v2, by rw [HST.out]; exact hm2, HK0.out.trans hk2⟩
      case measure => simp only [intOf]; omega
    · have hj0 : j = 0 := by omega
      subst hj0
      have e0 : (((0 : Nat) : Int) - 1) = -1 := rfl
      rw [e0]
      go_wp2_with fail
      go_ret
      exact ⟨ret_int (by rw [HLL.out]), v', by rw [HLL.out]; exact HM'.out, HK.out⟩
end Go.Proofs.YtaelkjffidjcjaaDoor
