/- The walk of the document's Text at the kind 2. (Printed by wip/gen_k4.py.) -/
import Derived.Test.YtjhclopdcbnmkaaGreatDoorK4
import Derived.Deep.RegionHeld3
set_option linter.unusedSimpArgs false
set_option linter.unusedVariables false
namespace Go.Proofs.YtjhclopdcbnmkaaGreatDoor
open Go.RowKit PX

set_option maxRecDepth 100000 in
set_option maxHeartbeats 8000000 in
theorem rtext_2 (mn mx s0 s1 s2 s3 : Int) (a : Option Addr) (cap : Nat) (l : List RxA) (ih : ∀ x ∈ l, TextOf x) (w : World) (B : Nat) (hB : B ≤ w.heap.size) (hin : (RxA.node 2 mn mx s0 s1 s2 s3 a cap l).In w B) (hf : (RxA.node 2 mn mx s0 s1 s2 s3 a cap l).bare.formB = true) (hbig : (RxA.node 2 mn mx s0 s1 s2 s3 a cap l).bare.big ≤ 256) :
    Calls Tryz.prog 27 #[(RxA.node 2 mn mx s0 s1 s2 s3 a cap l).val] w fun e w' => e = .returned (.string ⟨(RxA.node 2 mn mx s0 s1 s2 s3 a cap l).bare.text.toArray⟩) ∧ Later w w' := by
  simp only [RxA.In] at hin
  obtain ⟨⟨bk, bmn, bmx, -⟩, hl1, hl2, hl3, hl⟩ := hin
  have hfl : formAll (bareAll l) = true := by simp only [RxA.bare] at hf; rw [formB_iff] at hf; exact hf.2
  have hbb : bigAll (bareAll l) ≤ 255 := by
    simp only [RxA.bare, Rx.big] at hbig
    have h1 := times_pos 2 mn mx
    have h2 := bigAll_nonneg (bareAll l)
    have h3 := Int.mul_le_mul_of_nonneg_right h1 h2
    omega
  have hll : l.length ≤ 255 := by have := bigAll_len l; omega
  unfold maxLen at hl2
  obtain ⟨S, hS⟩ : ∃ S : ByteArray, (⟨(RxA.node 2 mn mx s0 s1 s2 s3 a cap l).bare.text.toArray⟩ : ByteArray) = S := ⟨_, rfl⟩
  rw [hS]
  have HS := Lib.hid (show S.data.toList = (RxA.node 2 mn mx s0 s1 s2 s3 a cap l).bare.text from by rw [← hS])
  have HFF := Lib.hid hf
  have HACC := Lib.hid (show ∀ j, (accT 2 (bareAll (l.take j))).length ≤ 640000 from fun j => by
    have h := acc_take (k := 2) hfl j
    rw [← bareAll_take] at h
    omega)
  have HFL := Lib.hid hfl
  have HBB := Lib.hid hbb
  have IH := Lib.hid ih
  have HG := Lib.hid (show ∀ j (h : j < l.length), ∃ b o, a = some ⟨b, o, none⟩ ∧ b < w.heap.size ∧ (∀ i, i < 8 → (w.alloc (.cells #[.int .i64 2, .int .i64 mn, .int .i64 mx, .int .u64 s0, .int .u64 s1, .int .u64 s2, .int .u64 s3, .slice a l.length cap] 26)).cell? ⟨b, o + j * 8 + i, none⟩ = l[j].cells[i]?) ∧ l[j].In w B from by
    intro j hj
    rcases hl with rfl | ⟨b, o, rfl, hb, hl⟩
    · simp at hj
    · have := RxA.In.get hl j hj
      exact ⟨b, o, rfl, by omega, fun i hi => (World.cell?_alloc_past _ _ _ (by show b < w.heap.size; omega)).trans (this.1 i hi), this.2⟩)
  clear hl hfl hbig hbb hf hS ih
  show Calls Tryz.prog 27 #[.agg #[.int .i64 2, .int .i64 mn, .int .i64 mx, .int .u64 s0, .int .u64 s1, .int .u64 s2, .int .u64 s3, .slice a l.length cap]] w _
  go_enter Tryz.func27, Tryz.ntmps27
  go_wp2_with fail
  go_loopw [3, 4] (fun vs vi wr => ∃ (j : Nat) (TS : ByteArray), j ≤ l.length ∧ vi = .int .i64 j ∧ vs = .string TS ∧ TS.data.toList = accT 2 (bareAll (l.take j)) ∧ Below (w.heap.size + 1) (w.alloc (.cells #[.int .i64 2, .int .i64 mn, .int .i64 mx, .int .u64 s0, .int .u64 s1, .int .u64 s2, .int .u64 s3, .slice a l.length cap] 26)) wr) (fun _ vi _ => l.length - (intOf vi).toNat)
  case atStart => exact ⟨0, ⟨#[]⟩, Nat.zero_le _, rfl, rfl, rfl, Below.refl _ _⟩
  case round =>
    obtain ⟨j, TS, hj, rfl, rfl, hts, hbel⟩ := hrel
    have hbw : Below w.heap.size w wr := ((Below.refl _ _).alloc (Nat.le_refl _) _).trans (hbel.mono (by omega))
    have hbw' : Later w wr := hbw
    have hws := hbel.size
    simp only [World.size_alloc] at hws
    have hsz : TS.size ≤ 640000 := ba_len_le hts (HACC.out j)
    have HTS := Lib.hid hts
    clear hts
    by_cases hlt : j < l.length
    · obtain ⟨b, o, rfl, hb, hcs, hxin⟩ := HG.out j hlt
      have c7 := laid_cell hbel (by omega) 7 (.slice (some ⟨b, o, none⟩) l.length cap) rfl
      have hih := IH.out l[j] (List.getElem_mem hlt)
      have hxf := formAll_mem HFL.out (List.getElem_mem hlt)
      have hxb : l[j].bare.big ≤ 256 := by have := bigAll_mem (List.getElem_mem hlt); have := HBB.out; omega
      obtain ⟨x, hxe⟩ : ∃ x, l[j] = x := ⟨_, rfl⟩
      rw [hxe] at hcs hxin hih hxf hxb
      have HXE := Lib.hid hxe
      have hxl := text_len _ hxf
      obtain ⟨TX, hTX⟩ : ∃ TX : ByteArray, (⟨x.bare.text.toArray⟩ : ByteArray) = TX := ⟨_, rfl⟩
      have hTd : TX.data.toList = x.bare.text := by rw [← hTX]
      have htx : TX.size ≤ 640000 := ba_len_le hTd (by omega)
      have HTX := Lib.hid hTd
      have HF := Lib.hid hxf
      have HBG := Lib.hid hxb
      have hjl : (j : Int) < (l.length : Int) := by omega
      clear hxe hTX hTd hxb hxl
      obtain ⟨k', mn', mx', s0', s1', s2', s3', a', cap', l'⟩ := x
      have hk := rx_kinds hxf
      have HIH := Lib.hid hih
      clear hih hxf
      rcases Nat.eq_zero_or_pos j with hj0 | hj0
      · subst hj0
        rcases hk with rfl | rfl | rfl | rfl
        · obtain ⟨d0, d1, d2, d3, d4, d5, d6, d7⟩ := node_cells (o := o) (fun i hi => show wr.cell? ⟨b, o + i, none⟩ = _ from (hbel.cell (p := ⟨b, o + 0 * 8 + i, none⟩) (by show b < w.heap.size + 1; omega)).trans (hcs i hi))
          clear hcs
          have HEL := Lib.hid (show elemT 2 (RxA.node 0 mn' mx' s0' s1' s2' s3' a' cap' l').bare = TX.data.toList from by rw [HTX.out]; rfl)
          have HC := Lib.hid (show Calls Tryz.prog 27 #[.agg #[.int .i64 0, .int .i64 mn', .int .i64 mx', .int .u64 s0', .int .u64 s1', .int .u64 s2', .int .u64 s3', .slice a' l'.length cap']] (wr.alloc (.cells #[.int .i64 0, .int .i64 mn', .int .i64 mx', .int .u64 s0', .int .u64 s1', .int .u64 s2', .int .u64 s3', .slice a' l'.length cap'] 26)) fun e w' => e = .returned (.string TX) ∧ Later (wr.alloc (.cells #[.int .i64 0, .int .i64 mn', .int .i64 mx', .int .u64 s0', .int .u64 s1', .int .u64 s2', .int .u64 s3', .slice a' l'.length cap'] 26)) w' from by
            have h := HIH.out (wr.alloc (.cells #[.int .i64 0, .int .i64 mn', .int .i64 mx', .int .u64 s0', .int .u64 s1', .int .u64 s2', .int .u64 s3', .slice a' l'.length cap'] 26)) B (by simp; omega) ((hxin.below hbw hB).below ((Below.refl wr.heap.size wr).alloc (Nat.le_refl _) _) (by omega)) HF.out HBG.out
            rw [show (⟨(RxA.node 0 mn' mx' s0' s1' s2' s3' a' cap' l').bare.text.toArray⟩ : ByteArray) = TX from ba_eq (by rw [HTX.out])] at h
            exact h)
          go_wp2_with (first
            | (go_at_call 27; (with_reducible refine HC.out.mono ?_); rintro e w1 ⟨rfl, hl1⟩; have he0 : w1.cell? ⟨wr.heap.size, 0, none⟩ = some (.int .i64 0) := cell_of_block (hl1.block (alloc_block wr (.cells #[.int .i64 0, .int .i64 mn', .int .i64 mx', .int .u64 s0', .int .u64 s1', .int .u64 s2', .int .u64 s3', .slice a' l'.length cap'] 26))) 0; have hbel1 := (hbel.alloc (by omega) (.cells #[.int .i64 0, .int .i64 mn', .int .i64 mx', .int .u64 s0', .int .u64 s1', .int .u64 s2', .int .u64 s3', .slice a' l'.length cap'] 26)).trans (hl1.out.mono (show w.heap.size + 1 ≤ _ by simp; omega)); have c0 := laid_cell hbel1 (by omega) 0 (.int .i64 2) rfl; have hlt1 : wr.heap.size < w1.heap.size := lt_of_block (hl1.block (alloc_block wr (.cells #[.int .i64 0, .int .i64 mn', .int .i64 mx', .int .u64 s0', .int .u64 s1', .int .u64 s2', .int .u64 s3', .slice a' l'.length cap'] 26))))
            | fail)
          go_roundw
          case measure => simp [intOf]; omega
          case rel =>
            refine ⟨0 + 1, TS ++ TX, by omega, by go_num, rfl, ?_, hbel1⟩
            have hts := HTS.out
            have hel := HEL.out
            have hxe := HXE.out
            rw [acc_first (by omega)]
            skip
            rw [hxe, hel]
            rw [ByteArray.data_append, Array.toList_append, hts]
            simp [par, accT, bareAll]
        · obtain ⟨d0, d1, d2, d3, d4, d5, d6, d7⟩ := node_cells (o := o) (fun i hi => show wr.cell? ⟨b, o + i, none⟩ = _ from (hbel.cell (p := ⟨b, o + 0 * 8 + i, none⟩) (by show b < w.heap.size + 1; omega)).trans (hcs i hi))
          clear hcs
          have HEL := Lib.hid (show elemT 2 (RxA.node 1 mn' mx' s0' s1' s2' s3' a' cap' l').bare = TX.data.toList from by rw [HTX.out]; rfl)
          have HC := Lib.hid (show Calls Tryz.prog 27 #[.agg #[.int .i64 1, .int .i64 mn', .int .i64 mx', .int .u64 s0', .int .u64 s1', .int .u64 s2', .int .u64 s3', .slice a' l'.length cap']] (wr.alloc (.cells #[.int .i64 1, .int .i64 mn', .int .i64 mx', .int .u64 s0', .int .u64 s1', .int .u64 s2', .int .u64 s3', .slice a' l'.length cap'] 26)) fun e w' => e = .returned (.string TX) ∧ Later (wr.alloc (.cells #[.int .i64 1, .int .i64 mn', .int .i64 mx', .int .u64 s0', .int .u64 s1', .int .u64 s2', .int .u64 s3', .slice a' l'.length cap'] 26)) w' from by
            have h := HIH.out (wr.alloc (.cells #[.int .i64 1, .int .i64 mn', .int .i64 mx', .int .u64 s0', .int .u64 s1', .int .u64 s2', .int .u64 s3', .slice a' l'.length cap'] 26)) B (by simp; omega) ((hxin.below hbw hB).below ((Below.refl wr.heap.size wr).alloc (Nat.le_refl _) _) (by omega)) HF.out HBG.out
            rw [show (⟨(RxA.node 1 mn' mx' s0' s1' s2' s3' a' cap' l').bare.text.toArray⟩ : ByteArray) = TX from ba_eq (by rw [HTX.out])] at h
            exact h)
          go_wp2_with (first
            | (go_at_call 27; (with_reducible refine HC.out.mono ?_); rintro e w1 ⟨rfl, hl1⟩; have he0 : w1.cell? ⟨wr.heap.size, 0, none⟩ = some (.int .i64 1) := cell_of_block (hl1.block (alloc_block wr (.cells #[.int .i64 1, .int .i64 mn', .int .i64 mx', .int .u64 s0', .int .u64 s1', .int .u64 s2', .int .u64 s3', .slice a' l'.length cap'] 26))) 0; have hbel1 := (hbel.alloc (by omega) (.cells #[.int .i64 1, .int .i64 mn', .int .i64 mx', .int .u64 s0', .int .u64 s1', .int .u64 s2', .int .u64 s3', .slice a' l'.length cap'] 26)).trans (hl1.out.mono (show w.heap.size + 1 ≤ _ by simp; omega)); have c0 := laid_cell hbel1 (by omega) 0 (.int .i64 2) rfl; have hlt1 : wr.heap.size < w1.heap.size := lt_of_block (hl1.block (alloc_block wr (.cells #[.int .i64 1, .int .i64 mn', .int .i64 mx', .int .u64 s0', .int .u64 s1', .int .u64 s2', .int .u64 s3', .slice a' l'.length cap'] 26))))
            | fail)
          go_roundw
          case measure => simp [intOf]; omega
          case rel =>
            refine ⟨0 + 1, TS ++ TX, by omega, by go_num, rfl, ?_, hbel1⟩
            have hts := HTS.out
            have hel := HEL.out
            have hxe := HXE.out
            rw [acc_first (by omega)]
            skip
            rw [hxe, hel]
            rw [ByteArray.data_append, Array.toList_append, hts]
            simp [par, accT, bareAll]
        · obtain ⟨d0, d1, d2, d3, d4, d5, d6, d7⟩ := node_cells (o := o) (fun i hi => show wr.cell? ⟨b, o + i, none⟩ = _ from (hbel.cell (p := ⟨b, o + 0 * 8 + i, none⟩) (by show b < w.heap.size + 1; omega)).trans (hcs i hi))
          clear hcs
          have HEL := Lib.hid (show elemT 2 (RxA.node 2 mn' mx' s0' s1' s2' s3' a' cap' l').bare = par TX.data.toList from by rw [HTX.out]; rfl)
          have HC := Lib.hid (show Calls Tryz.prog 27 #[.agg #[.int .i64 2, .int .i64 mn', .int .i64 mx', .int .u64 s0', .int .u64 s1', .int .u64 s2', .int .u64 s3', .slice a' l'.length cap']] (wr.alloc (.cells #[.int .i64 2, .int .i64 mn', .int .i64 mx', .int .u64 s0', .int .u64 s1', .int .u64 s2', .int .u64 s3', .slice a' l'.length cap'] 26)) fun e w' => e = .returned (.string TX) ∧ Later (wr.alloc (.cells #[.int .i64 2, .int .i64 mn', .int .i64 mx', .int .u64 s0', .int .u64 s1', .int .u64 s2', .int .u64 s3', .slice a' l'.length cap'] 26)) w' from by
            have h := HIH.out (wr.alloc (.cells #[.int .i64 2, .int .i64 mn', .int .i64 mx', .int .u64 s0', .int .u64 s1', .int .u64 s2', .int .u64 s3', .slice a' l'.length cap'] 26)) B (by simp; omega) ((hxin.below hbw hB).below ((Below.refl wr.heap.size wr).alloc (Nat.le_refl _) _) (by omega)) HF.out HBG.out
            rw [show (⟨(RxA.node 2 mn' mx' s0' s1' s2' s3' a' cap' l').bare.text.toArray⟩ : ByteArray) = TX from ba_eq (by rw [HTX.out])] at h
            exact h)
          go_wp2_with (first
            | (go_at_call 27; (with_reducible refine HC.out.mono ?_); rintro e w1 ⟨rfl, hl1⟩; have he0 : w1.cell? ⟨wr.heap.size, 0, none⟩ = some (.int .i64 2) := cell_of_block (hl1.block (alloc_block wr (.cells #[.int .i64 2, .int .i64 mn', .int .i64 mx', .int .u64 s0', .int .u64 s1', .int .u64 s2', .int .u64 s3', .slice a' l'.length cap'] 26))) 0; have hbel1 := (hbel.alloc (by omega) (.cells #[.int .i64 2, .int .i64 mn', .int .i64 mx', .int .u64 s0', .int .u64 s1', .int .u64 s2', .int .u64 s3', .slice a' l'.length cap'] 26)).trans (hl1.out.mono (show w.heap.size + 1 ≤ _ by simp; omega)); have c0 := laid_cell hbel1 (by omega) 0 (.int .i64 2) rfl; have hlt1 : wr.heap.size < w1.heap.size := lt_of_block (hl1.block (alloc_block wr (.cells #[.int .i64 2, .int .i64 mn', .int .i64 mx', .int .u64 s0', .int .u64 s1', .int .u64 s2', .int .u64 s3', .slice a' l'.length cap'] 26))))
            | fail)
          go_roundw
          case measure => simp [intOf]; omega
          case rel =>
            refine ⟨0 + 1, TS ++ (⟨#[40]⟩ ++ TX ++ ⟨#[41]⟩), by omega, by go_num, rfl, ?_, hbel1⟩
            have hts := HTS.out
            have hel := HEL.out
            have hxe := HXE.out
            rw [acc_first (by omega)]
            skip
            rw [hxe, hel]
            rw [ByteArray.data_append, Array.toList_append, hts]
            simp [par, accT, bareAll]
        · obtain ⟨d0, d1, d2, d3, d4, d5, d6, d7⟩ := node_cells (o := o) (fun i hi => show wr.cell? ⟨b, o + i, none⟩ = _ from (hbel.cell (p := ⟨b, o + 0 * 8 + i, none⟩) (by show b < w.heap.size + 1; omega)).trans (hcs i hi))
          clear hcs
          have HEL := Lib.hid (show elemT 2 (RxA.node 3 mn' mx' s0' s1' s2' s3' a' cap' l').bare = TX.data.toList from by rw [HTX.out]; rfl)
          have HC := Lib.hid (show Calls Tryz.prog 27 #[.agg #[.int .i64 3, .int .i64 mn', .int .i64 mx', .int .u64 s0', .int .u64 s1', .int .u64 s2', .int .u64 s3', .slice a' l'.length cap']] (wr.alloc (.cells #[.int .i64 3, .int .i64 mn', .int .i64 mx', .int .u64 s0', .int .u64 s1', .int .u64 s2', .int .u64 s3', .slice a' l'.length cap'] 26)) fun e w' => e = .returned (.string TX) ∧ Later (wr.alloc (.cells #[.int .i64 3, .int .i64 mn', .int .i64 mx', .int .u64 s0', .int .u64 s1', .int .u64 s2', .int .u64 s3', .slice a' l'.length cap'] 26)) w' from by
            have h := HIH.out (wr.alloc (.cells #[.int .i64 3, .int .i64 mn', .int .i64 mx', .int .u64 s0', .int .u64 s1', .int .u64 s2', .int .u64 s3', .slice a' l'.length cap'] 26)) B (by simp; omega) ((hxin.below hbw hB).below ((Below.refl wr.heap.size wr).alloc (Nat.le_refl _) _) (by omega)) HF.out HBG.out
            rw [show (⟨(RxA.node 3 mn' mx' s0' s1' s2' s3' a' cap' l').bare.text.toArray⟩ : ByteArray) = TX from ba_eq (by rw [HTX.out])] at h
            exact h)
          go_wp2_with (first
            | (go_at_call 27; (with_reducible refine HC.out.mono ?_); rintro e w1 ⟨rfl, hl1⟩; have he0 : w1.cell? ⟨wr.heap.size, 0, none⟩ = some (.int .i64 3) := cell_of_block (hl1.block (alloc_block wr (.cells #[.int .i64 3, .int .i64 mn', .int .i64 mx', .int .u64 s0', .int .u64 s1', .int .u64 s2', .int .u64 s3', .slice a' l'.length cap'] 26))) 0; have hbel1 := (hbel.alloc (by omega) (.cells #[.int .i64 3, .int .i64 mn', .int .i64 mx', .int .u64 s0', .int .u64 s1', .int .u64 s2', .int .u64 s3', .slice a' l'.length cap'] 26)).trans (hl1.out.mono (show w.heap.size + 1 ≤ _ by simp; omega)); have c0 := laid_cell hbel1 (by omega) 0 (.int .i64 2) rfl; have hlt1 : wr.heap.size < w1.heap.size := lt_of_block (hl1.block (alloc_block wr (.cells #[.int .i64 3, .int .i64 mn', .int .i64 mx', .int .u64 s0', .int .u64 s1', .int .u64 s2', .int .u64 s3', .slice a' l'.length cap'] 26))))
            | fail)
          go_roundw
          case measure => simp [intOf]; omega
          case rel =>
            refine ⟨0 + 1, TS ++ TX, by omega, by go_num, rfl, ?_, hbel1⟩
            have hts := HTS.out
            have hel := HEL.out
            have hxe := HXE.out
            rw [acc_first (by omega)]
            skip
            rw [hxe, hel]
            rw [ByteArray.data_append, Array.toList_append, hts]
            simp [par, accT, bareAll]
      · have hji : (0 : Int) < (j : Int) := by omega
        rcases hk with rfl | rfl | rfl | rfl
        · obtain ⟨d0, d1, d2, d3, d4, d5, d6, d7⟩ := node_cells (o := o + j * 8) (fun i hi => (hbel.cell (p := ⟨b, o + j * 8 + i, none⟩) (by show b < w.heap.size + 1; omega)).trans (hcs i hi))
          clear hcs
          have HEL := Lib.hid (show elemT 2 (RxA.node 0 mn' mx' s0' s1' s2' s3' a' cap' l').bare = TX.data.toList from by rw [HTX.out]; rfl)
          have HC := Lib.hid (show Calls Tryz.prog 27 #[.agg #[.int .i64 0, .int .i64 mn', .int .i64 mx', .int .u64 s0', .int .u64 s1', .int .u64 s2', .int .u64 s3', .slice a' l'.length cap']] (wr.alloc (.cells #[.int .i64 0, .int .i64 mn', .int .i64 mx', .int .u64 s0', .int .u64 s1', .int .u64 s2', .int .u64 s3', .slice a' l'.length cap'] 26)) fun e w' => e = .returned (.string TX) ∧ Later (wr.alloc (.cells #[.int .i64 0, .int .i64 mn', .int .i64 mx', .int .u64 s0', .int .u64 s1', .int .u64 s2', .int .u64 s3', .slice a' l'.length cap'] 26)) w' from by
            have h := HIH.out (wr.alloc (.cells #[.int .i64 0, .int .i64 mn', .int .i64 mx', .int .u64 s0', .int .u64 s1', .int .u64 s2', .int .u64 s3', .slice a' l'.length cap'] 26)) B (by simp; omega) ((hxin.below hbw hB).below ((Below.refl wr.heap.size wr).alloc (Nat.le_refl _) _) (by omega)) HF.out HBG.out
            rw [show (⟨(RxA.node 0 mn' mx' s0' s1' s2' s3' a' cap' l').bare.text.toArray⟩ : ByteArray) = TX from ba_eq (by rw [HTX.out])] at h
            exact h)
          go_wp2_with (first
            | (go_at_call 27; (with_reducible refine HC.out.mono ?_); rintro e w1 ⟨rfl, hl1⟩; have he0 : w1.cell? ⟨wr.heap.size, 0, none⟩ = some (.int .i64 0) := cell_of_block (hl1.block (alloc_block wr (.cells #[.int .i64 0, .int .i64 mn', .int .i64 mx', .int .u64 s0', .int .u64 s1', .int .u64 s2', .int .u64 s3', .slice a' l'.length cap'] 26))) 0; have hbel1 := (hbel.alloc (by omega) (.cells #[.int .i64 0, .int .i64 mn', .int .i64 mx', .int .u64 s0', .int .u64 s1', .int .u64 s2', .int .u64 s3', .slice a' l'.length cap'] 26)).trans (hl1.out.mono (show w.heap.size + 1 ≤ _ by simp; omega)); have c0 := laid_cell hbel1 (by omega) 0 (.int .i64 2) rfl; have hlt1 : wr.heap.size < w1.heap.size := lt_of_block (hl1.block (alloc_block wr (.cells #[.int .i64 0, .int .i64 mn', .int .i64 mx', .int .u64 s0', .int .u64 s1', .int .u64 s2', .int .u64 s3', .slice a' l'.length cap'] 26))))
            | fail)
          go_roundw
          case measure => simp [intOf]; omega
          case rel =>
            refine ⟨j + 1, TS ++ ⟨#[124]⟩ ++ TX, by omega, by go_num, rfl, ?_, hbel1⟩
            have hts := HTS.out
            have hel := HEL.out
            have hxe := HXE.out
            rw [acc_step (by omega) hj0]
            skip
            rw [hxe, hel]
            
            simp [par, hts, barT]
        · obtain ⟨d0, d1, d2, d3, d4, d5, d6, d7⟩ := node_cells (o := o + j * 8) (fun i hi => (hbel.cell (p := ⟨b, o + j * 8 + i, none⟩) (by show b < w.heap.size + 1; omega)).trans (hcs i hi))
          clear hcs
          have HEL := Lib.hid (show elemT 2 (RxA.node 1 mn' mx' s0' s1' s2' s3' a' cap' l').bare = TX.data.toList from by rw [HTX.out]; rfl)
          have HC := Lib.hid (show Calls Tryz.prog 27 #[.agg #[.int .i64 1, .int .i64 mn', .int .i64 mx', .int .u64 s0', .int .u64 s1', .int .u64 s2', .int .u64 s3', .slice a' l'.length cap']] (wr.alloc (.cells #[.int .i64 1, .int .i64 mn', .int .i64 mx', .int .u64 s0', .int .u64 s1', .int .u64 s2', .int .u64 s3', .slice a' l'.length cap'] 26)) fun e w' => e = .returned (.string TX) ∧ Later (wr.alloc (.cells #[.int .i64 1, .int .i64 mn', .int .i64 mx', .int .u64 s0', .int .u64 s1', .int .u64 s2', .int .u64 s3', .slice a' l'.length cap'] 26)) w' from by
            have h := HIH.out (wr.alloc (.cells #[.int .i64 1, .int .i64 mn', .int .i64 mx', .int .u64 s0', .int .u64 s1', .int .u64 s2', .int .u64 s3', .slice a' l'.length cap'] 26)) B (by simp; omega) ((hxin.below hbw hB).below ((Below.refl wr.heap.size wr).alloc (Nat.le_refl _) _) (by omega)) HF.out HBG.out
            rw [show (⟨(RxA.node 1 mn' mx' s0' s1' s2' s3' a' cap' l').bare.text.toArray⟩ : ByteArray) = TX from ba_eq (by rw [HTX.out])] at h
            exact h)
          go_wp2_with (first
            | (go_at_call 27; (with_reducible refine HC.out.mono ?_); rintro e w1 ⟨rfl, hl1⟩; have he0 : w1.cell? ⟨wr.heap.size, 0, none⟩ = some (.int .i64 1) := cell_of_block (hl1.block (alloc_block wr (.cells #[.int .i64 1, .int .i64 mn', .int .i64 mx', .int .u64 s0', .int .u64 s1', .int .u64 s2', .int .u64 s3', .slice a' l'.length cap'] 26))) 0; have hbel1 := (hbel.alloc (by omega) (.cells #[.int .i64 1, .int .i64 mn', .int .i64 mx', .int .u64 s0', .int .u64 s1', .int .u64 s2', .int .u64 s3', .slice a' l'.length cap'] 26)).trans (hl1.out.mono (show w.heap.size + 1 ≤ _ by simp; omega)); have c0 := laid_cell hbel1 (by omega) 0 (.int .i64 2) rfl; have hlt1 : wr.heap.size < w1.heap.size := lt_of_block (hl1.block (alloc_block wr (.cells #[.int .i64 1, .int .i64 mn', .int .i64 mx', .int .u64 s0', .int .u64 s1', .int .u64 s2', .int .u64 s3', .slice a' l'.length cap'] 26))))
            | fail)
          go_roundw
          case measure => simp [intOf]; omega
          case rel =>
            refine ⟨j + 1, TS ++ ⟨#[124]⟩ ++ TX, by omega, by go_num, rfl, ?_, hbel1⟩
            have hts := HTS.out
            have hel := HEL.out
            have hxe := HXE.out
            rw [acc_step (by omega) hj0]
            skip
            rw [hxe, hel]
            
            simp [par, hts, barT]
        · obtain ⟨d0, d1, d2, d3, d4, d5, d6, d7⟩ := node_cells (o := o + j * 8) (fun i hi => (hbel.cell (p := ⟨b, o + j * 8 + i, none⟩) (by show b < w.heap.size + 1; omega)).trans (hcs i hi))
          clear hcs
          have HEL := Lib.hid (show elemT 2 (RxA.node 2 mn' mx' s0' s1' s2' s3' a' cap' l').bare = par TX.data.toList from by rw [HTX.out]; rfl)
          have HC := Lib.hid (show Calls Tryz.prog 27 #[.agg #[.int .i64 2, .int .i64 mn', .int .i64 mx', .int .u64 s0', .int .u64 s1', .int .u64 s2', .int .u64 s3', .slice a' l'.length cap']] (wr.alloc (.cells #[.int .i64 2, .int .i64 mn', .int .i64 mx', .int .u64 s0', .int .u64 s1', .int .u64 s2', .int .u64 s3', .slice a' l'.length cap'] 26)) fun e w' => e = .returned (.string TX) ∧ Later (wr.alloc (.cells #[.int .i64 2, .int .i64 mn', .int .i64 mx', .int .u64 s0', .int .u64 s1', .int .u64 s2', .int .u64 s3', .slice a' l'.length cap'] 26)) w' from by
            have h := HIH.out (wr.alloc (.cells #[.int .i64 2, .int .i64 mn', .int .i64 mx', .int .u64 s0', .int .u64 s1', .int .u64 s2', .int .u64 s3', .slice a' l'.length cap'] 26)) B (by simp; omega) ((hxin.below hbw hB).below ((Below.refl wr.heap.size wr).alloc (Nat.le_refl _) _) (by omega)) HF.out HBG.out
            rw [show (⟨(RxA.node 2 mn' mx' s0' s1' s2' s3' a' cap' l').bare.text.toArray⟩ : ByteArray) = TX from ba_eq (by rw [HTX.out])] at h
            exact h)
          go_wp2_with (first
            | (go_at_call 27; (with_reducible refine HC.out.mono ?_); rintro e w1 ⟨rfl, hl1⟩; have he0 : w1.cell? ⟨wr.heap.size, 0, none⟩ = some (.int .i64 2) := cell_of_block (hl1.block (alloc_block wr (.cells #[.int .i64 2, .int .i64 mn', .int .i64 mx', .int .u64 s0', .int .u64 s1', .int .u64 s2', .int .u64 s3', .slice a' l'.length cap'] 26))) 0; have hbel1 := (hbel.alloc (by omega) (.cells #[.int .i64 2, .int .i64 mn', .int .i64 mx', .int .u64 s0', .int .u64 s1', .int .u64 s2', .int .u64 s3', .slice a' l'.length cap'] 26)).trans (hl1.out.mono (show w.heap.size + 1 ≤ _ by simp; omega)); have c0 := laid_cell hbel1 (by omega) 0 (.int .i64 2) rfl; have hlt1 : wr.heap.size < w1.heap.size := lt_of_block (hl1.block (alloc_block wr (.cells #[.int .i64 2, .int .i64 mn', .int .i64 mx', .int .u64 s0', .int .u64 s1', .int .u64 s2', .int .u64 s3', .slice a' l'.length cap'] 26))))
            | fail)
          go_roundw
          case measure => simp [intOf]; omega
          case rel =>
            refine ⟨j + 1, TS ++ ⟨#[124]⟩ ++ (⟨#[40]⟩ ++ TX ++ ⟨#[41]⟩), by omega, by go_num, rfl, ?_, hbel1⟩
            have hts := HTS.out
            have hel := HEL.out
            have hxe := HXE.out
            rw [acc_step (by omega) hj0]
            skip
            rw [hxe, hel]
            
            simp [par, hts, barT]
        · obtain ⟨d0, d1, d2, d3, d4, d5, d6, d7⟩ := node_cells (o := o + j * 8) (fun i hi => (hbel.cell (p := ⟨b, o + j * 8 + i, none⟩) (by show b < w.heap.size + 1; omega)).trans (hcs i hi))
          clear hcs
          have HEL := Lib.hid (show elemT 2 (RxA.node 3 mn' mx' s0' s1' s2' s3' a' cap' l').bare = TX.data.toList from by rw [HTX.out]; rfl)
          have HC := Lib.hid (show Calls Tryz.prog 27 #[.agg #[.int .i64 3, .int .i64 mn', .int .i64 mx', .int .u64 s0', .int .u64 s1', .int .u64 s2', .int .u64 s3', .slice a' l'.length cap']] (wr.alloc (.cells #[.int .i64 3, .int .i64 mn', .int .i64 mx', .int .u64 s0', .int .u64 s1', .int .u64 s2', .int .u64 s3', .slice a' l'.length cap'] 26)) fun e w' => e = .returned (.string TX) ∧ Later (wr.alloc (.cells #[.int .i64 3, .int .i64 mn', .int .i64 mx', .int .u64 s0', .int .u64 s1', .int .u64 s2', .int .u64 s3', .slice a' l'.length cap'] 26)) w' from by
            have h := HIH.out (wr.alloc (.cells #[.int .i64 3, .int .i64 mn', .int .i64 mx', .int .u64 s0', .int .u64 s1', .int .u64 s2', .int .u64 s3', .slice a' l'.length cap'] 26)) B (by simp; omega) ((hxin.below hbw hB).below ((Below.refl wr.heap.size wr).alloc (Nat.le_refl _) _) (by omega)) HF.out HBG.out
            rw [show (⟨(RxA.node 3 mn' mx' s0' s1' s2' s3' a' cap' l').bare.text.toArray⟩ : ByteArray) = TX from ba_eq (by rw [HTX.out])] at h
            exact h)
          go_wp2_with (first
            | (go_at_call 27; (with_reducible refine HC.out.mono ?_); rintro e w1 ⟨rfl, hl1⟩; have he0 : w1.cell? ⟨wr.heap.size, 0, none⟩ = some (.int .i64 3) := cell_of_block (hl1.block (alloc_block wr (.cells #[.int .i64 3, .int .i64 mn', .int .i64 mx', .int .u64 s0', .int .u64 s1', .int .u64 s2', .int .u64 s3', .slice a' l'.length cap'] 26))) 0; have hbel1 := (hbel.alloc (by omega) (.cells #[.int .i64 3, .int .i64 mn', .int .i64 mx', .int .u64 s0', .int .u64 s1', .int .u64 s2', .int .u64 s3', .slice a' l'.length cap'] 26)).trans (hl1.out.mono (show w.heap.size + 1 ≤ _ by simp; omega)); have c0 := laid_cell hbel1 (by omega) 0 (.int .i64 2) rfl; have hlt1 : wr.heap.size < w1.heap.size := lt_of_block (hl1.block (alloc_block wr (.cells #[.int .i64 3, .int .i64 mn', .int .i64 mx', .int .u64 s0', .int .u64 s1', .int .u64 s2', .int .u64 s3', .slice a' l'.length cap'] 26))))
            | fail)
          go_roundw
          case measure => simp [intOf]; omega
          case rel =>
            refine ⟨j + 1, TS ++ ⟨#[124]⟩ ++ TX, by omega, by go_num, rfl, ?_, hbel1⟩
            have hts := HTS.out
            have hel := HEL.out
            have hxe := HXE.out
            rw [acc_step (by omega) hj0]
            skip
            rw [hxe, hel]
            
            simp [par, hts, barT]
    · obtain rfl : j = l.length := by omega
      have c0 := laid_cell hbel (by omega) 0 (.int .i64 2) rfl
      have c7 := laid_cell hbel (by omega) 7 (.slice a l.length cap) rfl
      have hts := HTS.out
      rw [List.take_length] at hts
      have HT := Lib.hid (show S = TS from ba_eq (by rw [HS.out, hts]; simp only [RxA.bare]; rw [alt_text, accT_alt]))
      clear hts
      go_wp2_with fail
      go_ret
      exact ⟨ret_str HT.out.symm, hbw'⟩
end Go.Proofs.YtjhclopdcbnmkaaGreatDoor
