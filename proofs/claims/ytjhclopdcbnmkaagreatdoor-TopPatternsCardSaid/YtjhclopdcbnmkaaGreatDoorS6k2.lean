/- The walk of pattern at the kind 2. (Printed by wip/gen_s6.py.) -/
import Derived.Test.YtjhclopdcbnmkaaGreatDoorS6
set_option linter.unusedSimpArgs false
set_option linter.unusedVariables false
namespace Go.Proofs.YtjhclopdcbnmkaaGreatDoor
open Go.RowKit PX

set_option maxRecDepth 100000 in
set_option maxHeartbeats 4000000 in
theorem pattern_2 (mn mx s0 s1 s2 s3 : Int) (a : Option Addr) (cap : Nat) (l : List RxA) (ih : ∀ x ∈ l, PatOf x) (w : World) (B : Nat) (hB : B ≤ w.heap.size) (hin : (RxA.node 2 mn mx s0 s1 s2 s3 a cap l).In w B) (hf : (RxA.node 2 mn mx s0 s1 s2 s3 a cap l).bare.formB = true) (hbig : (RxA.node 2 mn mx s0 s1 s2 s3 a cap l).bare.big ≤ 256) (hP : PowAt w) :
    Calls Tryz.prog 26 #[(RxA.node 2 mn mx s0 s1 s2 s3 a cap l).val] w fun e w' => e = .returned (.string ⟨(RxA.node 2 mn mx s0 s1 s2 s3 a cap l).bare.text.toArray⟩) ∧ Later w w' := by
  have hlen := text_len _ hf
  simp only [RxA.In] at hin
  obtain ⟨⟨bk, bmn, bmx, -⟩, hl1, hl2, hl3, hl⟩ := hin
  have hfl : formAll (bareAll l) = true := by simp only [RxA.bare] at hf; rw [formB_iff] at hf; exact hf.2
  have hbb : bigAll (bareAll l) ≤ 255 := by
    simp only [RxA.bare, Rx.big] at hbig
    have h1 := times_pos 2 mn mx
    have h2 := bigAll_nonneg (bareAll l)
    have h3 := Int.mul_le_mul_of_nonneg_right h1 h2
    omega
  have hll : l.length ≤ 255 := by have := bigAll_len l; omega
  unfold maxLen at hl2
  obtain ⟨S, hS⟩ : ∃ S : ByteArray, (⟨(RxA.node 2 mn mx s0 s1 s2 s3 a cap l).bare.text.toArray⟩ : ByteArray) = S := ⟨_, rfl⟩
  rw [hS]
  have HS := Lib.hid hS
  have HFF := Lib.hid hf
  have HLEN := Lib.hid (show (RxA.node 2 mn mx s0 s1 s2 s3 a cap l).bare.text.length ≤ 640000 from by omega)
  have HPW := Lib.hid hP
  have HFL := Lib.hid hfl
  have HBB := Lib.hid hbb
  have IH := Lib.hid ih
  have HG := Lib.hid (show ∀ j (h : j < l.length), ∃ b o, a = some ⟨b, o, none⟩ ∧ b < w.heap.size ∧ (∀ i, i < 8 → (w.alloc (.cells #[.int .i64 2, .int .i64 mn, .int .i64 mx, .int .u64 s0, .int .u64 s1, .int .u64 s2, .int .u64 s3, .slice a l.length cap] 26)).cell? ⟨b, o + j * 8 + i, none⟩ = l[j].cells[i]?) ∧ l[j].In w B from by
    intro j hj
    rcases hl with rfl | ⟨b, o, rfl, hb, hl⟩
    · simp at hj
    · have := RxA.In.get hl j hj
      exact ⟨b, o, rfl, by omega, fun i hi => (World.cell?_alloc_past _ _ _ (by show b < w.heap.size; omega)).trans (this.1 i hi), this.2⟩)
  clear hlen hl hfl hbig hbb hf hP hS ih
  show Calls Tryz.prog 26 #[.agg #[.int .i64 2, .int .i64 mn, .int .i64 mx, .int .u64 s0, .int .u64 s1, .int .u64 s2, .int .u64 s3, .slice a l.length cap]] w _
  obtain ⟨iS, hiS, hz0, hz1, hz2⟩ := info_parts info_strg
  go_enter Tryz.func26, Tryz.ntmps26
  go_wp2_with fail
  go_loopw [3, 18] (fun vp vi wr => ∃ j : Nat, j ≤ l.length ∧ vi = .int .i64 j ∧ wr.ownsRow (w.heap.size + 1) 9 1 vp j (strRow ((bareAll (l.take j)).map (elemT 2))) ∧ Below (w.heap.size + 1) (w.alloc (.cells #[.int .i64 2, .int .i64 mn, .int .i64 mx, .int .u64 s0, .int .u64 s1, .int .u64 s2, .int .u64 s3, .slice a l.length cap] 26)) wr) (fun _ vi _ => l.length - (intOf vi).toNat)
  case atStart => exact ⟨0, Nat.zero_le _, rfl, World.ownsRow_nil _ _ _ _, Below.refl _ _⟩
  case round =>
    obtain ⟨j, hj, rfl, hrow, hbel⟩ := hrel
    have hbw : Below w.heap.size w wr := ((Below.refl _ _).alloc (Nat.le_refl _) _).trans (hbel.mono (by omega))
    have hbw' : Later w wr := hbw
    have hws := hbel.size
    simp only [World.size_alloc] at hws
    have HROW := Lib.hid hrow
    clear hrow
    by_cases hlt : j < l.length
    · obtain ⟨b, o, rfl, hb, hcs, hxin⟩ := HG.out j hlt
      have hih := IH.out l[j] (List.getElem_mem hlt)
      have hxf := formAll_mem HFL.out (List.getElem_mem hlt)
      have hxb : l[j].bare.big ≤ 256 := by have := bigAll_mem (List.getElem_mem hlt); have := HBB.out; omega
      have HSN := Lib.hid (strRow_snoc 2 l j hlt)
      obtain ⟨x, hxe⟩ : ∃ x, l[j] = x := ⟨_, rfl⟩
      rw [hxe] at hcs hxin hih hxf hxb
      have HXE := Lib.hid hxe
      have hxl := text_len _ hxf
      obtain ⟨TX, hTX⟩ : ∃ TX : ByteArray, (⟨x.bare.text.toArray⟩ : ByteArray) = TX := ⟨_, rfl⟩
      have htx : TX.size ≤ 640000 := by
        rw [← hTX]
        show x.bare.text.toArray.size ≤ 640000
        rw [List.size_toArray]
        omega
      have HTX := Lib.hid hTX
      have HF := Lib.hid hxf
      have HBG := Lib.hid hxb
      have hjl : (j : Int) < (l.length : Int) := by omega
      clear hxe hTX hxb hxl
      obtain ⟨k', mn', mx', s0', s1', s2', s3', a', cap', l'⟩ := x
      have hk := rx_kinds hxf
      have HIH := Lib.hid hih
      clear hih hxf
      rcases hk with rfl | rfl | rfl | rfl
      · obtain ⟨d0, d1, d2, d3, d4, d5, d6, d7⟩ := node_cells (o := o + j * 8) (fun i hi => (hbel.cell (p := ⟨b, o + j * 8 + i, none⟩) (by show b < w.heap.size + 1; omega)).trans (hcs i hi))
        clear hcs
        have HEL := Lib.hid (show (TX : ByteArray) = ⟨(elemT 2 (RxA.node 0 mn' mx' s0' s1' s2' s3' a' cap' l').bare).toArray⟩ from HTX.out.symm)
        have HC := Lib.hid (show Calls Tryz.prog 26 #[.agg #[.int .i64 0, .int .i64 mn', .int .i64 mx', .int .u64 s0', .int .u64 s1', .int .u64 s2', .int .u64 s3', .slice a' l'.length cap']] (wr.alloc (.cells #[.int .i64 0, .int .i64 mn', .int .i64 mx', .int .u64 s0', .int .u64 s1', .int .u64 s2', .int .u64 s3', .slice a' l'.length cap'] 26)) fun e w' => e = .returned (.string TX) ∧ Later (wr.alloc (.cells #[.int .i64 0, .int .i64 mn', .int .i64 mx', .int .u64 s0', .int .u64 s1', .int .u64 s2', .int .u64 s3', .slice a' l'.length cap'] 26)) w' from by
          have h := HIH.out (wr.alloc (.cells #[.int .i64 0, .int .i64 mn', .int .i64 mx', .int .u64 s0', .int .u64 s1', .int .u64 s2', .int .u64 s3', .slice a' l'.length cap'] 26)) B (by simp; omega) ((hxin.below hbw hB).below ((Below.refl wr.heap.size wr).alloc (Nat.le_refl _) _) (by omega)) HF.out HBG.out (HPW.out.later (hbw'.alloc _))
          rw [HTX.out] at h
          exact h)
        go_wp2_with (first
          | (go_at_call 26; (with_reducible refine HC.out.mono ?_); rintro e w1 ⟨rfl, hl1⟩; have he0 : w1.cell? ⟨wr.heap.size, 0, none⟩ = some (.int .i64 0) := cell_of_block (hl1.block (alloc_block wr (.cells #[.int .i64 0, .int .i64 mn', .int .i64 mx', .int .u64 s0', .int .u64 s1', .int .u64 s2', .int .u64 s3', .slice a' l'.length cap'] 26))) 0; have hbel1 := (hbel.alloc (by omega) (.cells #[.int .i64 0, .int .i64 mn', .int .i64 mx', .int .u64 s0', .int .u64 s1', .int .u64 s2', .int .u64 s3', .slice a' l'.length cap'] 26)).trans (hl1.out.mono (show w.heap.size + 1 ≤ _ by simp; omega)); have c0 := laid_cell hbel1 (by omega) 0 (.int .i64 2) rfl; have HOW1 := Lib.hid (own_later (own_later HROW.out ((Later.refl wr).alloc _)) hl1))
          | (at_builtin; refine wpList_append_own _ rfl (.tmp 48) (.tmp 50) 95 rfl (w.heap.size + 1) 9 iS (.string ⟨#[]⟩) 1 16 Tryz.underlying95 hiS hz0 hz1 hz2 rfl (by decide) _ _ _ rfl (HOW1.out.alloc _) ⟨w1.heap.size, 0, none⟩ 1 1 [.string TX] rfl rfl (cells_new w1 [.string TX] 9) (by intro u hu; rw [List.mem_singleton.1 hu]; rfl) (by unfold maxLen; omega) (by omega) (by have := hbel1.size; simp only [World.size_alloc] at *; omega) ?_; intro v' w2 hown2 hgrow2 _)
          | fail)
        go_roundw
        case measure => simp [intOf]; omega
        case rel =>
          refine ⟨j + 1, by omega, by go_num, ?_, ?_⟩
          · have h := hown2
            rw [HEL.out] at h
            have h2 := HSN.out
            rw [HXE.out] at h2
            rw [h2]
            exact h
          · have hA := hbel1.alloc (by have := hbel1.size; simp only [World.size_alloc] at *; omega) (.cells #[.string TX] 9)
            refine Below.grown hA hgrow2 (by have := hA.size; simp only [World.size_alloc] at *; omega) (fun q hq => ?_)
            have := (HROW.out.lt q hq).1
            omega
      · obtain ⟨d0, d1, d2, d3, d4, d5, d6, d7⟩ := node_cells (o := o + j * 8) (fun i hi => (hbel.cell (p := ⟨b, o + j * 8 + i, none⟩) (by show b < w.heap.size + 1; omega)).trans (hcs i hi))
        clear hcs
        have HEL := Lib.hid (show (TX : ByteArray) = ⟨(elemT 2 (RxA.node 1 mn' mx' s0' s1' s2' s3' a' cap' l').bare).toArray⟩ from HTX.out.symm)
        have HC := Lib.hid (show Calls Tryz.prog 26 #[.agg #[.int .i64 1, .int .i64 mn', .int .i64 mx', .int .u64 s0', .int .u64 s1', .int .u64 s2', .int .u64 s3', .slice a' l'.length cap']] (wr.alloc (.cells #[.int .i64 1, .int .i64 mn', .int .i64 mx', .int .u64 s0', .int .u64 s1', .int .u64 s2', .int .u64 s3', .slice a' l'.length cap'] 26)) fun e w' => e = .returned (.string TX) ∧ Later (wr.alloc (.cells #[.int .i64 1, .int .i64 mn', .int .i64 mx', .int .u64 s0', .int .u64 s1', .int .u64 s2', .int .u64 s3', .slice a' l'.length cap'] 26)) w' from by
          have h := HIH.out (wr.alloc (.cells #[.int .i64 1, .int .i64 mn', .int .i64 mx', .int .u64 s0', .int .u64 s1', .int .u64 s2', .int .u64 s3', .slice a' l'.length cap'] 26)) B (by simp; omega) ((hxin.below hbw hB).below ((Below.refl wr.heap.size wr).alloc (Nat.le_refl _) _) (by omega)) HF.out HBG.out (HPW.out.later (hbw'.alloc _))
          rw [HTX.out] at h
          exact h)
        go_wp2_with (first
          | (go_at_call 26; (with_reducible refine HC.out.mono ?_); rintro e w1 ⟨rfl, hl1⟩; have he0 : w1.cell? ⟨wr.heap.size, 0, none⟩ = some (.int .i64 1) := cell_of_block (hl1.block (alloc_block wr (.cells #[.int .i64 1, .int .i64 mn', .int .i64 mx', .int .u64 s0', .int .u64 s1', .int .u64 s2', .int .u64 s3', .slice a' l'.length cap'] 26))) 0; have hbel1 := (hbel.alloc (by omega) (.cells #[.int .i64 1, .int .i64 mn', .int .i64 mx', .int .u64 s0', .int .u64 s1', .int .u64 s2', .int .u64 s3', .slice a' l'.length cap'] 26)).trans (hl1.out.mono (show w.heap.size + 1 ≤ _ by simp; omega)); have c0 := laid_cell hbel1 (by omega) 0 (.int .i64 2) rfl; have HOW1 := Lib.hid (own_later (own_later HROW.out ((Later.refl wr).alloc _)) hl1))
          | (at_builtin; refine wpList_append_own _ rfl (.tmp 48) (.tmp 50) 95 rfl (w.heap.size + 1) 9 iS (.string ⟨#[]⟩) 1 16 Tryz.underlying95 hiS hz0 hz1 hz2 rfl (by decide) _ _ _ rfl (HOW1.out.alloc _) ⟨w1.heap.size, 0, none⟩ 1 1 [.string TX] rfl rfl (cells_new w1 [.string TX] 9) (by intro u hu; rw [List.mem_singleton.1 hu]; rfl) (by unfold maxLen; omega) (by omega) (by have := hbel1.size; simp only [World.size_alloc] at *; omega) ?_; intro v' w2 hown2 hgrow2 _)
          | fail)
        go_roundw
        case measure => simp [intOf]; omega
        case rel =>
          refine ⟨j + 1, by omega, by go_num, ?_, ?_⟩
          · have h := hown2
            rw [HEL.out] at h
            have h2 := HSN.out
            rw [HXE.out] at h2
            rw [h2]
            exact h
          · have hA := hbel1.alloc (by have := hbel1.size; simp only [World.size_alloc] at *; omega) (.cells #[.string TX] 9)
            refine Below.grown hA hgrow2 (by have := hA.size; simp only [World.size_alloc] at *; omega) (fun q hq => ?_)
            have := (HROW.out.lt q hq).1
            omega
      · obtain ⟨d0, d1, d2, d3, d4, d5, d6, d7⟩ := node_cells (o := o + j * 8) (fun i hi => (hbel.cell (p := ⟨b, o + j * 8 + i, none⟩) (by show b < w.heap.size + 1; omega)).trans (hcs i hi))
        clear hcs
        have HEL := Lib.hid (show ((⟨#[40]⟩ ++ TX ++ ⟨#[41]⟩) : ByteArray) = ⟨(elemT 2 (RxA.node 2 mn' mx' s0' s1' s2' s3' a' cap' l').bare).toArray⟩ from par_str TX _ HTX.out)
        have HC := Lib.hid (show Calls Tryz.prog 26 #[.agg #[.int .i64 2, .int .i64 mn', .int .i64 mx', .int .u64 s0', .int .u64 s1', .int .u64 s2', .int .u64 s3', .slice a' l'.length cap']] (wr.alloc (.cells #[.int .i64 2, .int .i64 mn', .int .i64 mx', .int .u64 s0', .int .u64 s1', .int .u64 s2', .int .u64 s3', .slice a' l'.length cap'] 26)) fun e w' => e = .returned (.string TX) ∧ Later (wr.alloc (.cells #[.int .i64 2, .int .i64 mn', .int .i64 mx', .int .u64 s0', .int .u64 s1', .int .u64 s2', .int .u64 s3', .slice a' l'.length cap'] 26)) w' from by
          have h := HIH.out (wr.alloc (.cells #[.int .i64 2, .int .i64 mn', .int .i64 mx', .int .u64 s0', .int .u64 s1', .int .u64 s2', .int .u64 s3', .slice a' l'.length cap'] 26)) B (by simp; omega) ((hxin.below hbw hB).below ((Below.refl wr.heap.size wr).alloc (Nat.le_refl _) _) (by omega)) HF.out HBG.out (HPW.out.later (hbw'.alloc _))
          rw [HTX.out] at h
          exact h)
        go_wp2_with (first
          | (go_at_call 26; (with_reducible refine HC.out.mono ?_); rintro e w1 ⟨rfl, hl1⟩; have he0 : w1.cell? ⟨wr.heap.size, 0, none⟩ = some (.int .i64 2) := cell_of_block (hl1.block (alloc_block wr (.cells #[.int .i64 2, .int .i64 mn', .int .i64 mx', .int .u64 s0', .int .u64 s1', .int .u64 s2', .int .u64 s3', .slice a' l'.length cap'] 26))) 0; have hbel1 := (hbel.alloc (by omega) (.cells #[.int .i64 2, .int .i64 mn', .int .i64 mx', .int .u64 s0', .int .u64 s1', .int .u64 s2', .int .u64 s3', .slice a' l'.length cap'] 26)).trans (hl1.out.mono (show w.heap.size + 1 ≤ _ by simp; omega)); have c0 := laid_cell hbel1 (by omega) 0 (.int .i64 2) rfl; have HOW1 := Lib.hid (own_later (own_later HROW.out ((Later.refl wr).alloc _)) hl1))
          | (at_builtin; refine wpList_append_own _ rfl (.tmp 48) (.tmp 50) 95 rfl (w.heap.size + 1) 9 iS (.string ⟨#[]⟩) 1 16 Tryz.underlying95 hiS hz0 hz1 hz2 rfl (by decide) _ _ _ rfl (HOW1.out.alloc _) ⟨w1.heap.size, 0, none⟩ 1 1 [.string (⟨#[40]⟩ ++ TX ++ ⟨#[41]⟩)] rfl rfl (cells_new w1 [.string (⟨#[40]⟩ ++ TX ++ ⟨#[41]⟩)] 9) (by intro u hu; rw [List.mem_singleton.1 hu]; rfl) (by unfold maxLen; omega) (by omega) (by have := hbel1.size; simp only [World.size_alloc] at *; omega) ?_; intro v' w2 hown2 hgrow2 _)
          | fail)
        go_roundw
        case measure => simp [intOf]; omega
        case rel =>
          refine ⟨j + 1, by omega, by go_num, ?_, ?_⟩
          · have h := hown2
            rw [HEL.out] at h
            have h2 := HSN.out
            rw [HXE.out] at h2
            rw [h2]
            exact h
          · have hA := hbel1.alloc (by have := hbel1.size; simp only [World.size_alloc] at *; omega) (.cells #[.string (⟨#[40]⟩ ++ TX ++ ⟨#[41]⟩)] 9)
            refine Below.grown hA hgrow2 (by have := hA.size; simp only [World.size_alloc] at *; omega) (fun q hq => ?_)
            have := (HROW.out.lt q hq).1
            omega
      · obtain ⟨d0, d1, d2, d3, d4, d5, d6, d7⟩ := node_cells (o := o + j * 8) (fun i hi => (hbel.cell (p := ⟨b, o + j * 8 + i, none⟩) (by show b < w.heap.size + 1; omega)).trans (hcs i hi))
        clear hcs
        have HEL := Lib.hid (show (TX : ByteArray) = ⟨(elemT 2 (RxA.node 3 mn' mx' s0' s1' s2' s3' a' cap' l').bare).toArray⟩ from HTX.out.symm)
        have HC := Lib.hid (show Calls Tryz.prog 26 #[.agg #[.int .i64 3, .int .i64 mn', .int .i64 mx', .int .u64 s0', .int .u64 s1', .int .u64 s2', .int .u64 s3', .slice a' l'.length cap']] (wr.alloc (.cells #[.int .i64 3, .int .i64 mn', .int .i64 mx', .int .u64 s0', .int .u64 s1', .int .u64 s2', .int .u64 s3', .slice a' l'.length cap'] 26)) fun e w' => e = .returned (.string TX) ∧ Later (wr.alloc (.cells #[.int .i64 3, .int .i64 mn', .int .i64 mx', .int .u64 s0', .int .u64 s1', .int .u64 s2', .int .u64 s3', .slice a' l'.length cap'] 26)) w' from by
          have h := HIH.out (wr.alloc (.cells #[.int .i64 3, .int .i64 mn', .int .i64 mx', .int .u64 s0', .int .u64 s1', .int .u64 s2', .int .u64 s3', .slice a' l'.length cap'] 26)) B (by simp; omega) ((hxin.below hbw hB).below ((Below.refl wr.heap.size wr).alloc (Nat.le_refl _) _) (by omega)) HF.out HBG.out (HPW.out.later (hbw'.alloc _))
          rw [HTX.out] at h
          exact h)
        go_wp2_with (first
          | (go_at_call 26; (with_reducible refine HC.out.mono ?_); rintro e w1 ⟨rfl, hl1⟩; have he0 : w1.cell? ⟨wr.heap.size, 0, none⟩ = some (.int .i64 3) := cell_of_block (hl1.block (alloc_block wr (.cells #[.int .i64 3, .int .i64 mn', .int .i64 mx', .int .u64 s0', .int .u64 s1', .int .u64 s2', .int .u64 s3', .slice a' l'.length cap'] 26))) 0; have hbel1 := (hbel.alloc (by omega) (.cells #[.int .i64 3, .int .i64 mn', .int .i64 mx', .int .u64 s0', .int .u64 s1', .int .u64 s2', .int .u64 s3', .slice a' l'.length cap'] 26)).trans (hl1.out.mono (show w.heap.size + 1 ≤ _ by simp; omega)); have c0 := laid_cell hbel1 (by omega) 0 (.int .i64 2) rfl; have HOW1 := Lib.hid (own_later (own_later HROW.out ((Later.refl wr).alloc _)) hl1))
          | (at_builtin; refine wpList_append_own _ rfl (.tmp 48) (.tmp 50) 95 rfl (w.heap.size + 1) 9 iS (.string ⟨#[]⟩) 1 16 Tryz.underlying95 hiS hz0 hz1 hz2 rfl (by decide) _ _ _ rfl (HOW1.out.alloc _) ⟨w1.heap.size, 0, none⟩ 1 1 [.string TX] rfl rfl (cells_new w1 [.string TX] 9) (by intro u hu; rw [List.mem_singleton.1 hu]; rfl) (by unfold maxLen; omega) (by omega) (by have := hbel1.size; simp only [World.size_alloc] at *; omega) ?_; intro v' w2 hown2 hgrow2 _)
          | fail)
        go_roundw
        case measure => simp [intOf]; omega
        case rel =>
          refine ⟨j + 1, by omega, by go_num, ?_, ?_⟩
          · have h := hown2
            rw [HEL.out] at h
            have h2 := HSN.out
            rw [HXE.out] at h2
            rw [h2]
            exact h
          · have hA := hbel1.alloc (by have := hbel1.size; simp only [World.size_alloc] at *; omega) (.cells #[.string TX] 9)
            refine Below.grown hA hgrow2 (by have := hA.size; simp only [World.size_alloc] at *; omega) (fun q hq => ?_)
            have := (HROW.out.lt q hq).1
            omega
    · obtain rfl : j = l.length := by omega
      have c0 := laid_cell hbel (by omega) 0 (.int .i64 2) rfl
      have hrow := HROW.out
      rw [List.take_length] at hrow
      have hjt : Lib.join ((bareAll l).map (elemT 2)) (⟨#[124]⟩ : ByteArray).data.toList = (RxA.node 2 mn mx s0 s1 s2 s3 a cap l).bare.text := by
        simp only [RxA.bare]
        rw [alt_text]
        exact join_alt _
      have HJ := Lib.hid (show Calls Tryz.prog 45 #[u3, .string ⟨#[124]⟩] wr fun e w' => e = .returned (.string S) ∧ Later wr w' from by
        have h := join_any wr (w.heap.size + 1) u3 ((bareAll l).map (elemT 2)) ⟨#[124]⟩ (by rw [List.length_map, bareAll_len]; exact hrow) (by rw [List.length_map, bareAll_len]; omega) (by rw [hjt]; have := HLEN.out; omega)
        rw [hjt, HS.out] at h
        exact h)
      clear hrow hjt
      go_wp2_with (first
        | (go_at_call 45; (with_reducible refine HJ.out.mono ?_); rintro e w1 ⟨rfl, hl1⟩)
        | fail)
      go_ret
      exact ⟨rfl, hbw'.trans hl1⟩
end Go.Proofs.YtjhclopdcbnmkaaGreatDoor
