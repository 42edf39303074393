/- The walk of pattern at the kind 3. (Printed by wip/gen_s6.py.) -/
import Derived.Test.YtjhclopdcbnmkaaGreatDoorS6
set_option linter.unusedSimpArgs false
set_option linter.unusedVariables false
namespace Go.Proofs.YtjhclopdcbnmkaaGreatDoor
open Go.RowKit PX

set_option maxRecDepth 100000 in
set_option maxHeartbeats 4000000 in
theorem pattern_3 (mn mx s0 s1 s2 s3 : Int) (a : Option Addr) (cap : Nat) (l : List RxA) (ih : ∀ x ∈ l, PatOf x) (w : World) (B : Nat) (hB : B ≤ w.heap.size) (hin : (RxA.node 3 mn mx s0 s1 s2 s3 a cap l).In w B) (hf : (RxA.node 3 mn mx s0 s1 s2 s3 a cap l).bare.formB = true) (hbig : (RxA.node 3 mn mx s0 s1 s2 s3 a cap l).bare.big ≤ 256) (hP : PowAt w) :
    Calls Tryz.prog 26 #[(RxA.node 3 mn mx s0 s1 s2 s3 a cap l).val] w fun e w' => e = .returned (.string ⟨(RxA.node 3 mn mx s0 s1 s2 s3 a cap l).bare.text.toArray⟩) ∧ Later w w' := by
  have hlen := text_len _ hf
  simp only [RxA.In] at hin
  obtain ⟨⟨bk, bmn, bmx, -⟩, hl1, hl2, hl3, hl⟩ := hin
  have hfl : formAll (bareAll l) = true := by simp only [RxA.bare] at hf; rw [formB_iff] at hf; exact hf.2
  have hbb : bigAll (bareAll l) ≤ 255 := by
    simp only [RxA.bare, Rx.big] at hbig
    have h1 := times_pos 3 mn mx
    have h2 := bigAll_nonneg (bareAll l)
    have h3 := Int.mul_le_mul_of_nonneg_right h1 h2
    omega
  have hll : l.length ≤ 255 := by have := bigAll_len l; omega
  unfold maxLen at hl2
  obtain ⟨S, hS⟩ : ∃ S : ByteArray, (⟨(RxA.node 3 mn mx s0 s1 s2 s3 a cap l).bare.text.toArray⟩ : ByteArray) = S := ⟨_, rfl⟩
  rw [hS]
  have HS := Lib.hid hS
  have HFF := Lib.hid hf
  have HLEN := Lib.hid (show (RxA.node 3 mn mx s0 s1 s2 s3 a cap l).bare.text.length ≤ 640000 from by omega)
  have HPW := Lib.hid hP
  have HFL := Lib.hid hfl
  have HBB := Lib.hid hbb
  have IH := Lib.hid ih
  have HG := Lib.hid (show ∀ j (h : j < l.length), ∃ b o, a = some ⟨b, o, none⟩ ∧ b < w.heap.size ∧ (∀ i, i < 8 → (w.alloc (.cells #[.int .i64 3, .int .i64 mn, .int .i64 mx, .int .u64 s0, .int .u64 s1, .int .u64 s2, .int .u64 s3, .slice a l.length cap] 26)).cell? ⟨b, o + j * 8 + i, none⟩ = l[j].cells[i]?) ∧ l[j].In w B from by
    intro j hj
    rcases hl with rfl | ⟨b, o, rfl, hb, hl⟩
    · simp at hj
    · have := RxA.In.get hl j hj
      exact ⟨b, o, rfl, by omega, fun i hi => (World.cell?_alloc_past _ _ _ (by show b < w.heap.size; omega)).trans (this.1 i hi), this.2⟩)
  clear hlen hl hfl hbig hbb hf hP hS ih
  show Calls Tryz.prog 26 #[.agg #[.int .i64 3, .int .i64 mn, .int .i64 mx, .int .u64 s0, .int .u64 s1, .int .u64 s2, .int .u64 s3, .slice a l.length cap]] w _
  obtain ⟨iS, hiS, hz0, hz1, hz2⟩ := info_parts info_strg
  go_enter Tryz.func26, Tryz.ntmps26
  go_wp2_with fail
  go_loopw [3, 18] (fun vp vi wr => ∃ j : Nat, j ≤ l.length ∧ vi = .int .i64 j ∧ wr.ownsRow (w.heap.size + 1) 9 1 vp j (strRow ((bareAll (l.take j)).map (elemT 3))) ∧ Below (w.heap.size + 1) (w.alloc (.cells #[.int .i64 3, .int .i64 mn, .int .i64 mx, .int .u64 s0, .int .u64 s1, .int .u64 s2, .int .u64 s3, .slice a l.length cap] 26)) wr) (fun _ vi _ => l.length - (intOf vi).toNat)
  case atStart => exact ⟨0, Nat.zero_le _, rfl, World.ownsRow_nil _ _ _ _, Below.refl _ _⟩
  case round =>
    obtain ⟨j, hj, rfl, hrow, hbel⟩ := hrel
    have hbw : Below w.heap.size w wr := ((Below.refl _ _).alloc (Nat.le_refl _) _).trans (hbel.mono (by omega))
    have hbw' : Later w wr := hbw
    have hws := hbel.size
    simp only [World.size_alloc] at hws
    have HROW := Lib.hid hrow
    clear hrow
    by_cases hlt : j < l.length
    · obtain ⟨b, o, rfl, hb, hcs, hxin⟩ := HG.out j hlt
      have hih := IH.out l[j] (List.getElem_mem hlt)
      have hxf := formAll_mem HFL.out (List.getElem_mem hlt)
      have hxb : l[j].bare.big ≤ 256 := by have := bigAll_mem (List.getElem_mem hlt); have := HBB.out; omega
      have HSN := Lib.hid (strRow_snoc 3 l j hlt)
      obtain ⟨x, hxe⟩ : ∃ x, l[j] = x := ⟨_, rfl⟩
      rw [hxe] at hcs hxin hih hxf hxb
      have HXE := Lib.hid hxe
      have hxl := text_len _ hxf
      obtain ⟨TX, hTX⟩ : ∃ TX : ByteArray, (⟨x.bare.text.toArray⟩ : ByteArray) = TX := ⟨_, rfl⟩
      have htx : TX.size ≤ 640000 := by
        rw [← hTX]
        show x.bare.text.toArray.size ≤ 640000
        rw [List.size_toArray]
        omega
      have HTX := Lib.hid hTX
      have HF := Lib.hid hxf
      have HBG := Lib.hid hxb
      have hjl : (j : Int) < (l.length : Int) := by omega
      clear hxe hTX hxb hxl
      obtain ⟨k', mn', mx', s0', s1', s2', s3', a', cap', l'⟩ := x
      have hk := rx_kinds hxf
      have HIH := Lib.hid hih
      clear hih hxf
      rcases hk with rfl | rfl | rfl | rfl
      · obtain ⟨d0, d1, d2, d3, d4, d5, d6, d7⟩ := node_cells (o := o + j * 8) (fun i hi => (hbel.cell (p := ⟨b, o + j * 8 + i, none⟩) (by show b < w.heap.size + 1; omega)).trans (hcs i hi))
        clear hcs
        have HEL := Lib.hid (show (TX : ByteArray) = ⟨(elemT 3 (RxA.node 0 mn' mx' s0' s1' s2' s3' a' cap' l').bare).toArray⟩ from HTX.out.symm)
        have HC := Lib.hid (show Calls Tryz.prog 26 #[.agg #[.int .i64 0, .int .i64 mn', .int .i64 mx', .int .u64 s0', .int .u64 s1', .int .u64 s2', .int .u64 s3', .slice a' l'.length cap']] (wr.alloc (.cells #[.int .i64 0, .int .i64 mn', .int .i64 mx', .int .u64 s0', .int .u64 s1', .int .u64 s2', .int .u64 s3', .slice a' l'.length cap'] 26)) fun e w' => e = .returned (.string TX) ∧ Later (wr.alloc (.cells #[.int .i64 0, .int .i64 mn', .int .i64 mx', .int .u64 s0', .int .u64 s1', .int .u64 s2', .int .u64 s3', .slice a' l'.length cap'] 26)) w' from by
          have h := HIH.out (wr.alloc (.cells #[.int .i64 0, .int .i64 mn', .int .i64 mx', .int .u64 s0', .int .u64 s1', .int .u64 s2', .int .u64 s3', .slice a' l'.length cap'] 26)) B (by simp; omega) ((hxin.below hbw hB).below ((Below.refl wr.heap.size wr).alloc (Nat.le_refl _) _) (by omega)) HF.out HBG.out (HPW.out.later (hbw'.alloc _))
          rw [HTX.out] at h
          exact h)
        go_wp2_with (first
          | (go_at_call 26; (with_reducible refine HC.out.mono ?_); rintro e w1 ⟨rfl, hl1⟩; have he0 : w1.cell? ⟨wr.heap.size, 0, none⟩ = some (.int .i64 0) := cell_of_block (hl1.block (alloc_block wr (.cells #[.int .i64 0, .int .i64 mn', .int .i64 mx', .int .u64 s0', .int .u64 s1', .int .u64 s2', .int .u64 s3', .slice a' l'.length cap'] 26))) 0; have hbel1 := (hbel.alloc (by omega) (.cells #[.int .i64 0, .int .i64 mn', .int .i64 mx', .int .u64 s0', .int .u64 s1', .int .u64 s2', .int .u64 s3', .slice a' l'.length cap'] 26)).trans (hl1.out.mono (show w.heap.size + 1 ≤ _ by simp; omega)); have c0 := laid_cell hbel1 (by omega) 0 (.int .i64 3) rfl; have HOW1 := Lib.hid (own_later (own_later HROW.out ((Later.refl wr).alloc _)) hl1))
          | (at_builtin; refine wpList_append_own _ rfl (.tmp 48) (.tmp 50) 95 rfl (w.heap.size + 1) 9 iS (.string ⟨#[]⟩) 1 16 Tryz.underlying95 hiS hz0 hz1 hz2 rfl (by decide) _ _ _ rfl (HOW1.out.alloc _) ⟨w1.heap.size, 0, none⟩ 1 1 [.string TX] rfl rfl (cells_new w1 [.string TX] 9) (by intro u hu; rw [List.mem_singleton.1 hu]; rfl) (by unfold maxLen; omega) (by omega) (by have := hbel1.size; simp only [World.size_alloc] at *; omega) ?_; intro v' w2 hown2 hgrow2 _)
          | fail)
        go_roundw
        case measure => simp [intOf]; omega
        case rel =>
          refine ⟨j + 1, by omega, by go_num, ?_, ?_⟩
          · have h := hown2
            rw [HEL.out] at h
            have h2 := HSN.out
            rw [HXE.out] at h2
            rw [h2]
            exact h
          · have hA := hbel1.alloc (by have := hbel1.size; simp only [World.size_alloc] at *; omega) (.cells #[.string TX] 9)
            refine Below.grown hA hgrow2 (by have := hA.size; simp only [World.size_alloc] at *; omega) (fun q hq => ?_)
            have := (HROW.out.lt q hq).1
            omega
      · obtain ⟨d0, d1, d2, d3, d4, d5, d6, d7⟩ := node_cells (o := o + j * 8) (fun i hi => (hbel.cell (p := ⟨b, o + j * 8 + i, none⟩) (by show b < w.heap.size + 1; omega)).trans (hcs i hi))
        clear hcs
        have HEL := Lib.hid (show ((⟨#[40]⟩ ++ TX ++ ⟨#[41]⟩) : ByteArray) = ⟨(elemT 3 (RxA.node 1 mn' mx' s0' s1' s2' s3' a' cap' l').bare).toArray⟩ from par_str TX _ HTX.out)
        have HC := Lib.hid (show Calls Tryz.prog 26 #[.agg #[.int .i64 1, .int .i64 mn', .int .i64 mx', .int .u64 s0', .int .u64 s1', .int .u64 s2', .int .u64 s3', .slice a' l'.length cap']] (wr.alloc (.cells #[.int .i64 1, .int .i64 mn', .int .i64 mx', .int .u64 s0', .int .u64 s1', .int .u64 s2', .int .u64 s3', .slice a' l'.length cap'] 26)) fun e w' => e = .returned (.string TX) ∧ Later (wr.alloc (.cells #[.int .i64 1, .int .i64 mn', .int .i64 mx', .int .u64 s0', .int .u64 s1', .int .u64 s2', .int .u64 s3', .slice a' l'.length cap'] 26)) w' from by
          have h := HIH.out (wr.alloc (.cells #[.int .i64 1, .int .i64 mn', .int .i64 mx', .int .u64 s0', .int .u64 s1', .int .u64 s2', .int .u64 s3', .slice a' l'.length cap'] 26)) B (by simp; omega) ((hxin.below hbw hB).below ((Below.refl wr.heap.size wr).alloc (Nat.le_refl _) _) (by omega)) HF.out HBG.out (HPW.out.later (hbw'.alloc _))
          rw [HTX.out] at h
          exact h)
        go_wp2_with (first
          | (go_at_call 26; (with_reducible refine HC.out.mono ?_); rintro e w1 ⟨rfl, hl1⟩; have he0 : w1.cell? ⟨wr.heap.size, 0, none⟩ = some (.int .i64 1) := cell_of_block (hl1.block (alloc_block wr (.cells #[.int .i64 1, .int .i64 mn', .int .i64 mx', .int .u64 s0', .int .u64 s1', .int .u64 s2', .int .u64 s3', .slice a' l'.length cap'] 26))) 0; have hbel1 := (hbel.alloc (by omega) (.cells #[.int .i64 1, .int .i64 mn', .int .i64 mx', .int .u64 s0', .int .u64 s1', .int .u64 s2', .int .u64 s3', .slice a' l'.length cap'] 26)).trans (hl1.out.mono (show w.heap.size + 1 ≤ _ by simp; omega)); have c0 := laid_cell hbel1 (by omega) 0 (.int .i64 3) rfl; have HOW1 := Lib.hid (own_later (own_later HROW.out ((Later.refl wr).alloc _)) hl1))
          | (at_builtin; refine wpList_append_own _ rfl (.tmp 48) (.tmp 50) 95 rfl (w.heap.size + 1) 9 iS (.string ⟨#[]⟩) 1 16 Tryz.underlying95 hiS hz0 hz1 hz2 rfl (by decide) _ _ _ rfl (HOW1.out.alloc _) ⟨w1.heap.size, 0, none⟩ 1 1 [.string (⟨#[40]⟩ ++ TX ++ ⟨#[41]⟩)] rfl rfl (cells_new w1 [.string (⟨#[40]⟩ ++ TX ++ ⟨#[41]⟩)] 9) (by intro u hu; rw [List.mem_singleton.1 hu]; rfl) (by unfold maxLen; omega) (by omega) (by have := hbel1.size; simp only [World.size_alloc] at *; omega) ?_; intro v' w2 hown2 hgrow2 _)
          | fail)
        go_roundw
        case measure => simp [intOf]; omega
        case rel =>
          refine ⟨j + 1, by omega, by go_num, ?_, ?_⟩
          · have h := hown2
            rw [HEL.out] at h
            have h2 := HSN.out
            rw [HXE.out] at h2
            rw [h2]
            exact h
          · have hA := hbel1.alloc (by have := hbel1.size; simp only [World.size_alloc] at *; omega) (.cells #[.string (⟨#[40]⟩ ++ TX ++ ⟨#[41]⟩)] 9)
            refine Below.grown hA hgrow2 (by have := hA.size; simp only [World.size_alloc] at *; omega) (fun q hq => ?_)
            have := (HROW.out.lt q hq).1
            omega
      · obtain ⟨d0, d1, d2, d3, d4, d5, d6, d7⟩ := node_cells (o := o + j * 8) (fun i hi => (hbel.cell (p := ⟨b, o + j * 8 + i, none⟩) (by show b < w.heap.size + 1; omega)).trans (hcs i hi))
        clear hcs
        have HEL := Lib.hid (show ((⟨#[40]⟩ ++ TX ++ ⟨#[41]⟩) : ByteArray) = ⟨(elemT 3 (RxA.node 2 mn' mx' s0' s1' s2' s3' a' cap' l').bare).toArray⟩ from par_str TX _ HTX.out)
        have HC := Lib.hid (show Calls Tryz.prog 26 #[.agg #[.int .i64 2, .int .i64 mn', .int .i64 mx', .int .u64 s0', .int .u64 s1', .int .u64 s2', .int .u64 s3', .slice a' l'.length cap']] (wr.alloc (.cells #[.int .i64 2, .int .i64 mn', .int .i64 mx', .int .u64 s0', .int .u64 s1', .int .u64 s2', .int .u64 s3', .slice a' l'.length cap'] 26)) fun e w' => e = .returned (.string TX) ∧ Later (wr.alloc (.cells #[.int .i64 2, .int .i64 mn', .int .i64 mx', .int .u64 s0', .int .u64 s1', .int .u64 s2', .int .u64 s3', .slice a' l'.length cap'] 26)) w' from by
          have h := HIH.out (wr.alloc (.cells #[.int .i64 2, .int .i64 mn', .int .i64 mx', .int .u64 s0', .int .u64 s1', .int .u64 s2', .int .u64 s3', .slice a' l'.length cap'] 26)) B (by simp; omega) ((hxin.below hbw hB).below ((Below.refl wr.heap.size wr).alloc (Nat.le_refl _) _) (by omega)) HF.out HBG.out (HPW.out.later (hbw'.alloc _))
          rw [HTX.out] at h
          exact h)
        go_wp2_with (first
          | (go_at_call 26; (with_reducible refine HC.out.mono ?_); rintro e w1 ⟨rfl, hl1⟩; have he0 : w1.cell? ⟨wr.heap.size, 0, none⟩ = some (.int .i64 2) := cell_of_block (hl1.block (alloc_block wr (.cells #[.int .i64 2, .int .i64 mn', .int .i64 mx', .int .u64 s0', .int .u64 s1', .int .u64 s2', .int .u64 s3', .slice a' l'.length cap'] 26))) 0; have hbel1 := (hbel.alloc (by omega) (.cells #[.int .i64 2, .int .i64 mn', .int .i64 mx', .int .u64 s0', .int .u64 s1', .int .u64 s2', .int .u64 s3', .slice a' l'.length cap'] 26)).trans (hl1.out.mono (show w.heap.size + 1 ≤ _ by simp; omega)); have c0 := laid_cell hbel1 (by omega) 0 (.int .i64 3) rfl; have HOW1 := Lib.hid (own_later (own_later HROW.out ((Later.refl wr).alloc _)) hl1))
          | (at_builtin; refine wpList_append_own _ rfl (.tmp 48) (.tmp 50) 95 rfl (w.heap.size + 1) 9 iS (.string ⟨#[]⟩) 1 16 Tryz.underlying95 hiS hz0 hz1 hz2 rfl (by decide) _ _ _ rfl (HOW1.out.alloc _) ⟨w1.heap.size, 0, none⟩ 1 1 [.string (⟨#[40]⟩ ++ TX ++ ⟨#[41]⟩)] rfl rfl (cells_new w1 [.string (⟨#[40]⟩ ++ TX ++ ⟨#[41]⟩)] 9) (by intro u hu; rw [List.mem_singleton.1 hu]; rfl) (by unfold maxLen; omega) (by omega) (by have := hbel1.size; simp only [World.size_alloc] at *; omega) ?_; intro v' w2 hown2 hgrow2 _)
          | fail)
        go_roundw
        case measure => simp [intOf]; omega
        case rel =>
          refine ⟨j + 1, by omega, by go_num, ?_, ?_⟩
          · have h := hown2
            rw [HEL.out] at h
            have h2 := HSN.out
            rw [HXE.out] at h2
            rw [h2]
            exact h
          · have hA := hbel1.alloc (by have := hbel1.size; simp only [World.size_alloc] at *; omega) (.cells #[.string (⟨#[40]⟩ ++ TX ++ ⟨#[41]⟩)] 9)
            refine Below.grown hA hgrow2 (by have := hA.size; simp only [World.size_alloc] at *; omega) (fun q hq => ?_)
            have := (HROW.out.lt q hq).1
            omega
      · obtain ⟨d0, d1, d2, d3, d4, d5, d6, d7⟩ := node_cells (o := o + j * 8) (fun i hi => (hbel.cell (p := ⟨b, o + j * 8 + i, none⟩) (by show b < w.heap.size + 1; omega)).trans (hcs i hi))
        clear hcs
        have HEL := Lib.hid (show ((⟨#[40]⟩ ++ TX ++ ⟨#[41]⟩) : ByteArray) = ⟨(elemT 3 (RxA.node 3 mn' mx' s0' s1' s2' s3' a' cap' l').bare).toArray⟩ from par_str TX _ HTX.out)
        have HC := Lib.hid (show Calls Tryz.prog 26 #[.agg #[.int .i64 3, .int .i64 mn', .int .i64 mx', .int .u64 s0', .int .u64 s1', .int .u64 s2', .int .u64 s3', .slice a' l'.length cap']] (wr.alloc (.cells #[.int .i64 3, .int .i64 mn', .int .i64 mx', .int .u64 s0', .int .u64 s1', .int .u64 s2', .int .u64 s3', .slice a' l'.length cap'] 26)) fun e w' => e = .returned (.string TX) ∧ Later (wr.alloc (.cells #[.int .i64 3, .int .i64 mn', .int .i64 mx', .int .u64 s0', .int .u64 s1', .int .u64 s2', .int .u64 s3', .slice a' l'.length cap'] 26)) w' from by
          have h := HIH.out (wr.alloc (.cells #[.int .i64 3, .int .i64 mn', .int .i64 mx', .int .u64 s0', .int .u64 s1', .int .u64 s2', .int .u64 s3', .slice a' l'.length cap'] 26)) B (by simp; omega) ((hxin.below hbw hB).below ((Below.refl wr.heap.size wr).alloc (Nat.le_refl _) _) (by omega)) HF.out HBG.out (HPW.out.later (hbw'.alloc _))
          rw [HTX.out] at h
          exact h)
        go_wp2_with (first
          | (go_at_call 26; (with_reducible refine HC.out.mono ?_); rintro e w1 ⟨rfl, hl1⟩; have he0 : w1.cell? ⟨wr.heap.size, 0, none⟩ = some (.int .i64 3) := cell_of_block (hl1.block (alloc_block wr (.cells #[.int .i64 3, .int .i64 mn', .int .i64 mx', .int .u64 s0', .int .u64 s1', .int .u64 s2', .int .u64 s3', .slice a' l'.length cap'] 26))) 0; have hbel1 := (hbel.alloc (by omega) (.cells #[.int .i64 3, .int .i64 mn', .int .i64 mx', .int .u64 s0', .int .u64 s1', .int .u64 s2', .int .u64 s3', .slice a' l'.length cap'] 26)).trans (hl1.out.mono (show w.heap.size + 1 ≤ _ by simp; omega)); have c0 := laid_cell hbel1 (by omega) 0 (.int .i64 3) rfl; have HOW1 := Lib.hid (own_later (own_later HROW.out ((Later.refl wr).alloc _)) hl1))
          | (at_builtin; refine wpList_append_own _ rfl (.tmp 48) (.tmp 50) 95 rfl (w.heap.size + 1) 9 iS (.string ⟨#[]⟩) 1 16 Tryz.underlying95 hiS hz0 hz1 hz2 rfl (by decide) _ _ _ rfl (HOW1.out.alloc _) ⟨w1.heap.size, 0, none⟩ 1 1 [.string (⟨#[40]⟩ ++ TX ++ ⟨#[41]⟩)] rfl rfl (cells_new w1 [.string (⟨#[40]⟩ ++ TX ++ ⟨#[41]⟩)] 9) (by intro u hu; rw [List.mem_singleton.1 hu]; rfl) (by unfold maxLen; omega) (by omega) (by have := hbel1.size; simp only [World.size_alloc] at *; omega) ?_; intro v' w2 hown2 hgrow2 _)
          | fail)
        go_roundw
        case measure => simp [intOf]; omega
        case rel =>
          refine ⟨j + 1, by omega, by go_num, ?_, ?_⟩
          · have h := hown2
            rw [HEL.out] at h
            have h2 := HSN.out
            rw [HXE.out] at h2
            rw [h2]
            exact h
          · have hA := hbel1.alloc (by have := hbel1.size; simp only [World.size_alloc] at *; omega) (.cells #[.string (⟨#[40]⟩ ++ TX ++ ⟨#[41]⟩)] 9)
            refine Below.grown hA hgrow2 (by have := hA.size; simp only [World.size_alloc] at *; omega) (fun q hq => ?_)
            have := (HROW.out.lt q hq).1
            omega
    · obtain rfl : j = l.length := by omega
      have c0 := laid_cell hbel (by omega) 0 (.int .i64 3) rfl
      have hrow := HROW.out
      rw [List.take_length] at hrow
      have c1 := laid_cell hbel (by omega) 1 (.int .i64 mn) rfl
      have c2 := laid_cell hbel (by omega) 2 (.int .i64 mx) rfl
      have hrp := rep_parts HFF.out
      obtain ⟨y, hy, hyf, ⟨hm0, hm15, hx15, hmm⟩, -⟩ := hrp
      obtain ⟨Y, rfl⟩ : ∃ Y : RxA, l = [Y] := by
        rw [bareAll_eq] at hy
        match l, hy with
        | [Y], _ => exact ⟨Y, rfl⟩
      obtain rfl : Y.bare = y := by simpa [bareAll] using hy
      obtain ⟨PT, hPT⟩ : ∃ PT : ByteArray, (⟨(atomT Y.bare).toArray⟩ : ByteArray) = PT := ⟨_, rfl⟩
      have htext : (⟨(atomT Y.bare ++ signT mn mx).toArray⟩ : ByteArray) = S := by
        rw [← HS.out]
        simp only [RxA.bare, bareAll]
        rw [rep_text]
      have hpts : PT.size ≤ 640000 := by
        have h := HLEN.out
        simp only [RxA.bare, bareAll] at h
        rw [rep_text, List.length_append] at h
        rw [← hPT]
        show (atomT Y.bare).toArray.size ≤ 640000
        rw [List.size_toArray]
        omega
      obtain ⟨g, gcap, rfl, hgc, hg1⟩ : ∃ g gcap, u3 = .slice (some ⟨g, 0, none⟩) 1 gcap ∧ wr.cell? ⟨g, 0, none⟩ = some (.string PT) ∧ 1 ≤ gcap := by
        rcases hrow.2 with ⟨-, h0⟩ | ⟨g, gcap, cur, hv, -, -, hcap, -⟩
        · simp at h0
        · refine ⟨g, gcap, hv, ?_, hcap⟩
          have := hrow.cells (g := g) (by rw [hv]; rfl) 0 (.string ⟨(atomT Y.bare).toArray⟩) rfl
          rw [addr_add_none] at this
          rw [← hPT]
          exact this
      obtain ⟨M1, hM1⟩ : ∃ M1 : ByteArray, (⟨(Lib.itoa mn).toArray⟩ : ByteArray) = M1 := ⟨_, rfl⟩
      obtain ⟨M2, hM2⟩ : ∃ M2 : ByteArray, (⟨(Lib.itoa mx).toArray⟩ : ByteArray) = M2 := ⟨_, rfl⟩
      have hx1 : -1 ≤ mx := by omega
      have hm1s : M1.size ≤ 3 := by rw [← hM1]; show (Lib.itoa mn).toArray.size ≤ 3; rw [List.size_toArray, show mn = ((mn.toNat : Nat) : Int) by omega, itoa_num _ (by omega)]; have := numT_len mn.toNat; omega
      have hm2s : M2.size ≤ 3 := by
        rw [← hM2]
        show (Lib.itoa mx).toArray.size ≤ 3
        rw [List.size_toArray]
        by_cases hx : mx = -1
        · subst hx; simp [Lib.itoa, Lib.decDigits]
        · rw [show mx = ((mx.toNat : Nat) : Int) by omega, itoa_num _ (by omega)]; have := numT_len mx.toNat; omega
      have HI1 := Lib.hid (fun w1 (h1 : Later wr w1) => (show Calls Tryz.prog 46 #[.int .i64 mn] w1 fun e w' => e = .returned (.string M1) ∧ Later w1 w' from by
        rw [← hM1]
        exact itoa_any w1 mn (by omega) hm15 (HPW.out.later (hbw'.trans h1))))
      have HI2 := Lib.hid (fun w1 (h1 : Later wr w1) => (show Calls Tryz.prog 46 #[.int .i64 mx] w1 fun e w' => e = .returned (.string M2) ∧ Later w1 w' from by
        rw [← hM2]
        exact itoa_any w1 mx hx1 hx15 (HPW.out.later (hbw'.trans h1))))
      have HSX := Lib.hid (fun w' (h' : Later wr w') => show w'.cell? ⟨w.heap.size, 1, none⟩ = some (.int .i64 mn) ∧ w'.cell? ⟨w.heap.size, 2, none⟩ = some (.int .i64 mx) from ⟨h'.cell c1, h'.cell c2⟩)
      have HSY := Lib.hid (fun w' (h' : Later wr w') => h'.cell hgc)
      have HM1 := Lib.hid (show M1 = ⟨(numT mn.toNat).toArray⟩ from by
        have h := itoa_num mn.toNat (by omega)
        rw [Int.toNat_of_nonneg hm0] at h
        rw [← hM1, h])
      have HM2 := Lib.hid (show 0 ≤ mx → M2 = ⟨(numT mx.toNat).toArray⟩ from fun hx0 => by
        have h := itoa_num mx.toNat (by omega)
        rw [Int.toNat_of_nonneg hx0] at h
        rw [← hM2, h])
      have HTT := Lib.hid htext
      have HPT := Lib.hid hPT
      have HBW := Lib.hid hbw'
      have hgc1 : (0 : Int) < 1 := by decide
      clear hrow hy hyf hPT htext hM1 hM2 hbw hbw' hbel hws hj hlt
      go_upto_region 23 with fail
      go_cut [8] from 63 to 72 (fun v wx => v = .string (⟨#[123]⟩ ++ M1 ++ ⟨#[44]⟩ ++ M2 ++ ⟨#[125]⟩) ∧ Later wr wx)
      case first =>
        clear HS HFF HLEN HFL HBB IH HG HROW HTT HPT HM1 HM2 HPW hl1 hl3 hll hl2 bk bmn bmx hB hiS hz0 hz1 hz2
        have g1 : ¬ 9223372036854775807 < 1 + M1.size := by omega
        have g2 : ¬ 9223372036854775807 < 1 + M1.size + 1 := by omega
        have g3 : ¬ 9223372036854775807 < 1 + M1.size + 1 + M2.size := by omega
        have g4 : ¬ 9223372036854775807 < 1 + M1.size + 1 + M2.size + 1 := by omega
        go_region_held3 (fun w' => w'.cell? ⟨w.heap.size, 1, none⟩ = some (.int .i64 mn) ∧ w'.cell? ⟨w.heap.size, 2, none⟩ = some (.int .i64 mx))
          (exact HSX.out _ (by repeat (first | assumption | exact Later.refl _ | refine Later.drew ?_ | refine Later.trans ?_ (by assumption))))
          (first
            | (go_at_call 46; (with_reducible refine (HI1.out _ (by repeat (first | assumption | exact Later.refl _ | refine Later.drew ?_ | refine Later.trans ?_ (by assumption)))).mono ?_); rintro e w4 ⟨rfl, hl4⟩)
            | (go_at_call 46; (with_reducible refine (HI2.out _ (by repeat (first | assumption | exact Later.refl _ | refine Later.drew ?_ | refine Later.trans ?_ (by assumption)))).mono ?_); rintro e w5 ⟨rfl, hl5⟩)
            | fail)
        all_goals
          go_wp2_with fail
          go_meet
          case rel => exact ⟨rfl, (by repeat (first | assumption | exact Later.refl _ | refine Later.drew ?_ | refine Later.trans ?_ (by assumption)))⟩
      case rest =>
        obtain ⟨rfl, hlc⟩ := hcut
        have HLC := Lib.hid (HBW.out.trans hlc)
        obtain ⟨b1, b2⟩ := HSX.out wc hlc
        have p0 := HSY.out wc hlc
        have HI3 := Lib.hid (fun w1 (h1 : Later wc w1) => HI1.out w1 (hlc.trans h1))
        have HSZ := Lib.hid (fun w1 (h1 : Later wc w1) => HSY.out w1 (hlc.trans h1))
        have HSXc := Lib.hid (fun w1 (h1 : Later wc w1) => HSX.out w1 (hlc.trans h1))
        clear c0 c1 c2 hgc
        have hcase : (mx = -1 ∧ mn = 0) ∨ (mx = -1 ∧ mn = 1) ∨ (mx = -1 ∧ 2 ≤ mn) ∨ (mn = 0 ∧ mx = 1) ∨ (mn = mx ∧ mn = 0) ∨ (mn = mx ∧ 1 ≤ mn) ∨ (mn ≠ mx ∧ 0 ≤ mx ∧ mn = 0 ∧ 2 ≤ mx) ∨ (mn ≠ mx ∧ 0 ≤ mx ∧ 1 ≤ mn) := by omega
        rcases hcase with ⟨rfl, rfl⟩ | ⟨rfl, rfl⟩ | ⟨rfl, h2⟩ | ⟨rfl, rfl⟩ | ⟨rfl, rfl⟩ | ⟨rfl, h2⟩ | ⟨h1, h2, rfl, h3⟩ | ⟨h1, h2, h3⟩
        · skip
          go_wp2_with (first
            | (go_at_call 46; (with_reducible refine (HI3.out _ (Later.refl _)).mono ?_); rintro e w6 ⟨rfl, hl6⟩; have p0 := HSZ.out w6 hl6)
            | fail)
          go_ret
          refine ⟨ret_str ?_, HLC.out⟩
          rw [← HTT.out, ← HPT.out]
          rfl
        · skip
          go_wp2_with (first
            | (go_at_call 46; (with_reducible refine (HI3.out _ (Later.refl _)).mono ?_); rintro e w6 ⟨rfl, hl6⟩; have p0 := HSZ.out w6 hl6)
            | fail)
          go_ret
          refine ⟨ret_str ?_, HLC.out⟩
          rw [← HTT.out, ← HPT.out]
          rfl
        · have g1 : ¬ mn < 2 := by omega
          have g2 : decide (mn < 2) = false := by simp; omega
          have H2 := Lib.hid h2
          clear h2
          go_wp2_with (first
            | (go_at_call 46; (with_reducible refine (HI3.out _ (Later.refl _)).mono ?_); rintro e w6 ⟨rfl, hl6⟩; have p0 := HSZ.out w6 hl6)
            | fail)
          go_ret
          refine ⟨ret_str ?_, HLC.out.trans hl6⟩
          rw [← HTT.out, ← HPT.out]
          rw [HM1.out]
          have h2 := H2.out
          apply ByteArray.ext
          unfold signT
          rw [if_neg (by omega), if_neg (by omega), if_pos rfl]
          simp
        · skip
          go_wp2_with (first
            | (go_at_call 46; (with_reducible refine (HI3.out _ (Later.refl _)).mono ?_); rintro e w6 ⟨rfl, hl6⟩; have p0 := HSZ.out w6 hl6)
            | fail)
          go_ret
          refine ⟨ret_str ?_, HLC.out⟩
          rw [← HTT.out, ← HPT.out]
          rfl
        · skip
          go_wp2_with (first
            | (go_at_call 46; (with_reducible refine (HI3.out _ (Later.refl _)).mono ?_); rintro e w6 ⟨rfl, hl6⟩; have p0 := HSZ.out w6 hl6)
            | fail)
          go_ret
          refine ⟨ret_str ?_, HLC.out.trans hl6⟩
          rw [← HTT.out, ← HPT.out]
          rw [HM1.out]
          rfl
        · have g1 : (mn == -1) = false := by rw [beq_eq_false_iff_ne]; omega
          have g2 : (mn == 0) = false := by rw [beq_eq_false_iff_ne]; omega
          have H2 := Lib.hid h2
          clear h2
          go_wp2_with (first
            | (go_at_call 46; (with_reducible refine (HI3.out _ (Later.refl _)).mono ?_); rintro e w6 ⟨rfl, hl6⟩; have p0 := HSZ.out w6 hl6)
            | fail)
          go_ret
          refine ⟨ret_str ?_, HLC.out.trans hl6⟩
          rw [← HTT.out, ← HPT.out]
          rw [HM1.out]
          have h2 := H2.out
          apply ByteArray.ext
          unfold signT
          rw [if_neg (by omega), if_neg (by omega), if_neg (by omega), if_neg (by omega), if_pos rfl]
          simp
        · have g1 : (mx == -1) = false := by rw [beq_eq_false_iff_ne]; omega
          have g2 : (mx == 1) = false := by rw [beq_eq_false_iff_ne]; omega
          have g3 : ((0 : Int) == mx) = false := by rw [beq_eq_false_iff_ne]; omega
          have H2 := Lib.hid h3
          clear h1 h2 h3
          go_wp2_with (first
            | (go_at_call 46; (with_reducible refine (HI3.out _ (Later.refl _)).mono ?_); rintro e w6 ⟨rfl, hl6⟩; have p0 := HSZ.out w6 hl6)
            | fail)
          go_ret
          refine ⟨ret_str ?_, HLC.out⟩
          rw [← HTT.out, ← HPT.out]
          rw [HM1.out, HM2.out (by have := H2.out; omega)]
          have h2 := H2.out
          apply ByteArray.ext
          unfold signT
          rw [if_neg (by omega), if_neg (by omega), if_neg (by omega), if_neg (by omega), if_neg (by omega)]
          simp
        · have g1 : (mx == -1) = false := by rw [beq_eq_false_iff_ne]; omega
          have g2 : (mn == 0) = false := by rw [beq_eq_false_iff_ne]; omega
          have g3 : (mn == mx) = false := by rw [beq_eq_false_iff_ne]; exact h1
          have H1 := Lib.hid h1
          have H2 := Lib.hid h2
          have H3 := Lib.hid h3
          clear h1 h2 h3
          go_wp2_with (first
            | (go_at_call 46; (with_reducible refine (HI3.out _ (Later.refl _)).mono ?_); rintro e w6 ⟨rfl, hl6⟩; have p0 := HSZ.out w6 hl6)
            | fail)
          go_ret
          refine ⟨ret_str ?_, HLC.out⟩
          rw [← HTT.out, ← HPT.out]
          rw [HM1.out, HM2.out H2.out]
          have h1 := H1.out
          have h2 := H2.out
          have h3 := H3.out
          apply ByteArray.ext
          unfold signT
          rw [if_neg (by omega), if_neg (by omega), if_neg (by omega), if_neg (by omega), if_neg (by omega)]
          simp
end Go.Proofs.YtjhclopdcbnmkaaGreatDoor
