/- The walk of the document's reader's atom. -/
import Derived.Test.YtjhclopdcbnmkaaGreatDoorQ8
set_option linter.unusedSimpArgs false
set_option linter.unusedVariables false
namespace Go.Proofs.YtjhclopdcbnmkaaGreatDoor
open Go.RowKit PX

def openO : Option (Rx × List UInt8) → Option (Rx × List UInt8)
  | none => none
  | some (x, r) => if starts 41 r then some (x, r.tail) else none
theorem in_later {X : RxA} {w w' : World} {lo : Nat} (hin : X.In w w.heap.size) (hb : ∀ c ∈ X.blocks, lo ≤ c ∧ c < w.heap.size) (hs : w.heap.size ≤ w'.heap.size) (hk : ∀ c, lo ≤ c → c < w.heap.size → w'.heap[c]? = w.heap[c]?) : X.In w' w'.heap.size :=
  hin.keep fun c hc => ⟨by have := (hb c hc).2; omega, fun o => World.cell?_of_block (w := w) (hk c (hb c hc).1 (hb c hc).2)⟩

set_option maxRecDepth 100000 in
set_option maxHeartbeats 1000000 in
theorem ratom_open (w : World) (rb : Nat) (S : ByteArray) (i : Nat) (h : RefAt w rb S i false) (hs : S.size ≤ 1000) (hi : i ≤ S.size) (altf : List UInt8 → Option (Rx × List UInt8)) (h46 : starts 46 (rest S i) = false) (h91 : starts 91 (rest S i) = false) (h40 : starts 40 (rest S i) = true)
    (halt : ∀ w1, RefAt w1 rb S (i + 1) false → Calls Tryz.prog 35 #[.pointer (some ⟨rb, 0, none⟩)] w1 fun e w2 => SaysRx rb S (i + 1) w1 (altf (rest S (i + 1))) e w2) :
    Calls Tryz.prog 81 #[.pointer (some ⟨rb, 0, none⟩)] w fun e w' => SaysRx rb S i w (atomB altf (rest S i)) e w' := by
  have hB : atomB altf (rest S i) = openO (altf (rest S (i + 1))) := by
    unfold atomB; rw [h46, h91, h40, rest_tail]
    simp only [Bool.false_eq_true, if_false, if_true]
    cases altf (rest S i).tail <;> rfl
  rw [hB]
  have HAT1 := Lib.hid (fun w1 (h1 : RefAt w1 rb S i false) => at_f w1 rb S i false 46 46 h1 hs rfl h46)
  have HAT2 := Lib.hid (fun w1 (h1 : RefAt w1 rb S i false) => at_f w1 rb S i false 91 91 h1 hs rfl h91)
  have HAT3 := Lib.hid (fun w1 (h1 : RefAt w1 rb S i false) => at_t w1 rb S i false 40 40 h1 hs rfl h40)
  have hi1 := rest_starts h40
  have HALT := Lib.hid halt
  obtain ⟨O, hO⟩ : ∃ O, altf (rest S (i + 1)) = O := ⟨_, rfl⟩
  rw [hO] at HALT ⊢
  clear h46 h91 h40 hB halt hO
  obtain ⟨nb, hnb⟩ : ∃ nb, w.heap.size = nb := ⟨_, rfl⟩
  have hrb := lt_of_block h
  rw [hnb] at hrb
  have hN0 : (w.alloc (.cells zeroRx 26)).heap[nb]? = some (.cells zeroRx 26 (0, 0)) := alloc_block' _ _ _ hnb
  have hR0 : RefAt (w.alloc (.cells zeroRx 26)) rb S i false := alloc_old h _
  have HN0 := Lib.hid hN0
  have HR0 := Lib.hid (show RefAt (w.alloc (.cells #[.int .i64 0, .int .i64 0, .int .i64 0, .int .u64 0, .int .u64 0, .int .u64 0, .int .u64 0, .slice none 0 0] 26)) rb S i false from hR0)
  have HO0 := Lib.hid ((Only.refl (fun k => k = rb) w).alloc (.cells zeroRx 26))
  have hl0 : nb < (w.alloc (.cells zeroRx 26)).heap.size := lt_of_block hN0
  have HSZ := Lib.hid hnb
  clear hN0 hR0 h
  go_enter Tryz.func81, Tryz.ntmps81
  go_upto_region 7 with (first
    | (go_at_call 56; (with_reducible refine (HAT1.out _ HR0.out).mono ?_); rintro e w1 ⟨rfl, h1, o1⟩; have HR1 := Lib.hid h1; have HO1 := Lib.hid (HO0.out.then o1); have HN1 := Lib.hid ((o1.block nb hl0 (by omega)).trans HN0.out); have hl1 := lt_of_block HN1.out; clear h1 o1)
    | (go_at_call 56; (with_reducible refine (HAT2.out _ HR1.out).mono ?_); rintro e w2 ⟨rfl, h1, o1⟩; have HR2 := Lib.hid h1; have HO2 := Lib.hid (HO1.out.then o1); have HN2 := Lib.hid ((o1.block nb hl1 (by omega)).trans HN1.out); have hl2 := lt_of_block HN2.out; clear h1 o1)
    | (go_at_call 56; (with_reducible refine (HAT3.out _ HR2.out).mono ?_); rintro e w3 ⟨rfl, h1, o1⟩; have HR3 := Lib.hid h1; have HO3 := Lib.hid (HO2.out.then o1); have HN3 := Lib.hid ((o1.block nb hl2 (by omega)).trans HN2.out); have hl3 := lt_of_block HN3.out; clear h1 o1)
    | (go_at_call 35; (with_reducible refine (HALT.out _ HR3.out).mono ?_); rintro e w4 ⟨o1, X, j, b, rfl, hij, hjs, h1, hin, hbl, hor⟩; have HR4 := Lib.hid h1; have HO4 := Lib.hid (HO3.out.then o1); have HN4 := Lib.hid ((o1.block nb hl3 (by omega)).trans HN3.out); have hl4 := lt_of_block HN4.out; have hs34 := o1.size; have HIN := Lib.hid hin; have HBL := Lib.hid hbl; have HOR := Lib.hid hor; clear h1 o1 hin hbl hor)
    | (refine wpList_store_row rfl 26 (.tmp 3) (.tmp 18) ?_ w4.heap.size (cellsA X) ?_ ?_ 26 zeroRx ?_ (info_rxA _) (by rw [cellsA_size]; rfl) (cellsA_one _) ?_; (with_reducible rfl); rfl; rfl; exact alloc_block _ _)
    | fail)
  obtain ⟨eb, heb⟩ : ∃ eb, w4.heap.size = eb := ⟨_, rfl⟩
  obtain ⟨W5, hW5⟩ : ∃ W5, (w4.alloc (.cells zeroRx 26)).setRow eb (cellsA X) = W5 := ⟨_, rfl⟩
  have hE5 : W5.heap[eb]? = some (.cells (cellsA X) 26 (0, 0)) := by rw [← hW5]; exact setRow_heap _ _ _ _ _ _ (alloc_block' _ _ _ heb)
  have hnbe : nb < eb := by omega
  have hold : ∀ c o, c < eb → w4.heap[c]? = some o → W5.heap[c]? = some o := fun c o hc h => by rw [← hW5]; exact (setRow_other _ _ _ _ (by omega)).trans (alloc_old h _)
  have hold2 : ∀ c, c < eb → W5.heap[c]? = w4.heap[c]? := fun c hc => by rw [← hW5]; exact (setRow_other _ _ _ _ (by omega)).trans (Below.heap_alloc _ _ _ (by omega))
  have hsz5 : W5.heap.size = eb + 1 := by rw [← hW5, size_setRow]; simp [heb]
  have HR5 := Lib.hid (show RefAt W5 rb S j b from hold _ _ (by omega) HR4.out)
  have HN5 := Lib.hid (hold _ _ hnbe HN4.out)
  have HE5 := Lib.hid hE5
  have HOL := Lib.hid hold2
  have HO5 := Lib.hid (show Only (fun k => k = rb) w W5 by rw [← hW5]; exact (HO4.out.alloc _).setRow (q := eb) (.inr (by have := HO4.out.size; omega)) _)
  have HEB := Lib.hid heb
  rw [heb]
  rw [show (w4.alloc (.cells #[.int .i64 0, .int .i64 0, .int .i64 0, .int .u64 0, .int .u64 0, .int .u64 0, .int .u64 0, .slice none 0 0] 26)).setRow eb (cellsA X) = W5 from hW5]
  clear hold hold2 hE5 hW5 heb
  cases h41 : starts 41 (rest S j) with
  | true =>
    have HAT4 := Lib.hid (fun w1 (h1 : RefAt w1 rb S j b) => at_t w1 rb S j b 41 41 h1 hs rfl h41)
    have H41 := Lib.hid h41; clear h41
    go_wp2_with (first
      | (go_at_call 56; (with_reducible refine (HAT4.out _ HR5.out).mono ?_); rintro e w6 ⟨rfl, h1, o1⟩; have HR6 := Lib.hid h1; have HO6 := Lib.hid (HO5.out.then o1); have HN6 := Lib.hid ((o1.block nb (by omega) (by omega)).trans HN5.out); have HE6 := Lib.hid ((o1.block eb (by omega) (by omega)).trans HE5.out); have HK6 := Lib.hid (fun c (h0 : rb < c) (hc : c < eb) => (o1.block c (by omega) (by omega)).trans (HOL.out c hc)); have hs6 := o1.size; obtain ⟨c0, c1, c2, z1, z2⟩ := h1.cells; clear h1 o1)
      | (refine wpList_load_row rfl 26 (.tmp 3) ?_ eb ?_ 26 (cellsA X) (0, 0) _ ?_ Tryz.underlying26 rfl (info_rxA _) ?_; (with_reducible rfl); rfl; exact HE6.out)
      | (refine wpList_store_row rfl 26 (.tmp 2) (.tmp 25) ?_ nb (cellsA X) ?_ ?_ 26 zeroRx ?_ (info_rxA _) (by rw [cellsA_size]; rfl) (cellsA_one _) ?_; (with_reducible rfl); rfl; rfl; exact HN6.out)
      | fail)
    refine bodyPost_ret (results_cell_row rfl _ _ nb 26 (cellsA X) (0, 0) _ rfl (setRow_heap _ _ _ _ _ _ (HN6.out)) Tryz.underlying26 rfl (info_rxA _)) rfl ?_
    have heb2 := HEB.out
    refine saysRx_end HSZ.out hrb (HO6.out) (HR6.out) (in_later HIN.out HBL.out (by first | omega | (simp; omega)) fun c hc1 hc2 => HK6.out c (by omega) (by omega)) (fun c hc => ⟨by have := (HBL.out c hc).1; omega, by have := (HBL.out c hc).2; first | omega | (simp; omega)⟩) (by omega) (by have := rest_starts H41.out; omega) ?_
    rcases HOR.out with ⟨rfl, h⟩ | ⟨rfl, h⟩
    · left; rw [h]; exact ⟨rfl, by simp [openO, H41.out, rest_tail]⟩
    · right; rw [h]; exact ⟨rfl, rfl⟩
  | false =>
    have HAT4 := Lib.hid (fun w1 (h1 : RefAt w1 rb S j b) => at_f w1 rb S j b 41 41 h1 hs rfl h41)
    have H41 := Lib.hid h41; clear h41
    go_wp2_with (first
      | (go_at_call 56; (with_reducible refine (HAT4.out _ HR5.out).mono ?_); rintro e w6 ⟨rfl, h1, o1⟩; have HR6 := Lib.hid h1; have HO6 := Lib.hid (HO5.out.then o1); have HN6 := Lib.hid ((o1.block nb (by omega) (by omega)).trans HN5.out); have HE6 := Lib.hid ((o1.block eb (by omega) (by omega)).trans HE5.out); have HK6 := Lib.hid (fun c (h0 : rb < c) (hc : c < eb) => (o1.block c (by omega) (by omega)).trans (HOL.out c hc)); have hs6 := o1.size; obtain ⟨c0, c1, c2, z1, z2⟩ := h1.cells; clear h1 o1)
      | (refine wpList_load_row rfl 26 (.tmp 3) ?_ eb ?_ 26 (cellsA X) (0, 0) _ ?_ Tryz.underlying26 rfl (info_rxA _) ?_; (with_reducible rfl); rfl; exact (Below.heap_setCell _ _ _ _ (by show eb ≠ rb; omega)).trans HE6.out)
      | (refine wpList_store_row rfl 26 (.tmp 2) (.tmp 25) ?_ nb (cellsA X) ?_ ?_ 26 zeroRx ?_ (info_rxA _) (by rw [cellsA_size]; rfl) (cellsA_one _) ?_; (with_reducible rfl); rfl; rfl; exact (Below.heap_setCell _ _ _ _ (by show nb ≠ rb; omega)).trans HN6.out)
      | fail)
    refine bodyPost_ret (results_cell_row rfl _ _ nb 26 (cellsA X) (0, 0) _ rfl (setRow_heap _ _ _ _ _ _ ((Below.heap_setCell _ _ _ _ (by show nb ≠ rb; omega)).trans HN6.out)) Tryz.underlying26 rfl (info_rxA _)) rfl ?_
    have heb2 := HEB.out
    refine saysRx_end HSZ.out hrb (HO6.out.setCell (p := ⟨rb, 2, none⟩) (.inl rfl) _) (HR6.out.wrong) (in_later HIN.out HBL.out (by first | omega | (simp; omega)) fun c hc1 hc2 => (Below.heap_setCell _ _ _ _ (by show c ≠ rb; omega)).trans (HK6.out c (by omega) (by omega))) (fun c hc => ⟨by have := (HBL.out c hc).1; omega, by have := (HBL.out c hc).2; first | omega | (simp; omega)⟩) (by omega) hjs ?_
    rcases HOR.out with ⟨rfl, h⟩ | ⟨rfl, h⟩
    · right; rw [h]; exact ⟨rfl, by simp [openO, H41.out]⟩
    · right; rw [h]; exact ⟨rfl, rfl⟩
end Go.Proofs.YtjhclopdcbnmkaaGreatDoor
