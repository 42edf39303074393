/- The walk of the document's reader's piece. (Printed by wip/gen_rpiece.py.) -/
import Derived.Test.YtjhclopdcbnmkaaGreatDoorQ9
import Derived.Test.YtjhclopdcbnmkaaGreatDoorR3
set_option linter.unusedSimpArgs false
set_option linter.unusedVariables false
namespace Go.Proofs.YtjhclopdcbnmkaaGreatDoor
open Go.RowKit PX

theorem ratom_any (w : World) (rb : Nat) (S : ByteArray) (i : Nat) (h : RefAt w rb S i false) (hs : S.size ≤ 1000) (hi : i ≤ S.size) (altf : List UInt8 → Option (Rx × List UInt8))
    (halt : starts 40 (rest S i) = true → ∀ w1, RefAt w1 rb S (i + 1) false → Calls Tryz.prog 35 #[.pointer (some ⟨rb, 0, none⟩)] w1 fun e w2 => SaysRx rb S (i + 1) w1 (altf (rest S (i + 1))) e w2) :
    Calls Tryz.prog 81 #[.pointer (some ⟨rb, 0, none⟩)] w fun e w' => SaysRx rb S i w (atomB altf (rest S i)) e w' := by
  cases h46 : starts 46 (rest S i) with
  | true => exact ratom_dot w rb S i h hs hi altf h46
  | false =>
    cases h91 : starts 91 (rest S i) with
    | true => exact ratom_class w rb S i h hs hi altf h46 h91
    | false =>
      cases h40 : starts 40 (rest S i) with
      | true => exact ratom_open w rb S i h hs hi altf h46 h91 h40 (halt h40)
      | false => exact ratom_one w rb S i h hs hi altf h46 h91 h40

def AtomIs (bad : Bool) (x : Rx) (X : RxA) (S : ByteArray) (j : Nat) (r : List UInt8) : Prop := bad = false → x = X.bare ∧ rest S j = r
/-- What the call of atom gives piece. -/
def RAtomGives (rb : Nat) (S : ByteArray) (i : Nat) (bad : Bool) (x : Rx) (r : List UInt8) : Prop := ∀ w1, RefAt w1 rb S i false → Calls Tryz.prog 81 #[.pointer (some ⟨rb, 0, none⟩)] w1 fun e w2 =>
  ∃ k mn mx s0 s1 s2 s3 a cap l j, AtomIs bad x (RxA.node k mn mx s0 s1 s2 s3 a cap l) S j r ∧ e = .returned (.agg #[.int .i64 k, .int .i64 mn, .int .i64 mx, .int .u64 s0, .int .u64 s1, .int .u64 s2, .int .u64 s3, .slice a l.length cap]) ∧ i ≤ j ∧ j ≤ S.size ∧ RefAt w2 rb S j bad ∧ Only (fun k => k = rb) w1 w2 ∧ (RxA.node k mn mx s0 s1 s2 s3 a cap l).In w2 w2.heap.size ∧ ∀ b ∈ (RxA.node k mn mx s0 s1 s2 s3 a cap l).blocks, w1.heap.size ≤ b ∧ b < w2.heap.size
theorem atomGives_of {rb : Nat} {S : ByteArray} {i : Nat} {x : Rx} {r : List UInt8} (h : ∀ w1, RefAt w1 rb S i false → Calls Tryz.prog 81 #[.pointer (some ⟨rb, 0, none⟩)] w1 fun e w2 => SaysRx rb S i w1 (some (x, r)) e w2) : RAtomGives rb S i false x r := by
  intro w1 h1
  refine (h w1 h1).mono ?_
  rintro e w2 ⟨o1, X, j, b, he, hij, hjs, hr, hin, hbl, ⟨rfl, hO⟩ | ⟨-, hO⟩⟩
  · obtain ⟨k, mn, mx, s0, s1, s2, s3, a, cap, l⟩ := X
    simp only [Option.some.injEq, Prod.mk.injEq] at hO
    exact ⟨k, mn, mx, s0, s1, s2, s3, a, cap, l, j, fun _ => ⟨hO.1, hO.2.symm⟩, he, hij, hjs, hr, o1, hin, hbl⟩
  · cases hO
theorem atomGives_bad {rb : Nat} {S : ByteArray} {i : Nat} (x : Rx) (r : List UInt8) (h : ∀ w1, RefAt w1 rb S i false → Calls Tryz.prog 81 #[.pointer (some ⟨rb, 0, none⟩)] w1 fun e w2 => SaysRx rb S i w1 none e w2) : RAtomGives rb S i true x r := by
  intro w1 h1
  refine (h w1 h1).mono ?_
  rintro e w2 ⟨o1, X, j, b, he, hij, hjs, hr, hin, hbl, ⟨-, hO⟩ | ⟨rfl, hO⟩⟩
  · cases hO
  · obtain ⟨k, mn, mx, s0, s1, s2, s3, a, cap, l⟩ := X
    exact ⟨k, mn, mx, s0, s1, s2, s3, a, cap, l, j, (fun h => by cases h), he, hij, hjs, hr, o1, hin, hbl⟩

theorem repA_in' {w : World} {m n : Int} {hb : Nat} {X : RxA} (hm : -1 ≤ m ∧ m ≤ 99) (hn : -1 ≤ n ∧ n ≤ 99) (hX : X.In w w.heap.size) (hh : w.heap[hb]? = some (.cells (cellsA X) 26 (0, 0))) : (repA m n hb X).In w w.heap.size := by
  have hlt := lt_of_block hh
  simp only [repA, RxA.In]
  refine ⟨⟨⟨by omega, by omega⟩, ⟨by omega, by omega⟩, ⟨by omega, by omega⟩, ⟨by omega, by omega⟩, ⟨by omega, by omega⟩, ⟨by omega, by omega⟩, ⟨by omega, by omega⟩⟩, by simp, by unfold maxLen; omega, by simp, .inr ⟨hb, 0, rfl, hlt, ?_⟩⟩
  simp only [InL, and_true]
  refine ⟨fun j hj => ?_, hX⟩
  rw [cell_of_block hh]
  simp [cellsA]
/-- A repetition handed back. -/
theorem saysRx_rep {w w1 wz : World} {rb nb i j : Nat} {S : ByteArray} {b : Bool} {X : RxA} {m n : Int} {O : Option (Rx × List UInt8)} (hw : w.heap.size = nb) (hrb : rb < nb) (ho : Only (fun k => k = rb) w wz) (hr : RefAt wz rb S j b) (hin : X.In w1 w1.heap.size)
    (hbl : ∀ c ∈ X.blocks, nb < c ∧ c < w1.heap.size) (hs : w1.heap.size ≤ wz.heap.size) (hk : ∀ c, nb < c → c < w1.heap.size → wz.heap[c]? = w1.heap[c]?) (hm : -1 ≤ m ∧ m ≤ 99) (hn : -1 ≤ n ∧ n ≤ 99) (hij : i ≤ j) (hjs : j ≤ S.size) (hnb : nb < wz.heap.size)
    (hor : (b = false ∧ O = some (.rep m n X.bare, rest S j)) ∨ (b = true ∧ O = none)) :
    SaysRx rb S i w O (.returned (.agg (cellsA (repA m n wz.heap.size X)))) ((wz.alloc (.cells (cellsA X) 26)).setRow nb (cellsA (repA m n wz.heap.size X))) := by
  have hin2 : X.In (wz.alloc (.cells (cellsA X) 26)) (wz.alloc (.cells (cellsA X) 26)).heap.size :=
    hin.keep fun c hc => ⟨by have := (hbl c hc).2; simp; omega, fun o => World.cell?_of_block (w := w1) ((Below.heap_alloc _ _ _ (by have := (hbl c hc).2; show c < wz.heap.size; omega)).trans (hk c (hbl c hc).1 (hbl c hc).2))⟩
  refine saysRx_end hw hrb (ho.alloc _) (show RefAt _ rb S j b from alloc_old hr _) (repA_in' hm hn hin2 (alloc_block wz _)) (fun c hc => ?_) hij hjs (by rw [repA_bare]; exact hor)
  rcases repA_blocks _ _ _ _ c hc with rfl | hc
  · exact ⟨hnb, by simp⟩
  · have := hbl c hc
    exact ⟨this.1, by simp; omega⟩

set_option maxRecDepth 100000 in
set_option maxHeartbeats 1000000 in
theorem rpiece_bad (w : World) (rb : Nat) (S : ByteArray) (i : Nat) (h : RefAt w rb S i false) (hs : S.size ≤ 1000) (x : Rx) (r : List UInt8) (hatom : RAtomGives rb S i true x r) :
    Calls Tryz.prog 54 #[.pointer (some ⟨rb, 0, none⟩)] w fun e w' => SaysRx rb S i w none e w' := by
  obtain ⟨nb, hnb⟩ : ∃ nb, w.heap.size = nb := ⟨_, rfl⟩
  have hrb := lt_of_block h
  rw [hnb] at hrb
  have hN0 : (w.alloc (.cells zeroRx 26)).heap[nb]? = some (.cells zeroRx 26 (0, 0)) := alloc_block' _ _ _ hnb
  have hR0 : RefAt (w.alloc (.cells zeroRx 26)) rb S i false := alloc_old h _
  have HN0 := Lib.hid hN0
  have HO0 := Lib.hid ((Only.refl (fun k => k = rb) w).alloc (.cells zeroRx 26))
  have hl0 : nb < (w.alloc (.cells zeroRx 26)).heap.size := lt_of_block hN0
  have hl00 : nb < (w.alloc (.cells #[.int .i64 0, .int .i64 0, .int .i64 0, .int .u64 0, .int .u64 0, .int .u64 0, .int .u64 0, .slice none 0 0] 26)).heap.size := hl0
  have HATOM := Lib.hid (hatom (w.alloc (.cells #[.int .i64 0, .int .i64 0, .int .i64 0, .int .u64 0, .int .u64 0, .int .u64 0, .int .u64 0, .slice none 0 0] 26)) hR0)
  have HSZ := Lib.hid hnb
  clear hN0 hR0 h hatom
  go_enter Tryz.func54, Tryz.ntmps54
  go_wp2_with (first
    | (go_at_call 81; (with_reducible refine HATOM.out.mono ?_); rintro e w1 ⟨k, mn, mx, s0, s1, s2, s3, a, cap, l, j, hX, rfl, hij, hjs, h1, o1, hin, hbl⟩; have HX := Lib.hid hX; have HO1 := Lib.hid (HO0.out.then o1); have hn1 := (o1.block nb hl0 (by omega)).trans HN0.out; have hl1 := lt_of_block hn1; have HIN := Lib.hid hin; have HBL := Lib.hid hbl; have hs01 := o1.size; have HR2 := Lib.hid (show RefAt (w1.alloc (.cells #[.int .i64 k, .int .i64 mn, .int .i64 mx, .int .u64 s0, .int .u64 s1, .int .u64 s2, .int .u64 s3, .slice a l.length cap] 26)) rb S j true from alloc_old h1 _); have HN2 := Lib.hid (alloc_old hn1 (.cells #[.int .i64 k, .int .i64 mn, .int .i64 mx, .int .u64 s0, .int .u64 s1, .int .u64 s2, .int .u64 s3, .slice a l.length cap] 26)); have HE2 := Lib.hid (alloc_block w1 (.cells #[.int .i64 k, .int .i64 mn, .int .i64 mx, .int .u64 s0, .int .u64 s1, .int .u64 s2, .int .u64 s3, .slice a l.length cap] 26)); have HO2 := Lib.hid (HO1.out.alloc (.cells #[.int .i64 k, .int .i64 mn, .int .i64 mx, .int .u64 s0, .int .u64 s1, .int .u64 s2, .int .u64 s3, .slice a l.length cap] 26)); have hl2 : w1.heap.size < (w1.alloc (.cells #[.int .i64 k, .int .i64 mn, .int .i64 mx, .int .u64 s0, .int .u64 s1, .int .u64 s2, .int .u64 s3, .slice a l.length cap] 26)).heap.size := lt_of_block HE2.out; have HK2 := Lib.hid (fun c (hc : c < w1.heap.size) => Below.heap_alloc w1 (.cells #[.int .i64 k, .int .i64 mn, .int .i64 mx, .int .u64 s0, .int .u64 s1, .int .u64 s2, .int .u64 s3, .slice a l.length cap] 26) c hc); obtain ⟨c0, c1, c2, z1, z2⟩ := HR2.out.cells; clear hX h1 o1 hn1 hin hbl)
    | (refine wpList_load_row rfl 26 (.tmp 3) ?_ w1.heap.size ?_ 26 #[.int .i64 k, .int .i64 mn, .int .i64 mx, .int .u64 s0, .int .u64 s1, .int .u64 s2, .int .u64 s3, .slice a l.length cap] (0, 0) _ ?_ Tryz.underlying26 rfl info_rx ?_; (with_reducible rfl); rfl; exact HE2.out)
    | (refine wpList_store_row rfl 26 (.tmp 2) (.tmp 14) ?_ nb #[.int .i64 k, .int .i64 mn, .int .i64 mx, .int .u64 s0, .int .u64 s1, .int .u64 s2, .int .u64 s3, .slice a l.length cap] ?_ ?_ 26 zeroRx ?_ info_rx (by rfl) (cellsA_one (RxA.node k mn mx s0 s1 s2 s3 a cap l)) ?_; (with_reducible rfl); rfl; rfl; exact HN2.out)
    | fail)
  refine bodyPost_ret (results_cell_row rfl _ _ nb 26 #[.int .i64 k, .int .i64 mn, .int .i64 mx, .int .u64 s0, .int .u64 s1, .int .u64 s2, .int .u64 s3, .slice a l.length cap] (0, 0) _ rfl (setRow_heap _ _ _ _ _ _ HN2.out) Tryz.underlying26 rfl info_rx) rfl ?_
  exact saysRx_end (X := (RxA.node k mn mx s0 s1 s2 s3 a cap l)) HSZ.out hrb HO2.out HR2.out (in_later HIN.out HBL.out (by simp) fun c hc1 hc2 => HK2.out c hc2) (fun c hc => ⟨by have := (HBL.out c hc).1; omega, by have := (HBL.out c hc).2; omega⟩) hij hjs (.inr ⟨rfl, rfl⟩)

set_option maxRecDepth 100000 in
set_option maxHeartbeats 1000000 in
theorem rpiece_none (w : World) (rb : Nat) (S : ByteArray) (i : Nat) (h : RefAt w rb S i false) (hs : S.size ≤ 1000) (x : Rx) (r : List UInt8) (hatom : RAtomGives rb S i false x r) (h42 : starts 42 r = false) (h43 : starts 43 r = false) (h63 : starts 63 r = false) (h123 : starts 123 r = false) :
    Calls Tryz.prog 54 #[.pointer (some ⟨rb, 0, none⟩)] w fun e w' => SaysRx rb S i w (sign x r) e w' := by
  obtain ⟨nb, hnb⟩ : ∃ nb, w.heap.size = nb := ⟨_, rfl⟩
  have hrb := lt_of_block h
  rw [hnb] at hrb
  have hN0 : (w.alloc (.cells zeroRx 26)).heap[nb]? = some (.cells zeroRx 26 (0, 0)) := alloc_block' _ _ _ hnb
  have hR0 : RefAt (w.alloc (.cells zeroRx 26)) rb S i false := alloc_old h _
  have HN0 := Lib.hid hN0
  have HO0 := Lib.hid ((Only.refl (fun k => k = rb) w).alloc (.cells zeroRx 26))
  have hl0 : nb < (w.alloc (.cells zeroRx 26)).heap.size := lt_of_block hN0
  have hl00 : nb < (w.alloc (.cells #[.int .i64 0, .int .i64 0, .int .i64 0, .int .u64 0, .int .u64 0, .int .u64 0, .int .u64 0, .slice none 0 0] 26)).heap.size := hl0
  have HATOM := Lib.hid (hatom (w.alloc (.cells #[.int .i64 0, .int .i64 0, .int .i64 0, .int .u64 0, .int .u64 0, .int .u64 0, .int .u64 0, .slice none 0 0] 26)) hR0)
  have HSZ := Lib.hid hnb
  have hS : sign x r = some (x, r) := by unfold sign; rw [h42, h43, h63, h123]; rfl
  rw [hS]
  have HAT42 := Lib.hid (fun w1 j (h1 : RefAt w1 rb S j false) (hj : rest S j = r) => at_f w1 rb S j false 42 42 h1 hs rfl (by rw [hj]; exact h42))
  have HAT43 := Lib.hid (fun w1 j (h1 : RefAt w1 rb S j false) (hj : rest S j = r) => at_f w1 rb S j false 43 43 h1 hs rfl (by rw [hj]; exact h43))
  have HAT63 := Lib.hid (fun w1 j (h1 : RefAt w1 rb S j false) (hj : rest S j = r) => at_f w1 rb S j false 63 63 h1 hs rfl (by rw [hj]; exact h63))
  have HAT123 := Lib.hid (fun w1 j (h1 : RefAt w1 rb S j false) (hj : rest S j = r) => at_f w1 rb S j false 123 123 h1 hs rfl (by rw [hj]; exact h123))
  clear hN0 hR0 h hatom hS h42 h43 h63 h123
  go_enter Tryz.func54, Tryz.ntmps54
  go_wp2_with (first
    | (go_at_call 81; (with_reducible refine HATOM.out.mono ?_); rintro e w1 ⟨k, mn, mx, s0, s1, s2, s3, a, cap, l, j, hX, rfl, hij, hjs, h1, o1, hin, hbl⟩; have HXB := Lib.hid (hX rfl).1; have HJ := Lib.hid (hX rfl).2; have HO1 := Lib.hid (HO0.out.then o1); have hn1 := (o1.block nb hl0 (by omega)).trans HN0.out; have hl1 := lt_of_block hn1; have HIN := Lib.hid hin; have HBL := Lib.hid hbl; have hs01 := o1.size; have HR2 := Lib.hid (show RefAt (w1.alloc (.cells #[.int .i64 k, .int .i64 mn, .int .i64 mx, .int .u64 s0, .int .u64 s1, .int .u64 s2, .int .u64 s3, .slice a l.length cap] 26)) rb S j false from alloc_old h1 _); have HN2 := Lib.hid (alloc_old hn1 (.cells #[.int .i64 k, .int .i64 mn, .int .i64 mx, .int .u64 s0, .int .u64 s1, .int .u64 s2, .int .u64 s3, .slice a l.length cap] 26)); have HE2 := Lib.hid (alloc_block w1 (.cells #[.int .i64 k, .int .i64 mn, .int .i64 mx, .int .u64 s0, .int .u64 s1, .int .u64 s2, .int .u64 s3, .slice a l.length cap] 26)); have HO2 := Lib.hid (HO1.out.alloc (.cells #[.int .i64 k, .int .i64 mn, .int .i64 mx, .int .u64 s0, .int .u64 s1, .int .u64 s2, .int .u64 s3, .slice a l.length cap] 26)); have hl2 : w1.heap.size < (w1.alloc (.cells #[.int .i64 k, .int .i64 mn, .int .i64 mx, .int .u64 s0, .int .u64 s1, .int .u64 s2, .int .u64 s3, .slice a l.length cap] 26)).heap.size := lt_of_block HE2.out; have HK2 := Lib.hid (fun c (hc : c < w1.heap.size) => Below.heap_alloc w1 (.cells #[.int .i64 k, .int .i64 mn, .int .i64 mx, .int .u64 s0, .int .u64 s1, .int .u64 s2, .int .u64 s3, .slice a l.length cap] 26) c hc); obtain ⟨c0, c1, c2, z1, z2⟩ := HR2.out.cells; clear hX h1 o1 hn1 hin hbl)
    | (go_at_call 56; (with_reducible refine (HAT42.out _ _ HR2.out HJ.out).mono ?_); rintro e w3 ⟨rfl, h1, o1⟩; have HR3 := Lib.hid h1; have HO3 := Lib.hid (HO2.out.then o1); have HN3 := Lib.hid ((o1.block nb (by omega) (by omega)).trans HN2.out); have HE3 := Lib.hid ((o1.block w1.heap.size (by omega) (by omega)).trans HE2.out); have HK3 := Lib.hid (fun c (hr : rb < c) (hc : c < w1.heap.size) => (o1.block c (by omega) (by omega)).trans (HK2.out c hc)); have hl3 : w1.heap.size < w3.heap.size := lt_of_block HE3.out; clear h1 o1)
    | (go_at_call 56; (with_reducible refine (HAT43.out _ _ HR3.out HJ.out).mono ?_); rintro e w4 ⟨rfl, h1, o1⟩; have HR4 := Lib.hid h1; have HO4 := Lib.hid (HO3.out.then o1); have HN4 := Lib.hid ((o1.block nb (by omega) (by omega)).trans HN3.out); have HE4 := Lib.hid ((o1.block w1.heap.size (by omega) (by omega)).trans HE3.out); have HK4 := Lib.hid (fun c (hr : rb < c) (hc : c < w1.heap.size) => (o1.block c (by omega) (by omega)).trans (HK3.out c hr hc)); have hl4 : w1.heap.size < w4.heap.size := lt_of_block HE4.out; clear h1 o1)
    | (go_at_call 56; (with_reducible refine (HAT63.out _ _ HR4.out HJ.out).mono ?_); rintro e w5 ⟨rfl, h1, o1⟩; have HR5 := Lib.hid h1; have HO5 := Lib.hid (HO4.out.then o1); have HN5 := Lib.hid ((o1.block nb (by omega) (by omega)).trans HN4.out); have HE5 := Lib.hid ((o1.block w1.heap.size (by omega) (by omega)).trans HE4.out); have HK5 := Lib.hid (fun c (hr : rb < c) (hc : c < w1.heap.size) => (o1.block c (by omega) (by omega)).trans (HK4.out c hr hc)); have hl5 : w1.heap.size < w5.heap.size := lt_of_block HE5.out; clear h1 o1)
    | (go_at_call 56; (with_reducible refine (HAT123.out _ _ HR5.out HJ.out).mono ?_); rintro e w6 ⟨rfl, h1, o1⟩; have HR6 := Lib.hid h1; have HO6 := Lib.hid (HO5.out.then o1); have HN6 := Lib.hid ((o1.block nb (by omega) (by omega)).trans HN5.out); have HE6 := Lib.hid ((o1.block w1.heap.size (by omega) (by omega)).trans HE5.out); have HK6 := Lib.hid (fun c (hr : rb < c) (hc : c < w1.heap.size) => (o1.block c (by omega) (by omega)).trans (HK5.out c hr hc)); have hl6 : w1.heap.size < w6.heap.size := lt_of_block HE6.out; clear h1 o1)
    | (refine wpList_load_row rfl 26 (.tmp 3) ?_ w1.heap.size ?_ 26 #[.int .i64 k, .int .i64 mn, .int .i64 mx, .int .u64 s0, .int .u64 s1, .int .u64 s2, .int .u64 s3, .slice a l.length cap] (0, 0) _ ?_ Tryz.underlying26 rfl info_rx ?_; (with_reducible rfl); rfl; exact HE6.out)
    | (refine wpList_store_row rfl 26 (.tmp 2) (.tmp 8) ?_ nb #[.int .i64 k, .int .i64 mn, .int .i64 mx, .int .u64 s0, .int .u64 s1, .int .u64 s2, .int .u64 s3, .slice a l.length cap] ?_ ?_ 26 zeroRx ?_ info_rx (by rfl) (cellsA_one (RxA.node k mn mx s0 s1 s2 s3 a cap l)) ?_; (with_reducible rfl); rfl; rfl; exact HN6.out)
    | fail)
  refine bodyPost_ret (results_cell_row rfl _ _ nb 26 #[.int .i64 k, .int .i64 mn, .int .i64 mx, .int .u64 s0, .int .u64 s1, .int .u64 s2, .int .u64 s3, .slice a l.length cap] (0, 0) _ rfl (setRow_heap _ _ _ _ _ _ HN6.out) Tryz.underlying26 rfl info_rx) rfl ?_
  exact saysRx_end (X := (RxA.node k mn mx s0 s1 s2 s3 a cap l)) HSZ.out hrb HO6.out HR6.out (in_later HIN.out HBL.out (by omega) fun c hc1 hc2 => HK6.out c (by omega) hc2) (fun c hc => ⟨by have := (HBL.out c hc).1; omega, by have := (HBL.out c hc).2; omega⟩) hij hjs (.inl ⟨rfl, by rw [HXB.out, HJ.out]⟩)

set_option maxRecDepth 100000 in
set_option maxHeartbeats 1000000 in
theorem rpiece_star (w : World) (rb : Nat) (S : ByteArray) (i : Nat) (h : RefAt w rb S i false) (hs : S.size ≤ 1000) (x : Rx) (r : List UInt8) (hatom : RAtomGives rb S i false x r) (h42 : starts 42 r = true) :
    Calls Tryz.prog 54 #[.pointer (some ⟨rb, 0, none⟩)] w fun e w' => SaysRx rb S i w (sign x r) e w' := by
  obtain ⟨nb, hnb⟩ : ∃ nb, w.heap.size = nb := ⟨_, rfl⟩
  have hrb := lt_of_block h
  rw [hnb] at hrb
  have hN0 : (w.alloc (.cells zeroRx 26)).heap[nb]? = some (.cells zeroRx 26 (0, 0)) := alloc_block' _ _ _ hnb
  have hR0 : RefAt (w.alloc (.cells zeroRx 26)) rb S i false := alloc_old h _
  have HN0 := Lib.hid hN0
  have HO0 := Lib.hid ((Only.refl (fun k => k = rb) w).alloc (.cells zeroRx 26))
  have hl0 : nb < (w.alloc (.cells zeroRx 26)).heap.size := lt_of_block hN0
  have hl00 : nb < (w.alloc (.cells #[.int .i64 0, .int .i64 0, .int .i64 0, .int .u64 0, .int .u64 0, .int .u64 0, .int .u64 0, .slice none 0 0] 26)).heap.size := hl0
  have HATOM := Lib.hid (hatom (w.alloc (.cells #[.int .i64 0, .int .i64 0, .int .i64 0, .int .u64 0, .int .u64 0, .int .u64 0, .int .u64 0, .slice none 0 0] 26)) hR0)
  have HSZ := Lib.hid hnb
  have hS : sign x r = some (.rep 0 (-1) x, r.tail) := by unfold sign; rw [h42]; rfl
  rw [hS]
  have HAT42 := Lib.hid (fun w1 j (h1 : RefAt w1 rb S j false) (hj : rest S j = r) => at_t w1 rb S j false 42 42 h1 hs rfl (by rw [hj]; exact h42))
  have H42 := Lib.hid h42
  clear hN0 hR0 h hatom hS h42
  go_enter Tryz.func54, Tryz.ntmps54
  go_wp2_with (first
    | (go_at_call 81; (with_reducible refine HATOM.out.mono ?_); rintro e w1 ⟨k, mn, mx, s0, s1, s2, s3, a, cap, l, j, hX, rfl, hij, hjs, h1, o1, hin, hbl⟩; have HXB := Lib.hid (hX rfl).1; have HJ := Lib.hid (hX rfl).2; have HO1 := Lib.hid (HO0.out.then o1); have hn1 := (o1.block nb hl0 (by omega)).trans HN0.out; have hl1 := lt_of_block hn1; have HIN := Lib.hid hin; have HBL := Lib.hid hbl; have hs01 := o1.size; have HR2 := Lib.hid (show RefAt (w1.alloc (.cells #[.int .i64 k, .int .i64 mn, .int .i64 mx, .int .u64 s0, .int .u64 s1, .int .u64 s2, .int .u64 s3, .slice a l.length cap] 26)) rb S j false from alloc_old h1 _); have HN2 := Lib.hid (alloc_old hn1 (.cells #[.int .i64 k, .int .i64 mn, .int .i64 mx, .int .u64 s0, .int .u64 s1, .int .u64 s2, .int .u64 s3, .slice a l.length cap] 26)); have HE2 := Lib.hid (alloc_block w1 (.cells #[.int .i64 k, .int .i64 mn, .int .i64 mx, .int .u64 s0, .int .u64 s1, .int .u64 s2, .int .u64 s3, .slice a l.length cap] 26)); have HO2 := Lib.hid (HO1.out.alloc (.cells #[.int .i64 k, .int .i64 mn, .int .i64 mx, .int .u64 s0, .int .u64 s1, .int .u64 s2, .int .u64 s3, .slice a l.length cap] 26)); have hl2 : w1.heap.size < (w1.alloc (.cells #[.int .i64 k, .int .i64 mn, .int .i64 mx, .int .u64 s0, .int .u64 s1, .int .u64 s2, .int .u64 s3, .slice a l.length cap] 26)).heap.size := lt_of_block HE2.out; have HK2 := Lib.hid (fun c (hc : c < w1.heap.size) => Below.heap_alloc w1 (.cells #[.int .i64 k, .int .i64 mn, .int .i64 mx, .int .u64 s0, .int .u64 s1, .int .u64 s2, .int .u64 s3, .slice a l.length cap] 26) c hc); obtain ⟨c0, c1, c2, z1, z2⟩ := HR2.out.cells; clear hX h1 o1 hn1 hin hbl)
    | (go_at_call 56; (with_reducible refine (HAT42.out _ _ HR2.out HJ.out).mono ?_); rintro e w3 ⟨rfl, h1, o1⟩; have HR3 := Lib.hid h1; have HO3 := Lib.hid (HO2.out.then o1); have HN3 := Lib.hid ((o1.block nb (by omega) (by omega)).trans HN2.out); have HE3 := Lib.hid ((o1.block w1.heap.size (by omega) (by omega)).trans HE2.out); have HK3 := Lib.hid (fun c (hr : rb < c) (hc : c < w1.heap.size) => (o1.block c (by omega) (by omega)).trans (HK2.out c hc)); have hl3 : w1.heap.size < w3.heap.size := lt_of_block HE3.out; clear h1 o1)
    | (refine wpList_load_row rfl 26 (.tmp 3) ?_ w1.heap.size ?_ 26 #[.int .i64 k, .int .i64 mn, .int .i64 mx, .int .u64 s0, .int .u64 s1, .int .u64 s2, .int .u64 s3, .slice a l.length cap] (0, 0) _ ?_ Tryz.underlying26 rfl info_rx ?_; (with_reducible rfl); rfl; exact HE3.out)
    | (refine wpList_store_row rfl 26 (.tmp 2) (.tmp 58) ?_ nb (cellsA (repA 0 (-1) w3.heap.size (RxA.node k mn mx s0 s1 s2 s3 a cap l))) ?_ ?_ 26 zeroRx ?_ (info_rxA _) (by rw [cellsA_size]; rfl) (cellsA_one _) ?_; (with_reducible rfl); rfl; rfl; exact alloc_old HN3.out _)
    | fail)
  have hj2 : j + 1 ≤ S.size := rest_starts (c := 42) (by rw [HJ.out]; exact H42.out)
  refine bodyPost_ret (results_cell_row rfl _ _ nb 26 (cellsA (repA 0 (-1) w3.heap.size (RxA.node k mn mx s0 s1 s2 s3 a cap l))) (0, 0) _ rfl (setRow_heap _ _ _ _ _ _ (alloc_old HN3.out _)) Tryz.underlying26 rfl (info_rxA _)) rfl ?_
  exact saysRx_rep (X := (RxA.node k mn mx s0 s1 s2 s3 a cap l)) HSZ.out hrb HO3.out HR3.out HIN.out (fun c hc => ⟨by have := (HBL.out c hc).1; omega, (HBL.out c hc).2⟩) (by omega) (fun c hc1 hc2 => HK3.out c (by omega) hc2) (by omega) (by omega) (by omega) hj2 (by omega) (.inl ⟨rfl, by rw [HXB.out, rest_tail, HJ.out]⟩)

set_option maxRecDepth 100000 in
set_option maxHeartbeats 1000000 in
theorem rpiece_plus (w : World) (rb : Nat) (S : ByteArray) (i : Nat) (h : RefAt w rb S i false) (hs : S.size ≤ 1000) (x : Rx) (r : List UInt8) (hatom : RAtomGives rb S i false x r) (h42 : starts 42 r = false) (h43 : starts 43 r = true) :
    Calls Tryz.prog 54 #[.pointer (some ⟨rb, 0, none⟩)] w fun e w' => SaysRx rb S i w (sign x r) e w' := by
  obtain ⟨nb, hnb⟩ : ∃ nb, w.heap.size = nb := ⟨_, rfl⟩
  have hrb := lt_of_block h
  rw [hnb] at hrb
  have hN0 : (w.alloc (.cells zeroRx 26)).heap[nb]? = some (.cells zeroRx 26 (0, 0)) := alloc_block' _ _ _ hnb
  have hR0 : RefAt (w.alloc (.cells zeroRx 26)) rb S i false := alloc_old h _
  have HN0 := Lib.hid hN0
  have HO0 := Lib.hid ((Only.refl (fun k => k = rb) w).alloc (.cells zeroRx 26))
  have hl0 : nb < (w.alloc (.cells zeroRx 26)).heap.size := lt_of_block hN0
  have hl00 : nb < (w.alloc (.cells #[.int .i64 0, .int .i64 0, .int .i64 0, .int .u64 0, .int .u64 0, .int .u64 0, .int .u64 0, .slice none 0 0] 26)).heap.size := hl0
  have HATOM := Lib.hid (hatom (w.alloc (.cells #[.int .i64 0, .int .i64 0, .int .i64 0, .int .u64 0, .int .u64 0, .int .u64 0, .int .u64 0, .slice none 0 0] 26)) hR0)
  have HSZ := Lib.hid hnb
  have hS : sign x r = some (.rep 1 (-1) x, r.tail) := by unfold sign; rw [h42, h43]; rfl
  rw [hS]
  have HAT42 := Lib.hid (fun w1 j (h1 : RefAt w1 rb S j false) (hj : rest S j = r) => at_f w1 rb S j false 42 42 h1 hs rfl (by rw [hj]; exact h42))
  have HAT43 := Lib.hid (fun w1 j (h1 : RefAt w1 rb S j false) (hj : rest S j = r) => at_t w1 rb S j false 43 43 h1 hs rfl (by rw [hj]; exact h43))
  have H43 := Lib.hid h43
  clear hN0 hR0 h hatom hS h42 h43
  go_enter Tryz.func54, Tryz.ntmps54
  go_wp2_with (first
    | (go_at_call 81; (with_reducible refine HATOM.out.mono ?_); rintro e w1 ⟨k, mn, mx, s0, s1, s2, s3, a, cap, l, j, hX, rfl, hij, hjs, h1, o1, hin, hbl⟩; have HXB := Lib.hid (hX rfl).1; have HJ := Lib.hid (hX rfl).2; have HO1 := Lib.hid (HO0.out.then o1); have hn1 := (o1.block nb hl0 (by omega)).trans HN0.out; have hl1 := lt_of_block hn1; have HIN := Lib.hid hin; have HBL := Lib.hid hbl; have hs01 := o1.size; have HR2 := Lib.hid (show RefAt (w1.alloc (.cells #[.int .i64 k, .int .i64 mn, .int .i64 mx, .int .u64 s0, .int .u64 s1, .int .u64 s2, .int .u64 s3, .slice a l.length cap] 26)) rb S j false from alloc_old h1 _); have HN2 := Lib.hid (alloc_old hn1 (.cells #[.int .i64 k, .int .i64 mn, .int .i64 mx, .int .u64 s0, .int .u64 s1, .int .u64 s2, .int .u64 s3, .slice a l.length cap] 26)); have HE2 := Lib.hid (alloc_block w1 (.cells #[.int .i64 k, .int .i64 mn, .int .i64 mx, .int .u64 s0, .int .u64 s1, .int .u64 s2, .int .u64 s3, .slice a l.length cap] 26)); have HO2 := Lib.hid (HO1.out.alloc (.cells #[.int .i64 k, .int .i64 mn, .int .i64 mx, .int .u64 s0, .int .u64 s1, .int .u64 s2, .int .u64 s3, .slice a l.length cap] 26)); have hl2 : w1.heap.size < (w1.alloc (.cells #[.int .i64 k, .int .i64 mn, .int .i64 mx, .int .u64 s0, .int .u64 s1, .int .u64 s2, .int .u64 s3, .slice a l.length cap] 26)).heap.size := lt_of_block HE2.out; have HK2 := Lib.hid (fun c (hc : c < w1.heap.size) => Below.heap_alloc w1 (.cells #[.int .i64 k, .int .i64 mn, .int .i64 mx, .int .u64 s0, .int .u64 s1, .int .u64 s2, .int .u64 s3, .slice a l.length cap] 26) c hc); obtain ⟨c0, c1, c2, z1, z2⟩ := HR2.out.cells; clear hX h1 o1 hn1 hin hbl)
    | (go_at_call 56; (with_reducible refine (HAT42.out _ _ HR2.out HJ.out).mono ?_); rintro e w3 ⟨rfl, h1, o1⟩; have HR3 := Lib.hid h1; have HO3 := Lib.hid (HO2.out.then o1); have HN3 := Lib.hid ((o1.block nb (by omega) (by omega)).trans HN2.out); have HE3 := Lib.hid ((o1.block w1.heap.size (by omega) (by omega)).trans HE2.out); have HK3 := Lib.hid (fun c (hr : rb < c) (hc : c < w1.heap.size) => (o1.block c (by omega) (by omega)).trans (HK2.out c hc)); have hl3 : w1.heap.size < w3.heap.size := lt_of_block HE3.out; clear h1 o1)
    | (go_at_call 56; (with_reducible refine (HAT43.out _ _ HR3.out HJ.out).mono ?_); rintro e w4 ⟨rfl, h1, o1⟩; have HR4 := Lib.hid h1; have HO4 := Lib.hid (HO3.out.then o1); have HN4 := Lib.hid ((o1.block nb (by omega) (by omega)).trans HN3.out); have HE4 := Lib.hid ((o1.block w1.heap.size (by omega) (by omega)).trans HE3.out); have HK4 := Lib.hid (fun c (hr : rb < c) (hc : c < w1.heap.size) => (o1.block c (by omega) (by omega)).trans (HK3.out c hr hc)); have hl4 : w1.heap.size < w4.heap.size := lt_of_block HE4.out; clear h1 o1)
    | (refine wpList_load_row rfl 26 (.tmp 3) ?_ w1.heap.size ?_ 26 #[.int .i64 k, .int .i64 mn, .int .i64 mx, .int .u64 s0, .int .u64 s1, .int .u64 s2, .int .u64 s3, .slice a l.length cap] (0, 0) _ ?_ Tryz.underlying26 rfl info_rx ?_; (with_reducible rfl); rfl; exact HE4.out)
    | (refine wpList_store_row rfl 26 (.tmp 2) (.tmp 58) ?_ nb (cellsA (repA 1 (-1) w4.heap.size (RxA.node k mn mx s0 s1 s2 s3 a cap l))) ?_ ?_ 26 zeroRx ?_ (info_rxA _) (by rw [cellsA_size]; rfl) (cellsA_one _) ?_; (with_reducible rfl); rfl; rfl; exact alloc_old HN4.out _)
    | fail)
  have hj2 : j + 1 ≤ S.size := rest_starts (c := 43) (by rw [HJ.out]; exact H43.out)
  refine bodyPost_ret (results_cell_row rfl _ _ nb 26 (cellsA (repA 1 (-1) w4.heap.size (RxA.node k mn mx s0 s1 s2 s3 a cap l))) (0, 0) _ rfl (setRow_heap _ _ _ _ _ _ (alloc_old HN4.out _)) Tryz.underlying26 rfl (info_rxA _)) rfl ?_
  exact saysRx_rep (X := (RxA.node k mn mx s0 s1 s2 s3 a cap l)) HSZ.out hrb HO4.out HR4.out HIN.out (fun c hc => ⟨by have := (HBL.out c hc).1; omega, (HBL.out c hc).2⟩) (by omega) (fun c hc1 hc2 => HK4.out c (by omega) hc2) (by omega) (by omega) (by omega) hj2 (by omega) (.inl ⟨rfl, by rw [HXB.out, rest_tail, HJ.out]⟩)

set_option maxRecDepth 100000 in
set_option maxHeartbeats 1000000 in
theorem rpiece_may (w : World) (rb : Nat) (S : ByteArray) (i : Nat) (h : RefAt w rb S i false) (hs : S.size ≤ 1000) (x : Rx) (r : List UInt8) (hatom : RAtomGives rb S i false x r) (h42 : starts 42 r = false) (h43 : starts 43 r = false) (h63 : starts 63 r = true) :
    Calls Tryz.prog 54 #[.pointer (some ⟨rb, 0, none⟩)] w fun e w' => SaysRx rb S i w (sign x r) e w' := by
  obtain ⟨nb, hnb⟩ : ∃ nb, w.heap.size = nb := ⟨_, rfl⟩
  have hrb := lt_of_block h
  rw [hnb] at hrb
  have hN0 : (w.alloc (.cells zeroRx 26)).heap[nb]? = some (.cells zeroRx 26 (0, 0)) := alloc_block' _ _ _ hnb
  have hR0 : RefAt (w.alloc (.cells zeroRx 26)) rb S i false := alloc_old h _
  have HN0 := Lib.hid hN0
  have HO0 := Lib.hid ((Only.refl (fun k => k = rb) w).alloc (.cells zeroRx 26))
  have hl0 : nb < (w.alloc (.cells zeroRx 26)).heap.size := lt_of_block hN0
  have hl00 : nb < (w.alloc (.cells #[.int .i64 0, .int .i64 0, .int .i64 0, .int .u64 0, .int .u64 0, .int .u64 0, .int .u64 0, .slice none 0 0] 26)).heap.size := hl0
  have HATOM := Lib.hid (hatom (w.alloc (.cells #[.int .i64 0, .int .i64 0, .int .i64 0, .int .u64 0, .int .u64 0, .int .u64 0, .int .u64 0, .slice none 0 0] 26)) hR0)
  have HSZ := Lib.hid hnb
  have hS : sign x r = some (.rep 0 1 x, r.tail) := by unfold sign; rw [h42, h43, h63]; rfl
  rw [hS]
  have HAT42 := Lib.hid (fun w1 j (h1 : RefAt w1 rb S j false) (hj : rest S j = r) => at_f w1 rb S j false 42 42 h1 hs rfl (by rw [hj]; exact h42))
  have HAT43 := Lib.hid (fun w1 j (h1 : RefAt w1 rb S j false) (hj : rest S j = r) => at_f w1 rb S j false 43 43 h1 hs rfl (by rw [hj]; exact h43))
  have HAT63 := Lib.hid (fun w1 j (h1 : RefAt w1 rb S j false) (hj : rest S j = r) => at_t w1 rb S j false 63 63 h1 hs rfl (by rw [hj]; exact h63))
  have H63 := Lib.hid h63
  clear hN0 hR0 h hatom hS h42 h43 h63
  go_enter Tryz.func54, Tryz.ntmps54
  go_wp2_with (first
    | (go_at_call 81; (with_reducible refine HATOM.out.mono ?_); rintro e w1 ⟨k, mn, mx, s0, s1, s2, s3, a, cap, l, j, hX, rfl, hij, hjs, h1, o1, hin, hbl⟩; have HXB := Lib.hid (hX rfl).1; have HJ := Lib.hid (hX rfl).2; have HO1 := Lib.hid (HO0.out.then o1); have hn1 := (o1.block nb hl0 (by omega)).trans HN0.out; have hl1 := lt_of_block hn1; have HIN := Lib.hid hin; have HBL := Lib.hid hbl; have hs01 := o1.size; have HR2 := Lib.hid (show RefAt (w1.alloc (.cells #[.int .i64 k, .int .i64 mn, .int .i64 mx, .int .u64 s0, .int .u64 s1, .int .u64 s2, .int .u64 s3, .slice a l.length cap] 26)) rb S j false from alloc_old h1 _); have HN2 := Lib.hid (alloc_old hn1 (.cells #[.int .i64 k, .int .i64 mn, .int .i64 mx, .int .u64 s0, .int .u64 s1, .int .u64 s2, .int .u64 s3, .slice a l.length cap] 26)); have HE2 := Lib.hid (alloc_block w1 (.cells #[.int .i64 k, .int .i64 mn, .int .i64 mx, .int .u64 s0, .int .u64 s1, .int .u64 s2, .int .u64 s3, .slice a l.length cap] 26)); have HO2 := Lib.hid (HO1.out.alloc (.cells #[.int .i64 k, .int .i64 mn, .int .i64 mx, .int .u64 s0, .int .u64 s1, .int .u64 s2, .int .u64 s3, .slice a l.length cap] 26)); have hl2 : w1.heap.size < (w1.alloc (.cells #[.int .i64 k, .int .i64 mn, .int .i64 mx, .int .u64 s0, .int .u64 s1, .int .u64 s2, .int .u64 s3, .slice a l.length cap] 26)).heap.size := lt_of_block HE2.out; have HK2 := Lib.hid (fun c (hc : c < w1.heap.size) => Below.heap_alloc w1 (.cells #[.int .i64 k, .int .i64 mn, .int .i64 mx, .int .u64 s0, .int .u64 s1, .int .u64 s2, .int .u64 s3, .slice a l.length cap] 26) c hc); obtain ⟨c0, c1, c2, z1, z2⟩ := HR2.out.cells; clear hX h1 o1 hn1 hin hbl)
    | (go_at_call 56; (with_reducible refine (HAT42.out _ _ HR2.out HJ.out).mono ?_); rintro e w3 ⟨rfl, h1, o1⟩; have HR3 := Lib.hid h1; have HO3 := Lib.hid (HO2.out.then o1); have HN3 := Lib.hid ((o1.block nb (by omega) (by omega)).trans HN2.out); have HE3 := Lib.hid ((o1.block w1.heap.size (by omega) (by omega)).trans HE2.out); have HK3 := Lib.hid (fun c (hr : rb < c) (hc : c < w1.heap.size) => (o1.block c (by omega) (by omega)).trans (HK2.out c hc)); have hl3 : w1.heap.size < w3.heap.size := lt_of_block HE3.out; clear h1 o1)
    | (go_at_call 56; (with_reducible refine (HAT43.out _ _ HR3.out HJ.out).mono ?_); rintro e w4 ⟨rfl, h1, o1⟩; have HR4 := Lib.hid h1; have HO4 := Lib.hid (HO3.out.then o1); have HN4 := Lib.hid ((o1.block nb (by omega) (by omega)).trans HN3.out); have HE4 := Lib.hid ((o1.block w1.heap.size (by omega) (by omega)).trans HE3.out); have HK4 := Lib.hid (fun c (hr : rb < c) (hc : c < w1.heap.size) => (o1.block c (by omega) (by omega)).trans (HK3.out c hr hc)); have hl4 : w1.heap.size < w4.heap.size := lt_of_block HE4.out; clear h1 o1)
    | (go_at_call 56; (with_reducible refine (HAT63.out _ _ HR4.out HJ.out).mono ?_); rintro e w5 ⟨rfl, h1, o1⟩; have HR5 := Lib.hid h1; have HO5 := Lib.hid (HO4.out.then o1); have HN5 := Lib.hid ((o1.block nb (by omega) (by omega)).trans HN4.out); have HE5 := Lib.hid ((o1.block w1.heap.size (by omega) (by omega)).trans HE4.out); have HK5 := Lib.hid (fun c (hr : rb < c) (hc : c < w1.heap.size) => (o1.block c (by omega) (by omega)).trans (HK4.out c hr hc)); have hl5 : w1.heap.size < w5.heap.size := lt_of_block HE5.out; clear h1 o1)
    | (refine wpList_load_row rfl 26 (.tmp 3) ?_ w1.heap.size ?_ 26 #[.int .i64 k, .int .i64 mn, .int .i64 mx, .int .u64 s0, .int .u64 s1, .int .u64 s2, .int .u64 s3, .slice a l.length cap] (0, 0) _ ?_ Tryz.underlying26 rfl info_rx ?_; (with_reducible rfl); rfl; exact HE5.out)
    | (refine wpList_store_row rfl 26 (.tmp 2) (.tmp 58) ?_ nb (cellsA (repA 0 1 w5.heap.size (RxA.node k mn mx s0 s1 s2 s3 a cap l))) ?_ ?_ 26 zeroRx ?_ (info_rxA _) (by rw [cellsA_size]; rfl) (cellsA_one _) ?_; (with_reducible rfl); rfl; rfl; exact alloc_old HN5.out _)
    | fail)
  have hj2 : j + 1 ≤ S.size := rest_starts (c := 63) (by rw [HJ.out]; exact H63.out)
  refine bodyPost_ret (results_cell_row rfl _ _ nb 26 (cellsA (repA 0 1 w5.heap.size (RxA.node k mn mx s0 s1 s2 s3 a cap l))) (0, 0) _ rfl (setRow_heap _ _ _ _ _ _ (alloc_old HN5.out _)) Tryz.underlying26 rfl (info_rxA _)) rfl ?_
  exact saysRx_rep (X := (RxA.node k mn mx s0 s1 s2 s3 a cap l)) HSZ.out hrb HO5.out HR5.out HIN.out (fun c hc => ⟨by have := (HBL.out c hc).1; omega, (HBL.out c hc).2⟩) (by omega) (fun c hc1 hc2 => HK5.out c (by omega) hc2) (by omega) (by omega) (by omega) hj2 (by omega) (.inl ⟨rfl, by rw [HXB.out, rest_tail, HJ.out]⟩)
end Go.Proofs.YtjhclopdcbnmkaaGreatDoor
