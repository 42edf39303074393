/- The walks of the document's reader's joined and atom. -/
import Derived.Test.YtjhclopdcbnmkaaGreatDoorQ7
set_option linter.unusedSimpArgs false
set_option linter.unusedVariables false
namespace Go.Proofs.YtjhclopdcbnmkaaGreatDoor
open Go.RowKit PX

set_option maxRecDepth 100000 in
set_option maxHeartbeats 1000000 in
theorem rjoined_any (w : World) (kind : Int) (v : Value) (base : Nat) (L : List RxA) (hown : w.ownsRow base 26 8 v L.length (rxCells L)) (hlen : L.length ≤ 1000) :
    Calls Tryz.prog 55 #[.int .i64 kind, v] w fun e w' => ∃ a cap, v = .slice a L.length cap ∧ e = .returned (.agg (cellsA (joinedA kind a cap L))) ∧ Below w.heap.size w w' := by
  obtain ⟨a, cap, rfl, hc1, hc2, ha⟩ := row_value hown
  by_cases h1 : L.length = 1
  · obtain ⟨x, rfl⟩ := List.length_eq_one_iff.1 h1
    obtain ⟨g, rfl, hbg, hgw, -⟩ := ha.resolve_left (by rintro ⟨h, -⟩; simp at h)
    have hC : ∀ j u, (cellsA x)[j]? = some u → w.cell? ⟨g, j, none⟩ = some u := by
      intro j u hu
      have hj : j < 8 := by have := (Array.getElem?_eq_some_iff.1 hu).1; rwa [cellsA_size] at this
      rw [hown.cellAt j (by simp; omega)]
      simpa [rxCells, cellsA] using hu
    have HC := Lib.hid hC; clear hC
    have HSZ := Lib.hid (cellsA_size x)
    have HONE := Lib.hid (cellsA_one x)
    show Calls _ _ _ _ fun e w' => ∃ a' cap', Value.slice (some ⟨g, 0, none⟩) [x].length cap = .slice a' [x].length cap' ∧ e = .returned (.agg (cellsA x)) ∧ Below w.heap.size w w'
    obtain ⟨CS, HCS⟩ : ∃ CS, Hid (cellsA x = CS) := ⟨_, Lib.hid rfl⟩
    rw [HCS.out] at HC HSZ HONE ⊢
    clear hown
    have HZ := Lib.hid (show (w.alloc (.cells zeroRx 26)).heap[w.heap.size]? = some (.cells zeroRx 26 (0, 0)) from alloc_block w _)
    simp only [List.length_singleton]
    have hINF : (Tryz.prog.info? 26).map (·.size) = some CS.size := by rw [HSZ.out]; exact info_rx
    have HINF := Lib.hid hINF; clear hINF
    have HC2 := Lib.hid (fun j u hu => (World.cell?_of_block (w := w) (a := ⟨g, j, none⟩) (Below.heap_alloc w (.cells zeroRx 26) g hgw)).trans (HC.out j u hu))
    go_enter Tryz.func55, Tryz.ntmps55
    go_wp2_with (first
      | refine wpList_load_at rfl 26 (.tmp 9) rfl g 0 rfl CS _ (by intro j u hu; rw [Nat.zero_add]; exact HC2.out j u hu) Tryz.underlying26 rfl HINF.out ?_
      | refine wpList_store_row rfl 26 (.tmp 4) (.tmp 10) rfl w.heap.size CS rfl rfl 26 _ HZ.out HINF.out (by rw [HSZ.out]; rfl) HONE.out ?_)
    refine bodyPost_ret (results_cell_row rfl _ _ w.heap.size 26 CS (0, 0) _ rfl (setRow_heap _ _ _ _ _ _ HZ.out) Tryz.underlying26 rfl HINF.out) rfl ?_
    exact ⟨_, _, rfl, rfl, below_newRow w _ _⟩
  · have hj : joinedA kind a cap L = .node kind 0 0 0 0 0 0 a cap L := by
      match L, h1 with
      | [], _ => rfl
      | [_], h1 => exact absurd rfl h1
      | _ :: _ :: _, _ => rfl
    suffices hs : Calls Tryz.prog 55 #[.int .i64 kind, .slice a L.length cap] w fun e w' => e = .returned (.agg (cellsA (.node kind 0 0 0 0 0 0 a cap L))) ∧ Below w.heap.size w w' by
      refine hs.mono ?_
      rintro e w' ⟨he, hb⟩
      exact ⟨a, cap, rfl, by rw [hj]; exact he, hb⟩
    have HINF := Lib.hid (info_rxA (.node kind 0 0 0 0 0 0 a cap L))
    have HONE := Lib.hid (cellsA_one (.node kind 0 0 0 0 0 0 a cap L))
    have hn1 : ((L.length : Int) == 1) = false := by rw [beq_eq_false_iff_ne]; omega
    obtain ⟨n, hn⟩ : ∃ n, L.length = n := ⟨_, rfl⟩
    have hcs : cellsA (.node kind 0 0 0 0 0 0 a cap L) = #[.int .i64 kind, .int .i64 0, .int .i64 0, .int .u64 0, .int .u64 0, .int .u64 0, .int .u64 0, .slice a n cap] := by rw [← hn]; rfl
    obtain ⟨CS, HCS⟩ : ∃ CS, Hid (cellsA (.node kind 0 0 0 0 0 0 a cap L) = CS) := ⟨_, Lib.hid rfl⟩
    rw [HCS.out] at HINF HONE hcs ⊢
    rw [hn] at hn1 hlen ⊢
    clear hown ha hj
    have hsz8 : CS.size = 8 := by rw [hcs]; rfl
    have HCE := Lib.hid hcs; clear hcs
    have HZ := Lib.hid (show (w.alloc (.cells zeroRx 26)).heap[w.heap.size]? = some (.cells zeroRx 26 (0, 0)) from alloc_block w _)
    go_enter Tryz.func55, Tryz.ntmps55
    go_wp2_with (first
      | refine wpList_store_row rfl 26 (.tmp 4) (.tmp 13) rfl w.heap.size CS rfl (by rw [HCE.out]; rfl) 26 _ HZ.out HINF.out (by rw [hsz8]; rfl) HONE.out ?_)
    refine bodyPost_ret (results_cell_row rfl _ _ w.heap.size 26 CS (0, 0) _ rfl (setRow_heap _ _ _ _ _ _ HZ.out) Tryz.underlying26 rfl HINF.out) rfl ?_
    exact ⟨rfl, below_newRow w _ _⟩

/-- What a call of the document's reader that reads an expression tells. -/
def SaysRx (rb : Nat) (S : ByteArray) (i : Nat) (w : World) (o : Option (Rx × List UInt8)) (e : Ending) (w' : World) : Prop :=
  Only (fun k => k = rb) w w' ∧ ∃ (X : RxA) (j : Nat) (b : Bool), e = .returned (.agg (cellsA X)) ∧ i ≤ j ∧ j ≤ S.size ∧ RefAt w' rb S j b ∧ X.In w' w'.heap.size ∧ (∀ c ∈ X.blocks, w.heap.size ≤ c ∧ c < w'.heap.size) ∧
    ((b = false ∧ o = some (X.bare, rest S j)) ∨ (b = true ∧ o = none))

theorem at_t (w : World) (rb : Nat) (S : ByteArray) (i : Nat) (bad : Bool) (c : UInt8) (n : Int) (h : RefAt w rb S i bad) (hs : S.size ≤ 1000) (hc : (c.toNat : Int) = n) (h1 : starts c (rest S i) = true) :
    Calls Tryz.prog 56 #[.pointer (some ⟨rb, 0, none⟩), .int .u8 n] w fun e w' => e = .returned (.bool true) ∧ RefAt w' rb S (i + 1) bad ∧ Only (fun k => k = rb) w w' := by
  have h2 := at_any w rb S i bad c n h hs hc
  rw [h1] at h2
  exact h2
theorem at_f (w : World) (rb : Nat) (S : ByteArray) (i : Nat) (bad : Bool) (c : UInt8) (n : Int) (h : RefAt w rb S i bad) (hs : S.size ≤ 1000) (hc : (c.toNat : Int) = n) (h1 : starts c (rest S i) = false) :
    Calls Tryz.prog 56 #[.pointer (some ⟨rb, 0, none⟩), .int .u8 n] w fun e w' => e = .returned (.bool false) ∧ RefAt w' rb S i bad ∧ Only (fun k => k = rb) w w' := by
  have h2 := at_any w rb S i bad c n h hs hc
  rw [h1] at h2
  exact h2
/-- The result stored, and handed back. -/
theorem only_blocks {r : Nat → Prop} {X : RxA} {w w' : World} {nb : Nat} {cs : Array Value} (hin : X.In w w.heap.size) (hb : ∀ c ∈ X.blocks, nb < c) (hlt : ∀ c ∈ X.blocks, c < w.heap.size) : X.In (w.setRow nb cs) (w.setRow nb cs).heap.size := by
  refine hin.keep fun c hc => ⟨by rw [size_setRow]; exact hlt c hc, fun o => World.cell?_of_block (w := w) (setRow_other _ _ _ _ (by have := hb c hc; show c ≠ nb; omega))⟩

theorem saysRx_end {w w1 : World} {rb nb i j : Nat} {S : ByteArray} {b : Bool} {X : RxA} {O : Option (Rx × List UInt8)} (hw : w.heap.size = nb) (hrb : rb < nb) (ho : Only (fun k => k = rb) w w1) (hr : RefAt w1 rb S j b) (hin : X.In w1 w1.heap.size)
    (hbl : ∀ c ∈ X.blocks, nb < c ∧ c < w1.heap.size) (hij : i ≤ j) (hjs : j ≤ S.size) (hor : (b = false ∧ O = some (X.bare, rest S j)) ∨ (b = true ∧ O = none)) :
    SaysRx rb S i w O (.returned (.agg (cellsA X))) (w1.setRow nb (cellsA X)) :=
  ⟨ho.setRow (.inr (by omega)) _, X, j, b, rfl, hij, hjs, refAt_setRow hr _ _ (by omega), only_blocks (r := fun _ => True) (w' := w) hin (fun c hc => (hbl c hc).1) (fun c hc => (hbl c hc).2), fun c hc => by rw [size_setRow]; exact ⟨by have := (hbl c hc).1; omega, (hbl c hc).2⟩, hor⟩
def mapSet : Option (Q4 × List UInt8) → Option (Rx × List UInt8)
  | none => none
  | some (q, r) => some (.set q, r)
def mapByte : Option (Nat × List UInt8) → Option (Rx × List UInt8)
  | none => none
  | some (b, r) => some (.set (Q4.none.with b), r)
/-- What reading a set has come to. -/
theorem says_set {rb : Nat} {S : ByteArray} {i f : Nat} {w : World} {l : List UInt8} {e : Ending} {w' : World} (h : Says rb S i w (classR f l) (fun q => .agg (cellsA (setA q))) (fun v => ∃ q : Q4, q.Ok ∧ v = .agg (cellsA (setA q))) e w') :
    Only (fun k => k = rb) w w' ∧ ∃ (q : Q4) (j : Nat) (b : Bool), q.Ok ∧ e = .returned (.agg (cellsA (setA q))) ∧ i ≤ j ∧ j ≤ S.size ∧ RefAt w' rb S j b ∧ ((b = false ∧ classR f l = some (q, rest S j)) ∨ (b = true ∧ classR f l = none)) := by
  obtain ⟨ho, v, j, he, hij, hj, ⟨q, h1, rfl, h2⟩ | ⟨h1, ⟨q, hq, rfl⟩, h2⟩⟩ := h
  · exact ⟨ho, q, j, false, classR_ok h1, he, hij, hj, h2, .inl ⟨rfl, h1⟩⟩
  · exact ⟨ho, q, j, true, hq, he, hij, hj, h2, .inr ⟨rfl, h1⟩⟩

set_option maxRecDepth 100000 in
set_option maxHeartbeats 1000000 in
theorem ratom_dot (w : World) (rb : Nat) (S : ByteArray) (i : Nat) (h : RefAt w rb S i false) (hs : S.size ≤ 1000) (hi : i ≤ S.size) (altf : List UInt8 → Option (Rx × List UInt8)) (h46 : starts 46 (rest S i) = true) :
    Calls Tryz.prog 81 #[.pointer (some ⟨rb, 0, none⟩)] w fun e w' => SaysRx rb S i w (atomB altf (rest S i)) e w' := by
  have hB : atomB altf (rest S i) = some (.set Q4.all, rest S (i + 1)) := by unfold atomB; rw [h46, rest_tail]; rfl
  rw [hB]
  have HAT1 := Lib.hid (fun w1 (h1 : RefAt w1 rb S i false) => at_t w1 rb S i false 46 46 h1 hs rfl h46)
  have hi1 := rest_starts h46
  clear h46 hB
  obtain ⟨nb, hnb⟩ : ∃ nb, w.heap.size = nb := ⟨_, rfl⟩
  have hrb := lt_of_block h
  rw [hnb] at hrb
  have hN0 : (w.alloc (.cells zeroRx 26)).heap[nb]? = some (.cells zeroRx 26 (0, 0)) := alloc_block' _ _ _ hnb
  have hR0 : RefAt (w.alloc (.cells zeroRx 26)) rb S i false := alloc_old h _
  have HN0 := Lib.hid hN0
  have HR0 := Lib.hid (show RefAt (w.alloc (.cells #[.int .i64 0, .int .i64 0, .int .i64 0, .int .u64 0, .int .u64 0, .int .u64 0, .int .u64 0, .slice none 0 0] 26)) rb S i false from hR0)
  have HO0 := Lib.hid ((Only.refl (fun k => k = rb) w).alloc (.cells zeroRx 26))
  have hl0 : nb < (w.alloc (.cells zeroRx 26)).heap.size := lt_of_block hN0
  have HSZ := Lib.hid hnb
  clear hN0 hR0 h
  go_enter Tryz.func81, Tryz.ntmps81
  go_wp2_with (first
    | (go_at_call 56; (with_reducible refine (HAT1.out _ HR0.out).mono ?_); rintro e w1 ⟨rfl, h1, o1⟩; have HR1 := Lib.hid h1; have HO1 := Lib.hid (HO0.out.then o1); have HN1 := Lib.hid ((o1.block nb hl0 (by omega)).trans HN0.out); have hl1 := lt_of_block HN1.out; clear h1 o1)
    | (refine wpList_store_row rfl 26 (.tmp 2) (.tmp 8) ?_ nb (cellsA (setA Q4.all)) ?_ ?_ 26 zeroRx ?_ (info_rxA _) (by rw [cellsA_size]; rfl) (cellsA_one _) ?_; (with_reducible rfl); rfl; rfl; exact HN1.out)
    | fail)
  refine bodyPost_ret (results_cell_row rfl _ _ nb 26 (cellsA (setA Q4.all)) (0, 0) _ rfl (setRow_heap _ _ _ _ _ _ HN1.out) Tryz.underlying26 rfl (info_rxA _)) rfl ?_
  exact saysRx_end HSZ.out hrb HO1.out HR1.out (setA_in _ Q4.all_ok _ _) (by rw [setA_blocks]; simp) (by omega) (by omega) (.inl ⟨rfl, by rw [setA_bare]⟩)

set_option maxRecDepth 100000 in
set_option maxHeartbeats 1000000 in
theorem ratom_class (w : World) (rb : Nat) (S : ByteArray) (i : Nat) (h : RefAt w rb S i false) (hs : S.size ≤ 1000) (hi : i ≤ S.size) (altf : List UInt8 → Option (Rx × List UInt8)) (h46 : starts 46 (rest S i) = false) (h91 : starts 91 (rest S i) = true) :
    Calls Tryz.prog 81 #[.pointer (some ⟨rb, 0, none⟩)] w fun e w' => SaysRx rb S i w (atomB altf (rest S i)) e w' := by
  have hB : atomB altf (rest S i) = mapSet (classR (rest S i).length (rest S (i + 1))) := by
    unfold atomB; rw [h46, h91, rest_tail]
    simp only [Bool.false_eq_true, if_false, if_true]
    cases classR (rest S i).length (rest S i).tail <;> rfl
  rw [hB]
  have hi1 := rest_starts h91
  have HAT1 := Lib.hid (fun w1 (h1 : RefAt w1 rb S i false) => at_f w1 rb S i false 46 46 h1 hs rfl h46)
  have HAT2 := Lib.hid (fun w1 (h1 : RefAt w1 rb S i false) => at_t w1 rb S i false 91 91 h1 hs rfl h91)
  have HSET := Lib.hid (fun w1 (h1 : RefAt w1 rb S (i + 1) false) => rset_any w1 rb S (i + 1) (rest S i).length h1 hs (by omega) (by rw [rest_length, rest_length]; omega))
  clear h46 h91 hB
  obtain ⟨nb, hnb⟩ : ∃ nb, w.heap.size = nb := ⟨_, rfl⟩
  have hrb := lt_of_block h
  rw [hnb] at hrb
  have hN0 : (w.alloc (.cells zeroRx 26)).heap[nb]? = some (.cells zeroRx 26 (0, 0)) := alloc_block' _ _ _ hnb
  have hR0 : RefAt (w.alloc (.cells zeroRx 26)) rb S i false := alloc_old h _
  have HN0 := Lib.hid hN0
  have HR0 := Lib.hid (show RefAt (w.alloc (.cells #[.int .i64 0, .int .i64 0, .int .i64 0, .int .u64 0, .int .u64 0, .int .u64 0, .int .u64 0, .slice none 0 0] 26)) rb S i false from hR0)
  have HO0 := Lib.hid ((Only.refl (fun k => k = rb) w).alloc (.cells zeroRx 26))
  have hl0 : nb < (w.alloc (.cells zeroRx 26)).heap.size := lt_of_block hN0
  have HSZ := Lib.hid hnb
  clear hN0 hR0 h
  go_enter Tryz.func81, Tryz.ntmps81
  go_wp2_with (first
    | (go_at_call 56; (with_reducible refine (HAT1.out _ HR0.out).mono ?_); rintro e w1 ⟨rfl, h1, o1⟩; have HR1 := Lib.hid h1; have HO1 := Lib.hid (HO0.out.then o1); have HN1 := Lib.hid ((o1.block nb hl0 (by omega)).trans HN0.out); have hl1 := lt_of_block HN1.out; clear h1 o1)
    | (go_at_call 56; (with_reducible refine (HAT2.out _ HR1.out).mono ?_); rintro e w2 ⟨rfl, h1, o1⟩; have HR2 := Lib.hid h1; have HO2 := Lib.hid (HO1.out.then o1); have HN2 := Lib.hid ((o1.block nb hl1 (by omega)).trans HN1.out); have hl2 := lt_of_block HN2.out; clear h1 o1)
    | (go_at_call 96; (with_reducible refine (HSET.out _ HR2.out).mono ?_); rintro e w3 hSS; obtain ⟨o1, q, j, b, hq, rfl, hij, hjs, h1, hor⟩ := says_set hSS; have HR3 := Lib.hid h1; have HO3 := Lib.hid (HO2.out.then o1); have HN3 := Lib.hid ((o1.block nb hl2 (by omega)).trans HN2.out); have HOR := Lib.hid hor; have HQ := Lib.hid hq; clear h1 o1 hor hSS hq)
    | (refine wpList_store_row rfl 26 (.tmp 2) (.tmp 13) ?_ nb (cellsA (setA q)) ?_ ?_ 26 zeroRx ?_ (info_rxA _) (by rw [cellsA_size]; rfl) (cellsA_one _) ?_; (with_reducible rfl); rfl; rfl; exact HN3.out)
    | fail)
  refine bodyPost_ret (results_cell_row rfl _ _ nb 26 (cellsA (setA q)) (0, 0) _ rfl (setRow_heap _ _ _ _ _ _ HN3.out) Tryz.underlying26 rfl (info_rxA _)) rfl ?_
  refine saysRx_end HSZ.out hrb HO3.out HR3.out (setA_in _ HQ.out _ _) (by rw [setA_blocks]; simp) (by omega) hjs ?_
  rcases HOR.out with ⟨rfl, h⟩ | ⟨rfl, h⟩
  · left; rw [h, setA_bare]; exact ⟨rfl, rfl⟩
  · right; rw [h]; exact ⟨rfl, rfl⟩

set_option maxRecDepth 100000 in
set_option maxHeartbeats 1000000 in
theorem ratom_one (w : World) (rb : Nat) (S : ByteArray) (i : Nat) (h : RefAt w rb S i false) (hs : S.size ≤ 1000) (hi : i ≤ S.size) (altf : List UInt8 → Option (Rx × List UInt8)) (h46 : starts 46 (rest S i) = false) (h91 : starts 91 (rest S i) = false) (h40 : starts 40 (rest S i) = false) :
    Calls Tryz.prog 81 #[.pointer (some ⟨rb, 0, none⟩)] w fun e w' => SaysRx rb S i w (atomB altf (rest S i)) e w' := by
  have hB : atomB altf (rest S i) = mapByte (one butAtom (rest S i)) := by
    unfold atomB; rw [h46, h91, h40]
    simp only [Bool.false_eq_true, if_false]
    cases one butAtom (rest S i) <;> rfl
  rw [hB]
  have HAT1 := Lib.hid (fun w1 (h1 : RefAt w1 rb S i false) => at_f w1 rb S i false 46 46 h1 hs rfl h46)
  have HAT2 := Lib.hid (fun w1 (h1 : RefAt w1 rb S i false) => at_f w1 rb S i false 91 91 h1 hs rfl h91)
  have HAT3 := Lib.hid (fun w1 (h1 : RefAt w1 rb S i false) => at_f w1 rb S i false 40 40 h1 hs rfl h40)
  have HONE := Lib.hid (fun w1 (h1 : RefAt w1 rb S i false) => rone_any w1 rb S i ⟨#[92, 46, 91, 93, 40, 41, 124, 42, 43, 63, 123, 125]⟩ h1 hs hi (by decide))
  have HWITH := Lib.hid (fun w1 (n : Nat) (hn : n < 256) => show Calls Tryz.prog 97 #[.agg #[.int .u64 0, .int .u64 0, .int .u64 0, .int .u64 0], .int .i64 n] w1 fun e w' => ∃ q2 : Q4, Hid (q2 = Q4.none.with n) ∧ e = .returned (.agg #[.int .u64 q2.a, .int .u64 q2.b, .int .u64 q2.c, .int .u64 q2.d]) ∧ Below w1.heap.size w1 w' from
    (with_any Q4.none Q4.none_ok n hn w1).mono fun e w' h => ⟨_, Lib.hid rfl, h.1, h.2⟩)
  clear h46 h91 h40 hB
  obtain ⟨nb, hnb⟩ : ∃ nb, w.heap.size = nb := ⟨_, rfl⟩
  have hrb := lt_of_block h
  rw [hnb] at hrb
  have hN0 : (w.alloc (.cells zeroRx 26)).heap[nb]? = some (.cells zeroRx 26 (0, 0)) := alloc_block' _ _ _ hnb
  have hR0 : RefAt (w.alloc (.cells zeroRx 26)) rb S i false := alloc_old h _
  have HN0 := Lib.hid hN0
  have HR0 := Lib.hid (show RefAt (w.alloc (.cells #[.int .i64 0, .int .i64 0, .int .i64 0, .int .u64 0, .int .u64 0, .int .u64 0, .int .u64 0, .slice none 0 0] 26)) rb S i false from hR0)
  have HO0 := Lib.hid ((Only.refl (fun k => k = rb) w).alloc (.cells zeroRx 26))
  have hl0 : nb < (w.alloc (.cells zeroRx 26)).heap.size := lt_of_block hN0
  have HSZ := Lib.hid hnb
  clear hN0 hR0 h
  go_enter Tryz.func81, Tryz.ntmps81
  go_wp2_with (first
    | (go_at_call 56; (with_reducible refine (HAT1.out _ HR0.out).mono ?_); rintro e w1 ⟨rfl, h1, o1⟩; have HR1 := Lib.hid h1; have HO1 := Lib.hid (HO0.out.then o1); have HN1 := Lib.hid ((o1.block nb hl0 (by omega)).trans HN0.out); have hl1 := lt_of_block HN1.out; clear h1 o1)
    | (go_at_call 56; (with_reducible refine (HAT2.out _ HR1.out).mono ?_); rintro e w2 ⟨rfl, h1, o1⟩; have HR2 := Lib.hid h1; have HO2 := Lib.hid (HO1.out.then o1); have HN2 := Lib.hid ((o1.block nb hl1 (by omega)).trans HN1.out); have hl2 := lt_of_block HN2.out; clear h1 o1)
    | (go_at_call 56; (with_reducible refine (HAT3.out _ HR2.out).mono ?_); rintro e w3 ⟨rfl, h1, o1⟩; have HR3 := Lib.hid h1; have HO3 := Lib.hid (HO2.out.then o1); have HN3 := Lib.hid ((o1.block nb hl2 (by omega)).trans HN2.out); have hl3 := lt_of_block HN3.out; clear h1 o1)
    | (go_at_call 98; (with_reducible refine (HONE.out _ HR3.out).mono ?_); rintro e w4 hSS; obtain ⟨o1, a, j, b, rfl, ha256, hij, hjs, h1, hor, -⟩ := says_byte hSS; have HR4 := Lib.hid h1; have HO4 := Lib.hid (HO3.out.then o1); have HN4 := Lib.hid ((o1.block nb hl3 (by omega)).trans HN3.out); have hl4 := lt_of_block HN4.out; have HOR := Lib.hid hor; clear h1 o1 hor hSS)
    | (go_at_call 97; (with_reducible refine (HWITH.out _ a ha256).mono ?_); rintro e w5 ⟨q2, hq2, rfl, hb5⟩; have HR5 := Lib.hid (HR4.out.below hb5); have HO5 := Lib.hid (HO4.out.trans (Only.of_below hb5)); have HN5 := Lib.hid ((hb5.block nb hl4).trans HN4.out); clear hb5)
    | (refine wpList_store_row rfl 26 (.tmp 2) (.tmp 30) ?_ nb (cellsA (setA q2)) ?_ ?_ 26 zeroRx ?_ (info_rxA _) (by rw [cellsA_size]; rfl) (cellsA_one _) ?_; (with_reducible rfl); rfl; rfl; exact HN5.out)
    | fail)
  refine bodyPost_ret (results_cell_row rfl _ _ nb 26 (cellsA (setA q2)) (0, 0) _ rfl (setRow_heap _ _ _ _ _ _ HN5.out) Tryz.underlying26 rfl (info_rxA _)) rfl ?_
  refine saysRx_end HSZ.out hrb HO5.out HR5.out (setA_in _ (by rw [hq2.out]; exact Q4.with_ok Q4.none_ok ha256) _ _) (by rw [setA_blocks]; simp) hij hjs ?_
  rw [hq2.out]
  rcases HOR.out with ⟨rfl, h⟩ | ⟨rfl, h⟩
  · left; rw [show one butAtom (rest S i) = _ from h, setA_bare]; exact ⟨rfl, rfl⟩
  · right; rw [show one butAtom (rest S i) = _ from h]; exact ⟨rfl, rfl⟩

end Go.Proofs.YtjhclopdcbnmkaaGreatDoor
