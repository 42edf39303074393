/- The walk of atom. (Printed by wip/gen_atom.py.) -/
import Derived.Test.YtaelkjffidjcjaaDoorJoin
set_option linter.unusedSimpArgs false
set_option linter.unusedVariables false
namespace Go.Proofs.YtaelkjffidjcjaaDoor
open Go.RowKit PX

/-- What a call that reads an expression tells. -/
def ReadsRx (rb : Nat) (w : World) (o : Option (Rx × List UInt8)) (e : Ending) (w' : World) : Prop :=
  Only (fun k => k = rb) w w' ∧ ((o = none ∧ e = .panicked wrongP) ∨ ∃ (X : RxA) (r : List UInt8), o = some (X.bare, r) ∧ e = .returned (.agg (cellsA X)) ∧ ReadAt w' rb r ∧ X.In w' w'.heap.size ∧ ∀ b ∈ X.blocks, w.heap.size ≤ b ∧ b < w'.heap.size)
def atomB (altf : List UInt8 → Option (Rx × List UInt8)) (s : List UInt8) : Option (Rx × List UInt8) :=
  if starts 46 s then some (.set Q4.all, s.tail)
  else if starts 91 s then
    match classR s.length s.tail with
    | none => none
    | some (q, r) => some (.set q, r)
  else if starts 40 s then
    match altf s.tail with
    | none => none
    | some (x, r) => if starts 41 r then some (x, r.tail) else none
  else
    match one butAtom s with
    | none => none
    | some (b, r) => some (.set (Q4.none.with b), r)
def setA (q : Q4) : RxA := .node 0 0 0 q.a q.b q.c q.d none 0 []
theorem setA_bare (q : Q4) : (setA q).bare = .set q := by simp [setA, RxA.bare, Rx.set, bareAll]
theorem setA_in (q : Q4) (hq : q.Ok) (w : World) (B : Nat) : (setA q).In w B := by
  simp only [setA, RxA.In]
  exact ⟨⟨⟨by omega, by omega⟩, ⟨by omega, by omega⟩, ⟨by omega, by omega⟩, hq.1, hq.2.1, hq.2.2.1, hq.2.2.2⟩, by simp, by simp, by simp, .inl trivial⟩
theorem setA_blocks (q : Q4) : (setA q).blocks = [] := by simp [setA, RxA.blocks, blocksAll]
theorem zero_setA : zeroRx = cellsA (setA Q4.none) := rfl
theorem set_cells {w : World} {b : Nat} {q : Q4} {v0 v1 v2 v3 : Int} (h : w.heap[b]? = some (.cells (cellsA (setA q)) 26 (0, 0))) :
    ((((w.setCell ⟨b, 3, none⟩ (.int .u64 v0)).setCell ⟨b, 4, none⟩ (.int .u64 v1)).setCell ⟨b, 5, none⟩ (.int .u64 v2)).setCell ⟨b, 6, none⟩ (.int .u64 v3)).heap[b]? = some (.cells (cellsA (setA ⟨v0, v1, v2, v3⟩)) 26 (0, 0)) := by
  rw [setCell_block (setCell_block (setCell_block (setCell_block h _ _) _ _) _ _)]
  rfl
theorem wrap_bit (k : Nat) (hk : k < 64) : IntKind.u64.wrap (2 ^ k) = orBit 0 k := by
  have h := or_bit' 0 k ⟨by omega, by omega⟩ hk
  have h2 : IntKind.u64.wrap (2 ^ k) = ((2 ^ k : Nat) : Int) := by
    have hp : (2 : Nat) ^ k < 2 ^ 64 := Nat.pow_lt_pow_right (by omega) hk
    have e : ((2 : Int) ^ k) = ((2 ^ k : Nat) : Int) := by simp
    rw [e]
    generalize (2 : Nat) ^ k = N at hp
    simp only [IntKind.wrap, IntKind.signed, IntKind.bits]
    simp
    omega
  rw [h2]
  unfold orBit
  simp
theorem readsRx_none {rb : Nat} {w : World} {e : Ending} {w' : World} (h : ReadsRx rb w none e w') : e = .panicked wrongP ∧ Only (fun k => k = rb) w w' := by
  rcases h with ⟨h1, ⟨-, h2⟩ | ⟨_, _, h2, -⟩⟩
  · exact ⟨h2, h1⟩
  · cases h2
theorem readsRx_some {rb : Nat} {w : World} {x : Rx} {r : List UInt8} {e : Ending} {w' : World} (h : ReadsRx rb w (some (x, r)) e w') :
    ∃ X : RxA, x = X.bare ∧ e = .returned (.agg (cellsA X)) ∧ ReadAt w' rb r ∧ Only (fun k => k = rb) w w' ∧ X.In w' w'.heap.size ∧ ∀ b ∈ X.blocks, w.heap.size ≤ b ∧ b < w'.heap.size := by
  rcases h with ⟨h1, ⟨h2, -⟩ | ⟨X, r', h2, h3, h4, h5, h6⟩⟩
  · cases h2
  · cases h2; exact ⟨X, rfl, h3, h4, h1, h5, h6⟩
theorem set_cells_other {w : World} {b k : Nat} {o : Obj} {v0 v1 v2 v3 : Value} (h : w.heap[k]? = some o) (hk : k ≠ b) :
    ((((w.setCell ⟨b, 3, none⟩ v0).setCell ⟨b, 4, none⟩ v1).setCell ⟨b, 5, none⟩ v2).setCell ⟨b, 6, none⟩ v3).heap[k]? = some o := by
  rw [Below.heap_setCell _ _ _ _ (by exact fun e => hk e), Below.heap_setCell _ _ _ _ (by exact fun e => hk e), Below.heap_setCell _ _ _ _ (by exact fun e => hk e), Below.heap_setCell _ _ _ _ (by exact fun e => hk e)]
  exact h
theorem only_set_cells {r : Nat → Prop} {a w : World} {b : Nat} {v0 v1 v2 v3 : Value} (h : Only r a w) (hb : a.heap.size ≤ b) :
    Only r a ((((w.setCell ⟨b, 3, none⟩ v0).setCell ⟨b, 4, none⟩ v1).setCell ⟨b, 5, none⟩ v2).setCell ⟨b, 6, none⟩ v3) :=
  (((h.setCell (p := ⟨b, 3, none⟩) (.inr hb) _).setCell (p := ⟨b, 4, none⟩) (.inr hb) _).setCell (p := ⟨b, 5, none⟩) (.inr hb) _).setCell (p := ⟨b, 6, none⟩) (.inr hb) _


set_option maxRecDepth 100000 in
set_option maxHeartbeats 1000000 in
theorem atom_dot (w : World) (rb : Nat) (s : List UInt8) (h : ReadAt w rb s) (hl : s.length ≤ 128) (altf : List UInt8 → Option (Rx × List UInt8)) (h46 : starts 46 s = true) :
    Calls Tryd.prog 72 #[.pointer (some ⟨rb, 0, none⟩)] w fun e w' => ReadsRx rb w (atomB altf s) e w' := by
  have hlt := lt_of_block h
  obtain ⟨nb, hnb⟩ : ∃ nb, w.heap.size = nb := ⟨_, rfl⟩
  obtain ⟨W0, hW0⟩ : ∃ W0, W0 = ((w.alloc (.cells #[.int .i64 0, .int .i64 0, .int .i64 0, .int .u64 0, .int .u64 0, .int .u64 0, .int .u64 0, .slice none 0 0] 26)).alloc (.cells #[.int .i64 0, .int .i64 0, .int .i64 0, .int .u64 0, .int .u64 0, .int .u64 0, .int .u64 0, .slice none 0 0] 26)) := ⟨_, rfl⟩
  have hr0 : ReadAt W0 rb s := by rw [hW0]; exact read_old2 h _ _
  have hN0 : W0.heap[nb]? = some (.cells (cellsA (setA Q4.none)) 26 (0, 0)) := by rw [hW0, ← hnb]; exact alloc_old (alloc_block _ _) _
  have hE0 : W0.heap[nb + 1]? = some (.cells (cellsA (setA Q4.none)) 26 (0, 0)) := by rw [hW0, ← hnb]; exact alloc_block' _ _ _ (by simp)
  have hO0 : Only (fun k => k = rb) w W0 := by rw [hW0]; exact (((Only.refl _ w).alloc _).alloc _)
  have hnw : nb + 1 < W0.heap.size := lt_of_block hE0
  have hB : atomB altf s = some (.set Q4.all, s.tail) := by unfold atomB; rw [h46]; rfl
  rw [hB]
  rw [starts_cons h46] at hr0
  have HT46 := Lib.hid (take_yes _ rb 46 s.tail hr0)
  have HN := Lib.hid hN0
  have HE := Lib.hid hE0
  clear hr0 hN0 hE0
  rw [hW0] at HT46
  go_enter Tryd.func72, Tryd.ntmps72
  go_wp2_with (first
    | (go_at_call 62; (with_reducible refine (HT46.out).mono ?_); rintro e w1 ⟨rfl, h1, o1⟩; rw [← hW0] at o1; have hE1 := (o1.block (nb + 1) (by omega) (by omega)).trans HE.out; have hN1 := (o1.block nb (by omega) (by omega)).trans HN.out; have HE1 := Lib.hid hE1; have HN1 := Lib.hid hN1; clear hE1 hN1; have c3 : w1.cell? ⟨nb + 1, 3, none⟩ = some (.int .u64 0) := cell_of_block HE1.out 3; have t3 := free_of_block HE1.out 3; have c4 : w1.cell? ⟨nb + 1, 4, none⟩ = some (.int .u64 0) := cell_of_block HE1.out 4; have t4 := free_of_block HE1.out 4; have c5 : w1.cell? ⟨nb + 1, 5, none⟩ = some (.int .u64 0) := cell_of_block HE1.out 5; have t5 := free_of_block HE1.out 5; have c6 : w1.cell? ⟨nb + 1, 6, none⟩ = some (.int .u64 0) := cell_of_block HE1.out 6; have t6 := free_of_block HE1.out 6)
    | (refine wpList_load_row rfl 26 (.tmp 3) ?_ (nb + 1) ?_ 26 (cellsA (setA Q4.all)) (0, 0) _ ?_ Tryd.underlying26 rfl (info_rxA _) ?_; (with_reducible rfl); rfl; exact set_cells HE1.out)
    | (refine wpList_store_row rfl 26 (.tmp 2) (.tmp 34) ?_ nb (cellsA (setA Q4.all)) ?_ ?_ 26 (cellsA (setA Q4.none)) ?_ (info_rxA _) (by rw [cellsA_size, cellsA_size]) (cellsA_one _) ?_; (with_reducible rfl); rfl; rfl; exact set_cells_other HN1.out (by omega)))
  refine bodyPost_ret (results_cell_row rfl _ _ nb 26 (cellsA (setA Q4.all)) (0, 0) _ rfl (setRow_heap _ _ _ _ _ _ (set_cells_other (b := nb + 1) (v0 := .int .u64 18446744073709551615) (v1 := .int .u64 18446744073709551615) (v2 := .int .u64 18446744073709551615) (v3 := .int .u64 18446744073709551615) HN1.out (by omega))) Tryd.underlying26 rfl (info_rxA _)) rfl ?_
  refine ⟨Only.setRow (only_set_cells (b := nb + 1) (hO0.then o1) (by omega)) (q := nb) (.inr (by omega)) _, .inr ⟨setA Q4.all, s.tail, by rw [setA_bare], rfl, ?_, setA_in _ Q4.all_ok _ _, by rw [setA_blocks]; simp⟩⟩
  unfold ReadAt at h1 ⊢
  rw [setRow_other _ _ _ _ (by omega)]
  exact set_cells_other h1 (by omega)

set_option maxRecDepth 100000 in
set_option maxHeartbeats 1000000 in
theorem atom_class (w : World) (rb : Nat) (s : List UInt8) (h : ReadAt w rb s) (hl : s.length ≤ 128) (altf : List UInt8 → Option (Rx × List UInt8)) (h46 : starts 46 s = false) (h91 : starts 91 s = true) :
    Calls Tryd.prog 72 #[.pointer (some ⟨rb, 0, none⟩)] w fun e w' => ReadsRx rb w (atomB altf s) e w' := by
  have hlt := lt_of_block h
  obtain ⟨nb, hnb⟩ : ∃ nb, w.heap.size = nb := ⟨_, rfl⟩
  obtain ⟨W0, hW0⟩ : ∃ W0, W0 = ((w.alloc (.cells #[.int .i64 0, .int .i64 0, .int .i64 0, .int .u64 0, .int .u64 0, .int .u64 0, .int .u64 0, .slice none 0 0] 26)).alloc (.cells #[.int .i64 0, .int .i64 0, .int .i64 0, .int .u64 0, .int .u64 0, .int .u64 0, .int .u64 0, .slice none 0 0] 26)) := ⟨_, rfl⟩
  have hr0 : ReadAt W0 rb s := by rw [hW0]; exact read_old2 h _ _
  have hN0 : W0.heap[nb]? = some (.cells (cellsA (setA Q4.none)) 26 (0, 0)) := by rw [hW0, ← hnb]; exact alloc_old (alloc_block _ _) _
  have hE0 : W0.heap[nb + 1]? = some (.cells (cellsA (setA Q4.none)) 26 (0, 0)) := by rw [hW0, ← hnb]; exact alloc_block' _ _ _ (by simp)
  have hO0 : Only (fun k => k = rb) w W0 := by rw [hW0]; exact (((Only.refl _ w).alloc _).alloc _)
  have hnw : nb + 1 < W0.heap.size := lt_of_block hE0
  have HT46 := Lib.hid (take_no _ rb 46 s hr0 h46)
  have HT91 := Lib.hid (fun w1 (h1 : ReadAt w1 rb s) => take_yes w1 rb 91 s.tail (starts_cons h91 ▸ h1))
  have HN := Lib.hid hN0
  have HE := Lib.hid hE0
  clear hN0 hE0
  clear hr0
  rw [hW0] at HT46
  have htl := tail_le s
  cases hc : classR s.length s.tail with
  | none =>
    have hB : atomB altf s = none := by unfold atomB; rw [h46, h91, hc]; rfl
    have HC := Lib.hid hc; clear hc
    rw [hB]
    go_enter Tryd.func72, Tryd.ntmps72
    go_wp2_with (first
      | (go_at_call 62; (with_reducible refine (HT46.out).mono ?_); rintro e w1 ⟨rfl, h1, o1⟩; rw [← hW0] at o1; have hE1 := (o1.block (nb + 1) (by omega) (by omega)).trans HE.out; have hN1 := (o1.block nb (by omega) (by omega)).trans HN.out; have HE1 := Lib.hid hE1; have HN1 := Lib.hid hN1; clear hE1 hN1; have hnw1 : nb + 1 < w1.heap.size := lt_of_block HE1.out)
      | (go_at_call 62; (with_reducible refine (HT91.out _ h1).mono ?_); rintro e w2 ⟨rfl, h2, o2⟩; have hE2 := (o2.block (nb + 1) (by omega) (by omega)).trans HE1.out; have hN2 := (o2.block nb (by omega) (by omega)).trans HN1.out; have HE2 := Lib.hid hE2; have HN2 := Lib.hid hN2; clear hE2 hN2; have hnw2 : nb + 1 < w2.heap.size := lt_of_block HE2.out)
      | (go_at_call 80; refine (class_any _ rb s.tail s.length h2 (by omega) (by omega)).mono ?_; rintro e w3 hR; obtain ⟨rfl, o3⟩ := hR.none HC.out))
    exact ⟨rfl, ((hO0.then o1).then o2).then o3, .inl ⟨rfl, rfl⟩⟩
  | some p =>
    obtain ⟨q, r⟩ := p
    have hB : atomB altf s = some (.set q, r) := by unfold atomB; rw [h46, h91, hc]; rfl
    have hq := classR_ok hc
    have HC := Lib.hid hc; clear hc
    have HQ := Lib.hid hq; clear hq
    have HCL := Lib.hid (fun w2 (h2 : ReadAt w2 rb s.tail) => show Calls Tryd.prog 80 #[.pointer (some ⟨rb, 0, none⟩)] w2 fun e w3 => e = .returned (.agg #[.int .u64 q.a, .int .u64 q.b, .int .u64 q.c, .int .u64 q.d]) ∧ ReadAt w3 rb r ∧ Only (fun k => k = rb) w2 w3 from
      (class_any w2 rb s.tail s.length h2 (by omega) (by omega)).mono fun e w3 hR => hR.some HC.out)
    rw [hB]
    go_enter Tryd.func72, Tryd.ntmps72
    go_wp2_with (first
      | (go_at_call 62; (with_reducible refine (HT46.out).mono ?_); rintro e w1 ⟨rfl, h1, o1⟩; rw [← hW0] at o1; have hE1 := (o1.block (nb + 1) (by omega) (by omega)).trans HE.out; have hN1 := (o1.block nb (by omega) (by omega)).trans HN.out; have HE1 := Lib.hid hE1; have HN1 := Lib.hid hN1; clear hE1 hN1; have hnw1 : nb + 1 < w1.heap.size := lt_of_block HE1.out)
      | (go_at_call 62; (with_reducible refine (HT91.out _ h1).mono ?_); rintro e w2 ⟨rfl, h2, o2⟩; have hE2 := (o2.block (nb + 1) (by omega) (by omega)).trans HE1.out; have hN2 := (o2.block nb (by omega) (by omega)).trans HN1.out; have HE2 := Lib.hid hE2; have HN2 := Lib.hid hN2; clear hE2 hN2; have hnw2 : nb + 1 < w2.heap.size := lt_of_block HE2.out)
      | (go_at_call 80; refine (HCL.out _ h2).mono ?_; rintro e w3 ⟨rfl, h3, o3⟩; have hE3 := (o3.block (nb + 1) (by omega) (by omega)).trans HE2.out; have hN3 := (o3.block nb (by omega) (by omega)).trans HN2.out; have HE3 := Lib.hid hE3; have HN3 := Lib.hid hN3; clear hE3 hN3; have hnw3 : nb + 1 < w3.heap.size := lt_of_block HE3.out; have c3 : w3.cell? ⟨nb + 1, 3, none⟩ = some (.int .u64 0) := cell_of_block HE3.out 3; have t3 := free_of_block HE3.out 3; have c4 : w3.cell? ⟨nb + 1, 4, none⟩ = some (.int .u64 0) := cell_of_block HE3.out 4; have t4 := free_of_block HE3.out 4; have c5 : w3.cell? ⟨nb + 1, 5, none⟩ = some (.int .u64 0) := cell_of_block HE3.out 5; have t5 := free_of_block HE3.out 5; have c6 : w3.cell? ⟨nb + 1, 6, none⟩ = some (.int .u64 0) := cell_of_block HE3.out 6; have t6 := free_of_block HE3.out 6)
      | (refine wpList_load_row rfl 26 (.tmp 3) ?_ (nb + 1) ?_ 26 (cellsA (setA q)) (0, 0) _ ?_ Tryd.underlying26 rfl (info_rxA _) ?_; (with_reducible rfl); rfl; exact set_cells HE3.out)
      | (refine wpList_store_row rfl 26 (.tmp 2) (.tmp 34) ?_ nb (cellsA (setA q)) ?_ ?_ 26 (cellsA (setA Q4.none)) ?_ (info_rxA _) (by rw [cellsA_size, cellsA_size]) (cellsA_one _) ?_; (with_reducible rfl); rfl; rfl; exact set_cells_other HN3.out (by omega)))
    refine bodyPost_ret (results_cell_row rfl _ _ nb 26 (cellsA (setA q)) (0, 0) _ rfl (setRow_heap _ _ _ _ _ _ (set_cells_other (b := nb + 1) (v0 := .int .u64 q.a) (v1 := .int .u64 q.b) (v2 := .int .u64 q.c) (v3 := .int .u64 q.d) HN3.out (by omega))) Tryd.underlying26 rfl (info_rxA _)) rfl ?_
    refine ⟨Only.setRow (only_set_cells (b := nb + 1) (((hO0.then o1).then o2).then o3) (by omega)) (q := nb) (.inr (by omega)) _, .inr ⟨setA q, r, by rw [setA_bare], rfl, ?_, setA_in _ HQ.out _ _, by rw [setA_blocks]; simp⟩⟩
    unfold ReadAt at h3 ⊢
    rw [setRow_other _ _ _ _ (by omega)]
    exact set_cells_other h3 (by omega)

set_option maxRecDepth 100000 in
set_option maxHeartbeats 1000000 in
theorem atom_one (w : World) (rb : Nat) (s : List UInt8) (h : ReadAt w rb s) (hl : s.length ≤ 128) (altf : List UInt8 → Option (Rx × List UInt8)) (h46 : starts 46 s = false) (h91 : starts 91 s = false) (h40 : starts 40 s = false) :
    Calls Tryd.prog 72 #[.pointer (some ⟨rb, 0, none⟩)] w fun e w' => ReadsRx rb w (atomB altf s) e w' := by
  have hlt := lt_of_block h
  obtain ⟨nb, hnb⟩ : ∃ nb, w.heap.size = nb := ⟨_, rfl⟩
  obtain ⟨W0, hW0⟩ : ∃ W0, W0 = ((w.alloc (.cells #[.int .i64 0, .int .i64 0, .int .i64 0, .int .u64 0, .int .u64 0, .int .u64 0, .int .u64 0, .slice none 0 0] 26)).alloc (.cells #[.int .i64 0, .int .i64 0, .int .i64 0, .int .u64 0, .int .u64 0, .int .u64 0, .int .u64 0, .slice none 0 0] 26)) := ⟨_, rfl⟩
  have hr0 : ReadAt W0 rb s := by rw [hW0]; exact read_old2 h _ _
  have hN0 : W0.heap[nb]? = some (.cells (cellsA (setA Q4.none)) 26 (0, 0)) := by rw [hW0, ← hnb]; exact alloc_old (alloc_block _ _) _
  have hE0 : W0.heap[nb + 1]? = some (.cells (cellsA (setA Q4.none)) 26 (0, 0)) := by rw [hW0, ← hnb]; exact alloc_block' _ _ _ (by simp)
  have hO0 : Only (fun k => k = rb) w W0 := by rw [hW0]; exact (((Only.refl _ w).alloc _).alloc _)
  have hnw : nb + 1 < W0.heap.size := lt_of_block hE0
  have HT46 := Lib.hid (take_no _ rb 46 s hr0 h46)
  have HT91 := Lib.hid (fun w1 (h1 : ReadAt w1 rb s) => take_no w1 rb 91 s h1 h91)
  have HT40 := Lib.hid (fun w1 (h1 : ReadAt w1 rb s) => take_no w1 rb 40 s h1 h40)
  have HN := Lib.hid hN0
  have HE := Lib.hid hE0
  clear hN0 hE0
  clear hr0
  rw [hW0] at HT46
  cases hc : one butAtom s with
  | none =>
    have hB : atomB altf s = none := by unfold atomB; rw [h46, h91, h40, hc]; rfl
    have HC := Lib.hid hc; clear hc
    rw [hB]
    go_enter Tryd.func72, Tryd.ntmps72
    go_wp2_with (first
      | (go_at_call 62; (with_reducible refine (HT46.out).mono ?_); rintro e w1 ⟨rfl, h1, o1⟩; rw [← hW0] at o1; have hE1 := (o1.block (nb + 1) (by omega) (by omega)).trans HE.out; have hN1 := (o1.block nb (by omega) (by omega)).trans HN.out; have HE1 := Lib.hid hE1; have HN1 := Lib.hid hN1; clear hE1 hN1; have hnw1 : nb + 1 < w1.heap.size := lt_of_block HE1.out)
      | (go_at_call 62; (with_reducible refine (HT91.out _ h1).mono ?_); rintro e w2 ⟨rfl, h2, o2⟩; have hE2 := (o2.block (nb + 1) (by omega) (by omega)).trans HE1.out; have hN2 := (o2.block nb (by omega) (by omega)).trans HN1.out; have HE2 := Lib.hid hE2; have HN2 := Lib.hid hN2; clear hE2 hN2; have hnw2 : nb + 1 < w2.heap.size := lt_of_block HE2.out)
      | (go_at_call 62; (with_reducible refine (HT40.out _ h2).mono ?_); rintro e w3 ⟨rfl, h3, o3⟩; have hE3 := (o3.block (nb + 1) (by omega) (by omega)).trans HE2.out; have hN3 := (o3.block nb (by omega) (by omega)).trans HN2.out; have HE3 := Lib.hid hE3; have HN3 := Lib.hid hN3; clear hE3 hN3; have hnw3 : nb + 1 < w3.heap.size := lt_of_block HE3.out)
      | (go_at_call 81; refine (one_any _ rb ⟨#[92, 46, 91, 93, 40, 41, 124, 42, 43, 63, 123, 125]⟩ s h3 (by omega)).mono ?_; rintro e w4 hR; obtain ⟨rfl, o4⟩ := hR.none HC.out))
    exact ⟨rfl, (((hO0.then o1).then o2).then o3).then o4, .inl ⟨rfl, rfl⟩⟩
  | some p =>
    obtain ⟨b, r⟩ := p
    have hB : atomB altf s = some (.set (Q4.none.with b), r) := by unfold atomB; rw [h46, h91, h40, hc]; rfl
    have hb := (one_lt hc).2
    have hq := Q4.with_ok Q4.none_ok hb
    have HC := Lib.hid hc; clear hc
    have HQ := Lib.hid hq; clear hq
    have HONE := Lib.hid (fun w3 (h3 : ReadAt w3 rb s) => show Calls Tryd.prog 81 #[.pointer (some ⟨rb, 0, none⟩), .string ⟨#[92, 46, 91, 93, 40, 41, 124, 42, 43, 63, 123, 125]⟩] w3 fun e w4 => e = .returned (.int .i64 (b : Nat)) ∧ ReadAt w4 rb r ∧ Only (fun k => k = rb) w3 w4 from
      (one_any w3 rb ⟨#[92, 46, 91, 93, 40, 41, 124, 42, 43, 63, 123, 125]⟩ s h3 (by omega)).mono fun e w4 hR => hR.some HC.out)
    rw [hB]
    have h63 := and63 b hb
    obtain ⟨k, hk⟩ : ∃ k, b % 64 = k := ⟨_, rfl⟩
    have hk64 : k < 64 := by omega
    rw [hk] at h63
    have hwr : IntKind.u64.wrap (2 ^ k) = orBit 0 k := wrap_bit k hk64
    have hw4 : b < 64 ∨ (64 ≤ b ∧ b < 128) ∨ (128 ≤ b ∧ b < 192) ∨ 192 ≤ b := by omega
    rcases hw4 with h4 | h4 | h4 | h4
    · have hd : (b : Int) / 64 = 0 := by omega
      have hheap : ∀ W : World, W.heap[nb + 1]? = some (.cells (cellsA (setA Q4.none)) 26 (0, 0)) → (W.setCell ⟨nb + 1, 3, none⟩ (.int .u64 (orBit 0 k))).heap[nb + 1]? = some (.cells (cellsA (setA (Q4.none.with b))) 26 (0, 0)) := by
        intro W hW
        rw [setCell_block hW]
        simp only [Q4.with]
        rw [if_pos (by omega)]
        rw [show b = k by omega]
        rfl
      have HHP := Lib.hid hheap; clear hheap
      go_enter Tryd.func72, Tryd.ntmps72
      go_wp2_with (first
        | (go_at_call 62; (with_reducible refine (HT46.out).mono ?_); rintro e w1 ⟨rfl, h1, o1⟩; rw [← hW0] at o1; have hE1 := (o1.block (nb + 1) (by omega) (by omega)).trans HE.out; have hN1 := (o1.block nb (by omega) (by omega)).trans HN.out; have HE1 := Lib.hid hE1; have HN1 := Lib.hid hN1; clear hE1 hN1; have hnw1 : nb + 1 < w1.heap.size := lt_of_block HE1.out)
        | (go_at_call 62; (with_reducible refine (HT91.out _ h1).mono ?_); rintro e w2 ⟨rfl, h2, o2⟩; have hE2 := (o2.block (nb + 1) (by omega) (by omega)).trans HE1.out; have hN2 := (o2.block nb (by omega) (by omega)).trans HN1.out; have HE2 := Lib.hid hE2; have HN2 := Lib.hid hN2; clear hE2 hN2; have hnw2 : nb + 1 < w2.heap.size := lt_of_block HE2.out)
        | (go_at_call 62; (with_reducible refine (HT40.out _ h2).mono ?_); rintro e w3 ⟨rfl, h3, o3⟩; have hE3 := (o3.block (nb + 1) (by omega) (by omega)).trans HE2.out; have hN3 := (o3.block nb (by omega) (by omega)).trans HN2.out; have HE3 := Lib.hid hE3; have HN3 := Lib.hid hN3; clear hE3 hN3; have hnw3 : nb + 1 < w3.heap.size := lt_of_block HE3.out)
        | (go_at_call 81; refine (HONE.out _ h3).mono ?_; rintro e w4 ⟨rfl, h4, o4⟩; have hE4 := (o4.block (nb + 1) (by omega) (by omega)).trans HE3.out; have hN4 := (o4.block nb (by omega) (by omega)).trans HN3.out; have HE4 := Lib.hid hE4; have HN4 := Lib.hid hN4; clear hE4 hN4; have hnw4 : nb + 1 < w4.heap.size := lt_of_block HE4.out; have c3 : w4.cell? ⟨nb + 1, 3, none⟩ = some (.int .u64 0) := cell_of_block HE4.out 3; have t3 := free_of_block HE4.out 3; have c4 : w4.cell? ⟨nb + 1, 4, none⟩ = some (.int .u64 0) := cell_of_block HE4.out 4; have t4 := free_of_block HE4.out 4; have c5 : w4.cell? ⟨nb + 1, 5, none⟩ = some (.int .u64 0) := cell_of_block HE4.out 5; have t5 := free_of_block HE4.out 5; have c6 : w4.cell? ⟨nb + 1, 6, none⟩ = some (.int .u64 0) := cell_of_block HE4.out 6; have t6 := free_of_block HE4.out 6)
        | (refine wpList_load_row rfl 26 (.tmp 3) ?_ (nb + 1) ?_ 26 (cellsA (setA (Q4.none.with b))) (0, 0) _ ?_ Tryd.underlying26 rfl (info_rxA _) ?_; (with_reducible rfl); rfl; exact HHP.out _ HE4.out)
        | (refine wpList_store_row rfl 26 (.tmp 2) (.tmp 34) ?_ nb (cellsA (setA (Q4.none.with b))) ?_ ?_ 26 (cellsA (setA Q4.none)) ?_ (info_rxA _) (by rw [cellsA_size, cellsA_size]) (cellsA_one _) ?_; (with_reducible rfl); rfl; rfl; exact (Below.heap_setCell _ _ _ _ (by show nb ≠ nb + 1; omega)).trans HN4.out))
      refine bodyPost_ret (results_cell_row rfl _ _ nb 26 (cellsA (setA (Q4.none.with b))) (0, 0) _ rfl (setRow_heap _ _ _ _ _ _ ((Below.heap_setCell _ ⟨nb + 1, 3, none⟩ _ _ (by show nb ≠ nb + 1; omega)).trans HN4.out)) Tryd.underlying26 rfl (info_rxA _)) rfl ?_
      refine ⟨Only.setRow ((((((hO0.then o1).then o2).then o3).then o4).setCell (p := ⟨nb + 1, 3, none⟩) (.inr (by show w.heap.size ≤ nb + 1; omega)) _)) (q := nb) (.inr (by omega)) _, .inr ⟨setA (Q4.none.with b), r, by rw [setA_bare], rfl, ?_, setA_in _ HQ.out _ _, by rw [setA_blocks]; simp⟩⟩
      unfold ReadAt at h4 ⊢
      rw [setRow_other _ _ _ _ (by omega)]
      exact (Below.heap_setCell _ _ _ _ (by show rb ≠ nb + 1; omega)).trans h4
    · have hd : (b : Int) / 64 = 1 := by omega
      have hheap : ∀ W : World, W.heap[nb + 1]? = some (.cells (cellsA (setA Q4.none)) 26 (0, 0)) → (W.setCell ⟨nb + 1, 4, none⟩ (.int .u64 (orBit 0 k))).heap[nb + 1]? = some (.cells (cellsA (setA (Q4.none.with b))) 26 (0, 0)) := by
        intro W hW
        rw [setCell_block hW]
        simp only [Q4.with]
        rw [if_neg (by omega), if_pos (by omega)]
        rw [show b - 64 = k by omega]
        rfl
      have HHP := Lib.hid hheap; clear hheap
      go_enter Tryd.func72, Tryd.ntmps72
      go_wp2_with (first
        | (go_at_call 62; (with_reducible refine (HT46.out).mono ?_); rintro e w1 ⟨rfl, h1, o1⟩; rw [← hW0] at o1; have hE1 := (o1.block (nb + 1) (by omega) (by omega)).trans HE.out; have hN1 := (o1.block nb (by omega) (by omega)).trans HN.out; have HE1 := Lib.hid hE1; have HN1 := Lib.hid hN1; clear hE1 hN1; have hnw1 : nb + 1 < w1.heap.size := lt_of_block HE1.out)
        | (go_at_call 62; (with_reducible refine (HT91.out _ h1).mono ?_); rintro e w2 ⟨rfl, h2, o2⟩; have hE2 := (o2.block (nb + 1) (by omega) (by omega)).trans HE1.out; have hN2 := (o2.block nb (by omega) (by omega)).trans HN1.out; have HE2 := Lib.hid hE2; have HN2 := Lib.hid hN2; clear hE2 hN2; have hnw2 : nb + 1 < w2.heap.size := lt_of_block HE2.out)
        | (go_at_call 62; (with_reducible refine (HT40.out _ h2).mono ?_); rintro e w3 ⟨rfl, h3, o3⟩; have hE3 := (o3.block (nb + 1) (by omega) (by omega)).trans HE2.out; have hN3 := (o3.block nb (by omega) (by omega)).trans HN2.out; have HE3 := Lib.hid hE3; have HN3 := Lib.hid hN3; clear hE3 hN3; have hnw3 : nb + 1 < w3.heap.size := lt_of_block HE3.out)
        | (go_at_call 81; refine (HONE.out _ h3).mono ?_; rintro e w4 ⟨rfl, h4, o4⟩; have hE4 := (o4.block (nb + 1) (by omega) (by omega)).trans HE3.out; have hN4 := (o4.block nb (by omega) (by omega)).trans HN3.out; have HE4 := Lib.hid hE4; have HN4 := Lib.hid hN4; clear hE4 hN4; have hnw4 : nb + 1 < w4.heap.size := lt_of_block HE4.out; have c3 : w4.cell? ⟨nb + 1, 3, none⟩ = some (.int .u64 0) := cell_of_block HE4.out 3; have t3 := free_of_block HE4.out 3; have c4 : w4.cell? ⟨nb + 1, 4, none⟩ = some (.int .u64 0) := cell_of_block HE4.out 4; have t4 := free_of_block HE4.out 4; have c5 : w4.cell? ⟨nb + 1, 5, none⟩ = some (.int .u64 0) := cell_of_block HE4.out 5; have t5 := free_of_block HE4.out 5; have c6 : w4.cell? ⟨nb + 1, 6, none⟩ = some (.int .u64 0) := cell_of_block HE4.out 6; have t6 := free_of_block HE4.out 6)
        | (refine wpList_load_row rfl 26 (.tmp 3) ?_ (nb + 1) ?_ 26 (cellsA (setA (Q4.none.with b))) (0, 0) _ ?_ Tryd.underlying26 rfl (info_rxA _) ?_; (with_reducible rfl); rfl; exact HHP.out _ HE4.out)
        | (refine wpList_store_row rfl 26 (.tmp 2) (.tmp 34) ?_ nb (cellsA (setA (Q4.none.with b))) ?_ ?_ 26 (cellsA (setA Q4.none)) ?_ (info_rxA _) (by rw [cellsA_size, cellsA_size]) (cellsA_one _) ?_; (with_reducible rfl); rfl; rfl; exact (Below.heap_setCell _ _ _ _ (by show nb ≠ nb + 1; omega)).trans HN4.out))
      refine bodyPost_ret (results_cell_row rfl _ _ nb 26 (cellsA (setA (Q4.none.with b))) (0, 0) _ rfl (setRow_heap _ _ _ _ _ _ ((Below.heap_setCell _ ⟨nb + 1, 4, none⟩ _ _ (by show nb ≠ nb + 1; omega)).trans HN4.out)) Tryd.underlying26 rfl (info_rxA _)) rfl ?_
      refine ⟨Only.setRow ((((((hO0.then o1).then o2).then o3).then o4).setCell (p := ⟨nb + 1, 4, none⟩) (.inr (by show w.heap.size ≤ nb + 1; omega)) _)) (q := nb) (.inr (by omega)) _, .inr ⟨setA (Q4.none.with b), r, by rw [setA_bare], rfl, ?_, setA_in _ HQ.out _ _, by rw [setA_blocks]; simp⟩⟩
      unfold ReadAt at h4 ⊢
      rw [setRow_other _ _ _ _ (by omega)]
      exact (Below.heap_setCell _ _ _ _ (by show rb ≠ nb + 1; omega)).trans h4
    · have hd : (b : Int) / 64 = 2 := by omega
      have hheap : ∀ W : World, W.heap[nb + 1]? = some (.cells (cellsA (setA Q4.none)) 26 (0, 0)) → (W.setCell ⟨nb + 1, 5, none⟩ (.int .u64 (orBit 0 k))).heap[nb + 1]? = some (.cells (cellsA (setA (Q4.none.with b))) 26 (0, 0)) := by
        intro W hW
        rw [setCell_block hW]
        simp only [Q4.with]
        rw [if_neg (by omega), if_neg (by omega), if_pos (by omega)]
        rw [show b - 128 = k by omega]
        rfl
      have HHP := Lib.hid hheap; clear hheap
      go_enter Tryd.func72, Tryd.ntmps72
      go_wp2_with (first
        | (go_at_call 62; (with_reducible refine (HT46.out).mono ?_); rintro e w1 ⟨rfl, h1, o1⟩; rw [← hW0] at o1; have hE1 := (o1.block (nb + 1) (by omega) (by omega)).trans HE.out; have hN1 := (o1.block nb (by omega) (by omega)).trans HN.out; have HE1 := Lib.hid hE1; have HN1 := Lib.hid hN1; clear hE1 hN1; have hnw1 : nb + 1 < w1.heap.size := lt_of_block HE1.out)
        | (go_at_call 62; (with_reducible refine (HT91.out _ h1).mono ?_); rintro e w2 ⟨rfl, h2, o2⟩; have hE2 := (o2.block (nb + 1) (by omega) (by omega)).trans HE1.out; have hN2 := (o2.block nb (by omega) (by omega)).trans HN1.out; have HE2 := Lib.hid hE2; have HN2 := Lib.hid hN2; clear hE2 hN2; have hnw2 : nb + 1 < w2.heap.size := lt_of_block HE2.out)
        | (go_at_call 62; (with_reducible refine (HT40.out _ h2).mono ?_); rintro e w3 ⟨rfl, h3, o3⟩; have hE3 := (o3.block (nb + 1) (by omega) (by omega)).trans HE2.out; have hN3 := (o3.block nb (by omega) (by omega)).trans HN2.out; have HE3 := Lib.hid hE3; have HN3 := Lib.hid hN3; clear hE3 hN3; have hnw3 : nb + 1 < w3.heap.size := lt_of_block HE3.out)
        | (go_at_call 81; refine (HONE.out _ h3).mono ?_; rintro e w4 ⟨rfl, h4, o4⟩; have hE4 := (o4.block (nb + 1) (by omega) (by omega)).trans HE3.out; have hN4 := (o4.block nb (by omega) (by omega)).trans HN3.out; have HE4 := Lib.hid hE4; have HN4 := Lib.hid hN4; clear hE4 hN4; have hnw4 : nb + 1 < w4.heap.size := lt_of_block HE4.out; have c3 : w4.cell? ⟨nb + 1, 3, none⟩ = some (.int .u64 0) := cell_of_block HE4.out 3; have t3 := free_of_block HE4.out 3; have c4 : w4.cell? ⟨nb + 1, 4, none⟩ = some (.int .u64 0) := cell_of_block HE4.out 4; have t4 := free_of_block HE4.out 4; have c5 : w4.cell? ⟨nb + 1, 5, none⟩ = some (.int .u64 0) := cell_of_block HE4.out 5; have t5 := free_of_block HE4.out 5; have c6 : w4.cell? ⟨nb + 1, 6, none⟩ = some (.int .u64 0) := cell_of_block HE4.out 6; have t6 := free_of_block HE4.out 6)
        | (refine wpList_load_row rfl 26 (.tmp 3) ?_ (nb + 1) ?_ 26 (cellsA (setA (Q4.none.with b))) (0, 0) _ ?_ Tryd.underlying26 rfl (info_rxA _) ?_; (with_reducible rfl); rfl; exact HHP.out _ HE4.out)
        | (refine wpList_store_row rfl 26 (.tmp 2) (.tmp 34) ?_ nb (cellsA (setA (Q4.none.with b))) ?_ ?_ 26 (cellsA (setA Q4.none)) ?_ (info_rxA _) (by rw [cellsA_size, cellsA_size]) (cellsA_one _) ?_; (with_reducible rfl); rfl; rfl; exact (Below.heap_setCell _ _ _ _ (by show nb ≠ nb + 1; omega)).trans HN4.out))
      refine bodyPost_ret (results_cell_row rfl _ _ nb 26 (cellsA (setA (Q4.none.with b))) (0, 0) _ rfl (setRow_heap _ _ _ _ _ _ ((Below.heap_setCell _ ⟨nb + 1, 5, none⟩ _ _ (by show nb ≠ nb + 1; omega)).trans HN4.out)) Tryd.underlying26 rfl (info_rxA _)) rfl ?_
      refine ⟨Only.setRow ((((((hO0.then o1).then o2).then o3).then o4).setCell (p := ⟨nb + 1, 5, none⟩) (.inr (by show w.heap.size ≤ nb + 1; omega)) _)) (q := nb) (.inr (by omega)) _, .inr ⟨setA (Q4.none.with b), r, by rw [setA_bare], rfl, ?_, setA_in _ HQ.out _ _, by rw [setA_blocks]; simp⟩⟩
      unfold ReadAt at h4 ⊢
      rw [setRow_other _ _ _ _ (by omega)]
      exact (Below.heap_setCell _ _ _ _ (by show rb ≠ nb + 1; omega)).trans h4
    · have hd : (b : Int) / 64 = 3 := by omega
      have hheap : ∀ W : World, W.heap[nb + 1]? = some (.cells (cellsA (setA Q4.none)) 26 (0, 0)) → (W.setCell ⟨nb + 1, 6, none⟩ (.int .u64 (orBit 0 k))).heap[nb + 1]? = some (.cells (cellsA (setA (Q4.none.with b))) 26 (0, 0)) := by
        intro W hW
        rw [setCell_block hW]
        simp only [Q4.with]
        rw [if_neg (by omega), if_neg (by omega), if_neg (by omega)]
        rw [show b - 192 = k by omega]
        rfl
      have HHP := Lib.hid hheap; clear hheap
      go_enter Tryd.func72, Tryd.ntmps72
      go_wp2_with (first
        | (go_at_call 62; (with_reducible refine (HT46.out).mono ?_); rintro e w1 ⟨rfl, h1, o1⟩; rw [← hW0] at o1; have hE1 := (o1.block (nb + 1) (by omega) (by omega)).trans HE.out; have hN1 := (o1.block nb (by omega) (by omega)).trans HN.out; have HE1 := Lib.hid hE1; have HN1 := Lib.hid hN1; clear hE1 hN1; have hnw1 : nb + 1 < w1.heap.size := lt_of_block HE1.out)
        | (go_at_call 62; (with_reducible refine (HT91.out _ h1).mono ?_); rintro e w2 ⟨rfl, h2, o2⟩; have hE2 := (o2.block (nb + 1) (by omega) (by omega)).trans HE1.out; have hN2 := (o2.block nb (by omega) (by omega)).trans HN1.out; have HE2 := Lib.hid hE2; have HN2 := Lib.hid hN2; clear hE2 hN2; have hnw2 : nb + 1 < w2.heap.size := lt_of_block HE2.out)
        | (go_at_call 62; (with_reducible refine (HT40.out _ h2).mono ?_); rintro e w3 ⟨rfl, h3, o3⟩; have hE3 := (o3.block (nb + 1) (by omega) (by omega)).trans HE2.out; have hN3 := (o3.block nb (by omega) (by omega)).trans HN2.out; have HE3 := Lib.hid hE3; have HN3 := Lib.hid hN3; clear hE3 hN3; have hnw3 : nb + 1 < w3.heap.size := lt_of_block HE3.out)
        | (go_at_call 81; refine (HONE.out _ h3).mono ?_; rintro e w4 ⟨rfl, h4, o4⟩; have hE4 := (o4.block (nb + 1) (by omega) (by omega)).trans HE3.out; have hN4 := (o4.block nb (by omega) (by omega)).trans HN3.out; have HE4 := Lib.hid hE4; have HN4 := Lib.hid hN4; clear hE4 hN4; have hnw4 : nb + 1 < w4.heap.size := lt_of_block HE4.out; have c3 : w4.cell? ⟨nb + 1, 3, none⟩ = some (.int .u64 0) := cell_of_block HE4.out 3; have t3 := free_of_block HE4.out 3; have c4 : w4.cell? ⟨nb + 1, 4, none⟩ = some (.int .u64 0) := cell_of_block HE4.out 4; have t4 := free_of_block HE4.out 4; have c5 : w4.cell? ⟨nb + 1, 5, none⟩ = some (.int .u64 0) := cell_of_block HE4.out 5; have t5 := free_of_block HE4.out 5; have c6 : w4.cell? ⟨nb + 1, 6, none⟩ = some (.int .u64 0) := cell_of_block HE4.out 6; have t6 := free_of_block HE4.out 6)
        | (refine wpList_load_row rfl 26 (.tmp 3) ?_ (nb + 1) ?_ 26 (cellsA (setA (Q4.none.with b))) (0, 0) _ ?_ Tryd.underlying26 rfl (info_rxA _) ?_; (with_reducible rfl); rfl; exact HHP.out _ HE4.out)
        | (refine wpList_store_row rfl 26 (.tmp 2) (.tmp 34) ?_ nb (cellsA (setA (Q4.none.with b))) ?_ ?_ 26 (cellsA (setA Q4.none)) ?_ (info_rxA _) (by rw [cellsA_size, cellsA_size]) (cellsA_one _) ?_; (with_reducible rfl); rfl; rfl; exact (Below.heap_setCell _ _ _ _ (by show nb ≠ nb + 1; omega)).trans HN4.out))
      refine bodyPost_ret (results_cell_row rfl _ _ nb 26 (cellsA (setA (Q4.none.with b))) (0, 0) _ rfl (setRow_heap _ _ _ _ _ _ ((Below.heap_setCell _ ⟨nb + 1, 6, none⟩ _ _ (by show nb ≠ nb + 1; omega)).trans HN4.out)) Tryd.underlying26 rfl (info_rxA _)) rfl ?_
      refine ⟨Only.setRow ((((((hO0.then o1).then o2).then o3).then o4).setCell (p := ⟨nb + 1, 6, none⟩) (.inr (by show w.heap.size ≤ nb + 1; omega)) _)) (q := nb) (.inr (by omega)) _, .inr ⟨setA (Q4.none.with b), r, by rw [setA_bare], rfl, ?_, setA_in _ HQ.out _ _, by rw [setA_blocks]; simp⟩⟩
      unfold ReadAt at h4 ⊢
      rw [setRow_other _ _ _ _ (by omega)]
      exact (Below.heap_setCell _ _ _ _ (by show rb ≠ nb + 1; omega)).trans h4


set_option maxRecDepth 100000 in
set_option maxHeartbeats 1000000 in
theorem atom_open (w : World) (rb : Nat) (s : List UInt8) (h : ReadAt w rb s) (hl : s.length ≤ 128) (altf : List UInt8 → Option (Rx × List UInt8)) (h46 : starts 46 s = false) (h91 : starts 91 s = false) (h40 : starts 40 s = true)
    (halt : ∀ w1, ReadAt w1 rb s.tail → Calls Tryd.prog 48 #[.pointer (some ⟨rb, 0, none⟩)] w1 fun e w2 => ReadsRx rb w1 (altf s.tail) e w2) :
    Calls Tryd.prog 72 #[.pointer (some ⟨rb, 0, none⟩)] w fun e w' => ReadsRx rb w (atomB altf s) e w' := by
  have hlt := lt_of_block h
  obtain ⟨nb, hnb⟩ : ∃ nb, w.heap.size = nb := ⟨_, rfl⟩
  obtain ⟨W0, hW0⟩ : ∃ W0, W0 = ((w.alloc (.cells #[.int .i64 0, .int .i64 0, .int .i64 0, .int .u64 0, .int .u64 0, .int .u64 0, .int .u64 0, .slice none 0 0] 26)).alloc (.cells #[.int .i64 0, .int .i64 0, .int .i64 0, .int .u64 0, .int .u64 0, .int .u64 0, .int .u64 0, .slice none 0 0] 26)) := ⟨_, rfl⟩
  have hr0 : ReadAt W0 rb s := by rw [hW0]; exact read_old2 h _ _
  have hN0 : W0.heap[nb]? = some (.cells (cellsA (setA Q4.none)) 26 (0, 0)) := by rw [hW0, ← hnb]; exact alloc_old (alloc_block _ _) _
  have hE0 : W0.heap[nb + 1]? = some (.cells (cellsA (setA Q4.none)) 26 (0, 0)) := by rw [hW0, ← hnb]; exact alloc_block' _ _ _ (by simp)
  have hO0 : Only (fun k => k = rb) w W0 := by rw [hW0]; exact (((Only.refl _ w).alloc _).alloc _)
  have hnw : nb + 1 < W0.heap.size := lt_of_block hE0
  have HT46 := Lib.hid (take_no _ rb 46 s hr0 h46)
  have HT91 := Lib.hid (fun w1 (h1 : ReadAt w1 rb s) => take_no w1 rb 91 s h1 h91)
  have HT40 := Lib.hid (fun w1 (h1 : ReadAt w1 rb s) => take_yes w1 rb 40 s.tail (starts_cons h40 ▸ h1))
  have HN := Lib.hid hN0
  have HE := Lib.hid hE0
  clear hN0 hE0
  clear hr0
  rw [hW0] at HT46
  cases hc : altf s.tail with
  | none =>
    have hB : atomB altf s = none := by unfold atomB; rw [h46, h91, h40, hc]; rfl
    rw [hc] at halt
    have HALT := Lib.hid (fun w1 h1 => (halt w1 h1).mono fun e w2 hR => readsRx_none hR); clear halt hc
    rw [hB]
    go_enter Tryd.func72, Tryd.ntmps72
    go_wp2_with (first
      | (go_at_call 62; (with_reducible refine (HT46.out).mono ?_); rintro e w1 ⟨rfl, h1, o1⟩; rw [← hW0] at o1; have hE1 := (o1.block (nb + 1) (by omega) (by omega)).trans HE.out; have hN1 := (o1.block nb (by omega) (by omega)).trans HN.out; have HE1 := Lib.hid hE1; have HN1 := Lib.hid hN1; clear hE1 hN1; have hnw1 : nb + 1 < w1.heap.size := lt_of_block HE1.out)
      | (go_at_call 62; (with_reducible refine (HT91.out _ h1).mono ?_); rintro e w2 ⟨rfl, h2, o2⟩; have hE2 := (o2.block (nb + 1) (by omega) (by omega)).trans HE1.out; have hN2 := (o2.block nb (by omega) (by omega)).trans HN1.out; have HE2 := Lib.hid hE2; have HN2 := Lib.hid hN2; clear hE2 hN2; have hnw2 : nb + 1 < w2.heap.size := lt_of_block HE2.out)
      | (go_at_call 62; (with_reducible refine (HT40.out _ h2).mono ?_); rintro e w3 ⟨rfl, h3, o3⟩; have hE3 := (o3.block (nb + 1) (by omega) (by omega)).trans HE2.out; have hN3 := (o3.block nb (by omega) (by omega)).trans HN2.out; have HE3 := Lib.hid hE3; have HN3 := Lib.hid hN3; clear hE3 hN3; have hnw3 : nb + 1 < w3.heap.size := lt_of_block HE3.out)
      | (go_at_call 48; refine (HALT.out _ h3).mono ?_; rintro e w4 ⟨rfl, o4⟩))
    exact ⟨rfl, (((hO0.then o1).then o2).then o3).then o4, .inl ⟨rfl, rfl⟩⟩
  | some p =>
    obtain ⟨x, r⟩ := p
    have hB : atomB altf s = if starts 41 r then some (x, r.tail) else none := by unfold atomB; rw [h46, h91, h40, hc]; rfl
    rw [hc] at halt
    have halt2 : ∀ w1, ReadAt w1 rb s.tail → Calls Tryd.prog 48 #[.pointer (some ⟨rb, 0, none⟩)] w1 fun e w2 => ∃ X : RxA, x = X.bare ∧ e = .returned (.agg (cellsA X)) ∧ ReadAt w2 rb r ∧ Only (fun k => k = rb) w1 w2 ∧ X.In w2 w2.heap.size ∧ ∀ b ∈ X.blocks, w1.heap.size ≤ b ∧ b < w2.heap.size :=
      fun w1 h1 => (halt w1 h1).mono fun e w2 hR => readsRx_some hR
    clear halt hc
    have HALT := Lib.hid halt2; clear halt2
    rw [hB]
    cases h41 : starts 41 r with
    | false =>
      have HT41 := Lib.hid (fun w1 (h1 : ReadAt w1 rb r) => take_no w1 rb 41 r h1 h41); clear h41
      go_enter Tryd.func72, Tryd.ntmps72
      go_wp2_with (first
        | (go_at_call 62; (with_reducible refine (HT46.out).mono ?_); rintro e w1 ⟨rfl, h1, o1⟩; rw [← hW0] at o1; have hE1 := (o1.block (nb + 1) (by omega) (by omega)).trans HE.out; have hN1 := (o1.block nb (by omega) (by omega)).trans HN.out; have HE1 := Lib.hid hE1; have HN1 := Lib.hid hN1; clear hE1 hN1; have hnw1 : nb + 1 < w1.heap.size := lt_of_block HE1.out)
        | (go_at_call 62; (with_reducible refine (HT91.out _ h1).mono ?_); rintro e w2 ⟨rfl, h2, o2⟩; have hE2 := (o2.block (nb + 1) (by omega) (by omega)).trans HE1.out; have hN2 := (o2.block nb (by omega) (by omega)).trans HN1.out; have HE2 := Lib.hid hE2; have HN2 := Lib.hid hN2; clear hE2 hN2; have hnw2 : nb + 1 < w2.heap.size := lt_of_block HE2.out)
        | (go_at_call 62; (with_reducible refine (HT40.out _ h2).mono ?_); rintro e w3 ⟨rfl, h3, o3⟩; have hE3 := (o3.block (nb + 1) (by omega) (by omega)).trans HE2.out; have hN3 := (o3.block nb (by omega) (by omega)).trans HN2.out; have HE3 := Lib.hid hE3; have HN3 := Lib.hid hN3; clear hE3 hN3; have hnw3 : nb + 1 < w3.heap.size := lt_of_block HE3.out)
        | (go_at_call 48; refine (HALT.out _ h3).mono ?_; rintro e w4 ⟨X, hX, rfl, h4, o4, hXin, hXb⟩; have hE4 := (o4.block (nb + 1) (by omega) (by omega)).trans HE3.out; have hN4 := (o4.block nb (by omega) (by omega)).trans HN3.out; have HE4 := Lib.hid hE4; have HN4 := Lib.hid hN4; clear hE4 hN4; have hnw4 : nb + 1 < w4.heap.size := lt_of_block HE4.out; have h5 : ReadAt (w4.setRow (nb + 1) (cellsA X)) rb r := (setRow_other _ _ _ _ (by omega)).trans h4)
        | (refine wpList_store_row rfl 26 (.tmp 3) (.tmp 30) ?_ (nb + 1) (cellsA X) ?_ ?_ 26 (cellsA (setA Q4.none)) ?_ (info_rxA _) (by rw [cellsA_size, cellsA_size]) (cellsA_one _) ?_; (with_reducible rfl); rfl; rfl; exact HE4.out)
        | (go_at_call 62; (with_reducible refine (HT41.out _ h5).mono ?_); rintro e w6 ⟨rfl, h6, o6⟩)
        | (go_at_call 49; refine (must_no rfl _).mono ?_; rintro e w7 ⟨rfl, rfl⟩))
      exact ⟨rfl, ((((((hO0.then o1).then o2).then o3).then o4).setRow (q := nb + 1) (.inr (by omega)) _)).then o6, .inl ⟨rfl, rfl⟩⟩
    | true =>
      have HT41 := Lib.hid (fun w1 (h1 : ReadAt w1 rb r) => take_yes w1 rb 41 r.tail (starts_cons h41 ▸ h1)); clear h41
      have hs4 : ∀ w4 : World, (w4.setRow (nb + 1) (cellsA (setA Q4.none))).heap.size = w4.heap.size := fun w4 => by simp
      go_enter Tryd.func72, Tryd.ntmps72
      go_wp2_with (first
        | (go_at_call 62; (with_reducible refine (HT46.out).mono ?_); rintro e w1 ⟨rfl, h1, o1⟩; rw [← hW0] at o1; have hE1 := (o1.block (nb + 1) (by omega) (by omega)).trans HE.out; have hN1 := (o1.block nb (by omega) (by omega)).trans HN.out; have HE1 := Lib.hid hE1; have HN1 := Lib.hid hN1; clear hE1 hN1; have hnw1 : nb + 1 < w1.heap.size := lt_of_block HE1.out)
        | (go_at_call 62; (with_reducible refine (HT91.out _ h1).mono ?_); rintro e w2 ⟨rfl, h2, o2⟩; have hE2 := (o2.block (nb + 1) (by omega) (by omega)).trans HE1.out; have hN2 := (o2.block nb (by omega) (by omega)).trans HN1.out; have HE2 := Lib.hid hE2; have HN2 := Lib.hid hN2; clear hE2 hN2; have hnw2 : nb + 1 < w2.heap.size := lt_of_block HE2.out)
        | (go_at_call 62; (with_reducible refine (HT40.out _ h2).mono ?_); rintro e w3 ⟨rfl, h3, o3⟩; have hE3 := (o3.block (nb + 1) (by omega) (by omega)).trans HE2.out; have hN3 := (o3.block nb (by omega) (by omega)).trans HN2.out; have HE3 := Lib.hid hE3; have HN3 := Lib.hid hN3; clear hE3 hN3; have hnw3 : nb + 1 < w3.heap.size := lt_of_block HE3.out)
        | (go_at_call 48; refine (HALT.out _ h3).mono ?_; rintro e w4 ⟨X, hX, rfl, h4, o4, hXin, hXb⟩; have hE4 := (o4.block (nb + 1) (by omega) (by omega)).trans HE3.out; have hN4 := (o4.block nb (by omega) (by omega)).trans HN3.out; have HE4 := Lib.hid hE4; have HN4 := Lib.hid hN4; clear hE4 hN4; have hnw4 : nb + 1 < w4.heap.size := lt_of_block HE4.out; have h5 : ReadAt (w4.setRow (nb + 1) (cellsA X)) rb r := (setRow_other _ _ _ _ (by omega)).trans h4)
        | (refine wpList_store_row rfl 26 (.tmp 3) (.tmp 30) ?_ (nb + 1) (cellsA X) ?_ ?_ 26 (cellsA (setA Q4.none)) ?_ (info_rxA _) (by rw [cellsA_size, cellsA_size]) (cellsA_one _) ?_; (with_reducible rfl); rfl; rfl; exact HE4.out)
        | (go_at_call 62; (with_reducible refine (HT41.out _ h5).mono ?_); rintro e w6 ⟨rfl, h6, o6⟩; have hE6 := (o6.block (nb + 1) (by simp; omega) (by omega)).trans (setRow_heap _ _ _ (cellsA X) _ _ HE4.out); have hN6 := (o6.block nb (by simp; omega) (by omega)).trans ((setRow_other _ (nb + 1) nb (cellsA X) (by omega)).trans HN4.out); have HE6 := Lib.hid hE6; have HN6 := Lib.hid hN6; clear hE6 hN6)
        | (go_at_call 49; refine (must_yes rfl _).mono ?_; rintro e w7 ⟨rfl, rfl⟩)
        | (refine wpList_load_row rfl 26 (.tmp 3) ?_ (nb + 1) ?_ 26 (cellsA X) (0, 0) _ ?_ Tryd.underlying26 rfl (info_rxA _) ?_; (with_reducible rfl); rfl; exact HE6.out)
        | (refine wpList_store_row rfl 26 (.tmp 2) (.tmp 34) ?_ nb (cellsA X) ?_ ?_ 26 (cellsA (setA Q4.none)) ?_ (info_rxA _) (by rw [cellsA_size, cellsA_size]) (cellsA_one _) ?_; (with_reducible rfl); rfl; rfl; exact HN6.out))
      refine bodyPost_ret (results_cell_row rfl _ _ nb 26 (cellsA X) (0, 0) _ rfl (setRow_heap _ _ _ _ _ _ HN6.out) Tryd.underlying26 rfl (info_rxA _)) rfl ?_
      refine ⟨((((((hO0.then o1).then o2).then o3).then o4).setRow (q := nb + 1) (.inr (by omega)) _).then o6).setRow (q := nb) (.inr (by omega)) _, .inr ⟨X, r.tail, rfl, rfl, ?_, ?_, ?_⟩⟩
      · unfold ReadAt at h6 ⊢
        rw [setRow_other _ _ _ _ (by omega)]
        exact h6
      · have hs6 := o6.size
        simp only [size_setRow] at hs6 ⊢
        refine hXin.keep fun b hb => ?_
        obtain ⟨hb1, hb2⟩ := hXb b hb
        have hs3 := o3.size
        have hs2 := o2.size
        have hs1 := o1.size
        refine ⟨by omega, fun o => World.cell?_of_block (w := w4) ?_⟩
        show (World.setRow _ _ _).heap[b]? = _
        rw [setRow_other _ _ _ _ (by omega), o6.block b (by simp; omega) (by omega), setRow_other _ _ _ _ (by omega)]
      · intro b hb
        have hs6 := o6.size
        have hs0 := hO0.size
        have hs3 := o3.size
        have hs2 := o2.size
        have hs1 := o1.size
        simp only [size_setRow] at hs6 ⊢
        have := hXb b hb
        omega

theorem atom_any (w : World) (rb : Nat) (s : List UInt8) (h : ReadAt w rb s) (hl : s.length ≤ 128) (altf : List UInt8 → Option (Rx × List UInt8))
    (halt : starts 40 s = true → ∀ w1, ReadAt w1 rb s.tail → Calls Tryd.prog 48 #[.pointer (some ⟨rb, 0, none⟩)] w1 fun e w2 => ReadsRx rb w1 (altf s.tail) e w2) :
    Calls Tryd.prog 72 #[.pointer (some ⟨rb, 0, none⟩)] w fun e w' => ReadsRx rb w (atomB altf s) e w' := by
  cases h46 : starts 46 s with
  | true => exact atom_dot w rb s h hl altf h46
  | false =>
    cases h91 : starts 91 s with
    | true => exact atom_class w rb s h hl altf h46 h91
    | false =>
      cases h40 : starts 40 s with
      | true => exact atom_open w rb s h hl altf h46 h91 h40 (halt h40)
      | false => exact atom_one w rb s h hl altf h46 h91 h40
end Go.Proofs.YtaelkjffidjcjaaDoor
