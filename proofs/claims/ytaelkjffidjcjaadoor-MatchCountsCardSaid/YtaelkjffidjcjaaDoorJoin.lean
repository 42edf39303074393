/- The walk of joined. -/
import Derived.Test.YtaelkjffidjcjaaDoorMade
import Derived.Test.YtaelkjffidjcjaaDoorClass
set_option linter.unusedSimpArgs false
set_option linter.unusedVariables false
namespace Go.Proofs.YtaelkjffidjcjaaDoor
open Go.RowKit PX

theorem info_rx : (Tryd.prog.info? 26).map (·.size) = some 8 := by kernel_rfl
theorem info_rx3 : (Tryd.prog.info? 26).map (fun i => (i.zero, i.size, i.bytes)) = some (some (.agg #[.int .i64 0, .int .i64 0, .int .i64 0, .int .u64 0, .int .u64 0, .int .u64 0, .int .u64 0, .slice none 0 0]), 8, 80) := by kernel_rfl
def zeroRx : Array Value := #[.int .i64 0, .int .i64 0, .int .i64 0, .int .u64 0, .int .u64 0, .int .u64 0, .int .u64 0, .slice none 0 0]
def cellsA (x : RxA) : Array Value := x.cells.toArray
theorem cellsA_size (x : RxA) : (cellsA x).size = 8 := by cases x; rfl
theorem cellsA_one (x : RxA) : (cellsA x).all (·.oneCell') = true := by cases x; simp [cellsA, RxA.cells, Value.oneCell']
theorem cellsA_val (x : RxA) : x.val = .agg (cellsA x) := rfl
theorem info_rxA (x : RxA) : (Tryd.prog.info? 26).map (·.size) = some (cellsA x).size := by rw [cellsA_size]; exact info_rx
theorem below_newRow (w : World) (o : Obj) (cs : Array Value) : Below w.heap.size w ((w.alloc o).setRow w.heap.size cs) := by
  have h1 := (Below.refl w.heap.size w).alloc (Nat.le_refl _) o
  exact ⟨h1.os, h1.tape, h1.output, by simp, fun k hk => (setRow_other _ _ _ _ (by omega)).trans (h1.block k hk)⟩
/-- The value of a row of expressions of the call's own. -/
theorem row_value {w : World} {base n : Nat} {v : Value} {xs : List Value} (h : w.ownsRow base 26 8 v n xs) : ∃ a cap, v = .slice a n cap ∧ n ≤ cap ∧ cap ≤ maxLen ∧ ((n = 0 ∧ a = none) ∨ ∃ g, a = some ⟨g, 0, none⟩ ∧ base ≤ g ∧ g < w.heap.size ∧ v.ownBlock = some g) := by
  have hlt := h.lt
  rcases h.2 with ⟨rfl, h0⟩ | ⟨g, cap, cur, rfl, hg, hh, h1, h2, _⟩
  · subst h0; exact ⟨none, 0, rfl, Nat.le_refl _, by simp, .inl ⟨rfl, rfl⟩⟩
  · exact ⟨some ⟨g, 0, none⟩, cap, rfl, h1, h2, .inr ⟨g, rfl, hg, lt_of_block hh, rfl⟩⟩

set_option maxRecDepth 100000 in
set_option maxHeartbeats 1000000 in
theorem joined_any (w : World) (kind : Int) (v : Value) (base : Nat) (L : List RxA) (hown : w.ownsRow base 26 8 v L.length (rxCells L)) (hlen : L.length ≤ 1000) :
    Calls Tryd.prog 61 #[.int .i64 kind, v] w fun e w' => ∃ a cap, v = .slice a L.length cap ∧ e = .returned (.agg (cellsA (joinedA kind a cap L))) ∧ Below w.heap.size w w' := by
  obtain ⟨a, cap, rfl, hc1, hc2, ha⟩ := row_value hown
  by_cases h1 : L.length = 1
  · obtain ⟨x, rfl⟩ := List.length_eq_one_iff.1 h1
    obtain ⟨g, rfl, hbg, hgw, -⟩ := ha.resolve_left (by rintro ⟨h, -⟩; simp at h)
    have hC : ∀ j u, (cellsA x)[j]? = some u → w.cell? ⟨g, j, none⟩ = some u := by
      intro j u hu
      have hj : j < 8 := by have := (Array.getElem?_eq_some_iff.1 hu).1; rwa [cellsA_size] at this
      rw [hown.cellAt j (by simp; omega)]
      simpa [rxCells, cellsA] using hu
    have HC := Lib.hid hC; clear hC
    have HSZ := Lib.hid (cellsA_size x)
    have HONE := Lib.hid (cellsA_one x)
    show Calls _ _ _ _ fun e w' => ∃ a' cap', Value.slice (some ⟨g, 0, none⟩) [x].length cap = .slice a' [x].length cap' ∧ e = .returned (.agg (cellsA x)) ∧ Below w.heap.size w w'
    obtain ⟨CS, HCS⟩ : ∃ CS, Hid (cellsA x = CS) := ⟨_, Lib.hid rfl⟩
    rw [HCS.out] at HC HSZ HONE ⊢
    clear hown
    have HZ := Lib.hid (show (w.alloc (.cells zeroRx 26)).heap[w.heap.size]? = some (.cells zeroRx 26 (0, 0)) from alloc_block w _)
    simp only [List.length_singleton]
    have hINF : (Tryd.prog.info? 26).map (·.size) = some CS.size := by rw [HSZ.out]; exact info_rx
    have HINF := Lib.hid hINF; clear hINF
    have HC2 := Lib.hid (fun j u hu => (World.cell?_of_block (w := w) (a := ⟨g, j, none⟩) (Below.heap_alloc w (.cells zeroRx 26) g hgw)).trans (HC.out j u hu))
    go_enter Tryd.func61, Tryd.ntmps61
    go_wp2_with (first
      | refine wpList_load_at rfl 26 (.tmp 9) rfl g 0 rfl CS _ (by intro j u hu; rw [Nat.zero_add]; exact HC2.out j u hu) Tryd.underlying26 rfl HINF.out ?_
      | refine wpList_store_row rfl 26 (.tmp 4) (.tmp 10) rfl w.heap.size CS rfl rfl 26 _ HZ.out HINF.out (by rw [HSZ.out]; rfl) HONE.out ?_)
    refine bodyPost_ret (results_cell_row rfl _ _ w.heap.size 26 CS (0, 0) _ rfl (setRow_heap _ _ _ _ _ _ HZ.out) Tryd.underlying26 rfl HINF.out) rfl ?_
    exact ⟨_, _, rfl, rfl, below_newRow w _ _⟩
  · have hj : joinedA kind a cap L = .node kind 0 0 0 0 0 0 a cap L := by
      match L, h1 with
      | [], _ => rfl
      | [_], h1 => exact absurd rfl h1
      | _ :: _ :: _, _ => rfl
    suffices hs : Calls Tryd.prog 61 #[.int .i64 kind, .slice a L.length cap] w fun e w' => e = .returned (.agg (cellsA (.node kind 0 0 0 0 0 0 a cap L))) ∧ Below w.heap.size w w' by
      refine hs.mono ?_
      rintro e w' ⟨he, hb⟩
      exact ⟨a, cap, rfl, by rw [hj]; exact he, hb⟩
    have HINF := Lib.hid (info_rxA (.node kind 0 0 0 0 0 0 a cap L))
    have HONE := Lib.hid (cellsA_one (.node kind 0 0 0 0 0 0 a cap L))
    have hn1 : ((L.length : Int) == 1) = false := by rw [beq_eq_false_iff_ne]; omega
    obtain ⟨n, hn⟩ : ∃ n, L.length = n := ⟨_, rfl⟩
    have hcs : cellsA (.node kind 0 0 0 0 0 0 a cap L) = #[.int .i64 kind, .int .i64 0, .int .i64 0, .int .u64 0, .int .u64 0, .int .u64 0, .int .u64 0, .slice a n cap] := by rw [← hn]; rfl
    obtain ⟨CS, HCS⟩ : ∃ CS, Hid (cellsA (.node kind 0 0 0 0 0 0 a cap L) = CS) := ⟨_, Lib.hid rfl⟩
    rw [HCS.out] at HINF HONE hcs ⊢
    rw [hn] at hn1 hlen ⊢
    clear hown ha hj
    have hsz8 : CS.size = 8 := by rw [hcs]; rfl
    have HCE := Lib.hid hcs; clear hcs
    have HZ := Lib.hid (show (w.alloc (.cells zeroRx 26)).heap[w.heap.size]? = some (.cells zeroRx 26 (0, 0)) from alloc_block w _)
    go_enter Tryd.func61, Tryd.ntmps61
    go_wp2_with (first
      | refine wpList_store_row rfl 26 (.tmp 4) (.tmp 13) rfl w.heap.size CS rfl (by rw [HCE.out]; rfl) 26 _ HZ.out HINF.out (by rw [hsz8]; rfl) HONE.out ?_)
    refine bodyPost_ret (results_cell_row rfl _ _ w.heap.size 26 CS (0, 0) _ rfl (setRow_heap _ _ _ _ _ _ HZ.out) Tryd.underlying26 rfl HINF.out) rfl ?_
    exact ⟨rfl, below_newRow w _ _⟩
end Go.Proofs.YtaelkjffidjcjaaDoor
