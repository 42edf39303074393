/- The walk of castellanlaw05.rows. (Printed by wip/gen_u3.py.) -/
import Derived.Test.YtjhclopdcbnmkaaDoorM1
import Derived.Test.YtjhclopdcbnmkaaDoorU1

set_option linter.unusedSimpArgs false
set_option linter.unusedVariables false
namespace Go.Proofs.YtjhclopdcbnmkaaDoor
open Go.RowKit PX

/-- A row of the call's own, as the elements of an alternative. -/
theorem own_node {w : World} {base : Nat} {v : Value} {L : List RxA} (hown : w.ownsRow base 26 8 v L.length (rxCells L)) (hk : ∀ Z ∈ L, Z.In w w.heap.size) (hL : L.length ≤ 2000) :
    ∃ a cap, v = .slice a L.length cap ∧ (RxA.node 2 0 0 0 0 0 0 a cap L).In w w.heap.size := by
  obtain ⟨a, cap, rfl, h1, h2, h3⟩ := row_value hown
  refine ⟨a, cap, rfl, ?_⟩
  simp only [RxA.In]
  refine ⟨⟨⟨by omega, by omega⟩, ⟨by omega, by omega⟩, ⟨by omega, by omega⟩, ⟨by omega, by omega⟩, ⟨by omega, by omega⟩, ⟨by omega, by omega⟩, ⟨by omega, by omega⟩⟩, h1, h2, by omega, ?_⟩
  rcases h3 with ⟨h0, -⟩ | ⟨g, rfl, hg, hg2, -⟩
  · exact .inl (List.eq_nil_of_length_eq_zero h0)
  · refine .inr ⟨g, 0, rfl, hg2, inL_of_row (fun j u hu => ?_) hk⟩
    have hj : j < (rxCells L).length := (List.getElem?_eq_some_iff.1 hu).1
    rw [rxCells_length] at hj
    rw [Nat.zero_add, hown.cellAt j hj]; exact hu
theorem own_first {w : World} {base g : Nat} {X : RxA} (h : w.heap[g]? = some (.cells X.cells.toArray 26 (0, 0))) (hg : base ≤ g) : w.ownsRow base 26 8 (.slice (some ⟨g, 0, none⟩) 1 1) 1 X.cells :=
  ⟨by rw [cells_len], .inr ⟨g, 1, X.cells.toArray, rfl, hg, h, Nat.le_refl _, by unfold maxLen; omega, by simp [cells_len], by simp [List.take_of_length_le, cells_len]⟩⟩
set_option maxRecDepth 100000 in
set_option maxHeartbeats 4000000 in
theorem rows_other (w : World) (k mn mx s0 s1 s2 s3 : Int) (a : Option Addr) (cap : Nat) (l : List RxA) (yk ymn ymx t0 t1 t2 t3 : Int) (ya : Option Addr) (ycap : Nat) (yl : List RxA)
    (hx : (RxA.node k mn mx s0 s1 s2 s3 a cap l).In w w.heap.size) (hy : (RxA.node yk ymn ymx t0 t1 t2 t3 ya ycap yl).In w w.heap.size) (hk : k ≠ 2) :
    Calls Tryd.prog 16 #[(RxA.node k mn mx s0 s1 s2 s3 a cap l).val, (RxA.node yk ymn ymx t0 t1 t2 t3 ya ycap yl).val] w fun e w' => ∃ p c, e = .returned (.slice p 3 c) ∧ (RxA.node 2 0 0 0 0 0 0 p c [RxA.node k mn mx s0 s1 s2 s3 a cap l, RxA.node k mn mx s0 s1 s2 s3 a cap l, RxA.node yk ymn ymx t0 t1 t2 t3 ya ycap yl]).In w' w'.heap.size ∧ Later w w' := by
  obtain ⟨i0, hi, hz0, hz1, hz2⟩ := info_parts info_rx3
  have HX := Lib.hid hx
  have HY := Lib.hid hy
  have hkI : (k == 2) = false := by rw [beq_eq_false_iff_ne]; exact hk
  have hkD : decide (k = 2) = false := decide_eq_false hk
  clear hx hy
  simp only [RxA.val, RxA.cells]
  obtain ⟨w0, hw0⟩ : ∃ w0, (w.alloc (.cells #[.int .i64 k, .int .i64 mn, .int .i64 mx, .int .u64 s0, .int .u64 s1, .int .u64 s2, .int .u64 s3, .slice a l.length cap] 26)).alloc (.cells #[.int .i64 yk, .int .i64 ymn, .int .i64 ymx, .int .u64 t0, .int .u64 t1, .int .u64 t2, .int .u64 t3, .slice ya yl.length ycap] 26) = w0 := ⟨_, rfl⟩
  have hl0 : Later w w0 := by rw [← hw0]; exact ((Later.refl w).alloc _).alloc _
  have hx0 : w0.heap[w.heap.size]? = some (.cells #[.int .i64 k, .int .i64 mn, .int .i64 mx, .int .u64 s0, .int .u64 s1, .int .u64 s2, .int .u64 s3, .slice a l.length cap] 26 (0, 0)) := by rw [← hw0]; exact alloc_old (alloc_block w _) _
  have hy0 : w0.heap[w.heap.size + 1]? = some (.cells #[.int .i64 yk, .int .i64 ymn, .int .i64 ymx, .int .u64 t0, .int .u64 t1, .int .u64 t2, .int .u64 t3, .slice ya yl.length ycap] 26 (0, 0)) := by rw [← hw0]; exact alloc_block' _ _ _ (by simp)
  obtain ⟨w1, hw1⟩ : ∃ w1, w0.alloc (.cells #[.int .i64 k, .int .i64 mn, .int .i64 mx, .int .u64 s0, .int .u64 s1, .int .u64 s2, .int .u64 s3, .slice a l.length cap] 26) = w1 := ⟨_, rfl⟩
  have hl1 : Later w0 w1 := by rw [← hw1]; exact (Later.refl w0).alloc _
  have hb1 : w1.heap[w0.heap.size]? = some (.cells #[.int .i64 k, .int .i64 mn, .int .i64 mx, .int .u64 s0, .int .u64 s1, .int .u64 s2, .int .u64 s3, .slice a l.length cap] 26 (0, 0)) := by rw [← hw1]; exact alloc_block w0 _
  have hs1 : w1.heap.size = w0.heap.size + 1 := by rw [← hw1]; simp
  have K1 := hl1.block hx0
  have Y1 := hl1.block hy0
  have hl2 : Later w1 (w1.alloc (.cells ([.int .i64 k, .int .i64 mn, .int .i64 mx, .int .u64 s0, .int .u64 s1, .int .u64 s2, .int .u64 s3, .slice a l.length cap, .int .i64 yk, .int .i64 ymn, .int .i64 ymx, .int .u64 t0, .int .u64 t1, .int .u64 t2, .int .u64 t3, .slice ya yl.length ycap] : List Value).toArray 26)) := (Later.refl w1).alloc _
  have hown : (w1.alloc (.cells ([.int .i64 k, .int .i64 mn, .int .i64 mx, .int .u64 s0, .int .u64 s1, .int .u64 s2, .int .u64 s3, .slice a l.length cap, .int .i64 yk, .int .i64 ymn, .int .i64 ymx, .int .u64 t0, .int .u64 t1, .int .u64 t2, .int .u64 t3, .slice ya yl.length ycap] : List Value).toArray 26)).ownsRow w0.heap.size 26 8 (.slice (some ⟨w0.heap.size, 0, none⟩) 1 1) 1 (RxA.node k mn mx s0 s1 s2 s3 a cap l).cells := own_first (hl2.block hb1) (Nat.le_refl _)
  have hnew := cells_new w1 [.int .i64 k, .int .i64 mn, .int .i64 mx, .int .u64 s0, .int .u64 s1, .int .u64 s2, .int .u64 s3, .slice a l.length cap, .int .i64 yk, .int .i64 ymn, .int .i64 ymx, .int .u64 t0, .int .u64 t1, .int .u64 t2, .int .u64 t3, .slice ya yl.length ycap] 26
  obtain ⟨v, hv⟩ : ∃ v, Value.slice (some ⟨w0.heap.size, 0, none⟩) 1 1 = v := ⟨_, rfl⟩
  rw [hv] at hown
  have HV := Lib.hid hv
  have HOWN := Lib.hid hown
  have HNEW := Lib.hid hnew
  have HL0 := Lib.hid hl0
  have HL2 := Lib.hid (hl1.trans hl2)
  have HW0 := Lib.hid hw0
  have HW1 := Lib.hid hw1
  obtain ⟨b, hb⟩ : ∃ b, w.heap.size = b := ⟨_, rfl⟩
  rw [hb] at hx0 hy0 K1 Y1
  have HB := Lib.hid hb
  have c0 : w0.cell? ⟨b, 0, none⟩ = some (.int .i64 k) := cell_of_block hx0 0
  have c1 : w0.cell? ⟨b, 1, none⟩ = some (.int .i64 mn) := cell_of_block hx0 1
  have c2 : w0.cell? ⟨b, 2, none⟩ = some (.int .i64 mx) := cell_of_block hx0 2
  have c3 : w0.cell? ⟨b, 3, none⟩ = some (.int .u64 s0) := cell_of_block hx0 3
  have c4 : w0.cell? ⟨b, 4, none⟩ = some (.int .u64 s1) := cell_of_block hx0 4
  have c5 : w0.cell? ⟨b, 5, none⟩ = some (.int .u64 s2) := cell_of_block hx0 5
  have c6 : w0.cell? ⟨b, 6, none⟩ = some (.int .u64 s3) := cell_of_block hx0 6
  have c7 : w0.cell? ⟨b, 7, none⟩ = some (.slice a l.length cap) := cell_of_block hx0 7
  have cl := lt_of_block hx0
  have d0 : w1.cell? ⟨b, 0, none⟩ = some (.int .i64 k) := cell_of_block K1 0
  have d1 : w1.cell? ⟨b, 1, none⟩ = some (.int .i64 mn) := cell_of_block K1 1
  have d2 : w1.cell? ⟨b, 2, none⟩ = some (.int .i64 mx) := cell_of_block K1 2
  have d3 : w1.cell? ⟨b, 3, none⟩ = some (.int .u64 s0) := cell_of_block K1 3
  have d4 : w1.cell? ⟨b, 4, none⟩ = some (.int .u64 s1) := cell_of_block K1 4
  have d5 : w1.cell? ⟨b, 5, none⟩ = some (.int .u64 s2) := cell_of_block K1 5
  have d6 : w1.cell? ⟨b, 6, none⟩ = some (.int .u64 s3) := cell_of_block K1 6
  have d7 : w1.cell? ⟨b, 7, none⟩ = some (.slice a l.length cap) := cell_of_block K1 7
  have dl := lt_of_block K1
  have e0 : w1.cell? ⟨(b + 1), 0, none⟩ = some (.int .i64 yk) := cell_of_block Y1 0
  have e1 : w1.cell? ⟨(b + 1), 1, none⟩ = some (.int .i64 ymn) := cell_of_block Y1 1
  have e2 : w1.cell? ⟨(b + 1), 2, none⟩ = some (.int .i64 ymx) := cell_of_block Y1 2
  have e3 : w1.cell? ⟨(b + 1), 3, none⟩ = some (.int .u64 t0) := cell_of_block Y1 3
  have e4 : w1.cell? ⟨(b + 1), 4, none⟩ = some (.int .u64 t1) := cell_of_block Y1 4
  have e5 : w1.cell? ⟨(b + 1), 5, none⟩ = some (.int .u64 t2) := cell_of_block Y1 5
  have e6 : w1.cell? ⟨(b + 1), 6, none⟩ = some (.int .u64 t3) := cell_of_block Y1 6
  have e7 : w1.cell? ⟨(b + 1), 7, none⟩ = some (.slice ya yl.length ycap) := cell_of_block Y1 7
  have el := lt_of_block Y1
  clear hx0 hy0 K1 Y1 hown hnew hl0 hl1 hl2 hb1 hs1 hb hw0 hw1 hv
  go_enter Tryd.func16, Tryd.ntmps16
  go_upto_region 1 with fail
  rw [HW0.out, HB.out]
  go_upto_region 2 with fail
  rw [HW1.out]
  go_upto_region 4 with fail
  rw [HV.out]
  go_wp2_with (first
    | (refine wpList_append_lies _ rfl (.tmp 15) (.tmp 18) 24 rfl w0.heap.size 26 i0 _ 8 80 Tryd.underlying24 hi hz0 hz1 hz2 rfl (by decide) v 1 (RxA.node k mn mx s0 s1 s2 s3 a cap l).cells rfl HOWN.out ⟨w1.heap.size, 0, none⟩ 2 2 [.int .i64 k, .int .i64 mn, .int .i64 mx, .int .u64 s0, .int .u64 s1, .int .u64 s2, .int .u64 s3, .slice a l.length cap, .int .i64 yk, .int .i64 ymn, .int .i64 ymx, .int .u64 t0, .int .u64 t1, .int .u64 t2, .int .u64 t3, .slice ya yl.length ycap] rfl rfl HNEW.out (by intro v hv; simp only [List.mem_cons, List.not_mem_nil, or_false] at hv; rcases hv with rfl | rfl | rfl | rfl | rfl | rfl | rfl | rfl | rfl | rfl | rfl | rfl | rfl | rfl | rfl | rfl <;> rfl) (by decide) (by unfold maxLen; omega) (by omega) (Below.size HL2.out) _ rfl ?_
       intro g c w3 hown3 hgrow hgat hglt)
    | fail)
  have hl3 : Later w0 w3 := Below.grown HL2.out hgrow (Below.size HL2.out) (fun q hq => (HOWN.out.lt q hq).1)
  have hlw : Later w w3 := HL0.out.trans hl3
  obtain ⟨p, c', he, hin⟩ := own_node (w := w3) (base := w0.heap.size) (v := .slice (some ⟨g, 0, none⟩) 3 c) (L := [(RxA.node k mn mx s0 s1 s2 s3 a cap l), (RxA.node k mn mx s0 s1 s2 s3 a cap l), (RxA.node yk ymn ymx t0 t1 t2 t3 ya ycap yl)]) hown3 (fun Z hZ => by
    have hx := (HX.out.below hlw (Nat.le_refl _)).later (Below.size hlw) (fun _ _ _ => rfl)
    have hy := (HY.out.below hlw (Nat.le_refl _)).later (Below.size hlw) (fun _ _ _ => rfl)
    simp only [List.mem_cons, List.not_mem_nil, or_false] at hZ
    rcases hZ with rfl | rfl | rfl
    · exact hx
    · exact hx
    · exact hy) (by show 3 ≤ 2000; omega)
  go_ret
  exact ⟨p, c', congrArg Ending.returned he, hin, hlw⟩
end Go.Proofs.YtjhclopdcbnmkaaDoor
