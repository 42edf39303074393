/- The walk of castellanlaw05.rows for an alternative. (Built clean in session 4.) -/
import Derived.Test.YtjhclopdcbnmkaaDoorU3
set_option linter.unusedSimpArgs false
set_option linter.unusedVariables false
namespace Go.Proofs.YtjhclopdcbnmkaaDoor
open Go.RowKit PX

theorem own_later5 {w w' : World} {base : Nat} {e : TypeId} {size : Nat} {v : Value} {n : Nat} {xs : List Value} (h : w.ownsRow base e size v n xs) (hl : Later w w') : w'.ownsRow base e size v n xs := by
  refine ⟨h.1, ?_⟩
  rcases h.2 with h0 | ⟨g, cap, cur, hv, hg, hh, hr⟩
  · exact .inl h0
  · exact .inr ⟨g, cap, cur, hv, hg, hl.block hh, hr⟩
theorem rxCells_one5 (l : List RxA) : ∀ u ∈ rxCells l, u.oneCell' = true := by
  intro u hu
  induction l with
  | nil => cases hu
  | cons x l ih =>
    rcases List.mem_append.1 hu with h | h
    · exact rx_one x u h
    · exact ih h
set_option maxRecDepth 100000 in
set_option maxHeartbeats 4000000 in
theorem rows_alt (w : World) (mn mx s0 s1 s2 s3 : Int) (bl ol cap : Nat) (l : List RxA) (yk ymn ymx t0 t1 t2 t3 : Int) (ya : Option Addr) (ycap : Nat) (yl : List RxA)
    (hx : (RxA.node 2 mn mx s0 s1 s2 s3 (some ⟨bl, ol, none⟩) cap l).In w w.heap.size) (hy : (RxA.node yk ymn ymx t0 t1 t2 t3 ya ycap yl).In w w.heap.size) (hpos : 0 < l.length) (hlen : l.length ≤ 1000) (hcell : ∀ j u, (rxCells l)[j]? = some u → w.cell? ⟨bl, ol + j, none⟩ = some u) (hbl : bl < w.heap.size) (hel : ∀ Z ∈ l, Z.In w w.heap.size) :
    Calls Tryd.prog 16 #[(RxA.node 2 mn mx s0 s1 s2 s3 (some ⟨bl, ol, none⟩) cap l).val, (RxA.node yk ymn ymx t0 t1 t2 t3 ya ycap yl).val] w fun e w' => ∃ p c, e = .returned (.slice p (l ++ [(RxA.node 2 mn mx s0 s1 s2 s3 (some ⟨bl, ol, none⟩) cap l), (RxA.node yk ymn ymx t0 t1 t2 t3 ya ycap yl)]).length c) ∧ (RxA.node 2 0 0 0 0 0 0 p c (l ++ [(RxA.node 2 mn mx s0 s1 s2 s3 (some ⟨bl, ol, none⟩) cap l), (RxA.node yk ymn ymx t0 t1 t2 t3 ya ycap yl)])).In w' w'.heap.size ∧ Later w w' := by
  obtain ⟨i0, hi, hz0, hz1, hz2⟩ := info_parts info_rx3
  have HX := Lib.hid hx
  have HY := Lib.hid hy
  have HEL := Lib.hid hel
  clear hx hy hel
  simp only [RxA.val, RxA.cells]
  obtain ⟨w0, hw0⟩ : ∃ w0, (w.alloc (.cells #[.int .i64 2, .int .i64 mn, .int .i64 mx, .int .u64 s0, .int .u64 s1, .int .u64 s2, .int .u64 s3, .slice (some ⟨bl, ol, none⟩) l.length cap] 26)).alloc (.cells #[.int .i64 yk, .int .i64 ymn, .int .i64 ymx, .int .u64 t0, .int .u64 t1, .int .u64 t2, .int .u64 t3, .slice ya yl.length ycap] 26) = w0 := ⟨_, rfl⟩
  have hl0 : Later w w0 := by rw [← hw0]; exact ((Later.refl w).alloc _).alloc _
  have hx0 : w0.heap[w.heap.size]? = some (.cells #[.int .i64 2, .int .i64 mn, .int .i64 mx, .int .u64 s0, .int .u64 s1, .int .u64 s2, .int .u64 s3, .slice (some ⟨bl, ol, none⟩) l.length cap] 26 (0, 0)) := by rw [← hw0]; exact alloc_old (alloc_block w _) _
  have hy0 : w0.heap[w.heap.size + 1]? = some (.cells #[.int .i64 yk, .int .i64 ymn, .int .i64 ymx, .int .u64 t0, .int .u64 t1, .int .u64 t2, .int .u64 t3, .slice ya yl.length ycap] 26 (0, 0)) := by rw [← hw0]; exact alloc_block' _ _ _ (by simp)
  obtain ⟨w1, hw1⟩ : ∃ w1, w0.alloc (.cells #[.int .i64 2, .int .i64 mn, .int .i64 mx, .int .u64 s0, .int .u64 s1, .int .u64 s2, .int .u64 s3, .slice (some ⟨bl, ol, none⟩) l.length cap] 26) = w1 := ⟨_, rfl⟩
  have hl1 : Later w0 w1 := by rw [← hw1]; exact (Later.refl w0).alloc _
  have hl2 : Later w1 (w1.alloc (.cells #[] 26)) := (Later.refl w1).alloc _
  have hown : (w1.alloc (.cells #[] 26)).ownsRow w1.heap.size 26 8 (.slice (some ⟨w1.heap.size, 0, none⟩) 0 0) 0 [] := ⟨rfl, .inr ⟨w1.heap.size, 0, #[], rfl, Nat.le_refl _, alloc_block w1 _, Nat.le_refl _, by unfold maxLen; omega, rfl, rfl⟩⟩
  have hsrc : ∀ j u, (rxCells l)[j]? = some u → (w1.alloc (.cells #[] 26)).cell? ((⟨bl, ol, none⟩ : Addr).add j) = some u := fun j u hu => by
    rw [addr_add_none]
    exact ((hl0.trans (hl1.trans hl2)).cell (hcell j u hu))
  have HOWN := Lib.hid hown
  have HSRC := Lib.hid hsrc
  have HL0 := Lib.hid hl0
  have HL1 := Lib.hid hl1
  have HL2 := Lib.hid hl2
  have HW0 := Lib.hid hw0
  have HW1 := Lib.hid hw1
  have HX0 := Lib.hid hx0
  have HY0 := Lib.hid hy0
  have K1 := hl1.block hx0
  have K2 := (hl1.trans hl2).block hx0
  obtain ⟨b, hb⟩ : ∃ b, w.heap.size = b := ⟨_, rfl⟩
  rw [hb] at hx0 hy0 K1 K2 HX0 HY0
  have HB := Lib.hid hb
  have c0 : w0.cell? ⟨b, 0, none⟩ = some (.int .i64 2) := cell_of_block hx0 0
  have c1 : w0.cell? ⟨b, 1, none⟩ = some (.int .i64 mn) := cell_of_block hx0 1
  have c2 : w0.cell? ⟨b, 2, none⟩ = some (.int .i64 mx) := cell_of_block hx0 2
  have c3 : w0.cell? ⟨b, 3, none⟩ = some (.int .u64 s0) := cell_of_block hx0 3
  have c4 : w0.cell? ⟨b, 4, none⟩ = some (.int .u64 s1) := cell_of_block hx0 4
  have c5 : w0.cell? ⟨b, 5, none⟩ = some (.int .u64 s2) := cell_of_block hx0 5
  have c6 : w0.cell? ⟨b, 6, none⟩ = some (.int .u64 s3) := cell_of_block hx0 6
  have c7 : w0.cell? ⟨b, 7, none⟩ = some (.slice (some ⟨bl, ol, none⟩) l.length cap) := cell_of_block hx0 7
  have cl := lt_of_block hx0
  have d0 : w1.cell? ⟨b, 0, none⟩ = some (.int .i64 2) := cell_of_block K1 0
  have d1 : w1.cell? ⟨b, 1, none⟩ = some (.int .i64 mn) := cell_of_block K1 1
  have d2 : w1.cell? ⟨b, 2, none⟩ = some (.int .i64 mx) := cell_of_block K1 2
  have d3 : w1.cell? ⟨b, 3, none⟩ = some (.int .u64 s0) := cell_of_block K1 3
  have d4 : w1.cell? ⟨b, 4, none⟩ = some (.int .u64 s1) := cell_of_block K1 4
  have d5 : w1.cell? ⟨b, 5, none⟩ = some (.int .u64 s2) := cell_of_block K1 5
  have d6 : w1.cell? ⟨b, 6, none⟩ = some (.int .u64 s3) := cell_of_block K1 6
  have d7 : w1.cell? ⟨b, 7, none⟩ = some (.slice (some ⟨bl, ol, none⟩) l.length cap) := cell_of_block K1 7
  have dl := lt_of_block K1
  have e0 : (w1.alloc (.cells #[] 26)).cell? ⟨b, 0, none⟩ = some (.int .i64 2) := cell_of_block K2 0
  have e1 : (w1.alloc (.cells #[] 26)).cell? ⟨b, 1, none⟩ = some (.int .i64 mn) := cell_of_block K2 1
  have e2 : (w1.alloc (.cells #[] 26)).cell? ⟨b, 2, none⟩ = some (.int .i64 mx) := cell_of_block K2 2
  have e3 : (w1.alloc (.cells #[] 26)).cell? ⟨b, 3, none⟩ = some (.int .u64 s0) := cell_of_block K2 3
  have e4 : (w1.alloc (.cells #[] 26)).cell? ⟨b, 4, none⟩ = some (.int .u64 s1) := cell_of_block K2 4
  have e5 : (w1.alloc (.cells #[] 26)).cell? ⟨b, 5, none⟩ = some (.int .u64 s2) := cell_of_block K2 5
  have e6 : (w1.alloc (.cells #[] 26)).cell? ⟨b, 6, none⟩ = some (.int .u64 s3) := cell_of_block K2 6
  have e7 : (w1.alloc (.cells #[] 26)).cell? ⟨b, 7, none⟩ = some (.slice (some ⟨bl, ol, none⟩) l.length cap) := cell_of_block K2 7
  have el := lt_of_block K2
  clear hx0 hy0 K1 K2 hown hl0 hl1 hl2 hb hw0 hw1 hsrc hcell hbl
  go_enter Tryd.func16, Tryd.ntmps16
  go_upto_region 1 with fail
  rw [HW0.out, HB.out]
  go_upto_region 2 with fail
  rw [HW1.out]
  go_upto_region 4 with (first
    | (refine wpList_append_lies _ rfl (.tmp 11) (.tmp 13) 24 rfl w1.heap.size 26 i0 _ 8 80 Tryd.underlying24 hi hz0 hz1 hz2 rfl (by decide) (.slice (some ⟨w1.heap.size, 0, none⟩) 0 0) 0 [] rfl HOWN.out ⟨bl, ol, none⟩ l.length cap (rxCells l) rfl (rxCells_length l) HSRC.out (rxCells_one5 l) hpos (by unfold maxLen; omega) (by omega) (by simp) _ rfl ?_
       intro g c w3 hown3 hgrow hgat hglt)
    | fail)
  have hl3 : Later w1 w3 := Below.grown HL2.out hgrow (Below.size HL2.out) (fun q hq => (HOWN.out.lt q hq).1)
  have K3 := (HL1.out.trans hl3).block HX0.out
  have Y3 := (HL1.out.trans hl3).block HY0.out
  have f0 : w3.cell? ⟨b, 0, none⟩ = some (.int .i64 2) := cell_of_block K3 0
  have f1 : w3.cell? ⟨b, 1, none⟩ = some (.int .i64 mn) := cell_of_block K3 1
  have f2 : w3.cell? ⟨b, 2, none⟩ = some (.int .i64 mx) := cell_of_block K3 2
  have f3 : w3.cell? ⟨b, 3, none⟩ = some (.int .u64 s0) := cell_of_block K3 3
  have f4 : w3.cell? ⟨b, 4, none⟩ = some (.int .u64 s1) := cell_of_block K3 4
  have f5 : w3.cell? ⟨b, 5, none⟩ = some (.int .u64 s2) := cell_of_block K3 5
  have f6 : w3.cell? ⟨b, 6, none⟩ = some (.int .u64 s3) := cell_of_block K3 6
  have f7 : w3.cell? ⟨b, 7, none⟩ = some (.slice (some ⟨bl, ol, none⟩) l.length cap) := cell_of_block K3 7
  have fl := lt_of_block K3
  have g0 : w3.cell? ⟨(b + 1), 0, none⟩ = some (.int .i64 yk) := cell_of_block Y3 0
  have g1 : w3.cell? ⟨(b + 1), 1, none⟩ = some (.int .i64 ymn) := cell_of_block Y3 1
  have g2 : w3.cell? ⟨(b + 1), 2, none⟩ = some (.int .i64 ymx) := cell_of_block Y3 2
  have g3 : w3.cell? ⟨(b + 1), 3, none⟩ = some (.int .u64 t0) := cell_of_block Y3 3
  have g4 : w3.cell? ⟨(b + 1), 4, none⟩ = some (.int .u64 t1) := cell_of_block Y3 4
  have g5 : w3.cell? ⟨(b + 1), 5, none⟩ = some (.int .u64 t2) := cell_of_block Y3 5
  have g6 : w3.cell? ⟨(b + 1), 6, none⟩ = some (.int .u64 t3) := cell_of_block Y3 6
  have g7 : w3.cell? ⟨(b + 1), 7, none⟩ = some (.slice ya yl.length ycap) := cell_of_block Y3 7
  have gl := lt_of_block Y3
  simp only [Nat.zero_add, List.nil_append] at hown3 ⊢
  have hnew := cells_new w3 [.int .i64 2, .int .i64 mn, .int .i64 mx, .int .u64 s0, .int .u64 s1, .int .u64 s2, .int .u64 s3, .slice (some ⟨bl, ol, none⟩) l.length cap, .int .i64 yk, .int .i64 ymn, .int .i64 ymx, .int .u64 t0, .int .u64 t1, .int .u64 t2, .int .u64 t3, .slice ya yl.length ycap] 26
  have hlx : Later w3 (w3.alloc (.cells ([.int .i64 2, .int .i64 mn, .int .i64 mx, .int .u64 s0, .int .u64 s1, .int .u64 s2, .int .u64 s3, .slice (some ⟨bl, ol, none⟩) l.length cap, .int .i64 yk, .int .i64 ymn, .int .i64 ymx, .int .u64 t0, .int .u64 t1, .int .u64 t2, .int .u64 t3, .slice ya yl.length ycap] : List Value).toArray 26)) := (Later.refl w3).alloc _
  have hown4 := own_later5 hown3 hlx
  obtain ⟨v, hv⟩ : ∃ v, Value.slice (some ⟨g, 0, none⟩) l.length c = v := ⟨_, rfl⟩
  rw [hv] at hown4
  have HOWN4 := Lib.hid hown4
  have HNEW := Lib.hid hnew
  have HLX := Lib.hid (hl3.trans hlx)
  have HV := Lib.hid hv
  rw [hv]
  clear hown3 hown4 hnew hv hlx hgrow hgat hglt K3 Y3 hl3
  go_wp2_with (first
    | (refine wpList_append_lies _ rfl (.tmp 15) (.tmp 18) 24 rfl w1.heap.size 26 i0 _ 8 80 Tryd.underlying24 hi hz0 hz1 hz2 rfl (by decide) v l.length (rxCells l) rfl HOWN4.out ⟨w3.heap.size, 0, none⟩ 2 2 [.int .i64 2, .int .i64 mn, .int .i64 mx, .int .u64 s0, .int .u64 s1, .int .u64 s2, .int .u64 s3, .slice (some ⟨bl, ol, none⟩) l.length cap, .int .i64 yk, .int .i64 ymn, .int .i64 ymx, .int .u64 t0, .int .u64 t1, .int .u64 t2, .int .u64 t3, .slice ya yl.length ycap] rfl rfl HNEW.out (by intro v hv; simp only [List.mem_cons, List.not_mem_nil, or_false] at hv; rcases hv with rfl | rfl | rfl | rfl | rfl | rfl | rfl | rfl | rfl | rfl | rfl | rfl | rfl | rfl | rfl | rfl <;> rfl) (by decide) (by unfold maxLen; omega) (by omega) (Below.size HLX.out) _ rfl ?_
       intro g2 c2 w4 hown5 hgrow5 hgat5 hglt5)
    | fail)
  have hl5 : Later w1 w4 := Below.grown HLX.out hgrow5 (Below.size HLX.out) (fun q hq => (HOWN4.out.lt q hq).1)
  have hlw : Later w w4 := HL0.out.trans (HL1.out.trans hl5)
  have hlen2 : (l ++ [(RxA.node 2 mn mx s0 s1 s2 s3 (some ⟨bl, ol, none⟩) cap l), (RxA.node yk ymn ymx t0 t1 t2 t3 ya ycap yl)]).length = l.length + 2 := by simp
  have hrow : rxCells (l ++ [(RxA.node 2 mn mx s0 s1 s2 s3 (some ⟨bl, ol, none⟩) cap l), (RxA.node yk ymn ymx t0 t1 t2 t3 ya ycap yl)]) = rxCells l ++ [.int .i64 2, .int .i64 mn, .int .i64 mx, .int .u64 s0, .int .u64 s1, .int .u64 s2, .int .u64 s3, .slice (some ⟨bl, ol, none⟩) l.length cap, .int .i64 yk, .int .i64 ymn, .int .i64 ymx, .int .u64 t0, .int .u64 t1, .int .u64 t2, .int .u64 t3, .slice ya yl.length ycap] := by rw [rxCells_append]; rfl
  obtain ⟨p, c', he, hin⟩ := own_node (w := w4) (base := w1.heap.size) (v := .slice (some ⟨g2, 0, none⟩) (l.length + 2) c2) (L := l ++ [(RxA.node 2 mn mx s0 s1 s2 s3 (some ⟨bl, ol, none⟩) cap l), (RxA.node yk ymn ymx t0 t1 t2 t3 ya ycap yl)]) (by rw [hlen2, hrow]; exact hown5) (fun Z hZ => by
    have hx := (HX.out.below hlw (Nat.le_refl _)).later (Below.size hlw) (fun _ _ _ => rfl)
    have hy := (HY.out.below hlw (Nat.le_refl _)).later (Below.size hlw) (fun _ _ _ => rfl)
    rcases List.mem_append.1 hZ with hZ | hZ
    · exact ((HEL.out Z hZ).below hlw (Nat.le_refl _)).later (Below.size hlw) (fun _ _ _ => rfl)
    · simp only [List.mem_cons, List.not_mem_nil, or_false] at hZ
      rcases hZ with rfl | rfl
      · exact hx
      · exact hy) (by rw [hlen2]; omega)
  go_ret
  exact ⟨p, c', congrArg Ending.returned he, hin, hlw⟩
end Go.Proofs.YtjhclopdcbnmkaaDoor
