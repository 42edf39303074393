/- The walk of (*Machine).add. -/
import Derived.Test.YtaelkjffidjcjaaDoorOnly
set_option linter.unusedSimpArgs false
set_option linter.unusedVariables false
namespace Go.Proofs.YtaelkjffidjcjaaDoor
open Go.RowKit PX

def stVal (st : St) : Value := .agg (stCells st).toArray

set_option maxRecDepth 100000 in
set_option maxHeartbeats 2000000 in
theorem add_any (st : St) (w : World) (base p : Nat) (v : Value) (ws : List Value) (g : List St) (h : MachAt w base p v ws g) (hf : g.length < 100000) :
    Calls Tryd.prog 52 #[.pointer (some ⟨p, 0, none⟩), stVal st] w fun e w' => e = .returned (.int .i64 g.length) ∧
      ∃ v', MachAt w' base p v' ws (g ++ [st]) ∧ Keeps base p w w' := by
  have HST := Lib.hid h.stRow
  obtain ⟨hblk, hw12, hrow, hap, hbase, -⟩ := h
  obtain ⟨k, nx, ot, s0, s1, s2, s3⟩ := st
  have hp := lt_of_block hblk
  have hlt := Lib.hid hrow.lt
  have hcp := cell_of_block hblk 0
  have hc : w.cell? ⟨p, 0, none⟩ = some v := by rw [hcp]; rfl
  clear hcp
  have hfr := free_of_block hblk 0
  obtain ⟨i0, hi, hz0, hz1, hz2⟩ := info_parts info_state
  show Calls Tryd.prog 52 #[.pointer (some ⟨p, 0, none⟩), .agg #[.int .i64 k, .int .i64 nx, .int .i64 ot, .int .u64 s0, .int .u64 s1, .int .u64 s2, .int .u64 s3]] w _
  have hc1 : (w.alloc (.cells #[.int .i64 k, .int .i64 nx, .int .i64 ot, .int .u64 s0, .int .u64 s1, .int .u64 s2, .int .u64 s3] 63)).cell? ⟨p, 0, none⟩ = some v := by rw [World.cell?_alloc_past _ _ _ hp]; exact hc
  have hrow1 := (hrow.alloc (.cells #[.int .i64 k, .int .i64 nx, .int .i64 ot, .int .u64 s0, .int .u64 s1, .int .u64 s2, .int .u64 s3] 63))
  have HROW := Lib.hid hrow1; clear hrow1 hrow
  have HB := Lib.hid hblk; clear hblk
  go_enter Tryd.func52, Tryd.ntmps52
  go_wp2_with fail
  have H1 : ∀ u ∈ [Value.int .i64 k, .int .i64 nx, .int .i64 ot, .int .u64 s0, .int .u64 s1, .int .u64 s2, .int .u64 s3], u.oneCell' = true := by
    intro u hu
    simp only [List.mem_cons, List.not_mem_nil, or_false] at hu
    rcases hu with rfl | rfl | rfl | rfl | rfl | rfl | rfl <;> rfl
  have H1 := Lib.hid H1
  go_region_law (((refine step_append_own rfl _ _ 64 rfl base 63 i0 _ 7 56 Tryd.underlying64 hi hz0 hz1 hz2 rfl (by decide) v g.length (stsCells g) rfl ((HROW.out.alloc _).drew) ⟨w.heap.size + 1, 0, none⟩ 1 1 [.int .i64 k, .int .i64 nx, .int .i64 ot, .int .u64 s0, .int .u64 s1, .int .u64 s2, .int .u64 s3] rfl rfl (by have := cells_new_drew (w.alloc (.cells #[.int .i64 k, .int .i64 nx, .int .i64 ot, .int .u64 s0, .int .u64 s1, .int .u64 s2, .int .u64 s3] 63)) [.int .i64 k, .int .i64 nx, .int .i64 ot, .int .u64 s0, .int .u64 s1, .int .u64 s2, .int .u64 s3] 63; simpa only [World.size_alloc] using this) H1.out (by unfold maxLen; omega) (by omega) (by simp; omega) ?_); intro v' w1 hown hgrow _; obtain ⟨g', cap', rfl, hcap1, hcap2⟩ := ownsRow_pos hown (by omega); have hc2 : w1.cell? ⟨p, 0, none⟩ = some v := hgrow.cell (a := ⟨p, 0, none⟩) (by show ((w.alloc _).alloc _).cell? _ = _; rw [World.cell?_alloc_past _ _ _ (by simp; omega)]; exact hc1) (Ne.symm hap); have hf2 : w1.frozen? ⟨p, 0, none⟩ = false := by (rw [World.frozen?_of_block (w := (w.alloc _).alloc _) (hgrow.block p (by simp; omega) (Ne.symm hap)), World.frozen?_alloc_past _ _ _ (by simp; omega), World.frozen?_alloc_past _ _ _ hp]; exact hfr)))
  all_goals
    go_wp2_with fail
    go_ret
    have hb2 : w1.heap[p]? = some (.cells (v :: ws).toArray 68 (0, 0)) := by
      rw [hgrow.block p (by simp; omega) (Ne.symm hap)]
      exact alloc_old (alloc_old HB.out _) _
    have hne : g' ≠ p := by
      rintro rfl
      rcases hown.2 with ⟨h0, _⟩ | ⟨g2, cap2, cur, he, _, hh, _⟩
      · cases h0
      · cases he; rw [hb2] at hh; cases hh
    refine ⟨ret_int (by omega), .slice (some ⟨g', 0, none⟩) (g.length + 1) cap', ⟨?_, hw12, ?_, ?_, ?_, ?_⟩, ?_⟩
    · rw [setCell_block hb2]; simp
    · have := (Only.setCell (Only.refl (fun k => k = p) w1) (p := ⟨p, 0, none⟩) (.inl rfl) (.slice (some ⟨g', 0, none⟩) (g.length + 1) cap')).ownsRow hown (by intro k hk hkp; simp only [Value.ownBlock, Option.some.injEq] at hk; omega)
      rw [stsCells_append, List.length_append]
      exact this
    · simp only [Value.ownBlock, ne_eq, Option.some.injEq]; exact hne
    · have := hgrow.size; simp at this; simp [World.setCell]; omega
    · simp; omega
    · refine Only.setCell (Only.grown (Only.drew (((Keeps.refl base p w).alloc _).alloc _)) hgrow fun k hk => .inl (.inr (HST.out k hk))) (.inl (.inl rfl)) _
end Go.Proofs.YtaelkjffidjcjaaDoor
