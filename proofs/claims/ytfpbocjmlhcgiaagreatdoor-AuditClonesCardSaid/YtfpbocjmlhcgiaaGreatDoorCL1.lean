/- Clones: the disk's. -/
import Derived.Test.YtfpbocjmlhcgiaaGreatDoorJg19
import Derived.Test.YtfpbocjmlhcgiaaGreatDoorCL3
import Derived.Laws.Rows
import Derived.BigQuiet
set_option linter.unusedSimpArgs false
set_option linter.unusedVariables false
namespace Go.Proofs.YtfpbocjmlhcgiaaGreatDoor
open Go.RowKit PJ Go.Maps Go.Shelf

theorem crow_heap (w : World) (g : Nat) (cur cs : Array Value) (t : TypeId) (h : w.heap[g]? = some (.cells cur t (0, 0))) : (w.setRow g cs).heap[g]? = some (.cells cs t (0, 0)) := setRow_heap w g cur cs t (0, 0) h
theorem crow_only (w : World) (g : Nat) (cs : Array Value) : OnlyJ (fun q => q = g) w (w.setRow g cs) := ⟨rfl, rfl, rfl, by rw [setRow_size]; exact Nat.le_refl _, fun q _ hne => setRow_other w g q cs hne⟩
theorem mclone_any (w : World) (b n : Nat) (D : DataW Unit) (hown : w.ownsMap Tryz.prog 3 (plainElem Tryz.prog 9) b n D) :
    Calls Tryz.prog 70 #[.map (some b)] w fun e w' => e = .returned (.map (some w.heap.size)) ∧ w'.ownsMap Tryz.prog 3 (plainElem Tryz.prog 9) w.heap.size n D ∧ LJ w w' := by
  have h := AnyW.maps_Clone_owns Tryz.icloneA 3 (plainElem Tryz.prog 9) b n D w hown
  change Calls Tryz.prog 70 _ _ _ at h
  exact h.mono (by rintro e w' ⟨rfl, h1, _, hB⟩; exact ⟨rfl, h1, hB⟩)
set_option maxRecDepth 100000 in
set_option maxHeartbeats 4000000 in
theorem dclone_any (w : World) (p g mb n : Nat) (safe : List UInt8) (U : Int → Option (List UInt8)) (h : DiskAt w p g mb n safe U) :
    Calls Tryz.prog 16 #[.pointer (some ⟨p, 0, none⟩)] w fun e w' => ∃ p' g' mb', e = .returned (.pointer (some ⟨p', 0, none⟩)) ∧ DiskAt w' p' g' mb' n safe U ∧ (w.heap.size ≤ p' ∧ w.heap.size ≤ g' ∧ w.heap.size ≤ mb') ∧ (p' < w'.heap.size ∧ g' < w'.heap.size ∧ mb' < w'.heap.size) ∧ LJ w w' := by
  obtain ⟨hl1, hl2, hl3, cap, cnt, ch, D, hp, hcap, hcs, hpg, hg, hmp, hmg, ho, hm, hcn⟩ := h
  have HCL := fun W (hW : LJ w W) => bclone_any W g cap safe (by omega) (Nat.lt_of_lt_of_le hg (Below.size hW)) (fun j hj => hW.cell (hcs j (by omega)).1)
  rw [hl1] at HCL
  have HCL := Lib.hid HCL
  have HMC := Lib.hid (fun W (hW : LJ w W) => show Calls Tryz.prog 70 #[.map (some mb)] W fun e w' => e = .returned (.map (some W.heap.size)) ∧ w'.ownsMap Tryz.prog 3 (plainElem Tryz.prog 9) W.heap.size cnt D ∧ LJ W w' from by
    obtain ⟨es, clock, h4, h5⟩ := ho
    exact mclone_any W mb cnt D ⟨es, clock, hW.block h4, h5⟩)
  have HP := Lib.hid hp
  have HPL := Lib.hid (lt_blk hp)
  have HD := Lib.hid (And.intro hl1 (And.intro hl2 (And.intro hl3 (And.intro hm hcn))))
  obtain ⟨m, hmm⟩ : ∃ m, 128 * n = m := ⟨_, rfl⟩
  have hm1 : 1 ≤ m := by omega
  rw [hmm] at HP HCL
  have HM := Lib.hid hmm
  clear hp hcs ho hm hcn hl1 hcap hpg hg hmp hmg hl2 hl3 hmm
  go_enter Tryz.func16, Tryz.ntmps16
  go_upto_region 1 with fail
  refine wp_region_held_drew (S := fun w' => w'.heap[p]? = some (.cells #[.slice (some ⟨g, 0, none⟩) m cap, .map (some mb), .int .i64 0, .slice ch.1 ch.2.1 ch.2.2, .bool false] 102 (0, 0))) (by kernel_rfl) HP.out (fun hHeld => ?_)
  have hL := Lib.hid (LJ.refl w).drew
  refine tkS 0 hHeld ?_
  refine tkS 1 hHeld ?_
  refine tkS 2 hHeld ?_
  refine tkS 3 hHeld ?_ (hy := by intro w hSw; have l0 := cell_blk hSw 0; have l1 := cell_blk hSw 1; have l2 := cell_blk hSw 2; have l3 := cell_blk hSw 3; have l4 := cell_blk hSw 4; go_simp; (try with_reducible rfl))
  refine tkS 5 hHeld ?_
  refine tkS 6 hHeld ?_
  refine tkS 7 hHeld ?_
  refine tkS 8 hHeld ?_ (hy := by intro w hSw; have l0 := cell_blk hSw 0; have l1 := cell_blk hSw 1; have l2 := cell_blk hSw 2; have l3 := cell_blk hSw 3; have l4 := cell_blk hSw 4; go_simp; (try with_reducible rfl))
  refine tkS 10 hHeld ?_
  refine tkS 11 hHeld ?_
  refine tkS 12 hHeld ?_
  refine tkS 13 hHeld ?_ (hy := by intro w hSw; have l0 := cell_blk hSw 0; have l1 := cell_blk hSw 1; have l2 := cell_blk hSw 2; have l3 := cell_blk hSw 3; have l4 := cell_blk hSw 4; go_simp; (try with_reducible rfl))
  refine tkS 14 hHeld ?_
  refine tkS 15 hHeld ?_
  refine tkS 16 hHeld ?_
  refine tkS 17 hHeld ?_ (hy := by intro w hSw; have l0 := cell_blk hSw 0; have l1 := cell_blk hSw 1; have l2 := cell_blk hSw 2; have l3 := cell_blk hSw 3; have l4 := cell_blk hSw 4; go_simp; (try with_reducible rfl))
  refine tkS 18 hHeld ?_
  refine tkS 19 hHeld ?_
  refine tkS 20 hHeld ?_
  refine tkS 21 hHeld ?_ (hy := by intro w hSw; have l0 := cell_blk hSw 0; have l1 := cell_blk hSw 1; have l2 := cell_blk hSw 2; have l3 := cell_blk hSw 3; have l4 := cell_blk hSw 4; go_simp; (try with_reducible rfl))
  refine wpAnyH_ready (rs := [4]) (by kernel_rfl) (by simp) ?_
  refine AllReadyH.cons rfl (fun K hK => ?_) AllReadyH.nil
  go_simp
  (with_reducible refine (HCL.out _ hL.out).mono ?_); rintro e w1 ⟨v1, rfl, hown1, hx⟩
  have HO1 := Lib.hid hown1
  have hS2 := hx.block hHeld
  have hL1 := Lib.hid (hL.out.trans hx)
  clear hx hown1
  refine hK.out _ _ hS2 (fun hHeld => ?_)
  clear hK K hS2
  refine wpAnyH_ready (rs := [9]) (by kernel_rfl) (by simp) ?_
  refine AllReadyH.cons rfl (fun K hK => ?_) AllReadyH.nil
  go_simp
  (with_reducible refine (HMC.out _ hL1.out).mono ?_); rintro e w2 ⟨rfl, hown2, hx⟩
  have HO2 := Lib.hid hown2
  have HL12 := Lib.hid hx
  have hS2 := hx.block hHeld
  have hL2 := Lib.hid (hL1.out.trans hx)
  clear hx hown2
  refine hK.out _ _ hS2 (fun hHeld => ?_)
  clear hK K hS2
  rcases HO1.out.2 with ⟨-, hz⟩ | ⟨og, ocap, ocur, rfl, hBo, hog, hoc, hom, -⟩
  · omega
  refine tkS 22 hHeld ?_
  refine wpAnyH_ready (rs := [23]) (by kernel_rfl) (by simp) ?_
  refine AllReadyH.cons rfl (fun K hK => ?_) AllReadyH.nil
  go_simp
  refine hK.out _ _ (((LJ.refl w2).alloc _).block hHeld) (fun hHeld => ?_)
  clear hK K
  refine tkS 24 hHeld ?_
  refine wpAnyH_done (by kernel_rfl) ?_ _
  go_simp
  go_wp2_with fail
  go_ret
  obtain ⟨d1, d2, d3, d4, d5⟩ := HD.out
  have hmn := HM.out
  have s1 := Below.size hL1.out
  have s12 := Below.size HL12.out
  have hlW : LJ w1 (w2.alloc (.cells #[.slice (some ⟨og, 0, none⟩) m ocap, .map (some w1.heap.size), .int .i64 0, .slice ch.1 ch.2.1 ch.2.2, .bool false] 102)) := HL12.out.alloc _
  have hl2W : LJ w2 (w2.alloc (.cells #[.slice (some ⟨og, 0, none⟩) m ocap, .map (some w1.heap.size), .int .i64 0, .slice ch.1 ch.2.1 ch.2.2, .bool false] 102)) := (LJ.refl w2).alloc _
  have hogl := lt_blk hog
  have hbo : w.heap.size ≤ og := hBo
  have hml := HO2.out.lt
  have hzW : (w2.alloc (.cells #[.slice (some ⟨og, 0, none⟩) m ocap, .map (some w1.heap.size), .int .i64 0, .slice ch.1 ch.2.1 ch.2.2, .bool false] 102)).heap.size = w2.heap.size + 1 := World.size_alloc _ _
  have hblk := alloc_blk w2 (.cells #[.slice (some ⟨og, 0, none⟩) m ocap, .map (some w1.heap.size), .int .i64 0, .slice ch.1 ch.2.1 ch.2.2, .bool false] 102)
  refine ⟨w2.heap.size, og, w1.heap.size, rfl, ⟨d1, d2, d3, ocap, cnt, ch, D, by rw [hmn]; exact hblk, by omega, fun j hj => ?_, by omega, by omega, by omega, by omega, ?_, d4, d5⟩, ⟨by omega, by omega, by omega⟩, ⟨by omega, by omega, by omega⟩, hL2.out.alloc _⟩
  · have hbk := Below.block hlW og hogl
    refine ⟨(World.cell?_of_block (a := ⟨og, j, none⟩) hbk).trans ?_, (World.frozen?_of_block (a := ⟨og, j, none⟩) hbk).trans (HO1.out.frozenAt j)⟩
    rw [HO1.out.cellAt j (by omega)]
    have hjl : j < safe.length := by omega
    simp [bys, hjl]
  · obtain ⟨es, clock, h4, h5⟩ := HO2.out
    exact ⟨es, clock, hl2W.block h4, h5⟩
end Go.Proofs.YtfpbocjmlhcgiaaGreatDoor
