/- The power goes, nothing chosen of what is unsafe: the disk's left, After, dies, Crash; Revive. -/
import Derived.Test.YtfpbocjmlhcgiaaGreatDoorJg16
import Derived.Maps.RangeWalk
set_option linter.unusedSimpArgs false
set_option linter.unusedVariables false
namespace Go.Proofs.YtfpbocjmlhcgiaaGreatDoor
open Go.RowKit PJ Go.Maps

theorem plain_inv {v : Value} {y : DataW Unit × List MemPlace} (h : plainElem (H := Unit) Tryz.prog 9 v = some y) : ∃ s, v = .string s := by
  have hu := Tryz.underlying9
  cases v with
  | string s => exact ⟨s, rfl⟩
  | _ =>
    exfalso
    generalize Tryz.prog = P at h hu
    simp [plainElem, hu] at h
theorem LJ.own {w w' : World} {B : Nat} {T : TypeId} {s : Nat} {v : Value} {n : Nat} {xs : List Value} (h : w.ownsRow B T s v n xs) (hb : LJ w w') : w'.ownsRow B T s v n xs := own_below h hb
set_option maxRecDepth 100000 in
theorem bclone_any (w : World) (g cap : Nat) (l : List UInt8) (hl : l.length ≤ 1000000) (hg : g < w.heap.size) (hc : ∀ j, j < l.length → w.cell? ⟨g, j, none⟩ = some (.int .u8 ((l.getD j 0).toNat : Int))) :
    Calls Tryz.prog 69 #[.slice (some ⟨g, 0, none⟩) l.length cap] w fun e w' => ∃ v, e = .returned v ∧ w'.ownsRow w.heap.size 5 1 v l.length (bys l) ∧ LJ w w' := by
  have heq : (binOp .eql 99 (.slice (some ⟨g, 0, none⟩) l.length cap) (.slice none 0 0)).run Tryz.prog w = .ok (.bool false) w := run_eql_slice_nil w _ _ (some ⟨g, 0, none⟩) l.length cap Tryz.underlying99
  obtain ⟨iK, hiK, hzK, hsK, hbK⟩ := info_parts info_u8
  have hcells : ∀ j u, (bys l)[j]? = some u → w.cell? ⟨g, 0 + j, none⟩ = some u := by
    intro j u hu
    have hj : j < l.length := by have := (List.getElem?_eq_some_iff.1 hu).1; simpa [bys] using this
    have e : (bys l)[j]? = some (.int .u8 ((l[j]).toNat : Int)) := by simp [bys, hj]
    rw [e] at hu
    rw [Nat.zero_add, hc j hj, List.getD_eq_getElem?_getD, List.getElem?_eq_getElem hj]
    exact hu
  have HC := Lib.hid hcells
  have HL := Lib.hid (show (bys l).length = l.length * 1 by simp [bys])
  have HO := Lib.hid (show ∀ u ∈ bys l, u.oneCell' = true by
    intro u hu
    obtain ⟨c, -, rfl⟩ := List.mem_map.1 hu
    rfl)
  obtain ⟨n, hnn⟩ : ∃ n, l.length = n := ⟨_, rfl⟩
  rw [hnn] at HL heq hl ⊢
  clear hc hcells hnn
  go_enter Tryz.func69, Tryz.ntmps69
  go_wp2_with (first
    | (at_builtin; refine wpList_append_own _ rfl (.tmp 5) (.tmp 6) 99 rfl w.heap.size 5 iK (.int .u8 0) 1 1 Tryz.underlying99 hiK hzK hsK hbK rfl (by decide) _ 0 [] rfl ⟨rfl, Or.inr ⟨w.heap.size, 0, #[], rfl, Nat.le_refl _, alloc_blk w _, Nat.le_refl _, by unfold maxLen; omega, rfl, rfl⟩⟩ ⟨g, 0, none⟩ n cap (bys l) rfl HL.out (fun j u hu => by rw [addr_none]; exact ((alloc_below w _).cell (p := ⟨g, 0 + j, none⟩) hg).trans (HC.out j u hu)) HO.out (by unfold maxLen; omega) (by omega) (by simp) ?_; intro v' w1 hown1 hgrow1 _)
    | fail)
  go_ret
  have h7 : w.heap.size ≤ w1.heap.size := Nat.le_trans (alloc_below w (.cells #[] 5)).size hgrow1.size
  rw [Nat.zero_add, List.nil_append] at hown1
  exact ⟨_, rfl, hown1, ⟨hgrow1.os, hgrow1.tape, hgrow1.output, h7, fun k hk => (hgrow1.block k (Nat.lt_of_lt_of_le hk (alloc_below w (.cells #[] 5)).size) (fun e => absurd (Option.some.inj (show some k = some w.heap.size from e)) (Nat.ne_of_lt hk))).trans (Below.heap_alloc _ _ _ hk)⟩⟩
/-- A disk whose power is gone, nothing unsafe. -/
def DeadAt (w : World) (p g mb n : Nat) (safe : List UInt8) : Prop :=
  safe.length = 128 * n ∧ 1 ≤ n ∧ n ≤ 4096 ∧ ∃ cap, ∃ ch : Option Addr × Nat × Nat, w.heap[p]? = some (.cells #[.slice (some ⟨g, 0, none⟩) (128 * n) cap, .map (some mb), .int .i64 0, .slice ch.1 ch.2.1 ch.2.2, .bool true] 102 (0, 0)) ∧ 128 * n ≤ cap ∧
    (∀ j, j < 128 * n → w.cell? ⟨g, j, none⟩ = some (.int .u8 ((safe.getD j 0).toNat : Int)) ∧ w.frozen? ⟨g, j, none⟩ = false) ∧ p ≠ g ∧ g < w.heap.size ∧ mb ≠ p ∧ mb ≠ g ∧ w.heap[mb]? = some (.map #[] 0)
theorem DeadAt.born (w1 w2 w3 : World) (p n : Nat) (s : ByteArray) (safe : List UInt8) (hs : s.data.toList = safe) (hl : safe.length = 128 * n) (h1 : 1 ≤ n) (h2 : n ≤ 4096) (hp : p < w1.heap.size) (cap : Nat) (hcap : grownCap w1 s.size 0 5 = cap) (hw2 : Lib.bytesWorld w1 5 s = w2) (hw3 : w2.alloc (.map #[] 0) = w3)
    (cs : Array Value) (ch : Option Addr × Nat × Nat) (hcs : ((((cs.setIfInBounds 0 (.slice (some ⟨w1.heap.size, 0, none⟩) s.size cap)).setIfInBounds 1 (.map (some (w1.heap.size + 1)))).setIfInBounds 2 (.int .i64 0)).setIfInBounds 4 (.bool true)) = #[.slice (some ⟨w1.heap.size, 0, none⟩) s.size cap, .map (some (w1.heap.size + 1)), .int .i64 0, .slice ch.1 ch.2.1 ch.2.2, .bool true])
    (hc : w3.heap[p]? = some (.cells cs 102 (0, 0))) (w' : World)
    (hw' : ((((w3.setCell ⟨p, 0, none⟩ (.slice (some ⟨w1.heap.size, 0, none⟩) s.size cap)).setCell ⟨p, 1, none⟩ (.map (some (w1.heap.size + 1)))).setCell ⟨p, 2, none⟩ (.int .i64 0)).setCell ⟨p, 4, none⟩ (.bool true)) = w') :
    DeadAt w' p w1.heap.size (w1.heap.size + 1) n safe ∧ w1.heap.size + 1 < w'.heap.size ∧ OnlyJ (fun q => q = p) w3 w' := by
  have hsz : s.size = 128 * n := by rw [← hl, ← hs, Array.length_toList]; rfl
  have hge : s.size ≤ cap := by rw [← hcap]; exact grownCap_ge _ _ _ _
  have hz2 : w2.heap.size = w1.heap.size + 1 := by rw [← hw2]; exact Lib.bytesWorld_size _ _ _
  have hz3 : w3.heap.size = w1.heap.size + 1 + 1 := by rw [← hw3, World.size_alloc, hz2]
  have ho : OnlyJ (fun q => q = p) w3 w' := by
    rw [← hw']
    exact (((setCell_only w3 p 0 _).trans (setCell_only _ p 1 _)).trans (setCell_only _ p 2 _)).trans (setCell_only _ p 4 _)
  have hcell : ∀ j, j < s.size → w2.cell? ⟨w1.heap.size, j, none⟩ = some (.int .u8 (s.data.toList.getD j 0).toNat) := fun j hj => by rw [← hw2]; exact Lib.bytesWorld_cell _ _ _ _ hj
  have hfr : ∀ j, j < s.size → w2.frozen? ⟨w1.heap.size, j, none⟩ = false := fun j hj => by
    rw [← hw2]
    simp only [World.frozen?, Lib.bytesWorld_at_new]
    have hb : s.size ≤ (Lib.bytesCells w1 5 s).size := by
      simp [Lib.bytesCells]
    simp
    omega
  have hg3 : w3.heap[w1.heap.size]? = w2.heap[w1.heap.size]? := by rw [← hw3]; exact Below.heap_alloc _ _ _ (by omega)
  have hg' : w'.heap[w1.heap.size]? = w2.heap[w1.heap.size]? := (ho.block _ (by omega) (by show w1.heap.size ≠ p; omega)).trans hg3
  have hm' : w'.heap[w1.heap.size + 1]? = some (.map #[] 0) := by
    rw [ho.block _ (by omega) (by show w1.heap.size + 1 ≠ p; omega), ← hw3]
    have := alloc_blk w2 (.map #[] 0)
    rw [hz2] at this
    exact this
  have hp' : w'.heap[p]? = some (.cells #[.slice (some ⟨w1.heap.size, 0, none⟩) s.size cap, .map (some (w1.heap.size + 1)), .int .i64 0, .slice ch.1 ch.2.1 ch.2.2, .bool true] 102 (0, 0)) := by
    have c4 := heap_setCell_same _ _ 4 _ _ (.bool true) (heap_setCell_same _ _ 2 _ _ (.int .i64 0) (heap_setCell_same _ _ 1 _ _ (.map (some (w1.heap.size + 1))) (heap_setCell_same _ _ 0 _ _ (.slice (some ⟨w1.heap.size, 0, none⟩) s.size cap) hc)))
    rw [hw', hcs] at c4
    exact c4
  have hsz' := ho.size
  refine ⟨⟨hl, h1, h2, cap, ch, by rw [← hsz]; exact hp', by omega, fun j hj => ?_, by omega, by omega, by omega, by omega, hm'⟩, by omega, ho⟩
  rw [← hs]
  exact ⟨(World.cell?_of_block (a := ⟨w1.heap.size, j, none⟩) hg').trans (hcell j (by omega)), (World.frozen?_of_block (a := ⟨w1.heap.size, j, none⟩) hg').trans (hfr j (by omega))⟩
end Go.Proofs.YtfpbocjmlhcgiaaGreatDoor
