/- Jg14, merged: J53 J54. -/
import Derived.Test.YtfpbocjmlhcgiaaGreatDoorJ52
import Derived.Lib.FrozenHead
import Derived.Lib.UnsafeStr
set_option linter.unusedSimpArgs false
set_option linter.unusedVariables false
/- Writes cloned; their cells. -/
namespace Go.Proofs.YtfpbocjmlhcgiaaGreatDoor
open Go.RowKit PJ Go.Maps

def wsC (xs : List Wr) : List Value := xs.flatMap fun x => [.int .i64 x.cell, .string x.data]
theorem wsC_cons (x : Wr) (r : List Wr) : wsC (x :: r) = .int .i64 x.cell :: .string x.data :: wsC r := rfl
theorem wsC_len : ∀ xs : List Wr, (wsC xs).length = xs.length * 2
  | [] => rfl
  | x :: r => by rw [wsC_cons, List.length_cons, List.length_cons, wsC_len r, List.length_cons]; omega
theorem wsC_get : ∀ (xs : List Wr) (j : Nat) (x : Wr), xs[j]? = some x → (wsC xs)[j * 2]? = some (.int .i64 x.cell) ∧ (wsC xs)[j * 2 + 1]? = some (.string x.data)
  | x :: r, 0, k, h => by
    obtain rfl : x = k := by simpa using h
    exact ⟨rfl, rfl⟩
  | x :: r, j + 1, k, h => by
    have ih := wsC_get r j k (by simpa using h)
    have e : ∀ m, (wsC (x :: r))[(j + 1) * 2 + m]? = (wsC r)[j * 2 + m]? := fun m => by
      rw [wsC_cons, show (j + 1) * 2 + m = j * 2 + m + 1 + 1 from by omega]
      rfl
    exact ⟨(e 0).trans ih.1, (e 1).trans ih.2⟩
theorem wsC_set : ∀ (xs : List Wr) (j : Nat) (x : Wr) (d : ByteArray), xs[j]? = some x → (wsC xs).set (j * 2 + 1) (.string d) = wsC (xs.set j ⟨x.cell, d⟩)
  | y :: r, 0, x, d, h => by
    obtain rfl : y = x := by simpa using h
    rfl
  | y :: r, j + 1, x, d, h => by
    have ih := wsC_set r j x d (by simpa using h)
    rw [List.set_cons_succ, wsC_cons, wsC_cons, ← ih, show (j + 1) * 2 + 1 = (j * 2 + 1) + 1 + 1 from by omega]
    rfl
theorem wsC_one (xs : List Wr) : ∀ u ∈ wsC xs, u.oneCell' = true := by
  intro u hu
  unfold wsC at hu
  obtain ⟨x, -, hx⟩ := List.mem_flatMap.1 hu
  simp only [List.mem_cons, List.not_mem_nil, or_false] at hx
  rcases hx with rfl | rfl <;> rfl
theorem info_write : (Tryz.prog.info? 130).map (fun i => (i.zero, i.size, i.bytes)) = some (some (.agg #[.int .i64 0, .string ⟨#[]⟩]), 2, 24) := by kernel_rfl
set_option maxRecDepth 100000 in
theorem wclone_any (w : World) (g off cap : Nat) (xs : List Wr) (hn : xs.length ≤ 40) (hg : g < w.heap.size) (hc : ∀ j x, xs[j]? = some x → WrCells w g (off + j * 2) x) :
    Calls Tryz.prog 140 #[.slice (some ⟨g, off, none⟩) xs.length cap] w fun e w' => ∃ v, e = .returned v ∧ w'.ownsRow w.heap.size 130 2 v xs.length (wsC xs) ∧ LJ w w' := by
  have heq : (binOp .eql 131 (.slice (some ⟨g, off, none⟩) xs.length cap) (.slice none 0 0)).run Tryz.prog w = .ok (.bool false) w := run_eql_slice_nil w _ _ (some ⟨g, off, none⟩) xs.length cap Tryz.underlying131
  obtain ⟨iK, hiK, hzK, hsK, hbK⟩ := info_parts info_write
  have hcells : ∀ j u, (wsC xs)[j]? = some u → w.cell? ⟨g, off + j, none⟩ = some u := by
    intro j u hu
    have hj : j < xs.length * 2 := by rw [← wsC_len]; exact (List.getElem?_eq_some_iff.1 hu).1
    obtain ⟨x, hx⟩ : ∃ x, xs[j / 2]? = some x := ⟨_, List.getElem?_eq_getElem (by omega)⟩
    obtain ⟨q1, q2⟩ := wsC_get xs (j / 2) x hx
    obtain ⟨p1, p2⟩ := hc (j / 2) x hx
    rcases (by omega : j = j / 2 * 2 ∨ j = j / 2 * 2 + 1) with e | e
    · rw [← e] at q1 p1
      rw [q1] at hu
      rw [p1, hu]
    · rw [← e] at q2
      rw [Nat.add_assoc, ← e] at p2
      rw [q2] at hu
      rw [p2, hu]
  have HC := Lib.hid hcells
  have HL := Lib.hid (wsC_len xs)
  obtain ⟨n, hnn⟩ : ∃ n, xs.length = n := ⟨_, rfl⟩
  rw [hnn] at HL heq hn ⊢
  clear hc hcells hnn
  go_enter Tryz.func140, Tryz.ntmps140
  go_wp2_with (first
    | (at_builtin; refine wpList_append_own _ rfl (.tmp 5) (.tmp 6) 131 rfl w.heap.size 130 iK (.agg #[.int .i64 0, .string ⟨#[]⟩]) 2 24 Tryz.underlying131 hiK hzK hsK hbK rfl (by decide) _ 0 [] rfl ⟨rfl, Or.inr ⟨w.heap.size, 0, #[], rfl, Nat.le_refl _, alloc_blk w _, Nat.le_refl _, by unfold maxLen; omega, rfl, rfl⟩⟩ ⟨g, off, none⟩ n cap (wsC xs) rfl HL.out (fun j u hu => by rw [addr_none]; exact ((alloc_below w _).cell (p := ⟨g, off + j, none⟩) hg).trans (HC.out j u hu)) (wsC_one xs) (by unfold maxLen; omega) (by omega) (by simp) ?_; intro v' w1 hown1 hgrow1 _)
    | fail)
  go_ret
  have h7 : w.heap.size ≤ w1.heap.size := Nat.le_trans (alloc_below w (.cells #[] 130)).size hgrow1.size
  rw [Nat.zero_add, List.nil_append] at hown1
  exact ⟨_, rfl, hown1, ⟨hgrow1.os, hgrow1.tape, hgrow1.output, h7, fun k hk => (hgrow1.block k (Nat.lt_of_lt_of_le hk (alloc_below w (.cells #[] 130)).size) (fun e => absurd (Option.some.inj (show some k = some w.heap.size from e)) (Nat.ne_of_lt hk))).trans (Below.heap_alloc _ _ _ hk)⟩⟩
end Go.Proofs.YtfpbocjmlhcgiaaGreatDoor
/- A strings.Builder that a call has made itself: WriteString, also behind String (the program's copyCheck refuses a copied builder; of the call's own it stores the address). -/
namespace Go.Proofs.YtfpbocjmlhcgiaaGreatDoor
open Go.RowKit PJ Go.Maps

theorem jb_size : (Tryz.prog.info? 164).map (·.size) = some 2 := by kernel_rfl
theorem jb_lies : liesAt Tryz.prog Tryz.prog.depth 164 (2 / Tryz.prog.cellsOf 164) 0 164 1 = true := by kernel_rfl
/-- A builder at block b that holds bytes. -/
def JB (B b : Nat) (l : List UInt8) (w : World) : Prop := Lib.IsBuilderF 164 5 B b (Lib.byteCells l) w
set_option maxHeartbeats 1000000 in
set_option maxRecDepth 100000 in
theorem jcheck_used (b : Nat) (w : World) (h0 : w.cell? ⟨b, 0, none⟩ = some (.pointer (some ⟨b, 0, none⟩))) :
    Calls Tryz.prog 162 #[.pointer (some ⟨b, 0, none⟩)] w fun e w' => e = .returned (.tuple #[]) ∧ w' = w := by
  obtain ⟨j, hj, -⟩ := Option.map_eq_some_iff.1 jb_size
  go_enter Tryz.func162, Tryz.ntmps162
  go_wp2
  rw [Lib.run_neq_ptr_same w _ Tryz.underlying162 hj]
  go_wp2
  go_end0
  exact ⟨rfl, rfl⟩
set_option maxHeartbeats 1000000 in
set_option maxRecDepth 100000 in
theorem jcheck_fresh (b : Nat) (w : World) (h0 : w.cell? ⟨b, 0, none⟩ = some (.pointer none)) (hsh : w.shape? b = some (164, 2)) (hfz : w.frozen? ⟨b, 0, none⟩ = false) :
    Calls Tryz.prog 162 #[.pointer (some ⟨b, 0, none⟩)] w fun e w' => e = .returned (.tuple #[]) ∧ w' = w.setCell ⟨b, 0, none⟩ (.pointer (some ⟨b, 0, none⟩)) := by
  obtain ⟨j, hj, hjs⟩ := Option.map_eq_some_iff.1 jb_size
  go_enter Tryz.func162, Tryz.ntmps162
  go_wp2
  rw [Lib.run_to_unsafe w ⟨b, 0, none⟩ Tryz.underlying162 Tryz.underlying249 hj (by rw [hjs]; decide) hsh (Nat.zero_lt_succ 1)]
  simp only [Result.andThen]
  rw [Oper.upon_value]
  go_wp2
  rw [run_callFunc_extern Tryz.func208 (by kernel_rfl) (by kernel_rfl) (by kernel_rfl) (e := Extern.AbiNoEscape.same) (by kernel_rfl)]
  rw [Lib.run_noEscape]
  simp only [Result.andThen]
  rw [Oper.upon_value]
  go_wp2
  rw [Lib.run_from_unsafe w ⟨b, 0, none⟩ Tryz.underlying249 Tryz.underlying162 hj hsh jb_lies]
  simp only [Result.andThen]
  rw [Oper.upon_value]
  go_wp2
  go_end0
  exact ⟨rfl, rfl⟩
theorem jcheck_any (B b : Nat) (bs : List Value) (w : World) (h : Lib.IsBuilderF 164 5 B b bs w) :
    Calls Tryz.prog 162 #[.pointer (some ⟨b, 0, none⟩)] w fun e w' => e = .returned (.tuple #[]) ∧ (Lib.BuilderAtF 164 5 B b (.pointer (some ⟨b, 0, none⟩)) bs w' ∧ Below B w w') := by
  rcases h with h | h
  · refine (jcheck_fresh b w h.cell0 h.shape h.frozen0).mono ?_
    rintro e w' ⟨rfl, rfl⟩
    exact ⟨rfl, h.used _, (Below.refl B w).setCell (p := ⟨b, 0, none⟩) h.1 _⟩
  · refine (jcheck_used b w h.cell0).mono ?_
    rintro e w' ⟨rfl, rfl⟩
    exact ⟨rfl, h, Below.refl B _⟩
set_option maxHeartbeats 2000000 in
set_option maxRecDepth 100000 in
theorem jbwrite_cells (B b : Nat) (bs : List Value) (s : ByteArray) (w : World) (h : Lib.IsBuilderF 164 5 B b bs w) (hlen : bs.length + s.size ≤ 1000000) (hBw : B ≤ w.heap.size) :
    Calls Tryz.prog 113 #[.pointer (some ⟨b, 0, none⟩), .string s] w fun e w' => e = .returned (.tuple #[.int .i64 s.size, .nilIface]) ∧ (Lib.BuilderAtF 164 5 B b (.pointer (some ⟨b, 0, none⟩)) (bs ++ Lib.strCells s) w' ∧ Below B w w') := by
  obtain ⟨i0, hi, hz0, hz1, hz2⟩ := info_parts info_u8
  go_enter Tryz.func113, Tryz.ntmps113
  go_wp2_with (first
    | (go_at_call 162; refine (jcheck_any B b bs _ h).mono ?_; rintro e w1 ⟨rfl, h1, hb1⟩; obtain ⟨hB, v, hbk, hown, hne⟩ := h1; have c0 : w1.cell? ⟨b, 0, none⟩ = some (.pointer (some ⟨b, 0, none⟩)) := (by rw [Lib.cell_of_heap hbk]; rfl); have c1 : w1.cell? ⟨b, 1, none⟩ = some v := (by rw [Lib.cell_of_heap hbk]; rfl))
    | (at_builtin; refine Lib.wpList_append_own_stringF _ rfl _ _ 99 9 rfl B 5 i0 Tryz.underlying99 Tryz.underlying9 hi hz0 hz1 hz2 _ _ _ rfl hown s rfl (by unfold maxLen; omega) (by omega) (by have := hb1.size; omega) ?_
       intro v' w2 hown' hgrow _
       have hlt : b < w1.heap.size := lt_blk hbk
       have hb2 : w2.heap[b]? = some (.cells #[.pointer (some ⟨b, 0, none⟩), v] 164 (0, 0)) := by
         rw [hgrow.block b hlt (fun e => hne e.symm)]
         exact hbk
       have d0 : w2.cell? ⟨b, 0, none⟩ = some (.pointer (some ⟨b, 0, none⟩)) := by rw [Lib.cell_of_heap hb2]; rfl
       have d1 : w2.cell? ⟨b, 1, none⟩ = some v := by rw [Lib.cell_of_heap hb2]; rfl
       have f1 : w2.frozen? ⟨b, 1, none⟩ = false := Lib.frozen_of_heap hb2 1
       obtain ⟨ao, n', cap, rfl⟩ : ∃ ao n' cap, v' = .slice ao n' cap := by
         rcases hown'.2 with ⟨hv, _⟩ | ⟨g, cap, cur, fz, hv, _⟩
         · exact ⟨_, _, _, hv⟩
         · exact ⟨_, _, _, hv⟩)
    | fail)
  go_ret2
  refine ⟨rfl, ?_, ?_⟩
  · exact Lib.BuilderAtF.put (T := 164) (e := 5) hB hb2 (bs' := bs ++ Lib.strCells s) (by simpa [Lib.strCells_length] using hown') (by decide)
  · exact (hb1.grown hgrow (by have := hb1.size; omega) (fun k hk => (hown.lt k hk).1)).setCell (p := ⟨b, 1, none⟩) hB _
theorem bc_app (a b : List UInt8) : Lib.byteCells (a ++ b) = Lib.byteCells a ++ Lib.byteCells b := by simp [Lib.byteCells]
theorem bc_str (s : ByteArray) : Lib.strCells s = Lib.byteCells s.data.toList := rfl
theorem jbwrite_any (B b : Nat) (l : List UInt8) (s : ByteArray) (w : World) (h : JB B b l w) (hlen : l.length + s.size ≤ 1000000) (hBw : B ≤ w.heap.size) :
    Calls Tryz.prog 113 #[.pointer (some ⟨b, 0, none⟩), .string s] w fun e w' => e = .returned (.tuple #[.int .i64 s.size, .nilIface]) ∧ JB B b (l ++ s.data.toList) w' ∧ Below B w w' := by
  refine (jbwrite_cells B b (Lib.byteCells l) s w h (by rw [Lib.byteCells_length]; exact hlen) hBw).mono ?_
  rintro e w' ⟨rfl, h1, h2⟩
  refine ⟨rfl, ?_, h2⟩
  unfold JB
  rw [bc_app, ← bc_str]
  exact .inr h1
theorem jbstring_any (B b : Nat) (l : List UInt8) (w : World) (h : JB B b l w) (hBw : B ≤ w.heap.size) :
    Calls Tryz.prog 115 #[.pointer (some ⟨b, 0, none⟩)] w fun e w' => e = .returned (.string ⟨l.toArray⟩) ∧ JB B b l w' ∧ Below B w w' := Any.Builder_String_any_f Tryz.lays169 Tryz.Builder_Extra_169 B b l w h hBw
theorem jblen_any (B b : Nat) (l : List UInt8) (w : World) (h : JB B b l w) :
    Calls Tryz.prog 129 #[.pointer (some ⟨b, 0, none⟩)] w fun e w' => e = .returned (.int .i64 l.length) ∧ w = w' := by
  refine (Any.Builder_Len_f Tryz.lays170 B b (Lib.byteCells l) w h).mono ?_
  rintro e w' ⟨rfl, rfl⟩
  rw [Lib.byteCells_length]
  exact ⟨rfl, rfl⟩
end Go.Proofs.YtfpbocjmlhcgiaaGreatDoor
