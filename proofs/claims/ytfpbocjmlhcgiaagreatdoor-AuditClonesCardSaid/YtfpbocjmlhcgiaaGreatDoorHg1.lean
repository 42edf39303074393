/- Hg1, merged: H3 H4. -/
import Derived.Test.YtfpbocjmlhcgiaaGreatDoorH2
import Derived.Great.BuildSlice
set_option linter.unusedSimpArgs false
set_option linter.unusedVariables false
/- The hash: keys, New. -/
namespace Go.Proofs.YtfpbocjmlhcgiaaGreatDoor
open Go.RowKit PJ Go.Maps

def K64 : List Int := [1116352408, 1899447441, 3049323471, 3921009573, 961987163, 1508970993, 2453635748, 2870763221, 3624381080, 310598401, 607225278, 1426881987, 1925078388, 2162078206, 2614888103, 3248222580, 3835390401, 4022224774, 264347078, 604807628, 770255983, 1249150122, 1555081692, 1996064986, 2554220882, 2821834349, 2952996808, 3210313671, 3336571891, 3584528711, 113926993, 338241895, 666307205, 773529912, 1294757372, 1396182291, 1695183700, 1986661051, 2177026350, 2456956037, 2730485921, 2820302411, 3259730800, 3345764771, 3516065817, 3600352804, 4094571909, 275423344, 430227734, 506948616, 659060556, 883997877, 958139571, 1322822218, 1537002063, 1747873779, 1955562222, 2024104815, 2227730452, 2361852424, 2428436474, 2756734187, 3204031479, 3329325298]
def H0w : List Int := [1779033703, 3144134277, 1013904242, 2773480762, 1359893119, 2600822924, 528734635, 1541459225]
theorem K64_len : K64.length = 64 := rfl
theorem H0w_inU : inU H0w := by
  intro v hv
  simp only [H0w, List.mem_cons, List.not_mem_nil, or_false] at hv
  rcases hv with rfl | rfl | rfl | rfl | rfl | rfl | rfl | rfl <;> decide
theorem info_a64 : (Tryz.prog.info? 236).map (fun i => (i.size)) = some 64 := by kernel_rfl
set_option maxRecDepth 100000 in
theorem hkeys_any (w : World) : Calls Tryz.prog 191 #[] w fun e w' => e = .returned (.agg (u32s K64)) ∧ LJ w w' := by
  obtain ⟨KX, hKX⟩ : ∃ KX, u32s K64 = KX := ⟨_, rfl⟩
  have h1 : (KX.all (·.oneCell')) = true := by rw [← hKX]; exact u32s_one K64
  have hs : KX.size = 64 := by rw [← hKX, u32s_size]; rfl
  have hinf : (Tryz.prog.info? 236).map (·.size) = some KX.size := by rw [hs]; exact info_a64
  obtain ⟨w1, hw1⟩ : ∃ w1, w.alloc (.cells (u32s (List.replicate 64 0)) 236) = w1 := ⟨_, rfl⟩
  have hb1 : w1.heap[w.heap.size]? = some (.cells (u32s (List.replicate 64 0)) 236 (0, 0)) := by rw [← hw1]; exact alloc_blk w _
  have hl1 : LJ w w1 := by rw [← hw1]; exact (LJ.refl w).alloc _
  rw [z64] at hw1
  have HW1 := Lib.hid hw1
  have HB1 := Lib.hid hb1
  have HL1 := Lib.hid hl1
  have H1 := Lib.hid h1
  have HS := Lib.hid hs
  have HINF := Lib.hid hinf
  have HKX := Lib.hid hKX
  clear hw1 hb1 hl1 h1 hs hinf hKX
  go_enter Tryz.func191, Tryz.ntmps191
  go_upto_region 1 with fail
  rw [HW1.out]
  go_wp2_with (first
    | refine wpList_buildFlatArrTo rfl 236 211 64 _ rfl .u32 K64 (some 1) rfl Tryz.underlying236 (by kernel_rfl) (by kernel_rfl) (by kernel_rfl) ?_; rw [show (K64.map (Value.int .u32)).toArray = KX from HKX.out]
    | refine wpList_store_rowTo rfl 236 (.tmp 0) (.tmp 1) rfl rfl w.heap.size KX rfl rfl 236 (u32s (List.replicate 64 0)) HB1.out HINF.out (by rw [HS.out, u32s_size]; rfl) H1.out ?_
    | fail)
  refine bodyPost_ret (results_cell_row rfl _ _ w.heap.size 236 KX (0, 0) _ rfl (setRow_heap _ _ _ _ _ _ HB1.out) Tryz.underlying236 rfl HINF.out) rfl ?_
  refine ⟨by rw [HKX.out], ?_⟩
  have ho := setRow_only w1 w.heap.size KX
  have h0 := HL1.out
  have hz := Below.size h0
  exact ⟨ho.os.trans h0.os, ho.tape.trans h0.tape, ho.output.trans h0.output, by have := ho.size; omega, fun k hk => (ho.block k (by omega) (by show k ≠ w.heap.size; omega)).trans (Below.block h0 k hk)⟩
/-- A hash in memory. -/
def hashCells (v : List Int) (bk : List UInt8) (n : Nat) : Array Value := (v.map (Value.int .u32 ·) ++ bys bk ++ [Value.int .i64 n]).toArray
set_option maxRecDepth 100000 in
theorem hnew_any (w : World) : Calls Tryz.prog 132 #[] w fun e w' => e = .returned (.pointer (some ⟨w.heap.size, 0, none⟩)) ∧ w' = w.alloc (.cells (hashCells H0w (List.replicate 64 0) 0) 235) := by
  go_enter Tryz.func132, Tryz.ntmps132
  go_wp2_with fail
  go_ret
  exact ⟨rfl, congrArg (fun c => w.alloc (.cells c 235)) (by kernel_rfl)⟩
end Go.Proofs.YtfpbocjmlhcgiaaGreatDoor
/- The hash's Write: laws of its loads and stores; its state. -/
namespace Go.Proofs.YtfpbocjmlhcgiaaGreatDoor
open Go.RowKit PJ Go.Maps

theorem run_storeVar_at {P : Program} (w : World) (g o : Nat) (t ty : TypeId) (old cells : Array Value) (hg : w.heap[g]? = some (.cells old t (0, 0))) (hi : (P.info? ty).map (·.size) = some cells.size)
    (hfit : o + cells.size ≤ old.size) (h1 : cells.all (·.oneCell') = true) :
    (storeVar ty ⟨g, o, none⟩ (.agg cells)).run P w = .ok () (w.setRow g (old.toList.take o ++ cells.toList ++ old.toList.drop (o + cells.size)).toArray) := by
  have := run_storeCells_at P g o t cells.toList 0 old w hg (by simp; omega) (fun v hv => (Array.all_eq_true_iff_forall_mem.1 h1) v (by simpa using hv))
  rw [Nat.add_zero, Array.length_toList] at this
  cases hq : P.info? ty with
  | none => simp [hq] at hi
  | some i =>
    have hs : cells.size = i.size := by simp [hq] at hi; omega
    rw [hs] at this
    simp [storeVar, sizeOf, typeInfo, hq, Value.cells, hs, this]
theorem wpList_store_at {P : Program} {ops : Array Oper} {rest : List Oper} {o : Oper} {a : Act} {w : World} {Q : Exit → Act → World → Prop} (hgd : o.guard = none) (ty : TypeId) (x y : Operand) (ho : o.op = .store ty x y) (hd : o.dst = none)
    (g j : Nat) (cells : Array Value) (hx : a.eval x = .pointer (some ⟨g, j, none⟩)) (hy : a.eval y = .agg cells) (t : TypeId) (old : Array Value) (hg : w.heap[g]? = some (.cells old t (0, 0))) (hi : (P.info? ty).map (·.size) = some cells.size)
    (hfit : j + cells.size ≤ old.size) (h1 : cells.all (·.oneCell') = true)
    (h : wpList P ops Q rest a (w.setRow g (old.toList.take j ++ cells.toList ++ old.toList.drop (j + cells.size)).toArray)) : wpList P ops Q (o :: rest) a w := by
  refine wpList_plain hgd fun K hK => ?_
  unfold Oper.wp execOp
  simp only [ho, hx, hy, Instr.storeAt, Instr.sureAddr, Sem.run_bind, Sem.run_pure, Result.andThen_ok, run_storeVar_at w g j t ty old cells hg hi hfit h1]
  exact hK _ _ (by rw [hd]; exact h)
theorem run_loadVar_at {P : Program} (w : World) (ty : TypeId) (g j0 : Nat) (cs : Array Value) (d : TypeDesc) (hc : ∀ j v, cs[j]? = some v → w.cell? ⟨g, j0 + j, none⟩ = some v)
    (hu : P.underlying ty = some d) (hd : (match d with | .struct _ | .array _ _ => true | _ => false) = true) (hi : (P.info? ty).map (·.size) = some cs.size) :
    (loadVar ty ⟨g, j0, none⟩).run P w = .ok (.agg cs) w := by
  have hl : (loadCells ⟨g, j0, none⟩ cs.toList.length).run P w = .ok cs.toList.toArray w :=
    run_loadCells_list (P := P) w ⟨g, j0, none⟩ cs.toList (fun j v hv => by
      have hadd : (⟨g, j0, none⟩ : Addr).add j = ⟨g, j0 + j, none⟩ := by unfold Addr.add; split <;> simp_all
      rw [hadd]
      exact hc j v (by simpa using hv))
  cases hq : P.info? ty with
  | none => simp [hq] at hi
  | some i =>
    have hs : i.size = cs.size := by simpa [hq] using hi
    have hagg : (isAgg ty).run P w = .ok true w := by
      unfold isAgg
      rw [Sem.run_bind, run_underlying hu w]
      cases d <;> simp_all
    simp only [Array.length_toList, Array.toArray_toList] at hl
    simp [loadVar, Sem.run_bind, hagg, sizeOf, typeInfo, hq, hs, hl]
theorem run_copy_str {P : Program} (w : World) (dT sT ty elem : TypeId) (g o dLen dCap : Nat) (s : ByteArray) (cur : Array Value) (t : TypeId) (n : Nat)
    (hu : P.underlying dT = some (.slice elem)) (hz : ∀ w, (Go.sizeOf elem).run P w = .ok 1 w) (hg : w.heap[g]? = some (.cells cur t (0, 0))) (hn : Nat.min s.size dLen = n) (hfit : o + n ≤ cur.size) :
    (Builtin.copy_ #[dT, sT] ty #[.slice (some ⟨g, o, none⟩) dLen dCap, .string s]).run P w = .ok (goInt n) (w.setRow g (cur.toList.take o ++ bys (s.data.toList.take n) ++ cur.toList.drop (o + n)).toArray) := by
  have hsl : s.data.toList.length = s.size := by rw [Array.length_toList]; rfl
  have hns : n ≤ s.size := by rw [← hn]; exact Nat.min_le_left _ _
  have hbl : (bys (s.data.toList.take n)).length = n := by unfold bys; rw [List.length_map, List.length_take, hsl]; omega
  have hst := run_storeCells_at P g o t (bys (s.data.toList.take n)) 0 cur w hg (by rw [hbl]; omega) (by
    intro v hv
    unfold bys at hv
    obtain ⟨x, _, rfl⟩ := List.mem_map.1 hv
    rfl)
  rw [Nat.add_zero, hbl] at hst
  have hb : bys (s.data.toList.take n) = (s.data.toList.map fun x => Value.int .u8 (x.toNat : Int)).take n := by unfold bys; rw [List.map_take]
  rw [hb] at hst ⊢
  simp [Builtin.copy_, run_underlying hu, Builtin.lenOf, Builtin.firstCells, hz, hn]
  rw [hst]
  simp
/-- A hash's state. -/
structure HS where
  v : List Int
  blk : List UInt8
  size : Nat
structure HS.OK (s : HS) : Prop where
  v8 : s.v.length = 8
  vU : inU s.v
  b64 : s.blk.length = 64
def HS.room (s : HS) : Nat := 64 - s.size % 64
def HS.blkW (s : HS) (l : List UInt8) : List UInt8 := s.blk.take (s.size % 64) ++ l.take (min l.length s.room) ++ s.blk.drop (s.size % 64 + min l.length s.room)
def HS.step (s : HS) (l : List UInt8) : HS := ⟨if (s.size + min l.length s.room) % 64 = 0 then nextP s.v (s.blkW l) K64 else s.v, s.blkW l, s.size + min l.length s.room⟩
def HS.putN : Nat → HS → List UInt8 → HS
  | 0, s, _ => s
  | k + 1, s, l => if l = [] then s else HS.putN k (s.step l) (l.drop (min l.length s.room))
theorem HS.putN_nil (s : HS) : ∀ k, HS.putN k s [] = s
  | 0 => rfl
  | k + 1 => if_pos rfl
theorem HS.blkW_len {s : HS} (h : s.OK) (l : List UInt8) : (s.blkW l).length = 64 := by
  have h64 := h.b64
  have hm : s.size % 64 < 64 := Nat.mod_lt _ (by omega)
  unfold HS.blkW HS.room
  rw [List.length_append, List.length_append, List.length_take, List.length_take, List.length_drop]
  omega
theorem HS.step_ok {s : HS} (h : s.OK) (l : List UInt8) : (s.step l).OK := by
  refine ⟨?_, ?_, s.blkW_len h l⟩
  · unfold HS.step
    simp only
    split
    · exact nextP_len h.v8 _ _
    · exact h.v8
  · unfold HS.step
    simp only
    split
    · exact nextP_inU _ _ _
    · exact h.vU
theorem HS.putN_ok : ∀ (k : Nat) {s : HS} (h : s.OK) (l : List UInt8), (HS.putN k s l).OK
  | 0, s, h, l => h
  | k + 1, s, h, l => by
    rw [HS.putN]
    split
    · exact h
    · exact HS.putN_ok k (s.step_ok h l) _
theorem HS.putN_size : ∀ (k : Nat) (s : HS) (l : List UInt8), l.length ≤ k → (HS.putN k s l).size = s.size + l.length
  | 0, s, l, h => by
    have : l = [] := List.eq_nil_of_length_eq_zero (by omega)
    subst this; rfl
  | k + 1, s, l, h => by
    rw [HS.putN]
    split
    · rename_i h0; subst h0; rfl
    · rename_i h0
      have hl : 1 ≤ l.length := by cases l with | nil => exact absurd rfl h0 | cons _ _ => simp
      have hm : s.size % 64 < 64 := Nat.mod_lt _ (by omega)
      have hr : 1 ≤ min l.length s.room := by unfold HS.room; omega
      rw [HS.putN_size k _ _ (by rw [List.length_drop]; omega), List.length_drop]
      show s.size + min l.length s.room + (l.length - min l.length s.room) = _
      omega
def HashAt (w : World) (hb : Nat) (s : HS) : Prop := w.heap[hb]? = some (.cells (hashCells s.v s.blk s.size) 235 (0, 0))
theorem hashCells_size {s : HS} (h : s.OK) : (hashCells s.v s.blk s.size).size = 73 := by
  have h1 := h.v8
  have h2 := h.b64
  simp [hashCells, bys, h1, h2]
theorem hashCells_len {s : HS} (h : s.OK) : (hashCells s.v s.blk s.size)[72]? = some (.int .i64 s.size) := by
  have h1 := h.v8
  have h2 := h.b64
  unfold hashCells
  rw [List.getElem?_toArray, List.getElem?_append_right (by simp [bys, h1, h2])]
  simp [bys, h1, h2]
theorem hashCells_v {s : HS} (h : s.OK) (j : Nat) (v : Value) (hj : (u32s s.v)[j]? = some v) : (hashCells s.v s.blk s.size)[j]? = some v := by
  have h1 := h.v8
  rw [u32s_get] at hj
  have hjl : j < s.v.length := by
    cases e : s.v[j]? with
    | none => rw [e] at hj; cases hj
    | some _ => exact (List.getElem?_eq_some_iff.1 e).1
  unfold hashCells
  rw [List.getElem?_toArray, List.append_assoc, List.getElem?_append_left (by simpa using hjl), List.getElem?_map]
  exact hj
theorem hashCells_b {s : HS} (h : s.OK) (j : Nat) (hj : j < 64) : (hashCells s.v s.blk s.size)[8 + j]? = some (.int .u8 ((s.blk.getD j 0).toNat : Int)) := by
  have h1 := h.v8
  have h2 := h.b64
  unfold hashCells
  rw [List.getElem?_toArray, List.append_assoc, List.getElem?_append_right (by simp [h1]), List.length_map, h1, show 8 + j - 8 = j from by omega, List.getElem?_append_left (by simp [bys, h2]; omega)]
  unfold bys
  rw [List.getElem?_map, List.getElem?_eq_getElem (by omega), List.getD_eq_getElem?_getD, List.getElem?_eq_getElem (by omega)]
  rfl
/-- Behind the copy. -/
theorem hash_copied {s : HS} (h : s.OK) (l : List UInt8) : ((hashCells s.v s.blk s.size).toList.take (8 + s.size % 64) ++ bys (l.take (min l.length s.room)) ++ (hashCells s.v s.blk s.size).toList.drop (8 + s.size % 64 + min l.length s.room)).toArray = hashCells s.v (s.blkW l) s.size := by
  have h1 := h.v8
  have h2 := h.b64
  have hm : s.size % 64 < 64 := Nat.mod_lt _ (by omega)
  have hr : s.size % 64 + min l.length s.room ≤ 64 := by unfold HS.room; omega
  unfold hashCells HS.blkW
  apply congrArg List.toArray
  have e8 : (s.v.map (Value.int .u32 ·)).length = 8 := by simp [h1]
  have eb : (bys s.blk).length = 64 := by simp [bys, h2]
  simp only [List.append_assoc]
  rw [List.take_append, e8, List.take_of_length_le (by omega), show 8 + s.size % 64 - 8 = s.size % 64 from by omega, List.take_append_of_le_length (by omega)]
  rw [List.drop_append, e8, List.drop_of_length_le (by omega), show 8 + s.size % 64 + min l.length s.room - 8 = s.size % 64 + min l.length s.room from by omega, List.nil_append, List.drop_append_of_le_length (by omega)]
  unfold bys
  simp
theorem hash_sized {s : HS} (h : s.OK) (b : List UInt8) (hb : b.length = 64) (n m : Nat) : (hashCells s.v b n).setIfInBounds 72 (.int .i64 m) = hashCells s.v b m := by
  have h1 := h.v8
  apply Array.toList_inj.1
  unfold hashCells
  rw [Array.toList_setIfInBounds]
  rw [List.set_append_right _ _ (by simp [bys, h1, hb])]
  simp [bys, h1, hb]
theorem hash_turned {s : HS} (h : s.OK) (b : List UInt8) (n : Nat) (v : List Int) (hv : v.length = 8) : ((hashCells s.v b n).toList.take 0 ++ (u32s v).toList ++ (hashCells s.v b n).toList.drop (0 + (u32s v).size)).toArray = hashCells v b n := by
  have h1 := h.v8
  unfold hashCells u32s
  apply congrArg List.toArray
  simp [hv, h1]
end Go.Proofs.YtfpbocjmlhcgiaaGreatDoor
