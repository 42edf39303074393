/- The hash's next state. -/
import Derived.Test.YtfpbocjmlhcgiaaGreatDoorH1
import Derived.Laws.CopyRow
import Derived.StillTailTactics
set_option linter.unusedSimpArgs false
set_option linter.unusedVariables false
namespace Go.Proofs.YtfpbocjmlhcgiaaGreatDoor
open Go.RowKit PJ Go.Maps

def u32s (l : List Int) : Array Value := (l.map (Value.int .u32 ·)).toArray
def pad64 (l : List Int) : List Int := l ++ List.replicate (64 - l.length) 0
theorem pad64_len {l : List Int} (h : l.length ≤ 64) : (pad64 l).length = 64 := by simp [pad64]; omega
theorem u32s_size (l : List Int) : (u32s l).size = l.length := by simp [u32s]
theorem u32s_get (l : List Int) (i : Nat) : (u32s l)[i]? = (l[i]?).map (Value.int .u32 ·) := by simp [u32s]
theorem u32s_set (l : List Int) (i : Nat) (v : Int) : (u32s l).setIfInBounds i (.int .u32 v) = u32s (l.set i v) := by
  apply Array.toList_inj.1
  simp [u32s, List.map_set]
theorem pad64_set {l : List Int} (h : l.length < 64) (v : Int) : (pad64 l).set l.length v = pad64 (l ++ [v]) := by
  obtain ⟨k, hk⟩ : ∃ k, 64 - l.length = k + 1 := ⟨63 - l.length, by omega⟩
  unfold pad64
  rw [hk, List.length_append, show 64 - (l.length + [v].length) = k from by simp; omega, List.replicate_succ, List.set_append_right _ _ (Nat.le_refl _), Nat.sub_self, List.set_cons_zero]
  simp
theorem pad64_get {l : List Int} {i : Nat} (h : i < l.length) : (pad64 l)[i]? = l[i]? := by unfold pad64; rw [List.getElem?_append_left h]
/-- A block's words. -/
def blockW (bl : List UInt8) : List Int := (List.range 16).map fun i => (ofL ((bl.drop (4 * i)).take 4) : Int)
theorem blockW_take (bl : List UInt8) {i : Nat} (h : i < 16) : (blockW bl).take (i + 1) = (blockW bl).take i ++ [(ofL ((bl.drop (4 * i)).take 4) : Int)] := by
  have : (blockW bl)[i]? = some (ofL ((bl.drop (4 * i)).take 4) : Int) := by simp [blockW, h]
  rw [List.take_add_one, this]; rfl
theorem blockW_len (bl : List UInt8) : (blockW bl).length = 16 := by simp [blockW]
theorem u32_cell {w : World} {b : Nat} {l : List Int} {T : TypeId} (h : w.heap[b]? = some (.cells (u32s l) T (0, 0))) {i : Nat} {v : Int} (hi : l[i]? = some v) : w.cell? ⟨b, i, none⟩ = some (.int .u32 v) := by
  have hz : i < (u32s l).size := by rw [u32s_size]; exact (List.getElem?_eq_some_iff.1 hi).1
  have := cell_blk h i
  rw [u32s_get, hi] at this
  exact this
theorem z8 : u32s (List.replicate 8 0) = #[Value.int .u32 0, Value.int .u32 0, Value.int .u32 0, Value.int .u32 0, Value.int .u32 0, Value.int .u32 0, Value.int .u32 0, Value.int .u32 0] := rfl
theorem z64 : u32s (List.replicate 64 0) = #[Value.int .u32 0, Value.int .u32 0, Value.int .u32 0, Value.int .u32 0, Value.int .u32 0, Value.int .u32 0, Value.int .u32 0, Value.int .u32 0, Value.int .u32 0, Value.int .u32 0, Value.int .u32 0, Value.int .u32 0, Value.int .u32 0, Value.int .u32 0, Value.int .u32 0, Value.int .u32 0, Value.int .u32 0, Value.int .u32 0, Value.int .u32 0, Value.int .u32 0, Value.int .u32 0, Value.int .u32 0, Value.int .u32 0, Value.int .u32 0, Value.int .u32 0, Value.int .u32 0, Value.int .u32 0, Value.int .u32 0, Value.int .u32 0, Value.int .u32 0, Value.int .u32 0, Value.int .u32 0, Value.int .u32 0, Value.int .u32 0, Value.int .u32 0, Value.int .u32 0, Value.int .u32 0, Value.int .u32 0, Value.int .u32 0, Value.int .u32 0, Value.int .u32 0, Value.int .u32 0, Value.int .u32 0, Value.int .u32 0, Value.int .u32 0, Value.int .u32 0, Value.int .u32 0, Value.int .u32 0, Value.int .u32 0, Value.int .u32 0, Value.int .u32 0, Value.int .u32 0, Value.int .u32 0, Value.int .u32 0, Value.int .u32 0, Value.int .u32 0, Value.int .u32 0, Value.int .u32 0, Value.int .u32 0, Value.int .u32 0, Value.int .u32 0, Value.int .u32 0, Value.int .u32 0, Value.int .u32 0] := rfl
theorem slice4 (W : World) (b o c i : Nat) (hi : i < 16) (hc : 64 ≤ c ∧ c ≤ 1000) : (Instr.slice 99 (.slice (some ⟨b, o, none⟩) 64 c) (some (.int .i64 (4 * (i : Int)))) (some (.int .i64 (4 * (i : Int) + 4))) none).run Tryz.prog W = .ok (.slice (some ⟨b, o + 4 * i, none⟩) 4 (c - 4 * i)) W := by
  have ht := Tryz.underlying99
  have e1 : (4 * (i : Int)).toNat = 4 * i := by omega
  have e2 : (4 * (i : Int) + 4).toNat = 4 * i + 4 := by omega
  have e3 : 4 * i + 4 - 4 * i = 4 := by omega
  have g1 : (0 : Int) ≤ 4 * (i : Int) + 4 ∧ 4 * (i : Int) + 4 ≤ (c : Int) := by omega
  have g2 : (0 : Int) ≤ 4 * (i : Int) ∧ 4 * (i : Int) ≤ ((4 * i + 4 : Nat) : Int) := by omega
  have g3 : ¬ c = 4 * i := by omega
  simp [Instr.slice, run_underlying ht, Instr.sliceBounds, Instr.sliceBound, asIntOf, sliced, g1, g2, g3, e1, e2, e3, addr_none]
  intro h
  omega
def sigS (a x b y : Int) : Int := (a + Go.bits .xor .u32 (Go.bits .xor .u32 (rorI x 7) (rorI x 18)) (x / 8) + b + Go.bits .xor .u32 (Go.bits .xor .u32 (rorI y 17) (rorI y 19)) (y / 1024)) % 4294967296
theorem mod32_bd (x : Int) : 0 ≤ x % 4294967296 ∧ x % 4294967296 < 4294967296 := by omega
def schS (l : List Int) : List Int := l ++ [sigS (l.getD (l.length - 16) 0) (l.getD (l.length - 15) 0) (l.getD (l.length - 7) 0) (l.getD (l.length - 2) 0)]
def schN (bl : List UInt8) : Nat → List Int
  | 0 => blockW bl
  | n + 1 => schS (schN bl n)
theorem schN_len (bl : List UInt8) : ∀ n, (schN bl n).length = 16 + n
  | 0 => blockW_len bl
  | n + 1 => by rw [schN, schS, List.length_append, schN_len bl n]; simp; omega
def inU (l : List Int) : Prop := ∀ v ∈ l, 0 ≤ v ∧ v < 4294967296
theorem blockW_inU (bl : List UInt8) : inU (blockW bl) := by
  intro v hv
  obtain ⟨i, -, rfl⟩ := List.mem_map.1 hv
  have h1 := ofL_lt ((bl.drop (4 * i)).take 4)
  have h2 : 256 ^ ((bl.drop (4 * i)).take 4).length ≤ 256 ^ 4 := Nat.pow_le_pow_right (by omega) (by simp; omega)
  have h3 : (256 : Nat) ^ 4 = 4294967296 := by decide
  omega
theorem schN_inU (bl : List UInt8) : ∀ n, inU (schN bl n)
  | 0 => blockW_inU bl
  | n + 1 => by
    intro v hv
    rw [schN, schS] at hv
    rcases List.mem_append.1 hv with h | h
    · exact schN_inU bl n v h
    · rw [List.mem_singleton.1 h]; exact mod32_bd _
theorem getD_inU {l : List Int} (h : inU l) {j : Nat} (hj : j < l.length) : 0 ≤ l.getD j 0 ∧ l.getD j 0 < 4294967296 := by
  rw [List.getD_eq_getElem?_getD, List.getElem?_eq_getElem hj]
  exact h _ (List.getElem_mem hj)
/-- A round. -/
def rndT (e f g h k w : Int) : Int := IntKind.u32.wrap (IntKind.u32.wrap (IntKind.u32.wrap (IntKind.u32.wrap (h + Go.bits .xor .u32 (Go.bits .xor .u32 (rorI e 6) (rorI e 11)) (rorI e 25)) + Go.bits .xor .u32 (Go.bits .and .u32 e f) (Go.bits .and .u32 (Go.bits .xor .u32 (if IntKind.u32.signed = true then -1 else IntKind.u32.max) e) g)) + k) + w)
def rndU (a b c : Int) : Int := IntKind.u32.wrap (Go.bits .xor .u32 (Go.bits .xor .u32 (rorI a 2) (rorI a 13)) (rorI a 22) + Go.bits .xor .u32 (Go.bits .xor .u32 (Go.bits .and .u32 a b) (Go.bits .and .u32 a c)) (Go.bits .and .u32 b c))
def rndS : List Int → Int → Int → List Int
  | [a, b, c, d, e, f, g, h], k, w => [(rndT e f g h k w + rndU a b c) % 4294967296, a, b, c, (d + rndT e f g h k w) % 4294967296, e, f, g]
  | l, _, _ => l
def rndN (K W : List Int) (sl : List Int) : Nat → List Int
  | 0 => sl
  | n + 1 => rndS (rndN K W sl n) (K.getD n 0) (W.getD n 0)
def addL (v s : List Int) : List Int := List.zipWith (fun x y => (x + y) % 4294967296) v s
def nextP (sl : List Int) (bl : List UInt8) (K : List Int) : List Int := addL (rndN K (schN bl 48) sl 64) sl
theorem eight {l : List Int} (h : l.length = 8) : ∃ a b c d e f g h, l = [a, b, c, d, e, f, g, h] := by
  match l, h with
  | [a, b, c, d, e, f, g, h], _ => exact ⟨a, b, c, d, e, f, g, h, rfl⟩
theorem rndS_len {l : List Int} (h : l.length = 8) (k w : Int) : (rndS l k w).length = 8 := by
  obtain ⟨a, b, c, d, e, f, g, h, rfl⟩ := eight h
  rfl
theorem rndN_len (K W : List Int) {sl : List Int} (h : sl.length = 8) : ∀ n, (rndN K W sl n).length = 8
  | 0 => h
  | n + 1 => rndS_len (rndN_len K W h n) _ _
theorem rndS_inU {l : List Int} (hl : l.length = 8) (h : inU l) (k w : Int) : inU (rndS l k w) := by
  obtain ⟨a, b, c, d, e, f, g, q, rfl⟩ := eight hl
  intro v hv
  simp only [rndS, List.mem_cons, List.not_mem_nil, or_false] at hv
  rcases hv with rfl | rfl | rfl | rfl | rfl | rfl | rfl | rfl
  · exact mod32_bd _
  · exact h _ (by simp)
  · exact h _ (by simp)
  · exact h _ (by simp)
  · exact mod32_bd _
  · exact h _ (by simp)
  · exact h _ (by simp)
  · exact h _ (by simp)
theorem rndN_inU (K W : List Int) {sl : List Int} (h : sl.length = 8) (hu : inU sl) : ∀ n, inU (rndN K W sl n)
  | 0 => hu
  | n + 1 => rndS_inU (rndN_len K W h n) (rndN_inU K W h hu n) _ _
theorem nextP_len {sl : List Int} (h : sl.length = 8) (bl : List UInt8) (K : List Int) : (nextP sl bl K).length = 8 := by
  unfold nextP addL
  rw [List.length_zipWith, rndN_len K _ h, h]
  rfl
theorem nextP_inU (sl : List Int) (bl : List UInt8) (K : List Int) : inU (nextP sl bl K) := by
  intro v hv
  unfold nextP addL at hv
  rw [List.zipWith_eq_zipWith_take_min] at hv
  obtain ⟨i, hi, rfl⟩ := List.getElem_of_mem hv
  rw [List.getElem_zipWith]
  exact mod32_bd _
theorem info_hst : (Tryz.prog.info? 232).map (fun i => (i.size)) = some 8 := by kernel_rfl
theorem setRow_heap' (w : World) (g : Nat) (cur cs : Array Value) (t : TypeId) (h : w.heap[g]? = some (.cells cur t (0, 0))) : (w.setRow g cs).heap[g]? = some (.cells cs t (0, 0)) := setRow_heap w g cur cs t (0, 0) h
theorem setRow_only (w : World) (g : Nat) (cs : Array Value) : OnlyJ (fun q => q = g) w (w.setRow g cs) := ⟨rfl, rfl, rfl, by rw [setRow_size]; exact Nat.le_refl _, fun q _ hne => setRow_other w g q cs hne⟩
theorem u32s_one (l : List Int) : (u32s l).all (·.oneCell') = true := by
  simp [u32s, Value.oneCell']
set_option maxRecDepth 100000 in
set_option maxHeartbeats 4000000 in
theorem hnext_any (w : World) (CS : Array Value) (sl : List Int) (hCS : CS = u32s sl) (hsl : sl.length = 8) (pb po cap : Nat) (bl : List UInt8) (hbl : bl.length = 64) (hc : ∀ j (hj : j < 64), w.cell? ⟨pb, po + j, none⟩ = some (.int .u8 ((bl.getD j 0).toNat : Int))) (hcap : 64 ≤ cap ∧ cap ≤ 1000) (kb : Nat) (KS : List Int) (hkl : KS.length = 64) (hiu : inU sl) (hK : w.heap[kb]? = some (.cells (u32s KS) 236 (0, 0))) :
    Calls Tryz.prog 192 #[.agg CS, .slice (some ⟨pb, po, none⟩) 64 cap, .pointer (some ⟨kb, 0, none⟩)] w fun e w' => e = .returned (.agg (u32s (nextP sl bl KS))) ∧ LJ w w' := by
  obtain ⟨w3, hw3⟩ : ∃ w3, ((w.alloc (.cells (u32s sl) 232)).alloc (.cells (u32s (List.replicate 8 0)) 232)).alloc (.cells (u32s (List.replicate 64 0)) 236) = w3 := ⟨_, rfl⟩
  have hl3 : LJ w w3 := by rw [← hw3]; exact (((LJ.refl w).alloc _).alloc _).alloc _
  have hz3 : w3.heap.size = w.heap.size + 1 + 1 + 1 := by rw [← hw3]; simp
  have hb7 : w3.heap[w.heap.size + 1 + 1]? = some (.cells (u32s (List.replicate 64 0)) 236 (0, 0)) := by
    have := alloc_blk ((w.alloc (.cells (u32s sl) 232)).alloc (.cells (u32s (List.replicate 8 0)) 232)) (.cells (u32s (List.replicate 64 0)) 236)
    rw [World.size_alloc, World.size_alloc, hw3] at this
    exact this
  have hb6 : w3.heap[w.heap.size + 1]? = some (.cells (u32s (List.replicate 8 0)) 232 (0, 0)) := by
    have := alloc_blk (w.alloc (.cells (u32s sl) 232)) (.cells (u32s (List.replicate 8 0)) 232)
    rw [World.size_alloc] at this
    rw [← hw3, Below.heap_alloc _ _ _ (by simp)]
    exact this
  have hb3 : w3.heap[w.heap.size]? = some (.cells (u32s sl) 232 (0, 0)) := by
    rw [← hw3, Below.heap_alloc _ _ _ (by simp; omega), Below.heap_alloc _ _ _ (by simp)]
    exact alloc_blk w _
  have HB3 := Lib.hid hb3
  have HB6 := Lib.hid hb6
  have HL3 := Lib.hid hl3
  have HZ3 := Lib.hid hz3
  have HC := Lib.hid hc
  have HK := Lib.hid hK
  have HSL := Lib.hid hsl
  have HIU := Lib.hid hiu
  have HKL := Lib.hid hkl
  have HBL := Lib.hid hbl
  rw [z8, z64] at hw3
  have HW3 := Lib.hid hw3
  have HB7 := Lib.hid hb7
  subst hCS
  clear hw3 hl3 hz3 hb7 hb6 hb3 hc hK hsl hbl hiu hkl
  go_enter Tryz.func192, Tryz.ntmps192
  go_upto_region 2 with fail
  rw [HW3.out]
  go_wp2_with fail
  go_loopw [20] (fun v20 wr => ∃ i : Nat, i ≤ 16 ∧ v20 = .int .i64 (i : Int) ∧ Hid (wr.heap[w.heap.size + 1 + 1]? = some (.cells (u32s (pad64 ((blockW bl).take i))) 236 (0, 0))) ∧ Hid (OnlyJ (fun q => q = w.heap.size + 1 + 1) w3 wr)) (fun v20 _ => 16 - (intOf v20).toNat)
  case atStart => exact ⟨0, by omega, rfl, HB7, Lib.hid (OnlyJ.refl _ _)⟩
  case round =>
    obtain ⟨i, hi, rfl, HB, HO⟩ := hrel
    by_cases hlt : i < 16
    · have hs4 := fun W => slice4 W pb po cap i hlt hcap
      obtain ⟨WL, hWL⟩ : ∃ WL, (bl.drop (4 * i)).take 4 = WL := ⟨_, rfl⟩
      have hwl4 : WL.length = 4 := by rw [← hWL]; have := HBL.out; simp; omega
      obtain ⟨BW, hBW⟩ : ∃ BW : ByteArray, (⟨WL.toArray⟩ : ByteArray) = BW := ⟨_, rfl⟩
      have hBd : BW.data.toList = WL := by rw [← hBW]
      have hBs : BW.size ≤ 8 := by
        have : BW.data.toList.length = 4 := by rw [hBd, hwl4]
        rw [Array.length_toList] at this
        have h2 : BW.size = BW.data.size := rfl
        omega
      have hvl := fun W => hval_any BW W hBs
      rw [hBd] at hvl
      have hlt32 : ofL WL < 4294967296 := by have := ofL_lt WL; rw [hwl4] at this; exact this
      have hcv : (convert 99 9 (.slice (some ⟨pb, po + 4 * i, none⟩) 4 (cap - 4 * i))).run Tryz.prog wr = .ok (.string BW) wr := by
        have h := run_convert_bytes_back wr 99 9 5 ⟨pb, po + 4 * i, none⟩ (cap - 4 * i) WL Tryz.underlying99 Tryz.underlying5 Tryz.underlying9 (fun j hj => by
          rw [addr_none]
          have hpl : pb < w.heap.size := World.block_lt_of_cell? _ _ (HC.out 0 (by omega))
          have hz := HZ3.out
          have hcj := HC.out (4 * i + j) (by omega)
          have hb : wr.heap[pb]? = w.heap[pb]? := (HO.out.block pb (by omega) (by show pb ≠ w.heap.size + 1 + 1; omega)).trans (Below.block HL3.out pb hpl)
          rw [show po + 4 * i + j = po + (4 * i + j) from by omega, World.cell?_of_block (a := ⟨pb, po + (4 * i + j), none⟩) hb, hcj]
          congr 3
          have : (WL[j]'hj) = bl.getD (4 * i + j) 0 := by
            have h1 : WL[j]? = some (bl.getD (4 * i + j) 0) := by
              rw [← hWL, List.getElem?_take_of_lt (by omega), List.getElem?_drop, List.getD_eq_getElem?_getD, List.getElem?_eq_getElem (by have := HBL.out; omega)]; rfl
            exact Option.some.inj ((List.getElem?_eq_getElem hj).symm.trans h1)
          rw [this])
        rw [hwl4, hBW] at h
        exact h
      obtain ⟨vw, hvw⟩ : ∃ vw, ofL WL = vw := ⟨_, rfl⟩
      rw [hvw] at hvl hlt32
      have HVL := Lib.hid hvl
      have hw32 : IntKind.u32.wrap (vw : Int) = (vw : Int) := by rw [IntKind.wrap_u32]; omega
      have htl : ((blockW bl).take i).length = i := by rw [List.length_take, blockW_len]; omega
      have hp64 : (pad64 ((blockW bl).take i))[i]? = some 0 := by
        unfold pad64
        rw [List.getElem?_append_right (by omega), htl, Nat.sub_self, List.getElem?_replicate_of_lt (by omega)]
      have c7 := u32_cell HB.out hp64
      have f7 := free_blk HB.out i
      have HNX := Lib.hid (show (pad64 ((blockW bl).take i)).set i (vw : Int) = pad64 ((blockW bl).take (i + 1)) from by
        have := pad64_set (l := (blockW bl).take i) (by omega) (vw : Int)
        rw [htl] at this
        rw [this, blockW_take bl hlt, hWL, hvw])
      clear hWL hwl4 hBW hBd hBs hvl hvw htl hp64
      go_wp2_with (first
        | (go_at_call 218; (with_reducible refine (HVL.out _).mono ?_); rintro e wm ⟨rfl, hwm⟩; subst hwm)
        | fail)
      go_roundw
      case rel =>
        refine ⟨i + 1, by omega, by simp, Lib.hid ?_, Lib.hid (HO.out.trans (setCell_only _ _ _ _))⟩
        have := heap_setCell_same _ _ i _ _ (.int .u32 (vw : Int)) HB.out
        rw [u32s_set, HNX.out] at this
        exact this
      case measure => simp [intOf]; omega
    · have hi16 : i = 16 := by omega
      rw [hi16, List.take_of_length_le (by rw [blockW_len]; omega)] at HB
      have HI16 := Lib.hid hi16
      clear hi16
      go_wp2_with fail
      obtain ⟨w4, hw4⟩ : ∃ w4 : World, w4 = wr := ⟨_, rfl⟩
      have HO4 := HO
      rw [← hw4] at HO4
      go_loopw [10] (fun v10 wr => ∃ i n : Nat, i = 16 + n ∧ i ≤ 64 ∧ v10 = .int .i64 (i : Int) ∧ Hid (wr.heap[w.heap.size + 1 + 1]? = some (.cells (u32s (pad64 (schN bl n))) 236 (0, 0))) ∧ Hid (OnlyJ (fun q => q = w.heap.size + 1 + 1) w3 wr)) (fun v10 _ => 64 - (intOf v10).toNat)
      case atStart => exact ⟨16, 0, rfl, by omega, rfl, HB, HO⟩
      case round =>
        obtain ⟨i, n, hin, hi, rfl, HB, HO⟩ := hrel
        by_cases hlt : i < 64
        · have hsl := schN_len bl n
          have hg := fun j (hj : j < 16 + n) => show ∃ v, (pad64 (schN bl n))[j]? = some v ∧ (schN bl n).getD j 0 = v ∧ 0 ≤ v ∧ v < 4294967296 from by
            have h1 := getD_inU (schN_inU bl n) (j := j) (by omega)
            exact ⟨_, by rw [pad64_get (by omega), List.getD_eq_getElem?_getD, List.getElem?_eq_getElem (by omega)]; rfl, rfl, h1.1, h1.2⟩
          obtain ⟨va, ha1, ha2, ha3⟩ := hg n (by omega)
          obtain ⟨vx, hx1, hx2, hx3⟩ := hg (n + 1) (by omega)
          obtain ⟨vb, hb1, hb2, hb3⟩ := hg (n + 9) (by omega)
          obtain ⟨vy, hy1, hy2, hy3⟩ := hg (n + 14) (by omega)
          have ca := u32_cell HB.out ha1
          have cx := u32_cell HB.out hx1
          have cb := u32_cell HB.out hb1
          have cy := u32_cell HB.out hy1
          obtain ⟨m1, hm1⟩ : ∃ m, n + 1 = m := ⟨_, rfl⟩
          obtain ⟨m9, hm9⟩ : ∃ m, n + 9 = m := ⟨_, rfl⟩
          obtain ⟨m14, hm14⟩ : ∃ m, n + 14 = m := ⟨_, rfl⟩
          rw [hm1] at cx
          rw [hm9] at cb
          rw [hm14] at cy
          have e16 : (i : Int) - 16 = (n : Int) := by omega
          have e15 : (i : Int) - 15 = (m1 : Int) := by omega
          have e7 : (i : Int) - 7 = (m9 : Int) := by omega
          have e2 : (i : Int) - 2 = (m14 : Int) := by omega
          have hl9 : m1 < 64 ∧ m9 < 64 ∧ m14 < 64 ∧ n < 64 := by omega
          have c7 : wr.cell? ⟨w.heap.size + 1 + 1, i, none⟩ = some (.int .u32 0) := u32_cell HB.out (by
            unfold pad64
            rw [List.getElem?_append_right (by omega), hsl, List.getElem?_replicate_of_lt (by omega)])
          have f7 := free_blk HB.out i
          have HROR := Lib.hid (fun W (x : Int) (k : Nat) (h1 : 1 ≤ k ∧ k ≤ 31) (hx : 0 ≤ x ∧ x < 4294967296) => ror_any W x k h1.1 h1.2 hx)
          have HIN := Lib.hid (And.intro hin (And.intro ha2 (And.intro hx2 (And.intro hb2 hy2))))
          clear hin hg ha1 ha2 hx1 hx2 hb1 hb2 hy1 hy2 hm1 hm9 hm14 hsl
          go_upto_region 11 with fail
          go_quiet (fail)
          go_upto_region 12 with fail
          obtain ⟨wq, hwq⟩ : ∃ wq, wr.drewN nq = wq := ⟨_, rfl⟩
          rw [hwq]
          have hlq : LJ wr wq := by rw [← hwq]; exact (LJ.refl wr).drewN nq
          have ca := LJ.cell hlq ca
          have cx := LJ.cell hlq cx
          have cb := LJ.cell hlq cb
          have cy := LJ.cell hlq cy
          have c7 := LJ.cell hlq c7
          have f7 : wq.frozen? ⟨w.heap.size + 1 + 1, i, none⟩ = false := by rw [← hwq]; exact f7
          have hwn : IntKind.i64.wrap (n : Int) = (n : Int) := by rw [IntKind.wrap_i64]; omega
          have hw9 : IntKind.i64.wrap (m9 : Int) = (m9 : Int) := by rw [IntKind.wrap_i64]; omega
          have hn64 : (n : Int) < 64 := by omega
          have hm964 : (m9 : Int) < 64 := by omega
          have hi64 : (i : Int) < 64 := by omega
          have HLQ := Lib.hid hlq
          clear hwq hlq
          go_still_tail 33, (by kernel_rfl)
          still_call ((HROR.out _ vx 7 (by omega) hx3).mono (by rintro e w1 ⟨rfl, rfl⟩; exact ⟨rfl, rfl⟩))
          repeat still_step
          still_call ((HROR.out _ vx 18 (by omega) hx3).mono (by rintro e w1 ⟨rfl, rfl⟩; exact ⟨rfl, rfl⟩))
          repeat still_step
          still_call ((HROR.out _ vy 17 (by omega) hy3).mono (by rintro e w1 ⟨rfl, rfl⟩; exact ⟨rfl, rfl⟩))
          repeat still_step
          still_call ((HROR.out _ vy 19 (by omega) hy3).mono (by rintro e w1 ⟨rfl, rfl⟩; exact ⟨rfl, rfl⟩))
          repeat still_step
          refine wpStill_nil ?_
          change wpList _ _ _ _ _ wq.drew
          obtain ⟨wz, hwz⟩ : ∃ wz, wq.drew = wz := ⟨_, rfl⟩
          rw [hwz]
          have c7 : wz.cell? ⟨w.heap.size + 1 + 1, i, none⟩ = some (.int .u32 0) := by rw [← hwz]; exact c7
          have f7 : wz.frozen? ⟨w.heap.size + 1 + 1, i, none⟩ = false := by rw [← hwz]; exact f7
          have hbz : wz.heap[w.heap.size + 1 + 1]? = some (.cells (u32s (pad64 (schN bl n))) 236 (0, 0)) := by rw [← hwz]; exact HLQ.out.block HB.out
          have hoz := (HO.out.trans (OnlyJ.of_below HLQ.out)).drew
          rw [hwz] at hoz
          have HBZ := Lib.hid hbz
          have HOZ := Lib.hid hoz
          clear hwz hbz hoz ca cx cb cy
          go_wp2_with fail
          go_roundw
          case rel =>
            refine ⟨i + 1, n + 1, by have := HIN.out.1; omega, by omega, by simp, Lib.hid ?_, Lib.hid (HOZ.out.trans (setCell_only _ _ _ _))⟩
            have hn1 := HIN.out.1
            have h := heap_setCell_same _ _ i _ _ (.int .u32 (sigS va vx vb vy)) HBZ.out
            rw [u32s_set] at h
            have hp := pad64_set (l := schN bl n) (by rw [schN_len]; omega) (sigS va vx vb vy)
            rw [schN_len, ← hn1] at hp
            rw [hp] at h
            have e : schN bl (n + 1) = schN bl n ++ [sigS va vx vb vy] := by
              obtain ⟨-, a2, x2, b2, y2⟩ := HIN.out
              show schS (schN bl n) = _
              unfold schS
              rw [schN_len, show 16 + n - 16 = n from by omega, show 16 + n - 15 = n + 1 from by omega, show 16 + n - 7 = n + 9 from by omega, show 16 + n - 2 = n + 14 from by omega, a2, x2, b2, y2]
            rw [e]
            exact h
          case measure => simp [intOf]; omega
        · have hi64 : i = 64 := by omega
          have hn48 : n = 48 := by omega
          rw [hn48] at HB
          have HI64 := Lib.hid hi64
          clear hi64 hn48 hin
          have hsl8 : (u32s sl).size = 8 := by rw [u32s_size]; exact HSL.out
          obtain ⟨CX, hCX⟩ : ∃ CX, u32s sl = CX := ⟨_, rfl⟩
          have hz3 := HZ3.out
          have hs3r := HO.out.size
          have hbs : wr.heap[w.heap.size]? = some (.cells CX 232 (0, 0)) := by
            rw [← hCX]
            exact (HO.out.block _ (by omega) (by show w.heap.size ≠ w.heap.size + 1 + 1; omega)).trans HB3.out
          have h1 : (CX.all (·.oneCell')) = true := by rw [← hCX]; exact u32s_one sl
          have hinf : (Tryz.prog.info? 232).map (·.size) = some CX.size := by rw [← hCX, hsl8]; exact info_hst
          have hCXs : CX.size = 8 := by rw [← hCX]; exact hsl8
          have HBS := Lib.hid hbs
          have HINF := Lib.hid hinf
          have H1 := Lib.hid h1
          have HCX := Lib.hid hCX
          have HCS := Lib.hid hCXs
          rw [hCX]
          clear hbs hinf h1 hCX hCXs hsl8 hz3 hs3r
          go_upto_region 14 with (first
            | refine wpList_load_row rfl 232 (.tmp 3) rfl w.heap.size rfl 232 CX (0, 0) _ HBS.out Tryz.underlying232 rfl HINF.out ?_
            | refine wpList_store_row rfl 232 (.tmp 13) (.tmp 81) rfl wr.heap.size CX rfl rfl 232 (u32s (List.replicate 8 0)) (alloc_blk wr _) HINF.out (by rw [HCS.out, u32s_size]; rfl) H1.out ?_
            | fail)
          go_wp2_with fail
          obtain ⟨w5, hw5⟩ : ∃ w5, ((wr.alloc (.cells (u32s (List.replicate 8 0)) 232)).setRow wr.heap.size CX) = w5 := ⟨_, rfl⟩
          have hb13 : w5.heap[wr.heap.size]? = some (.cells (u32s sl) 232 (0, 0)) := by
            rw [← hw5, HCX.out]
            exact setRow_heap' _ _ _ _ _ (alloc_blk wr _)
          have hr5 : OnlyJ (fun q => q = wr.heap.size) (wr.alloc (.cells (u32s (List.replicate 8 0)) 232)) w5 := by rw [← hw5]; exact setRow_only _ _ _
          have hl5 : LJ wr w5 := by
            have h0 : LJ wr (wr.alloc (.cells (u32s (List.replicate 8 0)) 232)) := (LJ.refl wr).alloc _
            have hz := hr5.size
            rw [World.size_alloc] at hz
            exact ⟨hr5.os.trans h0.os, hr5.tape.trans h0.tape, hr5.output.trans h0.output, by omega, fun k hk => (hr5.block k (by rw [World.size_alloc]; omega) (by show k ≠ wr.heap.size; omega)).trans (Below.block h0 k hk)⟩
          obtain ⟨q13, hq13⟩ : ∃ q13, wr.heap.size = q13 := ⟨_, rfl⟩
          rw [hq13] at hb13 hw5
          rw [hq13]
          rw [z8] at hw5
          rw [hw5]
          have hb7 := HB.out
          have HB7' := Lib.hid (hl5.block HB.out)
          have HB13 := Lib.hid hb13
          have HL5 := Lib.hid hl5
          have HQ13 := Lib.hid hq13
          have hs3r := HO.out.size
          have hz3 := HZ3.out
          have hkl' : kb < w.heap.size := lt_blk HK.out
          have hs5 := Below.size hl5
          have HK5 := Lib.hid (show w5.heap[kb]? = some (.cells (u32s KS) 236 (0, 0)) from hl5.block ((HO.out.block kb (by omega) (by show kb ≠ w.heap.size + 1 + 1; omega)).trans (HL3.out.block HK.out)))
          have HNE := Lib.hid (show kb ≠ q13 ∧ w.heap.size + 1 + 1 ≠ q13 ∧ w.heap.size ≠ q13 ∧ w.heap.size + 1 ≠ q13 ∧ kb < w5.heap.size ∧ w.heap.size + 1 + 1 < w5.heap.size from ⟨by omega, by omega, by omega, by omega, by omega, by omega⟩)
          have HQL := Lib.hid (show w.heap.size ≤ q13 from by omega)
          have HBS5 := Lib.hid (show w5.heap[w.heap.size]? = some (.cells (u32s sl) 232 (0, 0)) from hl5.block ((HO.out.block _ (by omega) (by show w.heap.size ≠ w.heap.size + 1 + 1; omega)).trans HB3.out))
          have HB65 := Lib.hid (show w5.heap[w.heap.size + 1]? = some (.cells (u32s (List.replicate 8 0)) 232 (0, 0)) from hl5.block ((HO.out.block _ (by omega) (by show w.heap.size + 1 ≠ w.heap.size + 1 + 1; omega)).trans HB6.out))
          have HLW5 := Lib.hid (show LJ w w5 from by
            have h1 := HO.out
            have h2 : LJ w wr := ⟨h1.os.trans HL3.out.os, h1.tape.trans HL3.out.tape, h1.output.trans HL3.out.output, by omega, fun k hk => (h1.block k (by omega) (by show k ≠ w.heap.size + 1 + 1; omega)).trans (Below.block HL3.out k hk)⟩
            exact h2.trans hl5)
          clear hw5 hr5 hl5 hb13 hq13 hb7 hs3r hz3 hkl' hs5
          go_loopw [82] (fun v82 wr => ∃ i : Nat, i ≤ 64 ∧ v82 = .int .i64 (i : Int) ∧ Hid (wr.heap[q13]? = some (.cells (u32s (rndN KS (schN bl 48) sl i)) 232 (0, 0))) ∧ Hid (OnlyJ (fun q => q = q13) w5 wr)) (fun v82 _ => 64 - (intOf v82).toNat)
          case atStart => exact ⟨0, by omega, rfl, HB13, Lib.hid (OnlyJ.refl _ _)⟩
          case round =>
            obtain ⟨i, hi, rfl, HB, HO⟩ := hrel
            by_cases hlt : i < 64
            · obtain ⟨a, b, c, d, e, f, g, q, hv⟩ := eight (rndN_len KS (schN bl 48) HSL.out i)
              have hu := rndN_inU KS (schN bl 48) HSL.out HIU.out i
              have HV := Lib.hid hv
              rw [hv] at HB hu
              have hua : 0 ≤ a ∧ a < 4294967296 := hu a (by simp)
              have hue : 0 ≤ e ∧ e < 4294967296 := hu e (by simp)
              obtain ⟨n1, n2, n3, n4, n5, n6⟩ := HNE.out
              obtain ⟨ki, hki⟩ : ∃ ki, KS.getD i 0 = ki := ⟨_, rfl⟩
              obtain ⟨wi, hwi⟩ : ∃ wi, (schN bl 48).getD i 0 = wi := ⟨_, rfl⟩
              have hsl := schN_len bl 48
              have ck : wr.cell? ⟨kb, i, none⟩ = some (.int .u32 ki) := by
                refine u32_cell (l := KS) ((HO.out.block kb n5 n1).trans HK5.out) ?_
                rw [← hki, List.getD_eq_getElem?_getD, List.getElem?_eq_getElem (by rw [HKL.out]; exact hlt)]
                rfl
              have cw : wr.cell? ⟨w.heap.size + 1 + 1, i, none⟩ = some (.int .u32 wi) := by
                refine u32_cell (l := pad64 (schN bl 48)) ((HO.out.block _ n6 n2).trans HB7'.out) ?_
                rw [pad64_get (by omega), ← hwi, List.getD_eq_getElem?_getD, List.getElem?_eq_getElem (by omega)]
                rfl
              have k0 : wr.cell? ⟨q13, 0, none⟩ = some (.int .u32 a) := u32_cell HB.out rfl
              have k1 : wr.cell? ⟨q13, 1, none⟩ = some (.int .u32 b) := u32_cell HB.out rfl
              have k2 : wr.cell? ⟨q13, 2, none⟩ = some (.int .u32 c) := u32_cell HB.out rfl
              have k4 : wr.cell? ⟨q13, 4, none⟩ = some (.int .u32 e) := u32_cell HB.out rfl
              have k5 : wr.cell? ⟨q13, 5, none⟩ = some (.int .u32 f) := u32_cell HB.out rfl
              have k6 : wr.cell? ⟨q13, 6, none⟩ = some (.int .u32 g) := u32_cell HB.out rfl
              have k7 : wr.cell? ⟨q13, 7, none⟩ = some (.int .u32 q) := u32_cell HB.out rfl
              have HROR := Lib.hid (fun W (x : Int) (k : Nat) (h1 : 1 ≤ k ∧ k ≤ 31) (hx : 0 ≤ x ∧ x < 4294967296) => show Calls Tryz.prog 219 #[.int .u32 x, .int .i64 k] W fun e w' => e = .returned (.int .u32 (rorI x k)) ∧ w' = W from (ror_any W x k h1.1 h1.2 hx).mono (by rintro e w1 ⟨rfl, rfl⟩; exact ⟨rfl, rfl⟩))
              have hil : (i : Int) < 64 := by omega
              have hwi64 : IntKind.i64.wrap (i : Int) = (i : Int) := by rw [IntKind.wrap_i64]; omega
              have HKW := Lib.hid (And.intro hki hwi)
              clear hv hu hki hwi hsl n1 n2 n3 n4 n5 n6
              go_upto_region 17 with fail
              go_quiet (fail)
              go_upto_region 18 with fail
              obtain ⟨wq, hwq⟩ : ∃ wq, wr.drewN nq = wq := ⟨_, rfl⟩
              rw [hwq]
              have hlq : LJ wr wq := by rw [← hwq]; exact (LJ.refl wr).drewN nq
              have ck := LJ.cell hlq ck
              have cw := LJ.cell hlq cw
              have k0 := LJ.cell hlq k0
              have k1 := LJ.cell hlq k1
              have k2 := LJ.cell hlq k2
              have k5 := LJ.cell hlq k5
              have k6 := LJ.cell hlq k6
              have k7 := LJ.cell hlq k7
              have HLQ := Lib.hid hlq
              clear hwq hlq k4
              refine wp_region_still_lit (by kernel_rfl) (by kernel_rfl) ?_
              repeat still_step
              still_call (HROR.out _ e 6 (by omega) hue)
              repeat still_step
              still_call (HROR.out _ e 11 (by omega) hue)
              repeat still_step
              still_call (HROR.out _ e 25 (by omega) hue)
              repeat still_step
              refine wpStill_nil ?_
              obtain ⟨wd, hwd⟩ : ∃ wd, ({ wq with drawn := wq.drawn + 1 } : World) = wd := ⟨_, rfl⟩
              rw [hwd]
              generalize hT : IntKind.u32.wrap (IntKind.u32.wrap (IntKind.u32.wrap (IntKind.u32.wrap (q + Go.bits .xor .u32 (Go.bits .xor .u32 (rorI e 6) (rorI e 11)) (rorI e 25)) + Go.bits .xor .u32 (Go.bits .and .u32 e f) (Go.bits .and .u32 (Go.bits .xor .u32 (if IntKind.u32.signed = true then -1 else IntKind.u32.max) e) g)) + ki) + wi) = tt
              have HT := Lib.hid (show rndT e f g q ki wi = tt from hT)
              have hld : LJ wq wd := by rw [← hwd]; exact (LJ.refl wq).drew
              have k0 := LJ.cell hld k0
              have k1 := LJ.cell hld k1
              have k2 := LJ.cell hld k2
              have HLD := Lib.hid (HLQ.out.trans hld)
              clear hT hwd hld ck cw k5 k6 k7
              go_wp2_with fail
              refine wp_region_still_lit (by kernel_rfl) (by kernel_rfl) ?_
              repeat still_step
              still_call (HROR.out _ a 2 (by omega) hua)
              repeat still_step
              still_call (HROR.out _ a 13 (by omega) hua)
              repeat still_step
              still_call (HROR.out _ a 22 (by omega) hua)
              repeat still_step
              refine wpStill_nil ?_
              obtain ⟨we, hwe⟩ : ∃ we, ({ wd with drawn := wd.drawn + 1 } : World) = we := ⟨_, rfl⟩
              rw [hwe]
              generalize hU : IntKind.u32.wrap (Go.bits .xor .u32 (Go.bits .xor .u32 (rorI a 2) (rorI a 13)) (rorI a 22) + Go.bits .xor .u32 (Go.bits .xor .u32 (Go.bits .and .u32 a b) (Go.bits .and .u32 a c)) (Go.bits .and .u32 b c)) = uu
              have HU := Lib.hid (show rndU a b c = uu from hU)
              have hle : LJ wd we := by rw [← hwe]; exact (LJ.refl wd).drew
              have hlr := HLD.out.trans hle
              have hbe := hlr.block HB.out
              have HLE := Lib.hid hlr
              have HBE := Lib.hid hbe
              clear hU hwe hle hlr hbe k0 k1 k2
              go_wp2_with fail
              go_still_tail 2, (by kernel_rfl)
              change wpList _ _ _ _ _ we.drew
              obtain ⟨wx, hwx⟩ : ∃ wx, we.drew = wx := ⟨_, rfl⟩
              rw [hwx]
              have hbx : wx.heap[q13]? = some (.cells (u32s [a, b, c, d, e, f, g, q]) 232 (0, 0)) := by rw [← hwx]; exact HBE.out
              have hcp : ∀ ty, (Builtin.copy_ #[260, 260] ty #[.slice (some ⟨q13, 1, none⟩) 7 7, .slice (some ⟨q13, 0, none⟩) 7 8]).run Tryz.prog wx = .ok (.int .i64 7) (wx.setRow q13 (u32s [a, a, b, c, d, e, f, g])) := by
                intro ty
                have h := run_copy_row (P := Tryz.prog) wx 260 260 ty 211 q13 1 7 7 ⟨q13, 0, none⟩ 7 8 _ _ [.int .u32 a, .int .u32 b, .int .u32 c, .int .u32 d, .int .u32 e, .int .u32 f, .int .u32 g] Tryz.underlying260 (by kernel_rfl) hbx rfl (fun j v hj => ?_) (Nat.le_refl 8) (by intro v hv; simp only [List.mem_cons, List.not_mem_nil, or_false] at hv; rcases hv with rfl | rfl | rfl | rfl | rfl | rfl | rfl <;> rfl)
                · exact h
                · rw [addr_none, Nat.zero_add]
                  have hj7 : j < 7 := (List.getElem?_eq_some_iff.1 hj).1
                  have hc := cell_blk hbx j
                  have e : (u32s [a, b, c, d, e, f, g, q])[j]? = [Value.int .u32 a, .int .u32 b, .int .u32 c, .int .u32 d, .int .u32 e, .int .u32 f, .int .u32 g][j]? := by
                    match j, hj7 with
                    | 0, _ => rfl
                    | 1, _ => rfl
                    | 2, _ => rfl
                    | 3, _ => rfl
                    | 4, _ => rfl
                    | 5, _ => rfl
                    | 6, _ => rfl
                  rw [e, hj] at hc
                  exact hc
              obtain ⟨wy, hwy⟩ : ∃ wy, wx.setRow q13 (u32s [a, a, b, c, d, e, f, g]) = wy := ⟨_, rfl⟩
              have hby : wy.heap[q13]? = some (.cells (u32s [a, a, b, c, d, e, f, g]) 232 (0, 0)) := by rw [← hwy]; exact setRow_heap' _ _ _ _ _ hbx
              have hoy : OnlyJ (fun q => q = q13) wr wy := by
                have h1 : LJ wr wx := by rw [← hwx]; exact HLE.out.drew
                rw [← hwy]
                exact (OnlyJ.of_below h1).trans (setRow_only _ _ _)
              rw [hwy] at hcp
              have y4 : wy.cell? ⟨q13, 4, none⟩ = some (.int .u32 d) := u32_cell hby rfl
              have f4 := free_blk hby 4
              have HBY := Lib.hid hby
              have HOY := Lib.hid hoy
              clear hwx hbx hwy hby hoy
              go_upto_region 22 with fail
              obtain ⟨wz, hwz⟩ : ∃ wz, wy.setCell ⟨q13, 4, none⟩ (.int .u32 ((d + tt) % 4294967296)) = wz := ⟨_, rfl⟩
              rw [hwz]
              have hbz : wz.heap[q13]? = some (.cells (u32s [a, a, b, c, (d + tt) % 4294967296, e, f, g]) 232 (0, 0)) := by
                rw [← hwz]
                exact heap_setCell_same _ _ 4 _ _ _ HBY.out
              have hoz : OnlyJ (fun q => q = q13) wr wz := by rw [← hwz]; exact HOY.out.trans (setCell_only _ _ _ _)
              have y0 : wz.cell? ⟨q13, 0, none⟩ = some (.int .u32 a) := u32_cell hbz rfl
              have f0 := free_blk hbz 0
              have HBZ := Lib.hid hbz
              have HOZ := Lib.hid hoz
              clear hwz hbz hoz y4 f4 hcp
              go_wp2_with fail
              go_roundw
              case rel =>
                refine ⟨i + 1, by omega, by simp, Lib.hid ?_, Lib.hid (HO.out.trans (HOZ.out.trans (setCell_only _ _ _ _)))⟩
                show _ = some (Obj.cells (u32s (rndS (rndN KS (schN bl 48) sl i) (KS.getD i 0) ((schN bl 48).getD i 0))) 232 (0, 0))
                rw [HV.out, HKW.out.1, HKW.out.2]
                show _ = some (Obj.cells (u32s [(rndT e f g q ki wi + rndU a b c) % 4294967296, a, b, c, (d + rndT e f g q ki wi) % 4294967296, e, f, g]) 232 (0, 0))
                rw [HT.out, HU.out]
                exact heap_setCell_same _ _ 0 _ _ _ HBZ.out
              case measure => simp [intOf]; omega
            · have hi64 : i = 64 := by omega
              obtain ⟨vl, hvl⟩ : ∃ vl, rndN KS (schN bl 48) sl 64 = vl := ⟨_, rfl⟩
              rw [hi64, hvl] at HB
              have hvl8 : vl.length = 8 := by rw [← hvl]; exact rndN_len _ _ HSL.out _
              have HVL := Lib.hid (And.intro hvl hvl8)
              have HI64' := Lib.hid hi64
              clear hi64 hvl hvl8
              go_wp2_with fail
              obtain ⟨w6, hw6⟩ : ∃ w6, w6 = wr := ⟨_, rfl⟩
              have HO6 := HO
              have HB6' := HB
              rw [← hw6] at HO6
              go_loopw [164] (fun v164 wr => ∃ i : Nat, i ≤ 8 ∧ v164 = .int .i64 (i : Int) ∧ Hid (wr.heap[q13]? = some (.cells (u32s ((addL vl sl).take i ++ vl.drop i)) 232 (0, 0))) ∧ Hid (OnlyJ (fun q => q = q13) w5 wr)) (fun v164 _ => 8 - (intOf v164).toNat)
              case atStart => exact ⟨0, by omega, rfl, HB, HO⟩
              case round =>
                obtain ⟨i, hi, rfl, HB, HO⟩ := hrel
                by_cases hlt : i < 8
                · obtain ⟨hvl, hvl8⟩ := HVL.out
                  obtain ⟨n1, n2, n3, n4, n5, n6⟩ := HNE.out
                  have hsl8 := HSL.out
                  have hal : (addL vl sl).length = 8 := by unfold addL; rw [List.length_zipWith, hvl8, hsl8]; rfl
                  obtain ⟨vi, hvi⟩ : ∃ vi, vl[i]? = some vi := ⟨_, List.getElem?_eq_getElem (by omega)⟩
                  obtain ⟨si, hsi⟩ : ∃ si, sl[i]? = some si := ⟨_, List.getElem?_eq_getElem (by omega)⟩
                  have hli : ((addL vl sl).take i ++ vl.drop i)[i]? = some vi := by
                    rw [List.getElem?_append_right (by rw [List.length_take]; omega), List.length_take, hal, Nat.min_eq_left (by omega), Nat.sub_self, List.getElem?_drop, Nat.add_zero]
                    exact hvi
                  have hset : ((addL vl sl).take i ++ vl.drop i).set i ((vi + si) % 4294967296) = (addL vl sl).take (i + 1) ++ vl.drop (i + 1) := by
                    have ha : (addL vl sl)[i]? = some ((vi + si) % 4294967296) := by unfold addL; rw [List.getElem?_zipWith, hvi, hsi]
                    rw [List.set_append_right _ _ (by rw [List.length_take]; omega), List.length_take, hal, Nat.min_eq_left (by omega), Nat.sub_self, List.take_add_one, ha]
                    rw [show vl.drop i = vi :: vl.drop (i + 1) from by rw [List.drop_eq_getElem_cons (by omega)]; congr 1; have := hvi; rw [List.getElem?_eq_getElem (by omega)] at this; exact Option.some.inj this]
                    rw [List.set_cons_zero]
                    simp
                  have kv := u32_cell HB.out hli
                  have ks : wr.cell? ⟨w.heap.size, i, none⟩ = some (.int .u32 si) := u32_cell ((HO.out.block _ (by omega) n3).trans HBS5.out) hsi
                  have fv := free_blk HB.out i
                  have hi8 : (i : Int) < 8 := by omega
                  have HSET := Lib.hid hset
                  clear hvl hvl8 n1 n2 n3 n4 n5 n6 hsl8 hal hvi hsi hli hset
                  go_wp2_with fail
                  go_still_tail 8, (by kernel_rfl)
                  change wpList _ _ _ _ _ wr.drew
                  obtain ⟨wx, hwx⟩ : ∃ wx, wr.drew = wx := ⟨_, rfl⟩
                  rw [hwx]
                  have fv : wx.frozen? ⟨q13, i, none⟩ = false := by rw [← hwx]; exact fv
                  have kv : wx.cell? ⟨q13, i, none⟩ = some (.int .u32 vi) := by rw [← hwx]; exact kv
                  have hbx : wx.heap[q13]? = some (.cells (u32s ((addL vl sl).take i ++ vl.drop i)) 232 (0, 0)) := by rw [← hwx]; exact HB.out
                  have HBX := Lib.hid hbx
                  have HOX := Lib.hid (show OnlyJ (fun q => q = q13) w5 wx from by rw [← hwx]; exact HO.out.drew)
                  clear hwx hbx ks
                  go_wp2_with fail
                  go_roundw
                  case rel =>
                    refine ⟨i + 1, by omega, by simp, Lib.hid ?_, Lib.hid (HOX.out.trans (setCell_only _ _ _ _))⟩
                    have h := heap_setCell_same _ _ i _ _ (.int .u32 ((vi + si) % 4294967296)) HBX.out
                    rw [u32s_set, HSET.out] at h
                    exact h
                  case measure => simp [intOf]; omega
                · have hi8 : i = 8 := by omega
                  obtain ⟨hvl, hvl8⟩ := HVL.out
                  obtain ⟨n1, n2, n3, n4, n5, n6⟩ := HNE.out
                  have hsl8 := HSL.out
                  have hal : (addL vl sl).length = 8 := by unfold addL; rw [List.length_zipWith, hvl8, hsl8]; rfl
                  have hb := HB.out
                  rw [hi8, List.take_of_length_le (by omega), List.drop_of_length_le (by omega), List.append_nil] at hb
                  have hout : addL vl sl = nextP sl bl KS := by unfold nextP; rw [hvl]
                  rw [hout] at hb hal
                  obtain ⟨OX, hOX⟩ : ∃ OX, u32s (nextP sl bl KS) = OX := ⟨_, rfl⟩
                  have h1 : (OX.all (·.oneCell')) = true := by rw [← hOX]; exact u32s_one _
                  have hOs : OX.size = 8 := by rw [← hOX, u32s_size]; exact hal
                  have hinf : (Tryz.prog.info? 232).map (·.size) = some OX.size := by rw [hOs]; exact info_hst
                  rw [hOX] at hb
                  have HOXE := Lib.hid hOX
                  have hb6 : wr.heap[w.heap.size + 1]? = some (.cells (u32s (List.replicate 8 0)) 232 (0, 0)) := (HO.out.block _ (by omega) n4).trans HB65.out
                  have HBO := Lib.hid hb
                  have HB6O := Lib.hid hb6
                  have HINF' := Lib.hid hinf
                  have H1' := Lib.hid h1
                  have HOS := Lib.hid hOs
                  have HEND := Lib.hid (fun W (hW : OnlyJ (fun q => q = w.heap.size + 1) wr W) => show LJ w W from by
                    have h0 := HLW5.out
                    have ho := HO.out
                    have hs := Below.size h0
                    have hs2 := ho.size
                    have hq := HQL.out
                    exact ⟨hW.os.trans (ho.os.trans h0.os), hW.tape.trans (ho.tape.trans h0.tape), hW.output.trans (ho.output.trans h0.output), by have := hW.size; omega, fun k hk => (hW.block k (by omega) (by show k ≠ w.heap.size + 1; omega)).trans ((ho.block k (by omega) (by show k ≠ q13; omega)).trans (Below.block h0 k hk))⟩)
                  clear hi8 hvl hvl8 n1 n2 n3 n4 n5 n6 hsl8 hal hb hout hOX h1 hOs hinf hb6
                  go_wp2_with (first
                    | refine wpList_load_row rfl 232 (.tmp 13) rfl q13 rfl 232 OX (0, 0) _ HBO.out Tryz.underlying232 rfl HINF'.out ?_
                    | refine wpList_store_row rfl 232 (.tmp 6) (.tmp 176) rfl (w.heap.size + 1) OX rfl rfl 232 (u32s (List.replicate 8 0)) HB6O.out HINF'.out (by rw [HOS.out, u32s_size]; rfl) H1'.out ?_
                    | fail)
                  refine bodyPost_ret (results_cell_row rfl _ _ (w.heap.size + 1) 232 OX (0, 0) _ rfl (setRow_heap _ _ _ _ _ _ HB6O.out) Tryz.underlying232 rfl HINF'.out) rfl ?_
                  exact ⟨by rw [HOXE.out], HEND.out _ (setRow_only _ _ _)⟩
end Go.Proofs.YtfpbocjmlhcgiaaGreatDoor
