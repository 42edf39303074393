/- Jg9, merged: J37 J38 J39 J40. -/
import Derived.Test.YtfpbocjmlhcgiaaGreatDoorJ36
import Derived.Laws.MakeOwn
import Derived.Defers
import Derived.Recover
import Derived.Shelf.Abstract
set_option linter.unusedSimpArgs false
set_option linter.unusedVariables false
/- A block device: Barrier, Count; the journal's small functions: must, put. -/
namespace Go.Proofs.YtfpbocjmlhcgiaaGreatDoor
open Go.RowKit PJ Go.Maps

theorem bbarrier_any (w : World) (p g mb b n cached : Nat) (R F : Nat → Prop) (V S : View) (dt : Bool) (h : DevAt w p g mb b n cached R F V S dt) :
    Calls Tryz.prog 60 #[.pointer (some ⟨b, 0, none⟩)] w fun e w' => e = .returned (.int .i64 0) ∧ DevAt w' p g mb b n cached R (grow F w w') V V false ∧ OnlyJ (fun q => q = g ∨ q = mb) w w' := by
  obtain ⟨safe, U, cv, misses, xs, h⟩ := h
  refine (barrier_any w p g mb n safe U h.disk (fun i s hs => (h.keys i s hs).2.2) b 0 n cached misses cv h.cells (by omega)).mono ?_
  rintro e w' ⟨rfl, safe', hd, hs, ho⟩
  have hnone : ∀ i, flU U 0 (0 + n) i = none := by
    intro i
    unfold flU
    split
    · rfl
    · rename_i hi
      cases hu : U i with
      | none => rfl
      | some s =>
        have := h.keys i s hu
        exact absurd ⟨by omega, by omega⟩ hi
  refine ⟨rfl, ⟨safe', flU U 0 (0 + n), cv, misses, xs, hd, ?_, h.cache.kept ho.size (fun q h1 h2 => ho.block q (h.lt q h1) ?_) grow_sub, h.len, h.ca, ?_, ?_, fun _ => hnone, h.kept, fun q hq => .inl (h.sub q hq), grow_lt h.lt ho.size, h.rp, h.rg, h.rm, h.rb, h.bp, h.bg, h.bm⟩, ho⟩
  · exact (ho.block b (lt_blk h.cells) (by rintro (e | e); exact h.bg e; exact h.bm e)).trans h.cells
  · rintro (rfl | rfl)
    · exact h2 h.rg
    · exact h2 h.rm
  · intro i s hi
    rw [hnone] at hi; cases hi
  · intro i hi
    have h1 := hs i hi
    have h2 := (h.views i hi).1
    refine ⟨h1.trans h2, ?_⟩
    rw [← h2, ← h1]
    unfold secT safT
    rw [hnone]
    rfl
theorem bcount_at (w : World) (p g mb b n cached : Nat) (R F : Nat → Prop) (V S : View) (dt : Bool) (h : DevAt w p g mb b n cached R F V S dt) :
    Calls Tryz.prog 57 #[.pointer (some ⟨b, 0, none⟩)] w fun e w' => e = .returned (.int .i64 n) ∧ w = w' := by
  obtain ⟨safe, U, cv, misses, xs, h⟩ := h
  exact bcount_any w p b 0 n cached misses cv h.cells
theorem must_any (w : World) : Calls Tryz.prog 58 #[.int .i64 0] w fun e w' => e = .returned (.tuple #[]) ∧ w = w' := by
  go_enter Tryz.func58, Tryz.ntmps58
  go_wp2_with fail
  go_end0
  exact ⟨rfl, rfl⟩
end Go.Proofs.YtfpbocjmlhcgiaaGreatDoor
/- The journal's put. -/
namespace Go.Proofs.YtfpbocjmlhcgiaaGreatDoor
open Go.RowKit PJ Go.Maps

set_option maxRecDepth 100000 in
set_option maxHeartbeats 2000000 in
theorem jput_any (w : World) (n k : Nat) (hn : n < 9223372036854775808) (hk : k ≤ 8) (hk1 : 1 ≤ k) :
    Calls Tryz.prog 118 #[.int .i64 n, .int .i64 k] w fun e w' => e = .returned (.string ⟨(be n k).toArray⟩) ∧ Below w.heap.size w w' := by
  obtain ⟨iU, hiU, hz0, hz1, hz2⟩ := info_parts info_u8
  have hki : (k : Int) ≤ 8 := by omega
  go_enter Tryz.func118, Tryz.ntmps118
  go_wp2_with (first
    | (refine wpList_make_full w rfl (.tmp 7) (.tmp 7) 99 rfl w.heap.size 5 iU (.int .u8 0) 1 Tryz.underlying99 hiU hz0 hz1 .i64 .i64 (k : Int) (k : Int) k rfl rfl rfl rfl (by rw [hz2]; omega) (by unfold maxLen; omega) (Nat.le_refl _) ?_; intro w1 hown1 hgrow1)
    | fail)
  have HO1 := Lib.hid hown1
  have hb1 : Below w.heap.size w w1 := Below.grown (Below.refl _ _) hgrow1 (Nat.le_refl _) (fun q hq => by cases hq)
  clear hown1 hgrow1
  go_loopw [6, 11] (fun v6 v11 wr => ∃ (j : Nat) (cs : List Value), j ≤ k ∧ v11 = .int .i64 (j : Int) ∧ wr.ownsRow w.heap.size 5 1 (.slice (some ⟨w.heap.size, 0, none⟩) k k) k cs ∧ Hid (cs.take j = bys ((be n k).take j)) ∧ Below w.heap.size w wr) (fun _ v11 _ => k - (intOf v11).toNat)
  case atStart => exact ⟨0, _, by omega, rfl, HO1.out, Lib.hid (by simp [bys]), hb1⟩
  case round =>
    obtain ⟨j, cs, hj, rfl, hown, HT, hbel⟩ := hrel
    have HO := Lib.hid hown
    clear hown
    by_cases hlt : j < k
    · have hcl : cs.length = k := by have := HO.out.1; omega
      have c1 : wr.cell? ⟨w.heap.size, j, none⟩ = some (cs[j]'(by omega)) := by
        rw [HO.out.cellAt j (by omega), List.getElem?_eq_getElem (by omega)]
      have f1 := HO.out.frozenAt j
      obtain ⟨i, hi⟩ : ∃ i : Nat, (k : Int) - 1 - j = i := ⟨k - 1 - j, by omega⟩
      have hi7 : i ≤ 7 := by omega
      have HI := Lib.hid hi
      clear hi
      go_wp2_with fail
      go_roundw
      case rel =>
        refine ⟨j + 1, cs.set j _, by omega, by simp, (HO.out.stored j _).1, Lib.hid ?_, hbel.setCell (Nat.le_refl _) _⟩
        rw [be_get n k j hlt, bys_snoc, ← HT.out, List.take_add_one, List.getElem?_set_self (by omega), List.take_set_of_le (Nat.le_refl _), UInt8.toNat_ofNat', byte_div]
        rfl
      case measure => simp [intOf]; omega
    · obtain rfl : j = k := by omega
      have hcs : cs = bys (be n j) := by
        have := HT.out
        rw [List.take_of_length_le (by have := HO.out.1; omega), List.take_of_length_le (by rw [be_len]; exact Nat.le_refl _)] at this
        exact this
      have ho := HO.out
      rw [hcs] at ho
      have ho2 : wr.ownsRow w.heap.size 5 1 (.slice (some ⟨w.heap.size, 0, none⟩) j j) (be n j).length (bys (be n j)) := by rw [be_len]; exact ho
      obtain ⟨g, cap, he, hcv⟩ := own_conv ho2 (be_len n j) hk1
      rw [← he] at hcv
      obtain ⟨OUT, hO⟩ : ∃ OUT : ByteArray, (⟨(be n j).toArray⟩ : ByteArray) = OUT := ⟨_, rfl⟩
      rw [hO] at hcv
      have HOUT := Lib.hid hO
      clear ho ho2 he hcs hO
      go_wp2_with fail
      go_ret
      exact ⟨ret_str HOUT.out.symm, hbel⟩
end Go.Proofs.YtfpbocjmlhcgiaaGreatDoor
/- The journal's face: work that the power may break off (it does not). -/
namespace Go.Proofs.YtfpbocjmlhcgiaaGreatDoor
open Go.RowKit PJ Go.Maps

set_option maxRecDepth 100000 in
theorem face_idle (p q : Nat) (w : World) :
    CallsD Tryz.prog 117 #[.pointer (some ⟨p, 0, none⟩), .pointer (some ⟨q, 0, none⟩)] .returning w fun e u' w' => e = .returned (.tuple #[]) ∧ u' = .returning ∧ Below w.heap.size w w' := by
  have hta : ∀ w, (Instr.typeAssert .nilIface 20 173 true).run Tryz.prog w = .ok (.tuple #[.agg #[], .bool false]) w := fun _ => by kernel_rfl
  have hst : ∀ (w : World) (a : Addr), (storeCells a []).run Tryz.prog w = .ok () w := fun _ _ => rfl
  refine callsD_of_wpS Tryz.func117 rfl fun c₀ cs hu => ?_
  apply wpS_seq
  apply wpS_region
  simp [wpOpsS, go_sem, hta, hst, recoverD, hu, Tryz.ntmps117, Exit.thenS]
  apply wpS_seq
  apply wpS_region
  simp [wpOpsS, go_sem, Exit.thenS, Array.replicate]
  refine wpS_cond (t := false) (by simp [Act.eval, Array.replicate]) ?_
  simp only [Bool.false_eq_true, if_false]
  refine wpS_of_wp (wp_skip ?_)
  have hb := alloc_below w (.cells #[] 173)
  cases c₀
  simp_all [bodyPostS, results, Tryz.results117]
/-- What face leaves, where its work leaves P. -/
def FaceOut (w : World) (r : Nat → Prop) (P : World → Prop) (w' : World) : Prop :=
  ∃ w1, P w1 ∧ OnlyJ r w w1 ∧ w.heap.size + 1 < w1.heap.size ∧ OnlyJ (fun q => q = w.heap.size + 1) w1 w'
theorem load_errno (w : World) (g : Nat) (n : Int) (hc : w.cell? ⟨g, 0, none⟩ = some (.int .i64 n)) : (loadVar 27 ⟨g, 0, none⟩).run Tryz.prog w = .ok (.int .i64 n) w := by
  simp [loadVar, isAgg, run_underlying Tryz.underlying27, go_sem, hc]
theorem results_cell1 {fn : Func} {p : Tmp} {ty : TypeId} (h : fn.results = #[.cell p ty]) (tmps : Array Value) (P : Program) (w : World) (g : Nat) (v : Value)
    (hp : tmps.getD p undef = .pointer (some ⟨g, 0, none⟩)) (hl : (loadVar ty ⟨g, 0, none⟩).run P w = .ok v w) :
    (results fn tmps).run P w = .ok v w := by
  have hp' : tmps[p]?.getD undef = .pointer (some ⟨g, 0, none⟩) := by simpa using hp
  simp [results, h, hp', asAddr, hl]
set_option maxRecDepth 100000 in
set_option maxHeartbeats 1000000 in
theorem face_any (w : World) (jb : Nat) (jc : Array Value) (hj : w.heap[jb]? = some (.cells jc 108 (0, 0))) (h7 : jc[7]? = some (.bool false)) (k : Nat) (hk : ∀ args w, (callFunc k args).run Tryz.prog w = .ok (.enter k args) w) (cap : Array Value) (r : Nat → Prop) (P : World → Prop)
    (hr : ∀ q, r q → q < w.heap.size) (hf : ∀ w2, Below w.heap.size w w2 → w2.heap.size = w.heap.size + 1 + 1 → Calls Tryz.prog k cap w2 fun e w' => e = .returned (.tuple #[]) ∧ P w' ∧ OnlyJ r w2 w') :
    Calls Tryz.prog 54 #[.pointer (some ⟨jb, 0, none⟩), .func (.func k) #[] cap] w fun e w' => e = .returned (.int .i64 0) ∧ FaceOut w r P w' := by
  have hmf : ∀ (fn : Fn) (first cap : Array Value) (w : World), (Instr.makeFunc fn first cap).run Tryz.prog w = .ok (.func fn first cap) w := fun _ _ _ _ => rfl
  obtain ⟨w1, hw1⟩ : ∃ w1, w.alloc (.cells #[.pointer (some ⟨jb, 0, none⟩)] 34) = w1 := ⟨_, rfl⟩
  have hz1 : w1.heap.size = w.heap.size + 1 := by rw [← hw1, World.size_alloc]
  obtain ⟨w2, hw2⟩ : ∃ w2, w1.alloc (.cells #[.int .i64 0] 27) = w2 := ⟨_, rfl⟩
  have hz2 : w2.heap.size = w.heap.size + 1 + 1 := by rw [← hw2, World.size_alloc, hz1]
  have hb1 : Below w.heap.size w w1 := by rw [← hw1]; exact alloc_below w _
  have hb2 : Below w.heap.size w w2 := by rw [← hw2]; exact hb1.alloc hb1.size _
  have hx1 : w2.heap[w.heap.size]? = some (.cells #[.pointer (some ⟨jb, 0, none⟩)] 34 (0, 0)) := by
    rw [← hw2, Below.heap_alloc _ _ _ (by omega), ← hw1]; exact alloc_blk w _
  have hx2 : w2.heap[w.heap.size + 1]? = some (.cells #[.int .i64 0] 27 (0, 0)) := by
    have := alloc_blk w1 (.cells #[.int .i64 0] 27)
    rw [hz1, hw2] at this
    exact this
  have hj2 := block_below hb2 hj (lt_blk hj)
  have c7 : w2.cell? ⟨jb, 7, none⟩ = some (.bool false) := (cell_blk hj2 7).trans h7
  have x0 : w2.cell? ⟨w.heap.size, 0, none⟩ = some (.pointer (some ⟨jb, 0, none⟩)) := cell_blk hx1 0
  have HF := Lib.hid (hf w2 hb2 hz2)
  have HW1 := Lib.hid hw1
  have HW2 := Lib.hid hw2
  have HB2 := Lib.hid hb2
  have HX2 := Lib.hid hx2
  have HZ2 := Lib.hid hz2
  clear hf hw1 hw2 hz1 hz2 hx1 hj hb1
  go_enter_defers Tryz.func54, Tryz.ntmps54
  go_upto_region 1 with fail
  rw [HW1.out, HW2.out]
  go_wp2_with (first
    | (go_at_fn k; (with_reducible refine HF.out.mono ?_); rintro e w3 ⟨rfl, hp3, ho3⟩; have hx3 := (ho3.block _ (lt_blk HX2.out) (fun e => by have := hr _ e; omega)).trans HX2.out; have y0 : w3.cell? ⟨w.heap.size + 1, 0, none⟩ = some (.int .i64 0) := cell_blk hx3 0; have z0 := free_blk hx3 0; have HX3 := Lib.hid hx3; have HO3 := Lib.hid ho3; clear hx3 ho3)
    | fail)
  have hx4 := heap_setCell_same w3 (w.heap.size + 1) 0 _ _ (.int .i64 0) HX3.out
  obtain ⟨w4, hw4⟩ : ∃ w4, w3.setCell ⟨w.heap.size + 1, 0, none⟩ (.int .i64 0) = w4 := ⟨_, rfl⟩
  rw [hw4] at hx4 ⊢
  refine leaves_cons (f := 117) (args := #[.pointer (some ⟨w.heap.size, 0, none⟩), .pointer (some ⟨w.heap.size + 1, 0, none⟩)]) (by simp) (by simp [go_sem]) ?_
  refine (face_idle w.heap.size (w.heap.size + 1) w4).mono ?_
  rintro e u' w5 ⟨rfl, rfl, hb5⟩
  have hx5 := block_below hb5 hx4 (lt_blk hx4)
  have hc5 : w5.cell? ⟨w.heap.size + 1, 0, none⟩ = some (.int .i64 0) := cell_blk hx5 0
  refine ⟨_, results_cell1 rfl _ _ _ (w.heap.size + 1) (.int .i64 0) rfl (load_errno _ _ _ hc5), rfl, w3, hp3, (OnlyJ.of_below HB2.out).trans HO3.out, ?_, ?_⟩
  · have := HO3.out.size; have := HZ2.out; omega
  · rw [← hw4] at hb5
    have h3 : OnlyJ (fun q => q = w.heap.size + 1) w3 (w3.setCell ⟨w.heap.size + 1, 0, none⟩ (.int .i64 0)) := ⟨rfl, rfl, rfl, by rw [World.size_setCell]; exact Nat.le_refl _, fun q _ hne => heap_setCell_other w3 ⟨w.heap.size + 1, 0, none⟩ q _ hne⟩
    exact h3.trans (OnlyJ.of_below hb5)
end Go.Proofs.YtfpbocjmlhcgiaaGreatDoor
/- The journal in memory. -/
namespace Go.Proofs.YtfpbocjmlhcgiaaGreatDoor
open Go.RowKit PJ Go.Maps

/-- Where a journal lies. -/
structure JA where
  p : Nat
  g : Nat
  mb : Nat
  b : Nat
  jb : Nat
  cm : Nat
  n : Nat
  cached : Nat
  area : Nat
/-- The blocks that a journal writes. -/
def JA.R (a : JA) : Nat → Prop := fun q => q = a.p ∨ q = a.g ∨ q = a.mb ∨ q = a.b ∨ q = a.jb ∨ q = a.cm
def CI (C : Cells) : Int → Option (List UInt8) := fun i => if 0 ≤ i then C i.toNat else none
def CellsAt (w : World) (cm m : Nat) (C : Cells) : Prop :=
  ∃ cnt, ∃ D : DataW Unit, w.ownsMap Tryz.prog 3 (plainElem Tryz.prog 9) cm cnt D ∧ MapIs D (CI C) ∧ cnt + missU (CI C) m ≤ m
def jCells (b area head first next at' cm : Nat) : Array Value := #[.pointer (some ⟨b, 0, none⟩), .int .i64 area, .int .i64 head, .int .i64 first, .int .i64 next, .int .i64 at', .map (some cm), .bool false]
structure JA.Apart (a : JA) : Prop where
  jp : a.jb ≠ a.p
  jg : a.jb ≠ a.g
  jm : a.jb ≠ a.mb
  jbb : a.jb ≠ a.b
  cp : a.cm ≠ a.p
  cg : a.cm ≠ a.g
  cmm : a.cm ≠ a.mb
  cb : a.cm ≠ a.b
  cj : a.cm ≠ a.jb
structure JC (w : World) (a : JA) (F : Nat → Prop) (V S : View) (dt : Bool) (head first next at' : Nat) (C : Cells) : Prop where
  dev : DevAt w a.p a.g a.mb a.b a.n a.cached a.R F V S dt
  cells : w.heap[a.jb]? = some (.cells (jCells a.b a.area head first next at' a.cm) 108 (0, 0))
  map : CellsAt w a.cm (a.n - a.area) C
  apart : a.Apart
theorem CellsAt.kept {w w' : World} {cm m : Nat} {C : Cells} (h : CellsAt w cm m C) (hb : w'.heap[cm]? = w.heap[cm]?) : CellsAt w' cm m C := by
  obtain ⟨cnt, D, ⟨es, clock, h4, h5⟩, h2, h3⟩ := h
  exact ⟨cnt, D, ⟨es, clock, hb.trans h4, h5⟩, h2, h3⟩
theorem DevAt.sub {w : World} {p g mb b n cached : Nat} {R F : Nat → Prop} {V S : View} {dt : Bool} (h : DevAt w p g mb b n cached R F V S dt) : ∀ q, R q → F q := by
  obtain ⟨_, _, _, _, _, h⟩ := h
  exact h.sub
theorem JC.Fj {w : World} {a : JA} {F : Nat → Prop} {V S : View} {dt : Bool} {head first next at' : Nat} {C : Cells} (h : JC w a F V S dt head first next at' C) : F a.jb := h.dev.sub _ (.inr (.inr (.inr (.inr (.inl rfl)))))
theorem JC.Fc {w : World} {a : JA} {F : Nat → Prop} {V S : View} {dt : Bool} {head first next at' : Nat} {C : Cells} (h : JC w a F V S dt head first next at' C) : F a.cm := h.dev.sub _ (.inr (.inr (.inr (.inr (.inr rfl)))))
theorem JC.kept {w w' : World} {a : JA} {F F' : Nat → Prop} {V S : View} {dt : Bool} {head first next at' : Nat} {C : Cells} (h : JC w a F V S dt head first next at' C) (hs : w.heap.size ≤ w'.heap.size) (ho : ∀ k, F k → w'.heap[k]? = w.heap[k]?) (hF : ∀ q, F q → F' q) (hF' : ∀ q, F' q → q < w'.heap.size) : JC w' a F' V S dt head first next at' C :=
  ⟨h.dev.kept hs ho hF hF', (ho _ h.Fj).trans h.cells, h.map.kept (ho _ h.Fc), h.apart⟩
theorem JC.later {w w' : World} {a : JA} {F : Nat → Prop} {V S : View} {dt : Bool} {head first next at' : Nat} {C : Cells} (h : JC w a F V S dt head first next at' C) (hb : Below w.heap.size w w') : JC w' a F V S dt head first next at' C :=
  h.kept hb.size (fun k hk => hb.block k (h.dev.lt k hk)) (fun _ h => h) (fun q hq => by have := h.dev.lt q hq; have := hb.size; omega)
theorem JC.drew {w : World} {a : JA} {F : Nat → Prop} {V S : View} {dt : Bool} {head first next at' : Nat} {C : Cells} (h : JC w a F V S dt head first next at' C) : JC w.drew a F V S dt head first next at' C := ⟨h.dev.drew, h.cells, h.map, h.apart⟩
theorem JC.wide {w : World} {a : JA} {F F' : Nat → Prop} {V S : View} {dt : Bool} {head first next at' : Nat} {C : Cells} (h : JC w a F V S dt head first next at' C) (hF : ∀ q, F q → F' q) (hF' : ∀ q, F' q → q < w.heap.size) : JC w a F' V S dt head first next at' C := h.kept (Nat.le_refl _) (fun _ _ => rfl) hF hF'
/-- Behind a call on the device. -/
theorem JC.dev' {w w' : World} {a : JA} {F F' : Nat → Prop} {V S V' S' : View} {dt dt' : Bool} {head first next at' : Nat} {C : Cells} {r : Nat → Prop} (h : JC w a F V S dt head first next at' C) (hd : DevAt w' a.p a.g a.mb a.b a.n a.cached a.R F' V' S' dt') (ho : OnlyJ r w w') (hr : ∀ q, r q → q = a.b ∨ q = a.mb ∨ q = a.g) : JC w' a F' V' S' dt' head first next at' C := by
  refine ⟨hd, (ho.block _ (h.dev.lt _ h.Fj) fun e => ?_).trans h.cells, h.map.kept (ho.block _ (h.dev.lt _ h.Fc) fun e => ?_), h.apart⟩
  · rcases hr _ e with e | e | e
    · exact h.apart.jbb e
    · exact h.apart.jm e
    · exact h.apart.jg e
  · rcases hr _ e with e | e | e
    · exact h.apart.cb e
    · exact h.apart.cmm e
    · exact h.apart.cg e
/-- What the device has where only the journal's own blocks were written. -/
theorem DevAt.beside {w w' : World} {p g mb b n cached : Nat} {R F F' : Nat → Prop} {V S : View} {dt : Bool} (h : DevAt w p g mb b n cached R F V S dt) (hs : w.heap.size ≤ w'.heap.size) (ho : ∀ k, F k → (k = p ∨ k = g ∨ k = mb ∨ k = b ∨ ¬ R k) → w'.heap[k]? = w.heap[k]?) (hF : ∀ q, F q → F' q) (hF' : ∀ q, F' q → q < w'.heap.size) : DevAt w' p g mb b n cached R F' V S dt := by
  obtain ⟨safe, U, cv, misses, xs, h⟩ := h
  refine ⟨safe, U, cv, misses, xs, h.disk.kept hs ?_, (ho _ (h.sub _ h.rb) (.inr (.inr (.inr (.inl rfl))))).trans h.cells, h.cache.kept hs (fun k h1 h2 => ho k h1 (.inr (.inr (.inr (.inr h2))))) hF, h.len, h.ca, h.keys, h.views, h.clean, h.kept, fun q hq => hF _ (h.sub q hq), hF', h.rp, h.rg, h.rm, h.rb, h.bp, h.bg, h.bm⟩
  rintro k (rfl | rfl | rfl)
  · exact ho _ (h.sub _ h.rp) (.inl rfl)
  · exact ho _ (h.sub _ h.rg) (.inr (.inl rfl))
  · exact ho _ (h.sub _ h.rm) (.inr (.inr (.inl rfl)))
theorem DevAt.own {w w' : World} {a : JA} {F F' : Nat → Prop} {V S : View} {dt : Bool} (h : DevAt w a.p a.g a.mb a.b a.n a.cached a.R F V S dt) (ha : a.Apart) (ho : OnlyJ (fun q => q = a.jb ∨ q = a.cm) w w') (hF : ∀ q, F q → F' q) (hF' : ∀ q, F' q → q < w'.heap.size) : DevAt w' a.p a.g a.mb a.b a.n a.cached a.R F' V S dt := by
  refine h.beside ho.size (fun k hk hk2 => ho.block k (h.lt k hk) fun e => ?_) hF hF'
  rcases e with rfl | rfl
  · rcases hk2 with e | e | e | e | e
    · exact ha.jp e
    · exact ha.jg e
    · exact ha.jm e
    · exact ha.jbb e
    · exact e (.inr (.inr (.inr (.inr (.inl rfl)))))
  · rcases hk2 with e | e | e | e | e
    · exact ha.cp e
    · exact ha.cg e
    · exact ha.cmm e
    · exact ha.cb e
    · exact e (.inr (.inr (.inr (.inr (.inr rfl)))))
/-- Numbers of the journal's written. -/
theorem JC.turn {w w' : World} {a : JA} {F : Nat → Prop} {V S : View} {dt : Bool} {head first next at' head' first' next' at'' : Nat} {C : Cells} (h : JC w a F V S dt head first next at' C) (ho : OnlyJ (fun q => q = a.jb) w w') (hc : w'.heap[a.jb]? = some (.cells (jCells a.b a.area head' first' next' at'' a.cm) 108 (0, 0))) : JC w' a F V S dt head' first' next' at'' C :=
  ⟨h.dev.own h.apart (ho.mono fun _ _ e => .inl e) (fun _ h => h) (fun q hq => Nat.lt_of_lt_of_le (h.dev.lt q hq) ho.size), hc, h.map.kept (ho.block _ (h.dev.lt _ h.Fc) (fun e => h.apart.cj e)), h.apart⟩
theorem setCell_only (w : World) (b o : Nat) (v : Value) : OnlyJ (fun q => q = b) w (w.setCell ⟨b, o, none⟩ v) :=
  ⟨rfl, rfl, rfl, by rw [World.size_setCell]; exact Nat.le_refl _, fun q _ hne => heap_setCell_other w ⟨b, o, none⟩ q _ hne⟩
end Go.Proofs.YtfpbocjmlhcgiaaGreatDoor
