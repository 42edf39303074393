/- Jg13, merged: J50 J51. -/
import Derived.Test.YtfpbocjmlhcgiaaGreatDoorJg12
set_option linter.unusedSimpArgs false
set_option linter.unusedVariables false
/- Writes in memory; the journal's keeps. -/
namespace Go.Proofs.YtfpbocjmlhcgiaaGreatDoor
open Go.RowKit PJ Go.Maps

def WrCells (w : World) (g o : Nat) (x : Wr) : Prop := w.cell? ⟨g, o, none⟩ = some (.int .i64 x.cell) ∧ w.cell? ⟨g, o + 1, none⟩ = some (.string x.data)
/-- Writes in memory, in a block that nobody writes. -/
def LAt (w : World) (F : Nat → Prop) (lv : Value) (l : List Wr) : Prop :=
  (lv = .slice none 0 0 ∧ l = []) ∨ ∃ g off cap, lv = .slice (some ⟨g, off, none⟩) l.length cap ∧ g < w.heap.size ∧ ¬ F g ∧ ∀ j x, l[j]? = some x → WrCells w g (off + j * 2) x
theorem WrCells.kept {w w' : World} {g o : Nat} {x : Wr} (h : WrCells w g o x) (hb : w'.heap[g]? = w.heap[g]?) : WrCells w' g o x :=
  ⟨(World.cell?_of_block (a := ⟨g, o, none⟩) hb).trans h.1, (World.cell?_of_block (a := ⟨g, o + 1, none⟩) hb).trans h.2⟩
theorem LAt.only {w w' : World} {F F' r : Nat → Prop} {lv : Value} {l : List Wr} (h : LAt w F lv l) (ho : OnlyJ r w w') (hr : ∀ q, r q → F q) (hF : ∀ q, q < w.heap.size → F' q → F q) : LAt w' F' lv l := by
  rcases h with h | ⟨g, off, cap, h1, h2, h3, h4⟩
  · exact .inl h
  · exact .inr ⟨g, off, cap, h1, Nat.lt_of_lt_of_le h2 ho.size, fun e => h3 (hF g h2 e), fun j x hx => (h4 j x hx).kept (ho.block g h2 (fun e => h3 (hr g e)))⟩
theorem LAt.later {w w' : World} {F : Nat → Prop} {lv : Value} {l : List Wr} (h : LAt w F lv l) (hl : LJ w w') : LAt w' F lv l := by
  have ho : OnlyJ (fun _ => False) w w' := OnlyJ.of_below hl
  exact h.only ho (fun _ e => e.elim) (fun _ _ h => h)
theorem CI_put (C : Cells) (x : Wr) {k : Nat} (hk : x.cell = (k : Int)) : CI (putW C x) = putU (CI C) k (padT x.data.data.toList 116) := by
  funext i
  unfold CI putU putW
  by_cases h : i = (k : Int)
  · subst h
    rw [if_pos (by omega), if_pos (by rw [hk]; omega), if_pos rfl]
  · rw [if_neg h]
    show _ = (if 0 ≤ i then C i.toNat else none)
    by_cases h0 : 0 ≤ i
    · rw [if_pos h0, if_pos h0, if_neg (by rw [hk]; omega)]
    · rw [if_neg h0, if_neg h0]
theorem CellsAt.put {w w' : World} {cm m cnt : Nat} {C : Cells} {D : DataW Unit} (ho : w.ownsMap Tryz.prog 3 (plainElem Tryz.prog 9) cm cnt D) (hm : MapIs D (CI C)) (hc : cnt + missU (CI C) m ≤ m) {x : Wr} {k : Nat} (hk : x.cell = (k : Int)) (hkm : k < m) (hs : x.data.size = 116)
    (ho' : w'.ownsMap Tryz.prog 3 (plainElem Tryz.prog 9) cm (cnt + 1) (D.put (.int .i64 (k : Int)) (.lit (.string x.data.data.toList)))) : CellsAt w' cm m (putW C x) := by
  have hl : x.data.data.toList.length = 116 := by rw [Array.length_toList]; exact hs
  have hp : padT x.data.data.toList 116 = x.data.data.toList := by unfold padT; rw [hl]; simp
  obtain ⟨ho2, hsz⟩ := own_rebase ho
  obtain ⟨ho3, hsz3⟩ := own_rebase ho'
  have hsp := size_put (ho.tidy law_int) (k := .int .i64 (k : Int)) (.lit (.string x.data.data.toList))
  rw [(hm k).1] at hsp
  have hms := miss_put (CI C) k x.data.data.toList m hkm
  refine ⟨_, _, ho3, ?_, ?_⟩
  · rw [CI_put C x hk, hp]
    exact put_is hm ho.isMap k _
  · rw [CI_put C x hk, hp, hsp]
    split
    · rename_i h6; rw [if_pos h6] at hms; omega
    · rename_i h6; rw [if_neg h6] at hms; omega
theorem JC.putm {w w' : World} {a : JA} {F : Nat → Prop} {V S : View} {dt : Bool} {head first next at' : Nat} {C C' : Cells} (h : JC w a F V S dt head first next at' C) (hm : CellsAt w' a.cm (a.n - a.area) C') (ho : OnlyJ (fun q => q = a.cm) w w') : JC w' a F V S dt head first next at' C' :=
  ⟨h.dev.own h.apart (ho.mono fun _ _ e => .inr e) (fun _ h => h) (fun q hq => Nat.lt_of_lt_of_le (h.dev.lt q hq) ho.size), (ho.block _ (h.dev.lt _ h.Fj) (fun e => h.apart.cj e.symm)).trans h.cells, hm, h.apart⟩
theorem puts_take {C : Cells} {l : List Wr} {j : Nat} {x : Wr} (h : l[j]? = some x) : putsW C (l.take (j + 1)) = putW (putsW C (l.take j)) x := by
  rw [List.take_add_one, h]
  unfold putsW
  rw [List.foldl_append]
  rfl
set_option maxRecDepth 100000 in
set_option maxHeartbeats 2000000 in
theorem keeps_any (w : World) (a : JA) (F : Nat → Prop) (V S : View) (dt : Bool) (head first next at' : Nat) (C : Cells) (h : JC w a F V S dt head first next at' C) (lv : Value) (l : List Wr) (hl : LAt w F lv l)
    (h40 : l.length ≤ 40) (hl1 : 1 ≤ l.length) (hw : ∀ x ∈ l, 0 ≤ x.cell ∧ x.cell < ((a.n - a.area : Nat) : Int) ∧ x.data.size = 116) (hn : next < 4611686018427387904) (hat : at' ≤ 4096) :
    Calls Tryz.prog 141 #[.pointer (some ⟨a.jb, 0, none⟩), lv] w fun e w' => e = .returned (.tuple #[]) ∧
      JC w' a (grow F w w') V S dt head first (next + 1) (at' + 1 + l.length) (putsW C l) ∧ OnlyJ a.R w w' := by
  rcases hl with ⟨-, rfl⟩ | ⟨g, off, cap, rfl, hg, hgF, hcs⟩
  · simp at hl1
  have hn12 := h.dev.n12.1
  have HH := Lib.hid h
  have HCS := Lib.hid hcs
  have HW := Lib.hid hw
  have hlt := h.dev.lt
  have HLT := Lib.hid hlt
  obtain ⟨n, hnn⟩ : ∃ n, l.length = n := ⟨_, rfl⟩
  rw [hnn] at h40 hl1 ⊢
  have HN := Lib.hid hnn
  clear h hcs hw hlt hnn
  go_enter Tryz.func141, Tryz.ntmps141
  go_wp2_with fail
  go_loopw [5, 8] (fun v5 v8 wr => ∃ j : Nat, j ≤ n ∧ v8 = .int .i64 (j : Int) ∧ Hid (JC wr a (grow F w wr) V S dt head first next at' (putsW C (l.take j))) ∧ Hid (OnlyJ a.R w wr)) (fun _ v8 _ => n - (intOf v8).toNat)
  case atStart =>
    exact ⟨0, by omega, rfl, Lib.hid (HH.out.wide grow_sub (grow_lt HLT.out (Nat.le_refl _))), Lib.hid (OnlyJ.refl _ _)⟩
  case round =>
    obtain ⟨j, hj, rfl, HJ, HO⟩ := hrel
    have hsr := HO.out.size
    by_cases hjn : j < n
    · obtain ⟨x, hx⟩ : ∃ x, l[j]? = some x := ⟨_, List.getElem?_eq_getElem (by have := HN.out; omega)⟩
      obtain ⟨x0, x1, x2⟩ := HW.out x (List.mem_of_getElem? hx)
      obtain ⟨k, hk⟩ := Int.eq_ofNat_of_zero_le x0
      have hgb : wr.heap[g]? = w.heap[g]? := HO.out.block g hg (fun e => hgF (HH.out.dev.sub g e))
      obtain ⟨q1, q2⟩ := (HCS.out j x hx).kept hgb
      rw [hk] at q1
      have hkm : k < a.n - a.area := by omega
      obtain ⟨w1, hw1⟩ : ∃ w1, wr.alloc (.cells #[.int .i64 (k : Int), .string x.data] 130) = w1 := ⟨_, rfl⟩
      have hl1' : LJ wr w1 := by rw [← hw1]; exact (LJ.refl wr).alloc _
      have hb1 : w1.heap[wr.heap.size]? = some (.cells #[.int .i64 (k : Int), .string x.data] 130 (0, 0)) := by rw [← hw1]; exact alloc_blk wr _
      have s0 : w1.cell? ⟨wr.heap.size, 0, none⟩ = some (.int .i64 (k : Int)) := cell_blk hb1 0
      have s1 : w1.cell? ⟨wr.heap.size, 1, none⟩ = some (.string x.data) := cell_blk hb1 1
      have hj1 := HJ.out.later hl1'
      have d6 : w1.cell? ⟨a.jb, 6, none⟩ = some (.map (some a.cm)) := cell_blk hj1.cells 6
      have HJ1 := Lib.hid hj1
      have HL1 := Lib.hid hl1'
      have HW1 := Lib.hid hw1
      have HX := Lib.hid (And.intro hx (And.intro hk x2))
      have hxs : x.data.size = 116 := x2
      obtain ⟨DS, hDS⟩ : ∃ DS, x.data = DS := ⟨_, rfl⟩
      rw [hDS] at s1 q2 HW1 hxs
      have HDS := Lib.hid hDS
      clear hx x0 x1 x2 hk hgb hl1' hb1 hj1 hw1 hDS
      go_upto_region 3 with fail
      rw [HW1.out]
      go_still_tail 8, (by kernel_rfl)
      change wpList _ _ _ _ _ w1.drew
      obtain ⟨w4, hw4⟩ : ∃ w4, w1.drew = w4 := ⟨_, rfl⟩
      obtain ⟨cnt, D, hom, hmi, hcn⟩ := HJ1.out.drew.map
      rw [hw4] at hom ⊢
      have hkey : keyOf Tryz.prog 3 (.int .i64 (k : Int)) = some (.int .i64 (k : Int)) := keyOf_int_mk Tryz.underlying3 (WalkArith.wf_i64 (by omega))
      have hel : plainElem (H := Unit) Tryz.prog 9 (.string DS) = some (.lit (.string DS.data.toList), []) := plainElem_string Tryz.underlying9 (by unfold maxLen; omega)
      refine wpList_mapUpdate_own _ rfl (.tmp 15) (.tmp 17) (.tmp 19) 100 rfl 3 9 law_int Tryz.underlying100 _ a.cm cnt D rfl hom (by unfold maxLen; omega) _ _ _ rfl rfl hkey _ [] hel ?_
      intro w5 hown5 hgrow5
      have hca : CellsAt w5 a.cm (a.n - a.area) (putW (putsW C (l.take j)) x) := by
        rw [← HDS.out] at hown5
        exact CellsAt.put hom hmi hcn HX.out.2.1 hkm HX.out.2.2 hown5
      rw [← hw4] at hgrow5
      have ho5 : OnlyJ (fun q => q = a.cm) w1 w5 := ⟨hgrow5.os, hgrow5.tape, hgrow5.output, hgrow5.size, fun q hq hne => hgrow5.block q hq (by simpa using hne)⟩
      rw [← puts_take HX.out.1] at hca
      have hj5 := HJ1.out.putm hca ho5
      have HJ5 := Lib.hid hj5
      have HO5 := Lib.hid ((OnlyJ.of_below HL1.out).trans (ho5.mono fun q _ e => show a.R q from .inr (.inr (.inr (.inr (.inr e))))))
      clear hown5 hgrow5 hca ho5 hj5 hom hmi hcn hkey hel d6 s0 s1 q1 q2 hw4
      go_wp2_with fail
      go_roundw
      case rel =>
        have hs5 := HO5.out.size
        refine ⟨j + 1, by omega, by simp, Lib.hid (HJ5.out.wide (fun q hq => ?_) (grow_lt HLT.out (by omega))), Lib.hid (HO.out.trans HO5.out)⟩
        rcases hq with e | e
        · exact .inl e
        · exact .inr ⟨e.1, by omega⟩
      case measure => simp [intOf]; omega
    · have hjn' : j = n := by omega
      subst hjn'
      have hj0 := HJ.out
      rw [List.take_of_length_le (Nat.le_of_eq HN.out)] at hj0
      have c4 : wr.cell? ⟨a.jb, 4, none⟩ = some (.int .i64 next) := cell_blk hj0.cells 4
      have c5 : wr.cell? ⟨a.jb, 5, none⟩ = some (.int .i64 at') := cell_blk hj0.cells 5
      have f4 := free_blk hj0.cells 4
      have f5 := free_blk hj0.cells 5
      have hend : ∀ w', (wr.setCell ⟨a.jb, 4, none⟩ (.int .i64 ((next : Int) + 1))).setCell ⟨a.jb, 5, none⟩ (.int .i64 ((at' : Int) + (1 + (j : Int)))) = w' → JC w' a (grow F w w') V S dt head first (next + 1) (at' + 1 + j) (putsW C l) ∧ OnlyJ a.R w w' := by
        intro w' hw'
        have o := (setCell_only wr a.jb 4 (.int .i64 ((next : Int) + 1))).trans (setCell_only (wr.setCell ⟨a.jb, 4, none⟩ (.int .i64 ((next : Int) + 1))) a.jb 5 (.int .i64 ((at' : Int) + (1 + (j : Int)))))
        have e := heap_setCell_same _ _ 5 _ _ (.int .i64 ((at' : Int) + (1 + (j : Int)))) (heap_setCell_same _ _ 4 _ _ (.int .i64 ((next : Int) + 1)) hj0.cells)
        rw [hw'] at o e
        have ej : (((jCells a.b a.area head first next at' a.cm).setIfInBounds 4 (.int .i64 ((next : Int) + 1))).setIfInBounds 5 (.int .i64 ((at' : Int) + (1 + (j : Int))))) = jCells a.b a.area head first (next + 1) (at' + 1 + j) a.cm := by
          have e1 : (at' : Int) + (1 + (j : Int)) = ((at' + 1 + j : Nat) : Int) := by omega
          have e2 : (next : Int) + 1 = ((next + 1 : Nat) : Int) := by omega
          rw [e1, e2]
          rfl
        rw [ej] at e
        have hz : w'.heap.size = wr.heap.size := by rw [← hw']; simp
        have eg : grow F w w' = grow F w wr := by unfold grow; rw [hz]
        rw [eg]
        exact ⟨hj0.turn o e, HO.out.trans (o.mono fun q _ e => .inr (.inr (.inr (.inr (.inl e)))))⟩
      have HEND := Lib.hid hend
      have hnx : (next : Int) < 4611686018427387904 := by omega
      have hax : (at' : Int) ≤ 4096 := by omega
      clear hj0 hend
      go_wp2_with fail
      go_end0
      exact ⟨rfl, HEND.out _ rfl⟩
end Go.Proofs.YtfpbocjmlhcgiaaGreatDoor
/- Writes searched and cloned. -/
namespace Go.Proofs.YtfpbocjmlhcgiaaGreatDoor
open Go.RowKit PJ Go.Maps

set_option maxRecDepth 100000 in
theorem long1_any (w : World) (c : Int) (d : ByteArray) (hd : d.size ≤ 9223372036854775807) :
    Calls Tryz.prog 193 #[.agg #[.int .i64 c, .string d]] w fun e w' => e = .returned (.bool (decide (116 < d.size))) ∧ LJ w w' := by
  go_enter Tryz.func193, Tryz.ntmps193
  go_wp2_with fail
  go_ret
  refine ⟨?_, (LJ.refl w).alloc _⟩
  show Ending.returned (.bool (decide ((116 : Int) < (d.size : Int)))) = _
  congr 2
  rw [decide_eq_decide]
  omega
theorem eqC_int (a b : Int) : (a == b) = decide (a = b) := by
  rw [Bool.eq_iff_iff]; simp
set_option maxRecDepth 100000 in
theorem same2_any (w : World) (c b : Int) (d : ByteArray) (bk : Nat) (hk : w.cell? ⟨bk, 0, none⟩ = some (.int .i64 b)) :
    Calls Tryz.prog 195 #[.agg #[.int .i64 c, .string d], .pointer (some ⟨bk, 0, none⟩)] w fun e w' => e = .returned (.bool (decide (c = b))) ∧ LJ w w' := by
  have hb := Below.heap_alloc w
  have hlt : bk < w.heap.size := World.block_lt_of_cell? _ _ hk
  go_enter Tryz.func195, Tryz.ntmps195
  go_upto_region 1 with fail
  obtain ⟨w1, hw1⟩ : ∃ w1, w.alloc (.cells #[.int .i64 c, .string d] 130) = w1 := ⟨_, rfl⟩
  have s0 : w1.cell? ⟨w.heap.size, 0, none⟩ = some (.int .i64 c) := by rw [← hw1]; exact cell_blk (alloc_blk w _) 0
  have k0 : w1.cell? ⟨bk, 0, none⟩ = some (.int .i64 b) := by rw [← hw1]; exact LJ.cell ((LJ.refl w).alloc _) hk
  have hl1 : LJ w w1 := by rw [← hw1]; exact (LJ.refl w).alloc _
  rw [hw1]
  clear hk hb hlt hw1
  go_wp2_with fail
  go_ret
  exact ⟨by show Ending.returned (.bool (c == b)) = _; rw [eqC_int], hl1⟩
def findW (q : Wr → Bool) : List Wr → Nat → Int
  | [], _ => -1
  | x :: r, i => if q x = true then (i : Int) else findW q r (i + 1)
theorem findW_skip (q : Wr → Bool) : ∀ (xs : List Wr) (j i : Nat), (∀ m, m < j → ∀ k, xs[m]? = some k → q k = false) → j ≤ xs.length → findW q xs i = findW q (xs.drop j) (i + j)
  | xs, 0, i, _, _ => rfl
  | [], j + 1, i, _, hl => by simp at hl
  | k :: r, j + 1, i, h, hl => by
    have h0 := h 0 (by omega) k rfl
    rw [findW, h0, if_neg (by simp), findW_skip q r j (i + 1) (fun m hm x hx => h (m + 1) (by omega) x (by simpa using hx)) (by simpa using hl)]
    rw [List.drop_succ_cons, show i + 1 + j = i + (j + 1) from by omega]
theorem findW_any (q : Wr → Bool) : ∀ (xs : List Wr) (i : Nat), (0 ≤ findW q xs i) ↔ xs.any q = true
  | [], i => by simp [findW]
  | x :: r, i => by
    rw [findW, List.any_cons]
    cases h : q x with
    | true => simp
    | false => rw [if_neg (by simp)]; simp [findW_any q r (i + 1)]
theorem findW_lo (q : Wr → Bool) : ∀ (xs : List Wr) (i : Nat), findW q xs i = -1 ∨ ∃ m : Nat, findW q xs i = m
  | [], i => .inl rfl
  | x :: r, i => by
    rw [findW]
    split
    · exact .inr ⟨i, rfl⟩
    · exact findW_lo q r (i + 1)
set_option maxRecDepth 100000 in
set_option maxHeartbeats 1000000 in
/-- Writes searched by a closure K that tells q. -/
theorem widx_any (K : Nat) (hK : ∀ args w, (callFunc K args).run Tryz.prog w = .ok (.enter K args) w) (cp : Array Value) (q : Wr → Bool) (w : World) (g off cap : Nat) (xs : List Wr) (hx : xs.length ≤ 140737488355328) (hg : g < w.heap.size) (hc : ∀ j x, xs[j]? = some x → WrCells w g (off + j * 2) x)
    (hq : ∀ w1, LJ w w1 → ∀ x ∈ xs, Calls Tryz.prog K (#[.agg #[.int .i64 x.cell, .string x.data]] ++ cp) w1 fun e w' => e = .returned (.bool (q x)) ∧ LJ w1 w') :
    Calls Tryz.prog 221 #[.slice (some ⟨g, off, none⟩) xs.length cap, .func (.func K) #[] cp] w fun e w' => e = .returned (.int .i64 (findW q xs 0)) ∧ LJ w w' := by
  have HC := Lib.hid hc
  have HQ := Lib.hid hq
  clear hc hq
  go_enter Tryz.func221, Tryz.ntmps221
  go_wp2_with fail
  go_loopw [8] (fun v wr => ∃ j : Nat, j ≤ xs.length ∧ v = .int .i64 (j : Int) ∧ Hid (∀ m, m < j → ∀ k, xs[m]? = some k → q k = false) ∧ Hid (LJ w wr)) (fun v _ => xs.length - (intOf v).toNat)
  case atStart => exact ⟨0, by omega, rfl, Lib.hid (fun m hm => absurd hm (by omega)), Lib.hid (LJ.refl _)⟩
  case round =>
    obtain ⟨j, hj, rfl, HNO, HB⟩ := hrel
    by_cases hlt : j < xs.length
    · obtain ⟨x, hxj⟩ : ∃ x, xs[j]? = some x := ⟨_, List.getElem?_eq_getElem hlt⟩
      obtain ⟨q1, q2⟩ := HC.out j x hxj
      have r1 := LJ.cell HB.out q1
      have r2 := LJ.cell HB.out q2
      have HP := HQ.out wr HB.out x (List.mem_of_getElem? hxj)
      have HXJ := Lib.hid hxj
      obtain ⟨cc, hcc⟩ : ∃ cc, x.cell = cc := ⟨_, rfl⟩
      obtain ⟨dd, hdd⟩ : ∃ dd, x.data = dd := ⟨_, rfl⟩
      rw [hcc] at r1 HP
      rw [hdd] at r2 HP
      clear q1 q2 hxj hcc hdd
      cases hat : q x with
      | true =>
        rw [hat] at HP
        have HP' := Lib.hid HP
        have HAT := Lib.hid hat
        clear hat HP
        go_wp2_with (first
          | (go_at_fn K; (with_reducible refine HP'.out.mono ?_); rintro e w1 ⟨rfl, hb1⟩)
          | fail)
        go_ret
        refine ⟨ret_int ?_, HB.out.trans hb1⟩
        rw [findW_skip q xs j 0 HNO.out hj, List.drop_eq_getElem_cons hlt, findW]
        have hkk : xs[j] = x := by have := HXJ.out; rw [List.getElem?_eq_getElem hlt] at this; exact Option.some.inj this
        rw [hkk, HAT.out, if_pos rfl]
        simp
      | false =>
        rw [hat] at HP
        have HP' := Lib.hid HP
        have HAT := Lib.hid hat
        clear hat HP
        go_wp2_with (first
          | (go_at_fn K; (with_reducible refine HP'.out.mono ?_); rintro e w1 ⟨rfl, hb1⟩)
          | fail)
        refine ⟨⟨j + 1, by omega, by simp, Lib.hid (fun m hm y hy => ?_), Lib.hid (HB.out.trans hb1)⟩, by simp only [intOf]; omega⟩
        by_cases hmj : m = j
        · subst hmj
          have := HXJ.out
          rw [hy] at this
          rw [Option.some.inj this]
          exact HAT.out
        · exact HNO.out m (by omega) y hy
    · go_wp2_with fail
      go_ret
      refine ⟨ret_int ?_, HB.out⟩
      rw [findW_skip q xs j 0 HNO.out hj, List.drop_eq_nil_of_le (by omega), findW]
end Go.Proofs.YtfpbocjmlhcgiaaGreatDoor
