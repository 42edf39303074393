/- Jg10, merged: J41 J42 J43. -/
import Derived.Test.YtfpbocjmlhcgiaaGreatDoorJg9
import Derived.Deep.RegionHeld3
import Derived.Test.YtfpbocjmlhcgiaaGreatDoorJS
set_option linter.unusedSimpArgs false
set_option linter.unusedVariables false
/- The journal's lay: a head. -/
namespace Go.Proofs.YtfpbocjmlhcgiaaGreatDoor
open Go.RowKit PJ Go.Maps

/-- A later world: what was there is there. -/
def LJ (a b : World) : Prop := Below a.heap.size a b
theorem LJ.refl (a : World) : LJ a a := Below.refl _ _
theorem LJ.trans {a b c : World} (h : LJ a b) (h' : LJ b c) : LJ a c := Below.trans h (Below.mono h' h.size)
theorem LJ.drew {a b : World} (h : LJ a b) : LJ a b.drew := Below.drew h
theorem LJ.drewN {a b : World} (h : LJ a b) (n : Nat) : LJ a (b.drewN n) := ⟨h.os, h.tape, h.output, h.size, h.block⟩
theorem LJ.alloc {a b : World} (h : LJ a b) (o : Obj) : LJ a (b.alloc o) := Below.alloc h h.size o
theorem LJ.block {a b : World} (h : LJ a b) {k : Nat} {o : Obj} (hk : a.heap[k]? = some o) : b.heap[k]? = some o := block_below h hk (lt_blk hk)
theorem LJ.cell {a b : World} (h : LJ a b) {p : Nat} {o : Nat} {v : Value} (hk : a.cell? ⟨p, o, none⟩ = some v) : b.cell? ⟨p, o, none⟩ = some v := (Below.cell h (p := ⟨p, o, none⟩) (World.block_lt_of_cell? _ _ hk)).trans hk
theorem must_hid : ∀ w, Hid (Calls Tryz.prog 58 #[.int .i64 0] w fun e w' => e = .returned (.tuple #[]) ∧ w = w') := fun w => Lib.hid (must_any w)
theorem only_R {a : JA} {r : Nat → Prop} {w w' : World} (h : OnlyJ r w w') (hr : ∀ q, r q → q = a.b ∨ q = a.mb ∨ q = a.g) : OnlyJ a.R w w' := h.mono fun q _ hq => by
  rcases hr q hq with e | e | e
  · exact .inr (.inr (.inr (.inl e)))
  · exact .inr (.inr (.inl e))
  · exact .inr (.inl e)
/-- A block written, seen from an earlier world. -/
theorem jwrite_any (w : World) (a : JA) (F : Nat → Prop) (V S : View) (dt : Bool) (head first next at' : Nat) (C : Cells) (h : JC w a F V S dt head first next at' C) (W : World) (hW : LJ w W) (i : Nat) (hi : i < a.n) (s : ByteArray) (hs : s.size ≤ 116) (st : Nat) (hst : st ≤ 4611686018427387904) :
    Calls Tryz.prog 59 #[.pointer (some ⟨a.b, 0, none⟩), .int .i64 i, .string s, .int .i64 st] W fun e w' => e = .returned (.int .i64 0) ∧
      JC w' a (grow F w w') (setS V i (blk s.data.toList st)) S true head first next at' C ∧ OnlyJ a.R w w' := by
  refine (bwrite_any W _ _ _ _ _ _ _ _ _ _ _ (h.dev.later hW) i hi s hs st hst).mono ?_
  rintro e w' ⟨rfl, hd, ho⟩
  have hs2 := ho.size
  have hj := (h.later hW).dev' hd ho (fun q hq => by rcases hq with e | e; exact .inl e; exact .inr (.inl e))
  have hw : w.heap.size ≤ W.heap.size := Below.size hW
  refine ⟨rfl, hj.wide ?_ (grow_lt h.dev.lt (Nat.le_trans hw hs2)), (OnlyJ.of_below hW).trans (only_R ho (fun q hq => by rcases hq with e | e; exact .inl e; exact .inr (.inl e)))⟩
  rintro q (hq | hq)
  · exact .inl hq
  · exact .inr ⟨by omega, hq.2⟩
theorem jbarrier_any (w : World) (a : JA) (F : Nat → Prop) (V S : View) (dt : Bool) (head first next at' : Nat) (C : Cells) (h : JC w a F V S dt head first next at' C) (W : World) (hW : LJ w W) :
    Calls Tryz.prog 60 #[.pointer (some ⟨a.b, 0, none⟩)] W fun e w' => e = .returned (.int .i64 0) ∧
      JC w' a (grow F w w') V V false head first next at' C ∧ OnlyJ a.R w w' := by
  refine (bbarrier_any W _ _ _ _ _ _ _ _ _ _ _ (h.dev.later hW)).mono ?_
  rintro e w' ⟨rfl, hd, ho⟩
  have hs2 := ho.size
  have hj := (h.later hW).dev' hd ho (fun q hq => by rcases hq with e | e; exact .inr (.inr e); exact .inr (.inl e))
  have hw : w.heap.size ≤ W.heap.size := Below.size hW
  refine ⟨rfl, hj.wide ?_ (grow_lt h.dev.lt (Nat.le_trans hw hs2)), (OnlyJ.of_below hW).trans (only_R ho (fun q hq => by rcases hq with e | e; exact .inr (.inr e); exact .inr (.inl e)))⟩
  rintro q (hq | hq)
  · exact .inl hq
  · exact .inr ⟨by omega, hq.2⟩
theorem JC.two {w0 w : World} {a : JA} {F : Nat → Prop} {V S : View} {dt : Bool} {head first next at' : Nat} {C : Cells} (h : JC w a (grow F w0 w) V S dt head first next at' C) (h0 : OnlyJ a.R w0 w) (head' first' : Nat) :
    JC ((w.setCell ⟨a.jb, 2, none⟩ (.int .i64 head')).setCell ⟨a.jb, 3, none⟩ (.int .i64 first')) a (grow F w0 ((w.setCell ⟨a.jb, 2, none⟩ (.int .i64 head')).setCell ⟨a.jb, 3, none⟩ (.int .i64 first'))) V S dt head' first' next at' C ∧ OnlyJ a.R w0 ((w.setCell ⟨a.jb, 2, none⟩ (.int .i64 head')).setCell ⟨a.jb, 3, none⟩ (.int .i64 first')) := by
  have e3 := heap_setCell_same _ _ 3 _ _ (.int .i64 first') (heap_setCell_same _ _ 2 _ _ (.int .i64 head') h.cells)
  have o3 := (setCell_only w a.jb 2 (.int .i64 head')).trans (setCell_only (w.setCell ⟨a.jb, 2, none⟩ (.int .i64 head')) a.jb 3 (.int .i64 first'))
  have eg : grow F w0 ((w.setCell ⟨a.jb, 2, none⟩ (.int .i64 head')).setCell ⟨a.jb, 3, none⟩ (.int .i64 first')) = grow F w0 w := by unfold grow; simp [World.size_setCell]
  rw [eg]
  exact ⟨h.turn o3 e3, h0.trans (o3.mono (fun q _ e => Or.inr (Or.inr (Or.inr (Or.inr (Or.inl e))))))⟩
set_option maxRecDepth 100000 in
set_option maxHeartbeats 2000000 in
theorem lay_any (w : World) (a : JA) (F : Nat → Prop) (V S : View) (dt : Bool) (head first next at' : Nat) (C : Cells) (h : JC w a F V S dt head first next at' C) (head' first' : Nat) (hh : head' ≤ 4611686018427387904) (hf : first' ≤ 4611686018427387904) (hn : 2 ≤ a.n) :
    Calls Tryz.prog 56 #[.pointer (some ⟨a.jb, 0, none⟩), .int .i64 head', .int .i64 first'] w fun e w' => e = .returned (.tuple #[]) ∧
      JC w' a (grow F w w') (setS V (head' % 2) (blk (be first' 8) head')) S true head' first' next at' C ∧ OnlyJ a.R w w' := by
  obtain ⟨OUT, hO⟩ : ∃ OUT : ByteArray, (⟨(be first' 8).toArray⟩ : ByteArray) = OUT := ⟨_, rfl⟩
  have hOd : OUT.data.toList = be first' 8 := by rw [← hO]
  have hOs : OUT.size = 8 := by
    have : OUT.data.toList.length = 8 := by rw [hOd, be_len]
    rw [← this, Array.length_toList]; rfl
  have HP := Lib.hid (fun W => show Calls Tryz.prog 118 #[.int .i64 first', .int .i64 8] W fun e w' => e = .returned (.string OUT) ∧ LJ W w' from by
    rw [← hO]
    exact jput_any W first' 8 (by omega) (by omega) (by omega))
  have HW := Lib.hid (fun (W : World) (hW : LJ w W) => show Calls Tryz.prog 59 #[.pointer (some ⟨a.b, 0, none⟩), .int .i64 ((head' % 2 : Nat) : Int), .string OUT, .int .i64 head'] W fun e w' => e = .returned (.int .i64 0) ∧ JC w' a (grow F w w') (setS V (head' % 2) (blk (be first' 8) head')) S true head first next at' C ∧ OnlyJ a.R w w' from by
    rw [← hOd]
    exact jwrite_any w a F V S dt head first next at' C h W hW (head' % 2) (by omega) OUT (by omega) head' hh)
  have HK := Lib.hid (fun (W : World) (hW : LJ w W) => hW.cell (cell_blk h.cells 0 : w.cell? ⟨a.jb, 0, none⟩ = some (.pointer (some ⟨a.b, 0, none⟩))))
  have c0 : w.cell? ⟨a.jb, 0, none⟩ = some (.pointer (some ⟨a.b, 0, none⟩)) := cell_blk h.cells 0
  obtain ⟨m, hm⟩ : ∃ m, head' % 2 = m := ⟨_, rfl⟩
  have hmod : (head' : Int).tmod 2 = (m : Int) := by rw [Int.tmod_eq_emod_of_nonneg (by omega)]; omega
  have hmod2 : (head' : Int) % 2 = (m : Int) := by omega
  rw [hm] at HW ⊢
  have hhi : (head' : Int) ≤ 4611686018427387904 := by omega
  have hh0 : (0 : Int) ≤ (head' : Int) := by omega
  have HM := must_hid
  have HC := Lib.hid h
  clear h hO hOd hOs hn hm hh hf
  go_enter Tryz.func56, Tryz.ntmps56
  go_wp2_with fail
  go_region_held3 (fun w' => w'.cell? ⟨a.jb, 0, none⟩ = some (.pointer (some ⟨a.b, 0, none⟩)))
    (first | assumption | exact HK.out _ (by repeat (first | assumption | exact LJ.refl _ | refine LJ.drew ?_ | refine LJ.trans ?_ (by assumption))))
    (first
      | (go_at_call 118; (with_reducible refine (HP.out _).mono ?_); rintro e w1 ⟨rfl, hl1⟩)
      | (go_at_call 59; (with_reducible refine (HW.out _ (by repeat (first | assumption | exact LJ.refl _ | refine LJ.drew ?_ | refine LJ.trans ?_ (by assumption)))).mono ?_); rintro e w2 ⟨rfl, hj2, ho2⟩; have f2 := free_blk hj2.cells 2; have f3 := free_blk hj2.cells 3; have g2 : w2.cell? ⟨a.jb, 2, none⟩ = some (.int .i64 head) := cell_blk hj2.cells 2; have g3 : w2.cell? ⟨a.jb, 3, none⟩ = some (.int .i64 first) := cell_blk hj2.cells 3; have g0 : w2.cell? ⟨a.jb, 0, none⟩ = some (.pointer (some ⟨a.b, 0, none⟩)) := cell_blk hj2.cells 0; have HJ2 := Lib.hid hj2; have HO2 := Lib.hid ho2; clear hj2 ho2)
      | (go_at_call 58; (with_reducible refine (HM _).out.mono ?_); rintro e w3 ⟨rfl, hw3⟩; have hw3 := hw3.symm; subst hw3)
      | fail)
  all_goals
    go_wp2_with fail
    go_end0
    exact ⟨rfl, HJ2.out.two HO2.out head' first'⟩
end Go.Proofs.YtfpbocjmlhcgiaaGreatDoor
/- A map's keys, sorted. -/
namespace Go.Proofs.YtfpbocjmlhcgiaaGreatDoor
open Go.RowKit PJ Go.Maps Go.Sort Go.Shelf

theorem sorts_any (m : Nat) : AnyZI.SortsIn Tryz.prog Tryz.sortedA_ren Fence.wide m :=
  ⟨fun blk off cap ss W hH hblk hsz => callsIn_wide.2 (AnyM.slices_Sort_int Tryz.sortA blk off cap ss W hH hblk hsz),
   fun p cap W => callsIn_wide.2 (AnyM.slices_Sort_int_none Tryz.sortA p cap W)⟩
theorem keys_any (mb : Option Nat) (W : World) : Calls Tryz.prog 223 #[.map mb] W fun e w' => e = .returned (.func (.func 239) #[] #[.pointer (some ⟨W.heap.size, 0, none⟩)]) ∧ w' = W.alloc (.cells #[.map mb] 100) :=
  (callsIn_wide (n := 5)).1 (AnyZI.keys_in Tryz.keysA Fence.wide 5 trivial rfl mb W)
set_option maxHeartbeats 1000000 in
theorem sorted_any (b nn : Nat) (D0 : DataW Unit) (w W : World) (hW : W = w.alloc (.cells #[.map (some b)] 100)) (hown : w.ownsMap Tryz.prog 3 (plainElem Tryz.prog 9) b nn D0) (hmax : Maps.size D0 ≤ maxLen) (hbytes : Maps.size D0 * 8 ≤ 140737488355328) :
    Calls Tryz.prog 222 #[.func (.func 239) #[] #[.pointer (some ⟨w.heap.size, 0, none⟩)]] W fun e w' => ∃ (v : Value) (ss : List Int), e = .returned v ∧ ss.Perm (intKeys D0) ∧
      w'.ownsRow W.heap.size 3 1 v ss.length ((ss.mergeSort (fun x y => decide (x ≤ y))).map (Value.int .i64)) ∧ Below W.heap.size W w' := by
  subst hW
  have hbl := hown.lt
  have hseq : SeqGives Fence.wide 2 Tryz.prog 239 #[.pointer (some ⟨w.heap.size, 0, none⟩)] encZ (fun ss => ss.Perm (intKeys D0)) (Maps.size D0) (w.alloc (.cells #[.map (some b)] 100)) :=
    AnyZI.keys_gives (ρ := Tryz.keysA_ren) { Tryz.keysA with } Fence.wide _ trivial rfl (by omega) w.heap.size b nn D0 _ (by simp) (by simp) (by
      obtain ⟨es, clock, hb, Ft, hs, hD⟩ := hown
      exact ⟨es, clock, (Below.heap_alloc _ _ b hbl).trans hb, Ft, hs, hD⟩)
  have cS := AnyZI.sorted_in Tryz.sortedA Fence.wide 5 trivial trivial trivial trivial rfl (by omega) (sorts_any _) (enters_of Tryz.func238 (by kernel_rfl) rfl) 239 #[.pointer (some ⟨w.heap.size, 0, none⟩)] trivial (enters_of Tryz.func239 (by kernel_rfl) rfl) _ _ hmax hbytes _ hseq
  change CallsIn _ _ Tryz.prog 222 _ _ _ at cS
  refine ((callsIn_wide (n := 5)).1 cS).mono ?_
  rintro e w' ⟨v, ss, rfl, hS, hrow, -, hb⟩
  exact ⟨v, ss, rfl, hS, hrow, hb⟩
end Go.Proofs.YtfpbocjmlhcgiaaGreatDoor
/- The journal's cells laid home: laws; the map's keys, its look-ups, a new map. -/
namespace Go.Proofs.YtfpbocjmlhcgiaaGreatDoor
open Go.RowKit PJ Go.Maps

def homeL (area : Nat) (C : Cells) : View → List Int → View
  | V, [] => V
  | V, x :: r => homeL area C (setS V (area + x.toNat) (blk ((C x.toNat).getD []) 0)) r
theorem homeL_snoc (area : Nat) (C : Cells) : ∀ (l : List Int) (V : View) (x : Int), homeL area C V (l ++ [x]) = setS (homeL area C V l) (area + x.toNat) (blk ((C x.toNat).getD []) 0)
  | [], V, x => rfl
  | y :: r, V, x => homeL_snoc area C r _ x
theorem homeL_at (area : Nat) (C : Cells) : ∀ (l : List Int) (V : View) (i : Nat), homeL area C V l i = if (∃ x ∈ l, area + x.toNat = i) then blk ((C (i - area)).getD []) 0 else V i
  | [], V, i => by simp [homeL]
  | y :: r, V, i => by
    rw [homeL, homeL_at area C r _ i]
    by_cases h : ∃ x ∈ r, area + x.toNat = i
    · rw [if_pos h, if_pos (by obtain ⟨x, hx, e⟩ := h; exact ⟨x, List.mem_cons_of_mem _ hx, e⟩)]
    · rw [if_neg h]
      by_cases e : area + y.toNat = i
      · subst e
        rw [setS_same, if_pos ⟨y, List.mem_cons_self .., rfl⟩, Nat.add_sub_cancel_left]
      · rw [setS_other (Ne.symm e), if_neg]
        rintro ⟨x, hx, e2⟩
        rcases List.mem_cons.1 hx with rfl | hx
        · exact e e2
        · exact h ⟨x, hx, e2⟩
theorem homeL_home {area : Nat} {C : Cells} {V : View} {l : List Int} (h : ∀ x, x ∈ l ↔ (CI C x).isSome = true) : homeL area C V l = homeV area C V := by
  funext i
  rw [homeL_at]
  unfold homeV
  by_cases hi : area ≤ i
  · rw [if_pos hi]
    have hx := h ((i - area : Nat) : Int)
    unfold CI at hx
    rw [if_pos (by omega), Int.toNat_natCast] at hx
    cases hc : C (i - area) with
    | some d =>
      rw [hc] at hx
      rw [if_pos ⟨_, hx.2 rfl, by rw [Int.toNat_natCast]; omega⟩]
      rfl
    | none =>
      rw [hc] at hx
      rw [if_neg]
      rintro ⟨x, hm, e⟩
      have h2 := (h x).1 hm
      unfold CI at h2
      split at h2
      · rename_i h0
        have e3 : x.toNat = i - area := by omega
        rw [e3, hc] at h2
        cases h2
      · cases h2
  · rw [if_neg hi, if_neg]
    rintro ⟨x, hm, e⟩
    omega
theorem keys_mem {w : World} {b n : Nat} {D : DataW Unit} (h : w.ownsMap Tryz.prog 3 (plainElem Tryz.prog 9) b n D) (x : Int) : x ∈ intKeys D ↔ has D (.int .i64 x) = true := by
  obtain ⟨es, rfl, hko⟩ := h.keysOf
  rw [has_eq, List.any_eq_true]
  show x ∈ es.map (fun p => Go.intOf p.1) ↔ _
  rw [List.mem_map]
  constructor
  · rintro ⟨p, hp, rfl⟩
    obtain ⟨v, hv⟩ := hko p hp
    obtain ⟨y, _, hy, -⟩ := Maps.keyOf_i64 Tryz.underlying3 hv
    exact ⟨p, hp, by rw [hy]; simp [Lit.sameKey, Go.intOf]⟩
  · rintro ⟨p, hp, hs⟩
    obtain ⟨v, hv⟩ := hko p hp
    obtain ⟨y, _, hy, -⟩ := Maps.keyOf_i64 Tryz.underlying3 hv
    rw [hy] at hs
    exact ⟨p, hp, by rw [hy]; simpa [Lit.sameKey, Go.intOf] using hs⟩
theorem cell_look {w : World} {cm m : Nat} {C : Cells} (h : CellsAt w cm m C) (x : Int) (hx : (Lit.int .i64 x).wf = true) :
    (Instr.lookup 100 (.map (some cm)) (.int .i64 x) false).run Tryz.prog w = .ok (.string ⟨((CI C x).getD []).toArray⟩) w := by
  obtain ⟨cnt, D, ho, hm, -⟩ := h
  obtain ⟨v, ps, hrun, hv⟩ := ho.lookup law_int Tryz.underlying100 (zero_str w) (zd := .lit (.string [])) (zp := []) (plainElem_string Tryz.underlying9 (by decide)) (keyOf_int_mk Tryz.underlying3 hx)
  rw [(hm x).2] at hv
  rw [hrun, plain_str hv]
theorem cell_look2 {w : World} {cm m : Nat} {C : Cells} (h : CellsAt w cm m C) (x : Int) (hx : (Lit.int .i64 x).wf = true) :
    (Instr.lookup 100 (.map (some cm)) (.int .i64 x) true).run Tryz.prog w = .ok (.tuple #[.string ⟨((CI C x).getD []).toArray⟩, .bool (CI C x).isSome]) w := by
  obtain ⟨cnt, D, ho, hm, -⟩ := h
  exact uns_look ho hm x hx
theorem missU_none (m : Nat) : missU (CI fun _ => none) m = m := by
  induction m with
  | zero => rfl
  | succ m ih => simp [missU, ih, CI]
theorem CellsAt.made (w : World) (m : Nat) : CellsAt (w.alloc (.map #[] 0)) w.heap.size m (fun _ => none) := by
  refine ⟨0, .map [], World.ownsMap_made w Tryz.prog 3 (plainElem (H := Unit) Tryz.prog 9), ?_, by rw [missU_none]; omega⟩
  intro i
  have e : CI (fun _ => none) i = none := by unfold CI; split <;> rfl
  rw [e]
  exact ⟨rfl, rfl⟩
end Go.Proofs.YtfpbocjmlhcgiaaGreatDoor
