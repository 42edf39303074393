/- Jg11, merged: J44 J45. -/
import Derived.Test.YtfpbocjmlhcgiaaGreatDoorJg10
import Derived.StillTailTactics
set_option linter.unusedSimpArgs false
set_option linter.unusedVariables false
/- The journal's home. -/
namespace Go.Proofs.YtfpbocjmlhcgiaaGreatDoor
open Go.RowKit PJ Go.Maps

theorem JC.comp {w w1 w2 : World} {a : JA} {F : Nat → Prop} {V S : View} {dt : Bool} {head first next at' : Nat} {C : Cells} (h : JC w2 a (grow (grow F w w1) w1 w2) V S dt head first next at' C) (h1 : w.heap.size ≤ w1.heap.size) (h2 : w1.heap.size ≤ w2.heap.size) (hl : ∀ q, F q → q < w.heap.size) : JC w2 a (grow F w w2) V S dt head first next at' C :=
  h.wide (grow_grow h1 h2) (grow_lt hl (Nat.le_trans h1 h2))
/-- The journal behind home, as its last region leaves it. -/
theorem JC.newmap {w0 w : World} {a : JA} {F : Nat → Prop} {V S : View} {dt : Bool} {head first next at' first' : Nat} {C : Cells} (h : JC w a (grow F w0 w) V S dt head first next at' C) (h0 : OnlyJ a.R w0 w) (hl : ∀ q, F q → q < w0.heap.size) (w' : World)
    (hw : ((((w.alloc (.map #[] 0)).setCell ⟨a.jb, 6, none⟩ (.map (some w.heap.size))).setCell ⟨a.jb, 4, none⟩ (.int .i64 first')).setCell ⟨a.jb, 5, none⟩ (.int .i64 2)) = w') :
    JC w' { a with cm := w.heap.size } (grow F w0 w') V S dt head first first' 2 (fun _ => none) ∧ OnlyJ a.R w0 w' := by
  have hj := h.dev.lt _ h.Fj
  have ho1 : OnlyJ (fun q => q = a.jb) w (w.alloc (.map #[] 0)) := OnlyJ.of_below (alloc_below w _)
  have ho : OnlyJ (fun q => q = a.jb) w w' := by
    rw [← hw]
    exact ((ho1.trans (setCell_only _ a.jb 6 _)).trans (setCell_only _ a.jb 4 _)).trans (setCell_only _ a.jb 5 _)
  have hsz : w'.heap.size = w.heap.size + 1 := by rw [← hw]; simp
  have hs0 := h0.size
  have hwide : ∀ q, grow F w0 w q → grow F w0 w' q := grow_mono (by omega)
  have hlt' : ∀ q, grow F w0 w' q → q < w'.heap.size := grow_lt hl (by omega)
  have hd1 : DevAt w' a.p a.g a.mb a.b a.n a.cached a.R (grow F w0 w') V S dt := h.dev.own h.apart (ho.mono fun _ _ e => .inl e) hwide hlt'
  have hcells : w'.heap[a.jb]? = some (.cells (jCells a.b a.area head first first' 2 w.heap.size) 108 (0, 0)) := by
    have c1 := (Below.heap_alloc w (.map #[] 0) _ hj).trans h.cells
    have c4 := heap_setCell_same _ _ 5 _ _ (.int .i64 2) (heap_setCell_same _ _ 4 _ _ (.int .i64 first') (heap_setCell_same _ _ 6 _ _ (.map (some w.heap.size)) c1))
    rw [hw] at c4
    exact c4
  have hmap : CellsAt w' w.heap.size (a.n - a.area) (fun _ => none) := by
    refine (CellsAt.made w (a.n - a.area)).kept ?_
    rw [← hw, heap_setCell_other _ _ _ _ (by show w.heap.size ≠ a.jb; omega), heap_setCell_other _ _ _ _ (by show w.heap.size ≠ a.jb; omega), heap_setCell_other _ _ _ _ (by show w.heap.size ≠ a.jb; omega)]
  have lt := fun q (hq : a.R q) => h.dev.lt q (h.dev.sub q hq)
  have lp := lt a.p (.inl rfl)
  have lg := lt a.g (.inr (.inl rfl))
  have lm := lt a.mb (.inr (.inr (.inl rfl)))
  have lb := lt a.b (.inr (.inr (.inr (.inl rfl))))
  have ap := h.apart
  refine ⟨⟨?_, hcells, hmap, ⟨ap.jp, ap.jg, ap.jm, ap.jbb, ?_, ?_, ?_, ?_, ?_⟩⟩, h0.trans (ho.mono fun q _ e => .inr (.inr (.inr (.inr (.inl e)))))⟩
  · -- the cache stands in no block that is new
    have hcl : DevAt w' a.p a.g a.mb a.b a.n a.cached a.R (grow F w0 w) V S dt := h.dev.own h.apart (ho.mono fun _ _ e => .inl e) (fun _ h => h) (fun q hq => by have := h.dev.lt q hq; omega)
    obtain ⟨safe, U, cv, misses, xs, hS⟩ := hcl
    refine ⟨safe, U, cv, misses, xs, hS.disk, hS.cells, ?_, hS.len, hS.ca, hS.keys, hS.views, hS.clean, hS.kept, ?_, hlt', .inl rfl, .inr (.inl rfl), .inr (.inr (.inl rfl)), .inr (.inr (.inr (.inl rfl))), hS.bp, hS.bg, hS.bm⟩
    · rcases hS.cache with e | ⟨cg, off, cap, h1, h2, h3, h4, h5⟩
      · exact .inl e
      · refine .inr ⟨cg, off, cap, h1, h2, ?_, hwide _ h4, h5⟩
        have := h.dev.lt _ h4
        rintro (e | e | e | e | e | e)
        · exact h3 (.inl e)
        · exact h3 (.inr (.inl e))
        · exact h3 (.inr (.inr (.inl e)))
        · exact h3 (.inr (.inr (.inr (.inl e))))
        · exact h3 (.inr (.inr (.inr (.inr (.inl e)))))
        · have e' : cg = w.heap.size := e
          omega
    · rintro q (e | e | e | e | e | e)
      · exact hwide _ (h.dev.sub _ (.inl e))
      · exact hwide _ (h.dev.sub _ (.inr (.inl e)))
      · exact hwide _ (h.dev.sub _ (.inr (.inr (.inl e))))
      · exact hwide _ (h.dev.sub _ (.inr (.inr (.inr (.inl e)))))
      · exact hwide _ (h.dev.sub _ (.inr (.inr (.inr (.inr (.inl e))))))
      · have e' : q = w.heap.size := e
        exact .inr ⟨by omega, by omega⟩
  · show w.heap.size ≠ a.p; omega
  · show w.heap.size ≠ a.g; omega
  · show w.heap.size ≠ a.mb; omega
  · show w.heap.size ≠ a.b; omega
  · show w.heap.size ≠ a.jb; omega
end Go.Proofs.YtfpbocjmlhcgiaaGreatDoor
/- The journal's home: the walk. -/
namespace Go.Proofs.YtfpbocjmlhcgiaaGreatDoor
open Go.RowKit PJ Go.Maps

set_option maxRecDepth 100000 in
set_option maxHeartbeats 4000000 in
theorem home_any (w : World) (a : JA) (F : Nat → Prop) (V S : View) (dt : Bool) (head first next at' : Nat) (C : Cells) (h : JC w a F V S dt head first next at' C) (first' : Nat) (hh : head < 4611686018427387904) (hf : first' ≤ 4611686018427387904) (hn : 2 ≤ a.n) (han : a.area ≤ a.n)
    (hC : ∀ c d, C c = some d → c < a.n - a.area ∧ d.length = 116) (hne : ∃ c, (C c).isSome = true) :
    Calls Tryz.prog 197 #[.pointer (some ⟨a.jb, 0, none⟩), .int .i64 first'] w fun e w' => e = .returned (.tuple #[]) ∧
      ∃ cm', JC w' { a with cm := cm' } (grow F w w') (setS (homeV a.area C V) ((head + 1) % 2) (blk (be first' 8) (head + 1))) (setS (homeV a.area C V) ((head + 1) % 2) (blk (be first' 8) (head + 1))) false (head + 1) first' first' 2 (fun _ => none) ∧ OnlyJ a.R w w' := by
  have hmm := @run_makeMap Tryz.prog
  have hn12 : a.n ≤ 4096 := h.dev.n12.1
  have c0 : w.cell? ⟨a.jb, 0, none⟩ = some (.pointer (some ⟨a.b, 0, none⟩)) := cell_blk h.cells 0
  have HB1 := Lib.hid (jbarrier_any w a F V S dt head first next at' C h w (LJ.refl w))
  have HLT := Lib.hid h.dev.lt
  have HM := must_hid
  have HCC := Lib.hid hC
  have HNE := Lib.hid hne
  clear h hC hne
  go_enter Tryz.func197, Tryz.ntmps197
  go_upto_region 1 with (first
    | (go_at_call 60; (with_reducible refine HB1.out.mono ?_); rintro e w1 ⟨rfl, hj1, ho1⟩; have HJ1 := Lib.hid hj1; have HO1 := Lib.hid ho1; clear hj1 ho1)
    | (go_at_call 58; (with_reducible refine (HM _).out.mono ?_); rintro e wm ⟨rfl, hwm⟩; subst hwm)
    | fail)
  have c6 : w1.cell? ⟨a.jb, 6, none⟩ = some (.map (some a.cm)) := cell_blk HJ1.out.cells 6
  obtain ⟨cnt, D, hom, hmi, hcn⟩ := HJ1.out.map
  obtain ⟨hom2, hszD⟩ := own_rebase hom
  have hD : Maps.size D ≤ 4096 := by omega
  obtain ⟨w2, hw2⟩ : ∃ w2, w1.alloc (.cells #[.map (some a.cm)] 100) = w2 := ⟨_, rfl⟩
  have HKS := Lib.hid (fun mb => keys_any mb w1)
  have HSO := Lib.hid (sorted_any a.cm cnt D w1 w2 hw2.symm hom (by unfold maxLen; omega) (by omega))
  have hb12 : LJ w1 w2 := by rw [← hw2]; exact (LJ.refl w1).alloc _
  have hkeys : ∀ ss : List Int, ss.Perm (intKeys D) → ∀ x, x ∈ ss ↔ (CI C x).isSome = true := fun ss hp x => by
    rw [hp.mem_iff, keys_mem hom, (hmi x).1]
  have HKY := Lib.hid hkeys
  have HW2 := Lib.hid hw2
  have HB12 := Lib.hid hb12
  clear hom hmi hcn hom2 hszD hw2 hb12 hkeys hD
  go_upto_region 2 with (first
    | (go_at_call 223; (with_reducible refine (HKS.out _).mono ?_); rintro e wk ⟨rfl, hwk⟩; rw [HW2.out] at hwk; have hwk := hwk.symm; subst hwk)
    | (go_at_call 222; (with_reducible refine HSO.out.mono ?_); rintro e w3 ⟨v3, ss, rfl, hperm, hrow, hb3⟩; have HPE := Lib.hid hperm; have HRO := Lib.hid hrow; have HB3 := Lib.hid hb3; clear hperm hrow hb3; rcases HRO.out.2 with ⟨rfl, h0⟩ | ⟨g, cap, cur, rfl, hBg, hgb, hnc, hcm, -⟩)
    | fail)
  · exfalso
    obtain ⟨c, hc⟩ := HNE.out
    have hx := (HKY.out ss HPE.out (c : Int)).2 (by unfold CI; rw [if_pos (by omega), Int.toNat_natCast]; exact hc)
    rw [List.eq_nil_of_length_eq_zero h0] at hx
    cases hx
  obtain ⟨l, hl⟩ : ∃ l, ss.mergeSort (fun x y => decide (x ≤ y)) = l := ⟨_, rfl⟩
  have hlp : l.Perm ss := by rw [← hl]; exact List.mergeSort_perm _ _
  have hll : l.length = ss.length := hlp.length_eq
  rw [hl] at HRO
  have hmem : ∀ x, x ∈ l ↔ (CI C x).isSome = true := fun x => by rw [hlp.mem_iff]; exact HKY.out ss HPE.out x
  obtain ⟨n, hnn⟩ : ∃ n, ss.length = n := ⟨_, rfl⟩
  rw [hnn] at HRO hll hnc ⊢
  have HMEM := Lib.hid hmem
  have HLL := Lib.hid hll
  have hl13 : LJ w1 w3 := HB12.out.trans HB3.out
  have HL13 := Lib.hid hl13
  have HJ3 := Lib.hid (HJ1.out.later hl13)
  have hs1 := HO1.out.size
  have hs3 : w1.heap.size ≤ w3.heap.size := Below.size hl13
  have hgR : ¬ a.R g := fun e => by
    have h1 := HJ1.out.dev.lt g (HJ1.out.dev.sub g e)
    have h2 : w1.heap.size ≤ w2.heap.size := Below.size HB12.out
    omega
  have HGB := Lib.hid hgb
  have hn1 : n ≤ cap := hnc
  have hcap : cap ≤ maxLen := hcm
  unfold maxLen at hcap
  clear hl hlp hll hnn hmem hl13 HPE c6 c0 hcm hnc hgb HKS HSO HKY
  go_loopw [5, 19] (fun v5 v19 wr => ∃ j : Nat, j ≤ n ∧ v19 = .int .i64 (j : Int) ∧ Hid (JC wr a (grow F w wr) (homeL a.area C V (l.take j)) V true head first next at' C) ∧ Hid (OnlyJ a.R w3 wr)) (fun _ v19 _ => n - (intOf v19).toNat)
  case atStart =>
    refine ⟨0, by omega, rfl, Lib.hid ?_, Lib.hid (OnlyJ.refl _ _)⟩
    have := HJ3.out
    have hd := this.dev.dirty
    exact (JC.mk hd this.cells this.map this.apart).wide (fun q hq => by rcases hq with e | e; exact .inl e; exact .inr ⟨e.1, by omega⟩) (grow_lt HLT.out (by omega))
  case round =>
    obtain ⟨j, hj, rfl, HJ, HO⟩ := hrel
    have hsr := HO.out.size
    by_cases hlt : j < n
    · obtain ⟨x, hx⟩ : ∃ x, l[j]? = some x := ⟨_, List.getElem?_eq_getElem (by have := HLL.out; omega)⟩
      have hcx := (HMEM.out x).1 (List.mem_of_getElem? hx)
      obtain ⟨c, rfl, d, hcd⟩ : ∃ c : Nat, x = (c : Int) ∧ ∃ d, C c = some d := by
        unfold CI at hcx
        split at hcx
        · obtain ⟨k, rfl⟩ := Int.eq_ofNat_of_zero_le ‹0 ≤ x›
          rw [Int.toNat_natCast] at hcx
          exact ⟨k, rfl, Option.isSome_iff_exists.1 hcx⟩
        · cases hcx
      obtain ⟨hc1, hc2⟩ := HCC.out c d hcd
      have hgr : wr.heap[g]? = w3.heap[g]? := HO.out.block g (lt_blk HGB.out) hgR
      have hr1 : wr.cell? ⟨g, j, none⟩ = some (.int .i64 (c : Int)) := by
        rw [World.cell?_of_block (a := ⟨g, j, none⟩) hgr, HRO.out.cellAt j (by omega), List.getElem?_map, hx]
        rfl
      have d0 : wr.cell? ⟨a.jb, 0, none⟩ = some (.pointer (some ⟨a.b, 0, none⟩)) := cell_blk HJ.out.cells 0
      have d1 : wr.cell? ⟨a.jb, 1, none⟩ = some (.int .i64 a.area) := cell_blk HJ.out.cells 1
      have d6 : wr.cell? ⟨a.jb, 6, none⟩ = some (.map (some a.cm)) := cell_blk HJ.out.cells 6
      have hlk0 := cell_look HJ.out.map (c : Int) (WalkArith.wf_i64 (by omega))
      have hci : CI C (c : Int) = some d := by unfold CI; rw [if_pos (by omega), Int.toNat_natCast, hcd]
      rw [hci] at hlk0
      obtain ⟨DS, hDS⟩ : ∃ DS : ByteArray, (⟨d.toArray⟩ : ByteArray) = DS := ⟨_, rfl⟩
      have hDd : DS.data.toList = d := by rw [← hDS]
      have hDl : DS.size = 116 := by rw [← hc2, ← hDd, Array.length_toList]; rfl
      have hlk : (Instr.lookup 100 (.map (some a.cm)) (.int .i64 (c : Int)) false).run Tryz.prog wr = .ok (.string DS) wr := by rw [← hDS]; exact hlk0
      have hlkd : (Instr.lookup 100 (.map (some a.cm)) (.int .i64 (c : Int)) false).run Tryz.prog wr.drew = .ok (.string DS) wr.drew := by rw [← hDS]; have := cell_look (w := wr.drew) HJ.out.drew.map (c : Int) (WalkArith.wf_i64 (by omega)); rw [hci] at this; exact this
      have HWR := Lib.hid (show Calls Tryz.prog 59 #[.pointer (some ⟨a.b, 0, none⟩), .int .i64 ((a.area : Int) + (c : Int)), .string DS, .int .i64 0] wr.drew fun e w' => e = .returned (.int .i64 0) ∧ JC w' a (grow (grow F w wr) wr.drew w') (setS (homeL a.area C V (l.take j)) (a.area + c) (blk DS.data.toList 0)) V true head first next at' C ∧ OnlyJ a.R wr.drew w' from
        jwrite_any wr.drew a _ _ _ _ _ _ _ _ _ HJ.out.drew wr.drew (LJ.refl _) (a.area + c) (by omega) DS (by omega) 0 (by omega))
      have hwac : IntKind.i64.wrap ((a.area : Int) + (c : Int)) = (a.area : Int) + (c : Int) := by rw [IntKind.wrap_i64]; omega
      have hsn : l.take (j + 1) = l.take j ++ [(c : Int)] := by rw [List.take_add_one, hx]; rfl
      have HSN := Lib.hid hsn
      have HX := Lib.hid (And.intro hDd (And.intro hcd hgr))
      clear hcx hx hgr hlk0 hci hDS hDd hDl hcd hsn
      go_upto_region 4 with fail
      go_still_tail 16, (by kernel_rfl)
      change wpList _ _ _ _ _ wr.drew
      obtain ⟨w4, hw4⟩ : ∃ w4, wr.drew = w4 := ⟨_, rfl⟩
      rw [hw4] at HWR ⊢
      have HW4 := Lib.hid hw4
      clear hw4 d0 d1 d6 hlk hlkd hr1
      go_wp2_with (first
        | (go_at_call 59; (with_reducible refine HWR.out.mono ?_); rintro e w5 ⟨rfl, hj5, ho5⟩; have HJ5 := Lib.hid hj5; have HO5 := Lib.hid ho5; clear hj5 ho5)
        | (go_at_call 58; (with_reducible refine (HM _).out.mono ?_); rintro e wm ⟨rfl, hwm⟩; subst hwm)
        | fail)
      go_roundw
      case rel =>
        have hj5 := HJ5.out
        have ho5 := HO5.out
        rw [← HW4.out] at hj5 ho5
        have hs5 : wr.heap.size ≤ w5.heap.size := ho5.size
        refine ⟨j + 1, by omega, by simp, Lib.hid ?_, Lib.hid (HO.out.trans ho5.undrew)⟩
        rw [HSN.out, homeL_snoc, Int.toNat_natCast, HX.out.2.1, Option.getD_some, ← HX.out.1]
        exact JC.comp (w1 := wr.drew) hj5 (by show w.heap.size ≤ wr.heap.size; omega) hs5 HLT.out
      case measure => simp [intOf]; omega
    · have hjn : j = n := by omega
      subst hjn
      have hv : homeL a.area C V (l.take j) = homeV a.area C V := by
        rw [List.take_of_length_le (Nat.le_of_eq HLL.out)]
        exact homeL_home HMEM.out
      have hj0 := HJ.out
      rw [hv] at hj0
      have hs0 : w.heap.size ≤ wr.heap.size := by omega
      have HOA := Lib.hid (show OnlyJ a.R w wr from HO1.out.trans ((OnlyJ.of_below HL13.out).trans HO.out))
      have HJA := Lib.hid hj0
      have a0 : wr.cell? ⟨a.jb, 0, none⟩ = some (.pointer (some ⟨a.b, 0, none⟩)) := cell_blk HJA.out.cells 0
      have HBA := Lib.hid (jbarrier_any wr a _ _ _ _ _ _ _ _ _ HJA.out wr (LJ.refl wr))
      clear hv hj0
      go_upto_region 7 with (first
        | (go_at_call 60; (with_reducible refine HBA.out.mono ?_); rintro e wb ⟨rfl, hjb, hob⟩; have HJB := Lib.hid (JC.comp hjb hs0 hob.size HLT.out); have HOB := Lib.hid (HOA.out.trans hob); clear hjb hob)
        | (go_at_call 58; (with_reducible refine (HM _).out.mono ?_); rintro e wm ⟨rfl, hwm⟩; subst hwm)
        | fail)
      have b2 : wb.cell? ⟨a.jb, 2, none⟩ = some (.int .i64 head) := cell_blk HJB.out.cells 2
      have HLA := Lib.hid (lay_any wb a _ _ _ _ _ _ _ _ _ HJB.out (head + 1) first' (by omega) hf hn)
      have hhi : (head : Int) < 4611686018427387904 := by omega
      have hh1 : ((head + 1 : Nat) : Int) = (head : Int) + 1 := by omega
      rw [hh1] at HLA
      clear a0
      go_upto_region 8 with (first
        | (go_at_call 56; (with_reducible refine HLA.out.mono ?_); rintro e wc ⟨rfl, hjc, hoc⟩; have HJX := Lib.hid (JC.comp hjc HOB.out.size hoc.size HLT.out); have HOC := Lib.hid (HOB.out.trans hoc); clear hjc hoc)
        | fail)
      have e0 : wc.cell? ⟨a.jb, 0, none⟩ = some (.pointer (some ⟨a.b, 0, none⟩)) := cell_blk HJX.out.cells 0
      have HBC := Lib.hid (jbarrier_any wc a _ _ _ _ _ _ _ _ _ HJX.out wc (LJ.refl wc))
      clear b2 hh1
      go_upto_region 9 with (first
        | (go_at_call 60; (with_reducible refine HBC.out.mono ?_); rintro e wd ⟨rfl, hjd, hod⟩; have HJD := Lib.hid (JC.comp hjd HOC.out.size hod.size HLT.out); have HOD := Lib.hid (HOC.out.trans hod); clear hjd hod)
        | (go_at_call 58; (with_reducible refine (HM _).out.mono ?_); rintro e wm ⟨rfl, hwm⟩; subst hwm)
        | fail)
      have hdl := lt_blk HJD.out.cells
      obtain ⟨we, hwe⟩ : ∃ we, wd.alloc (.map #[] 0) = we := ⟨_, rfl⟩
      have hca := (Below.heap_alloc wd (.map #[] 0) _ hdl).trans HJD.out.cells
      have hmk := hmm 100 wd
      rw [hwe] at hca hmk
      have k6 : we.cell? ⟨a.jb, 6, none⟩ = some (.map (some a.cm)) := cell_blk hca 6
      have k4 : we.cell? ⟨a.jb, 4, none⟩ = some (.int .i64 next) := cell_blk hca 4
      have k5 : we.cell? ⟨a.jb, 5, none⟩ = some (.int .i64 at') := cell_blk hca 5
      have f6 := free_blk hca 6
      have f4 := free_blk hca 4
      have f5 := free_blk hca 5
      have HWE := Lib.hid hwe
      obtain ⟨z, hz⟩ : ∃ z, wd.heap.size = z := ⟨_, rfl⟩
      rw [hz] at hmk
      have HZ := Lib.hid hz
      clear e0 hca hmm hwe hdl hz hhi hh hf hs0 hs1 hs3 hsr
      go_wp2_with fail
      go_end0
      exact ⟨rfl, z, by
        have h := JC.newmap (first' := first') HJD.out HOD.out HLT.out _ rfl
        rw [HWE.out, HZ.out] at h
        exact h⟩
end Go.Proofs.YtfpbocjmlhcgiaaGreatDoor
