/- The journal's Open, where records count. -/
import Derived.Test.YtfpbocjmlhcgiaaGreatDoorJgx
set_option linter.unusedSimpArgs false
set_option linter.unusedVariables false
namespace Go.Proofs.YtfpbocjmlhcgiaaGreatDoor
open Go.RowKit PJ Go.Maps

theorem only_old {w w4 w' : World} {r F : Nat → Prop} (hl : LJ w w4) (ho : OnlyJ r w4 w') (hr : ∀ q, r q → q < w.heap.size → F q) : OnlyJ F w w' := by
  have hs := Below.size hl
  exact ⟨ho.os.trans hl.os, ho.tape.trans hl.tape, ho.output.trans hl.output, Nat.le_trans hs ho.size, fun q hq hne => (ho.block q (by omega) (fun e => hne (hr q e hq))).trans (Below.block hl q hq)⟩
set_option maxRecDepth 100000 in
theorem open1_any (w : World) (a : JA) (F : Nat → Prop) (V S : View) (dt : Bool) (head first next at' : Nat) (C : Cells) (h : JC w a F V S dt head first next at' C) (q8 q9 m : Nat) (h8 : w.cell? ⟨q8, 0, none⟩ = some (.pointer (some ⟨a.jb, 0, none⟩))) (h9 : w.cell? ⟨q9, 0, none⟩ = some (.int .i64 m))
    (hh : head < 4611686018427387904) (hf : m + 1 ≤ 4611686018427387904) (hn : 2 ≤ a.n) (han : a.area ≤ a.n) (hC : ∀ c d, C c = some d → c < a.n - a.area ∧ d.length = 116) (hne : ∃ c, (C c).isSome = true) :
    Calls Tryz.prog 201 #[.pointer (some ⟨q8, 0, none⟩), .pointer (some ⟨q9, 0, none⟩)] w fun e w' => e = .returned (.tuple #[]) ∧
      ∃ cm', JC w' { a with cm := cm' } (grow F w w') (setS (homeV a.area C V) ((head + 1) % 2) (blk (be (m + 1) 8) (head + 1))) (setS (homeV a.area C V) ((head + 1) % 2) (blk (be (m + 1) 8) (head + 1))) false (head + 1) (m + 1) (m + 1) 2 (fun _ => none) ∧ OnlyJ a.R w w' := by
  have hhome := home_any w a F V S dt head first next at' C h (m + 1) hh hf hn han hC hne
  rw [show ((m + 1 : Nat) : Int) = (m : Int) + 1 from by omega] at hhome
  have HH := Lib.hid hhome
  have hwm : IntKind.i64.wrap ((m : Int) + 1) = (m : Int) + 1 := by rw [IntKind.wrap_i64]; omega
  clear h hC hne hhome hf hh
  go_enter Tryz.func201, Tryz.ntmps201
  go_wp2_with (first
    | (go_at_call 197; (with_reducible refine HH.out.mono ?_); rintro e w5 ⟨rfl, cm', hj5, ho5⟩)
    | fail)
  go_end0
  exact ⟨rfl, cm', hj5, ho5⟩
theorem face_only {w w' : World} {r : Nat → Prop} {Q : World → Prop} (h : FaceOut w r Q w') : OnlyJ r w w' := by
  obtain ⟨w1, h1, h2, h3, h4⟩ := h
  have hs := h4.size
  exact ⟨h4.os.trans h2.os, h4.tape.trans h2.tape, h4.output.trans h2.output, by omega, fun k hk hne => (h4.block k (by omega) (by omega)).trans (h2.block k hk hne)⟩
def natCell : Option Value → Nat
  | some (.int _ z) => z.toNat
  | _ => 0
set_option maxRecDepth 100000 in
set_option maxHeartbeats 4000000 in
theorem open_recs (w : World) (p g mb b n cached : Nat) (R F : Nat → Prop) (J : Jn) (dt : Bool) (h : DevAt w p g mb b n cached R F J.V J.S dt) (hok : J.OK) (hn : n = J.n) (L : List (List Wr)) (hL : J.Whole L) (hL0 : L ≠ []) (hf2 : J.next ≤ 4611686018427387904) (hh2 : J.head < 4611686018427387904) :
    Calls Tryz.prog 143 #[.pointer (some ⟨b, 0, none⟩), .int .i64 J.area] w fun e w' => ∃ jb, e = .returned (.tuple #[.pointer (some ⟨jb, 0, none⟩), .int .i64 0]) ∧ JAt w' p b jb (grow F w w') J.home ∧ OnlyJ F w w' := by
  subst hn
  have hmm := @run_makeMap Tryz.prog
  have hn12 := hok.n12
  have h4 := hok.area4
  have han := hok.arean
  have hfn' := hok.fn
  obtain ⟨G, hG, hG2⟩ := heads_ok hok (Nat.le_trans hok.fn hf2) (Nat.le_of_lt hh2)
  obtain ⟨il, dl, hil2, hila, hvl, hdl, hflt⟩ := hL.last hok hL0
  have HLAST := Lib.hid (And.intro hil2 (And.intro hila (And.intro hvl hdl)))
  obtain ⟨d0, st0, hv0, hd0, hs0⟩ := hok.good 0 (by omega)
  have HST0 := Lib.hid (show Calls Tryz.prog 198 #[.pointer (some ⟨b, 0, none⟩), .int .i64 0] w fun e w' => e = .returned (.tuple #[.int .i64 (st0 : Int), .int .i64 0]) ∧ LJ w w' from
    bstamp_at w p g mb b J.n cached R F _ _ _ h 0 (by omega) d0 st0 hv0 hd0 hs0)
  have HH := Lib.hid h
  have HOK := Lib.hid hok
  have HG := Lib.hid hG
  have HG2 := Lib.hid hG2
  have HHF := Lib.hid (And.intro hf2 hh2)
  have HFL := Lib.hid hflt
  have HWL := Lib.hid hL
  clear h hok hG hG2 hf2 hh2 hv0 hd0 hs0 hil2 hila hvl hdl hflt hL hfn'
  go_enter Tryz.func143, Tryz.ntmps143
  go_upto_region 4 with (first
    | (go_at_call 198; (with_reducible refine HST0.out.mono ?_); rintro e w1 ⟨rfl, hl1⟩; have HL1 := Lib.hid hl1; clear hl1)
    | fail)
  obtain ⟨area, har⟩ : ∃ area, J.area = area := ⟨_, rfl⟩
  rw [har] at h4 han ⊢
  have HAR := Lib.hid har
  clear har
  obtain ⟨wm, hwm⟩ : ∃ wm, w1.alloc (.map #[] 0) = wm := ⟨_, rfl⟩
  obtain ⟨w3, hw3⟩ : ∃ w3, wm.alloc (.cells (jCells b area 0 0 0 2 w1.heap.size) 108) = w3 := ⟨_, rfl⟩
  obtain ⟨w4, hw4⟩ : ∃ w4, w3.alloc (.cells #[.pointer (some ⟨w1.heap.size + 1, 0, none⟩)] 34) = w4 := ⟨_, rfl⟩
  have hzm : wm.heap.size = w1.heap.size + 1 := by rw [← hwm, World.size_alloc]
  have hz3 : w3.heap.size = w1.heap.size + 1 + 1 := by rw [← hw3, World.size_alloc, hzm]
  have hz4 : w4.heap.size = w1.heap.size + 1 + 1 + 1 := by rw [← hw4, World.size_alloc, hz3]
  have hl13 : LJ w1 w3 := by rw [← hw3, ← hwm]; exact ((LJ.refl w1).alloc _).alloc _
  have hl34 : LJ w3 w4 := by rw [← hw4]; exact (LJ.refl w3).alloc _
  have hl04 : LJ w w4 := HL1.out.trans (hl13.trans hl34)
  have hs01 := Below.size HL1.out
  have hcm : CellsAt w4 w1.heap.size (J.n - area) (fun _ => none) := by
    have h1 := CellsAt.made w1 (J.n - area)
    refine h1.kept ?_
    rw [← hw4, Below.heap_alloc _ _ _ (by omega), ← hw3, hwm, Below.heap_alloc _ _ _ (by omega)]
  have hcj : w4.heap[w1.heap.size + 1]? = some (.cells (jCells b area 0 0 0 2 w1.heap.size) 108 (0, 0)) := by
    have h1 := alloc_blk wm (.cells (jCells b area 0 0 0 2 w1.heap.size) 108)
    rw [hzm, hw3] at h1
    exact hl34.block h1
  have hjc := JC.lay0 HH.out hl04 (w1.heap.size + 1) w1.heap.size area 0 0 0 2 (by omega) (by omega) (by omega) (by omega) (by omega) hcj hcm
  have y8 : w4.cell? ⟨w1.heap.size + 1 + 1, 0, none⟩ = some (.pointer (some ⟨w1.heap.size + 1, 0, none⟩)) := by
    have h1 := alloc_blk w3 (.cells #[.pointer (some ⟨w1.heap.size + 1, 0, none⟩)] 34)
    rw [hz3, hw4] at h1
    exact cell_blk h1 0
  have hlt := HH.out.lt
  obtain ⟨a, ha⟩ : ∃ a : JA, a = ⟨p, g, mb, b, w1.heap.size + 1, w1.heap.size, J.n, cached, area⟩ := ⟨_, rfl⟩
  rw [← ha] at hjc
  have hajb : a.jb = w1.heap.size + 1 := by rw [ha]
  have han' : a.n = J.n := by rw [ha]
  have hF := finds_any w4 a _ _ _ _ 0 2 _ hjc (by omega) G HG.out
  rw [hajb] at hF
  have HF := Lib.hid hF
  have hb' : (decide ((4 : Int) ≤ (area : Int)) && decide ((area : Int) < (J.n : Int))) = true := by
    rw [Bool.and_eq_true, decide_eq_true_eq, decide_eq_true_eq]
    omega
  have hf := fits_any w4 a.p a.g a.mb a.b a.n a.cached a.R _ _ _ _ hjc.dev (area : Int)
  rw [han', hb', show a.b = b from by rw [ha]] at hf
  have HFT := Lib.hid hf
  have HJC := Lib.hid hjc
  have HL04 := Lib.hid hl04
  have hmk := hmm 100 w1
  rw [hwm] at hmk
  have hjs : jCells b area 0 0 0 2 w1.heap.size = #[.pointer (some ⟨b, 0, none⟩), .int .i64 area, .int .i64 0, .int .i64 0, .int .i64 0, .int .i64 2, .map (some w1.heap.size), .bool false] := rfl
  rw [hjs] at hw3
  have HW3 := Lib.hid hw3
  have HW4 := Lib.hid hw4
  have HZM := Lib.hid hzm
  have HZ3 := Lib.hid hz3
  have HZ4 := Lib.hid hz4
  have HY8 := Lib.hid y8
  have HA := Lib.hid ha
  have HAJ := Lib.hid hajb
  have HAN := Lib.hid han'
  have HLT := Lib.hid hlt
  clear hF hf hjc hl04 hw3 hw4 hzm hz3 hz4 y8 ha hajb han' hlt hjs hwm hb' hmm hcm hcj hl13 hl34
  go_upto_region 5 with fail
  rw [HW3.out, HZM.out, HW4.out]
  have y8 := HY8.out
  go_upto_region 7 with (first
    | (go_at_call 53; (with_reducible refine HFT.out.mono ?_); rintro e w2 ⟨rfl, hw2⟩; subst hw2)
    | (go_at_call 199; (with_reducible refine HF.out.mono ?_); rintro e w5 ⟨rfl, hj5, ho5⟩; have HJ5 := Lib.hid hj5; have HO5 := Lib.hid ho5; clear hj5 ho5)
    | fail)
  go_upto_region 8 with fail
  obtain ⟨w6, hw6⟩ : ∃ w6, w5.alloc (.cells #[.int .i64 0] 3) = w6 := ⟨_, rfl⟩
  rw [hw6]
  have hl56 : LJ w5 w6 := by rw [← hw6]; exact (LJ.refl w5).alloc _
  have hb9 : w6.heap[w5.heap.size]? = some (.cells #[.int .i64 0] 3 (0, 0)) := by rw [← hw6]; exact alloc_blk w5 _
  obtain ⟨q9, hq9⟩ : ∃ q9, w5.heap.size = q9 := ⟨_, rfl⟩
  rw [hq9] at hb9 ⊢
  have HB9 := Lib.hid hb9
  have HQ9 := Lib.hid hq9
  have HL56 := Lib.hid hl56
  clear hw6 hl56 hb9 hq9
  go_wp2_with fail
  go_loopw [10] (fun v10 wr => ∃ i m : Nat, 2 ≤ i ∧ i ≤ area ∧ v10 = .int .i64 (i : Int) ∧ Hid (m < J.next ∧ ∀ k, 2 ≤ k → k < i → stampOf (J.V k) ≤ m) ∧ Hid (wr.heap[q9]? = some (.cells #[.int .i64 m] 3 (0, 0))) ∧ Hid (OnlyJ (fun q => q = q9) w6 wr)) (fun v10 _ => area - (intOf v10).toNat)
  case atStart => exact ⟨2, 0, by omega, by omega, rfl, Lib.hid ⟨by have h1 := HOK.out.first1; have h2 := HFL.out; omega, fun k h1 h2 => by omega⟩, HB9, Lib.hid (OnlyJ.of_below (LJ.refl _))⟩
  case round =>
    obtain ⟨i, m, hi2, hia, rfl, HM, HBR, HO⟩ := hrel
    have k9 : wr.cell? ⟨q9, 0, none⟩ = some (.int .i64 (m : Int)) := cell_blk HBR.out 0
    have f9 := free_blk HBR.out 0
    have h5q := HQ9.out
    have hs56 := Below.size HL56.out
    have hs6r := HO.out.size
    have hbr : ∀ k, k < w5.heap.size → wr.heap[k]? = w5.heap[k]? := fun k hk => (HO.out.block k (by omega) (by show k ≠ q9; omega)).trans (Below.block HL56.out k hk)
    have hjr := HJ5.out.kept (w' := wr) (by omega) (fun k hk => hbr k (HJ5.out.dev.lt k hk)) (fun _ h => h) (fun q hq => by have := HJ5.out.dev.lt q hq; omega)
    have HJR := Lib.hid hjr
    have HBRR := Lib.hid hbr
    clear hjr hbr h5q hs56
    by_cases hlt : i < area
    · obtain ⟨d, st, hv, hd, hst, hst2⟩ := HOK.out.stamps i hi2 (by rw [HAR.out]; exact hlt)
      have hs := bstamp_at wr _ _ _ _ _ _ _ _ _ _ _ HJR.out.dev i (by rw [HAN.out]; omega) d st hv hd hst2
      rw [show a.b = b from by rw [HA.out]] at hs
      have HST := Lib.hid hs
      have HS1 := Lib.hid (And.intro hst (show stampOf (J.V i) = st from by rw [hv]; exact stampOf_blk hd hst2))
      clear hs hst hst2 hv hd
      go_wp2_with (first
        | (go_at_call 198; (with_reducible refine HST.out.mono ?_); rintro e w7 ⟨rfl, hl7⟩
           have k7 : w7.cell? ⟨q9, 0, none⟩ = some (.int .i64 (m : Int)) := cell_blk (hl7.block HBR.out) 0
           have f7 := free_blk (hl7.block HBR.out) 0
           have HL7 := Lib.hid hl7
           clear hl7)
        | fail)
      go_roundw
      case rel =>
        have e : max (m : Int) (st : Int) = ((max m st : Nat) : Int) := by omega
        rw [e]
        refine ⟨i + 1, max m st, by omega, by omega, by simp, Lib.hid ?_, Lib.hid ?_, Lib.hid ?_⟩
        · have h1 := HM.out
          have h2 := HS1.out
          refine ⟨by have := h1.1; have := h2.1; omega, fun k hk1 hk2 => ?_⟩
          by_cases hki : k = i
          · subst hki
            have := h2.2
            omega
          · have := h1.2 k hk1 (by omega)
            omega
        · exact heap_setCell_same _ _ 0 _ _ _ (HL7.out.block HBR.out)
        · exact HO.out.trans ((OnlyJ.of_below HL7.out).trans (setCell_only _ _ _ _))
      case measure => simp [intOf]; omega
    · have hie : i = area := by omega
      subst hie
      have hjr := HJR.out
      have e2 : (G 2).1 = J.head := by rw [HG2.out]
      have e3 : (G 2).2 = J.first := by rw [HG2.out]
      rw [e2, e3] at hjr
      have hmn : m + 1 = J.next := by
        have h1 := HM.out
        obtain ⟨l1, l2, l3, l4⟩ := HLAST.out
        have h3 := h1.2 il l1 (by rw [← HAR.out]; exact l2)
        rw [l3, stampOf_blk l4 (by have := HHF.out.1; omega)] at h3
        have := HFL.out
        omega
      have h5w : w1.heap.size + 1 + 1 < w5.heap.size := by have := HO5.out.size; have := HZ4.out; omega
      have h4w : w1.heap.size + 1 + 1 < w4.heap.size := by have := HZ4.out; omega
      have hR : ¬ a.R (w1.heap.size + 1 + 1) := by
        have hs01 := Below.size HL1.out
        obtain ⟨z1, z2, z3, z4⟩ := HH.out.Rs
        have hs := HH.out.sub
        have l1 := HLT.out _ (hs _ z1)
        have l2 := HLT.out _ (hs _ z2)
        have l3 := HLT.out _ (hs _ z3)
        have l4 := HLT.out _ (hs _ z4)
        rw [HA.out]
        rintro (e | e | e | e | e | e) <;> simp only at e <;> omega
      have r8 : wr.cell? ⟨w1.heap.size + 1 + 1, 0, none⟩ = some (.pointer (some ⟨w1.heap.size + 1, 0, none⟩)) :=
        ((World.cell?_of_block (a := ⟨w1.heap.size + 1 + 1, 0, none⟩) (HBRR.out _ h5w)).trans (World.cell?_of_block (a := ⟨w1.heap.size + 1 + 1, 0, none⟩) (HO5.out.block (w1.heap.size + 1 + 1) h4w hR))).trans HY8.out
      have hcl := hjr.cells
      rw [HAJ.out] at hcl
      have r3 : wr.cell? ⟨w1.heap.size + 1, 3, none⟩ = some (.int .i64 (J.first : Int)) := cell_blk hcl 3
      have r4 : wr.cell? ⟨w1.heap.size + 1, 4, none⟩ = some (.int .i64 ((0 : Nat) : Int)) := cell_blk hcl 4
      have t4 := free_blk hcl 4
      have hmlt : decide ((m : Int) < (J.first : Int)) = false := by have := HFL.out; simp; omega
      have hmlt2 : ¬ (m : Int) < (J.first : Int) := by have := HFL.out; omega
      have HJ2 := Lib.hid hjr
      have HMN := Lib.hid hmn
      have HR := Lib.hid hR
      have H4W := Lib.hid h4w
      clear hjr hcl hmn hR h4w h5w
      go_upto_region 15 with fail
      go_still_tail 7, (by kernel_rfl)
      change wpList _ _ _ _ _ wr.drew
      obtain ⟨wr1, hwr1⟩ : ∃ wr1, wr.drew = wr1 := ⟨_, rfl⟩
      rw [hwr1]
      have hlr : LJ wr wr1 := by rw [← hwr1]; exact (LJ.refl wr).drew
      have r8 := LJ.cell hlr r8
      have r3 := LJ.cell hlr r3
      have r4 := LJ.cell hlr r4
      have k9 := LJ.cell hlr k9
      have t4 : wr1.frozen? ⟨w1.heap.size + 1, 4, none⟩ = false := by rw [← hwr1]; exact t4
      have HJ2 := Lib.hid (HJ2.out.later hlr)
      have HLR := Lib.hid hlr
      clear hwr1 hlr
      go_upto_region 16 with fail
      obtain ⟨w8, hw8⟩ : ∃ w8, wr1.setCell ⟨w1.heap.size + 1, 4, none⟩ (.int .i64 (J.first : Int)) = w8 := ⟨_, rfl⟩
      rw [hw8]
      have o8 : OnlyJ (fun q => q = a.jb) wr1 w8 := by rw [← hw8, HAJ.out]; exact setCell_only _ _ _ _
      have j8 : JC w8 a _ J.V J.S dt J.head J.first J.first 2 (fun _ => none) := HJ2.out.turn o8 (by
        rw [← hw8, HAJ.out]
        have h1 := HJ2.out.cells
        rw [HAJ.out] at h1
        exact heap_setCell_same _ _ 4 _ _ _ h1)
      have c8 : w8.cell? ⟨w1.heap.size + 1 + 1, 0, none⟩ = some (.pointer (some ⟨w1.heap.size + 1, 0, none⟩)) := (show w8.cell? ⟨w1.heap.size + 1 + 1, 0, none⟩ = _ from (World.cell?_of_block (a := ⟨w1.heap.size + 1 + 1, 0, none⟩) (o8.block (w1.heap.size + 1 + 1) (World.block_lt_of_cell? _ _ r8) (by show w1.heap.size + 1 + 1 ≠ a.jb; rw [HAJ.out]; omega))).trans r8)
      have c3 : w8.cell? ⟨w1.heap.size + 1, 3, none⟩ = some (.int .i64 (J.first : Int)) := by
        have h1 := j8.cells
        rw [HAJ.out] at h1
        exact (show w8.cell? ⟨w1.heap.size + 1, 3, none⟩ = _ from cell_blk h1 3)
      have c2 : w8.cell? ⟨w1.heap.size + 1, 2, none⟩ = some (.int .i64 (J.head : Int)) := by
        have h1 := j8.cells
        rw [HAJ.out] at h1
        exact (show w8.cell? ⟨w1.heap.size + 1, 2, none⟩ = _ from cell_blk h1 2)
      have c9 : w8.cell? ⟨q9, 0, none⟩ = some (.int .i64 (m : Int)) := (show w8.cell? ⟨q9, 0, none⟩ = _ from (World.cell?_of_block (a := ⟨q9, 0, none⟩) (o8.block q9 (World.block_lt_of_cell? _ _ k9) (by show q9 ≠ a.jb; have := HQ9.out; have := HO5.out.size; have := HZ4.out; rw [HAJ.out]; omega))).trans k9)
      have J8 := Lib.hid j8
      have O8 := Lib.hid o8
      clear hw8 j8 o8
      go_quiet (fail)
      obtain ⟨wb, hwb⟩ : ∃ wb, w8.drewN nq = wb := ⟨_, rfl⟩
      rw [hwb]
      have g18 : ((m : Int) == 4611686018427387904) = false := by have := HHF.out.1; have := HMN.out; simp; omega
      have g18' : ¬ (m : Int) = 4611686018427387904 := by have := HHF.out.1; have := HMN.out; omega
      have g19 : ((J.head : Int) == 4611686018427387904) = false := by have := HHF.out.2; simp; omega
      have g19' : ¬ (J.head : Int) = 4611686018427387904 := by have := HHF.out.2; omega
      have hj9 := J8.out.drewN nq
      rw [hwb] at hj9
      have o89 : LJ w8 wb := by rw [← hwb]; exact (LJ.refl w8).drewN nq
      have b8 : wb.cell? ⟨w1.heap.size + 1 + 1, 0, none⟩ = some (.pointer (some ⟨w1.heap.size + 1, 0, none⟩)) := by rw [← hwb]; exact c8
      have b9 : wb.cell? ⟨q9, 0, none⟩ = some (.int .i64 (m : Int)) := by rw [← hwb]; exact c9
      have b2 : wb.cell? ⟨w1.heap.size + 1, 2, none⟩ = some (.int .i64 (J.head : Int)) := by rw [← hwb]; exact c2
      have hs01 := Below.size HL1.out
      have z4 := HZ4.out
      have s5 := HO5.out.size
      have s56 := Below.size HL56.out
      have s6r := HO.out.size
      have s8 := O8.out.size
      have s8r := Below.size HLR.out
      have s89 := Below.size o89
      have q9' := HQ9.out
      have aj := HAJ.out
      have ha2 := HA.out
      have hRs : ∀ q, a.R q → q < w4.heap.size ∧ (q < w.heap.size → F q) := by
        rw [ha2]
        obtain ⟨z1, z2, z3, z4⟩ := HH.out.Rs
        have hs := HH.out.sub
        rintro q (e | e | e | e | e | e)
        · subst e; exact ⟨by have := HLT.out _ (hs _ z1); omega, fun _ => hs _ z1⟩
        · subst e; exact ⟨by have := HLT.out _ (hs _ z2); omega, fun _ => hs _ z2⟩
        · subst e; exact ⟨by have := HLT.out _ (hs _ z3); omega, fun _ => hs _ z3⟩
        · subst e; exact ⟨by have := HLT.out _ (hs _ z4); omega, fun _ => hs _ z4⟩
        · simp only at e; exact ⟨by omega, fun _ => by omega⟩
        · simp only at e; exact ⟨by omega, fun _ => by omega⟩
      have o4b : OnlyJ a.R w4 wb := by
        have h1 := ((OnlyJ.of_below HLR.out).trans O8.out).trans (OnlyJ.of_below o89)
        refine ⟨?_, ?_, ?_, by omega, fun q hq hne => ?_⟩
        · exact h1.os.trans (HO.out.os.trans (HL56.out.os.trans HO5.out.os))
        · exact h1.tape.trans (HO.out.tape.trans (HL56.out.tape.trans HO5.out.tape))
        · exact h1.output.trans (HO.out.output.trans (HL56.out.output.trans HO5.out.output))
        · exact (h1.block q (by omega) (fun e => hne (by rw [show q = a.jb from e]; exact .inr (.inr (.inr (.inr (.inl rfl))))))).trans ((HBRR.out q (by omega)).trans (HO5.out.block q hq hne))
      have hj0 := hj9.wide (F' := grow F w wb) (by
        rintro q ((e | e | e) | e)
        · exact .inl e
        · exact .inr ⟨by omega, by omega⟩
        · exact .inr ⟨by omega, by omega⟩
        · exact .inr ⟨by omega, by omega⟩) (grow_lt HLT.out (by omega))
      have HB0 := Lib.hid (show w4.heap.size ≤ wb.heap.size ∧ w.heap.size ≤ w4.heap.size ∧ w1.heap.size + 1 + 1 < w4.heap.size ∧ w4.heap.size ≤ q9 ∧ q9 < wb.heap.size from ⟨by omega, by omega, by omega, by omega, World.block_lt_of_cell? _ _ b9⟩)
      have HJ0 := Lib.hid hj0
      have HRS := Lib.hid hRs
      have HO4B := Lib.hid o4b
      have HB8 := Lib.hid b8
      have HB9' := Lib.hid b9
      clear hj9 o89 hwb c8 c3 c2 c9 hs01 z4 s5 s56 s6r s8 s8r s89 q9' aj ha2 hRs o4b hj0
      go_wp2_with fail
      clear b8 b9 b2 g18 g18' g19 g19'
      go_loopw [] (fun wx => ∃ (t : Nat) (Fx : Nat → Prop), t ≤ L.length ∧ Hid (JC wx a Fx J.V J.S dt J.head J.first (J.first + t) (2 + recsLen (L.take t)) ((L.take t).foldl putsW (fun _ => none))) ∧ Hid (∀ q, F q → Fx q) ∧ Hid (∀ q, Fx q → grow F w wx q) ∧ Hid (OnlyJ a.R wb wx)) (fun wx => J.next + 1 - natCell (wx.cell? ⟨w1.heap.size + 1, 4, none⟩))
      case atStart => exact ⟨0, _, by omega, HJ0, Lib.hid grow_sub, Lib.hid (fun _ h => h), Lib.hid (OnlyJ.refl _ _)⟩
      case round =>
        obtain ⟨t, Fx, ht, HJ, HF1, HF2, HOX⟩ := hrel
        obtain ⟨nx, hnx⟩ : ∃ nx, J.first + t = nx := ⟨_, rfl⟩
        obtain ⟨ps, hps⟩ : ∃ ps, 2 + recsLen (L.take t) = ps := ⟨_, rfl⟩
        obtain ⟨CX, hCX⟩ : ∃ CX : Cells, (L.take t).foldl putsW (fun _ => none) = CX := ⟨_, rfl⟩
        rw [hnx, hps, hCX] at HJ
        have hb0 := HB0.out
        have hxs := HOX.out.size
        have r8 : wr.cell? ⟨w1.heap.size + 1 + 1, 0, none⟩ = some (.pointer (some ⟨w1.heap.size + 1, 0, none⟩)) := (World.cell?_of_block (a := ⟨w1.heap.size + 1 + 1, 0, none⟩) (HOX.out.block _ (by show w1.heap.size + 1 + 1 < wb.heap.size; omega) HR.out)).trans HB8.out
        have r9 : wr.cell? ⟨q9, 0, none⟩ = some (.int .i64 (m : Int)) := (World.cell?_of_block (a := ⟨q9, 0, none⟩) (HOX.out.block _ (by show q9 < wb.heap.size; omega) (fun e => by have h1 := (HRS.out q9 e).1; omega))).trans HB9'.out
        have hcl := HJ.out.cells
        rw [HAJ.out] at hcl
        have r4 : wr.cell? ⟨w1.heap.size + 1, 4, none⟩ = some (.int .i64 (nx : Int)) := cell_blk hcl 4
        have r5 : wr.cell? ⟨w1.heap.size + 1, 5, none⟩ = some (.int .i64 (ps : Int)) := cell_blk hcl 5
        have haa : a.area = J.area := by rw [HA.out]; exact HAR.out.symm
        have hatA := HOK.out.atA
        have hat := HWL.out.at'
        have hnn := HWL.out.next
        by_cases htl : t < L.length
        · obtain ⟨l, hl⟩ : ∃ l, L[t]? = some l := ⟨_, List.getElem?_eq_getElem htl⟩
          obtain ⟨v1, v2⟩ := HWL.out.recs.get hl
          have hrk := HWL.out.each l (List.mem_of_getElem? hl)
          have htk := recsLen_take hl
          have hle := recsLen_le L (t + 1)
          rw [hnx, hps] at v1 v2
          have hrc := record_yes wr.drew a Fx J.V J.S dt J.head J.first nx ps CX HJ.out.drew nx ps l (by rw [HAN.out, haa]; exact hrk) (by rw [haa]; omega) (by rw [haa, HAN.out]; exact Nat.le_of_lt HOK.out.arean) (by have := HHF.out.1; omega) v1 v2
          rw [HAJ.out] at hrc
          have HRC := Lib.hid hrc
          have hkp := fun w7 F7 lv (hj : JC w7 a F7 J.V J.S dt J.head J.first nx ps CX) (hl7 : LAt w7 F7 lv (l.map padW)) => keeps_any w7 a F7 J.V J.S dt J.head J.first nx ps CX hj lv (l.map padW) hl7 (by rw [List.length_map]; exact hrk.h40) (by rw [List.length_map]; exact hrk.ne) (fun y hy => by
            obtain ⟨x, hx, rfl⟩ := List.mem_map.1 hy
            obtain ⟨e1, e2, e3⟩ := hrk.ok x hx
            exact ⟨e1, by rw [HAN.out, haa]; exact e2, padW_size e3⟩) (by have := HHF.out.1; omega) (by have := HOK.out.n12; have := HOK.out.arean; omega)
          rw [HAJ.out, List.length_map, puts_pad l CX (fun x hx => (hrk.ok x hx).2.2)] at hkp
          have HKP := Lib.hid hkp
          have HT := Lib.hid (show J.first + (t + 1) = nx + 1 ∧ 2 + recsLen (L.take (t + 1)) = ps + 1 + l.length ∧ (L.take (t + 1)).foldl putsW (fun _ => none) = putsW CX l from ⟨by omega, by omega, by rw [List.take_add_one, hl, Option.toList_some, List.foldl_append, hCX]; rfl⟩)
          have hnlt : nx < J.next := by omega
          clear hl v1 v2 hrk htk hle hrc hkp hcl hnx hps hCX hatA hat hnn
          go_wp2_with fail
          refine wp_region_held_drew (S := fun w' => w'.cell? ⟨w1.heap.size + 1 + 1, 0, none⟩ = some (.pointer (some ⟨w1.heap.size + 1, 0, none⟩)) ∧ w'.cell? ⟨w1.heap.size + 1, 4, none⟩ = some (.int .i64 (nx : Int)) ∧ w'.cell? ⟨w1.heap.size + 1, 5, none⟩ = some (.int .i64 (ps : Int))) (by kernel_rfl) ⟨r8, r4, r5⟩ (fun hHeld => ?_)
          refine tkS 0 hHeld ?_ (hy := by rintro w ⟨s8, s4, s5⟩; go_simp; (try with_reducible rfl))
          refine tkS 1 hHeld ?_ (hy := by rintro w ⟨s8, s4, s5⟩; go_simp; (try with_reducible rfl))
          refine tkS 2 hHeld ?_ (hy := by rintro w ⟨s8, s4, s5⟩; go_simp; (try with_reducible rfl))
          refine tkS 3 hHeld ?_ (hy := by rintro w ⟨s8, s4, s5⟩; go_simp; (try with_reducible rfl))
          refine tkS 4 hHeld ?_ (hy := by rintro w ⟨s8, s4, s5⟩; go_simp; (try with_reducible rfl))
          refine tkS 5 hHeld ?_ (hy := by rintro w ⟨s8, s4, s5⟩; go_simp; (try with_reducible rfl))
          refine tkS 6 hHeld ?_ (hy := by rintro w ⟨s8, s4, s5⟩; go_simp; (try with_reducible rfl))
          refine tkS 7 hHeld ?_ (hy := by rintro w ⟨s8, s4, s5⟩; go_simp; (try with_reducible rfl))
          refine tkS 8 hHeld ?_ (hy := by rintro w ⟨s8, s4, s5⟩; go_simp; (try with_reducible rfl))
          refine wpAnyH_ready (rs := [9]) (by kernel_rfl) (by simp) ?_
          refine AllReadyH.cons rfl (fun K hK => ?_) AllReadyH.nil
          go_simp
          (with_reducible refine HRC.out.mono ?_); rintro e w7 ⟨lv, F7, rfl, hj7, hl7, hf7, hg7, ho7⟩
          have hcl7 := hj7.cells
          rw [HAJ.out] at hcl7
          have s7 : w7.cell? ⟨w1.heap.size + 1 + 1, 0, none⟩ = some (.pointer (some ⟨w1.heap.size + 1, 0, none⟩)) := (World.cell?_of_block (a := ⟨w1.heap.size + 1 + 1, 0, none⟩) (ho7.block _ (by show w1.heap.size + 1 + 1 < wr.heap.size; omega) HR.out)).trans r8
          have o7 := ho7.undrew
          have o79 : w7.cell? ⟨q9, 0, none⟩ = some (.int .i64 (m : Int)) := (World.cell?_of_block (a := ⟨q9, 0, none⟩) (o7.block _ (World.block_lt_of_cell? _ _ r9) (fun e => by have h1 := (HRS.out q9 e).1; omega))).trans r9
          have HKP7 := Lib.hid (HKP.out w7 F7 lv hj7 hl7)
          have HF7 := Lib.hid hf7
          have HG7 := Lib.hid hg7
          have HO7 := Lib.hid o7
          have HC7 := Lib.hid hcl7
          clear hj7 hl7 hf7 hg7 ho7 o7
          refine hK.out _ _ ?_ (fun hHeld => ?_)
          · exact ⟨s7, cell_blk HC7.out 4, cell_blk HC7.out 5⟩
          clear hK K
          refine tkS 10 hHeld ?_ (hy := by rintro w ⟨s8, s4, s5⟩; go_simp; (try with_reducible rfl))
          refine tkS 11 hHeld ?_ (hy := by rintro w ⟨s8, s4, s5⟩; go_simp; (try with_reducible rfl))
          refine tkS 12 hHeld ?_ (hy := by rintro w ⟨s8, s4, s5⟩; go_simp; (try with_reducible rfl))
          refine tkS 13 hHeld ?_ (hy := by rintro w ⟨s8, s4, s5⟩; go_simp; (try with_reducible rfl))
          refine tkS 14 hHeld ?_ (hy := by rintro w ⟨s8, s4, s5⟩; go_simp; (try with_reducible rfl))
          refine wpAnyH_done (by kernel_rfl) ?_ _
          all_goals
            go_wp2_with (first
              | (go_at_call 141; (with_reducible refine HKP7.out.mono ?_); rintro e w8 ⟨rfl, hj8, ho8⟩; have HJ8 := Lib.hid hj8; have HO8' := Lib.hid ho8; clear hj8 ho8)
              | fail)
            have hs7 := HO7.out.size
            have hs8 := HO8'.out.size
            refine ⟨⟨t + 1, grow F7 w7 w8, by omega, Lib.hid (by rw [HT.out.1, HT.out.2.1, HT.out.2.2]; exact HJ8.out), Lib.hid (fun q hq => .inl (HF7.out q (HF1.out q hq))), Lib.hid ?_, Lib.hid (HOX.out.trans (HO7.out.trans HO8'.out))⟩, ?_⟩
            · rintro q (e | e)
              · rcases HG7.out q e with e | e
                · rcases HF2.out q e with e | e
                  · exact .inl e
                  · exact .inr ⟨e.1, by omega⟩
                · have e1 : wr.heap.size ≤ q := e.1
                  exact .inr ⟨by omega, by have := e.2; omega⟩
              · exact .inr ⟨by omega, e.2⟩
            · have hc8 := HJ8.out.cells
              rw [HAJ.out] at hc8
              rw [show w8.cell? ⟨w1.heap.size + 1, 4, none⟩ = some (.int .i64 ((nx + 1 : Nat) : Int)) from cell_blk hc8 4, r4]
              show J.next + 1 - ((nx + 1 : Nat) : Int).toNat < J.next + 1 - ((nx : Nat) : Int).toNat
              omega
        · have hte : t = L.length := by omega
          rw [hte, List.take_of_length_le (Nat.le_refl _)] at hps hCX
          have hnx2 : nx = J.next := by omega
          have hps2 : ps = J.at' := by omega
          have hCX2 : CX = J.C := by rw [← hCX]; exact HWL.out.C.symm
          have hrc := record_no wr.drew a Fx J.V J.S dt J.head J.first nx ps CX HJ.out.drew nx ps (by
            rcases Nat.lt_or_ge ps J.area with h1 | h1
            · obtain ⟨d, st, k1, k2, k3, k4⟩ := HOK.out.stamps ps (by have := HOK.out.at2; omega) h1
              exact .inr ⟨by rw [HAN.out]; have := HOK.out.arean; omega, d, st, k1, k2, k4, by omega⟩
            · exact .inl (by rw [haa]; exact h1))
          rw [HAJ.out] at hrc
          have HRC := Lib.hid hrc
          have HE := Lib.hid (And.intro hnx2 (And.intro hps2 hCX2))
          have HAA := Lib.hid haa
          clear hte hps hCX hnx2 hps2 hCX2 hrc hcl hnx hatA hat hnn haa
          go_wp2_with fail
          refine wp_region_held_drew (S := fun w' => w'.cell? ⟨w1.heap.size + 1 + 1, 0, none⟩ = some (.pointer (some ⟨w1.heap.size + 1, 0, none⟩)) ∧ w'.cell? ⟨w1.heap.size + 1, 4, none⟩ = some (.int .i64 (nx : Int)) ∧ w'.cell? ⟨w1.heap.size + 1, 5, none⟩ = some (.int .i64 (ps : Int))) (by kernel_rfl) ⟨r8, r4, r5⟩ (fun hHeld => ?_)
          refine tkS 0 hHeld ?_ (hy := by rintro w ⟨s8, s4, s5⟩; go_simp; (try with_reducible rfl))
          refine tkS 1 hHeld ?_ (hy := by rintro w ⟨s8, s4, s5⟩; go_simp; (try with_reducible rfl))
          refine tkS 2 hHeld ?_ (hy := by rintro w ⟨s8, s4, s5⟩; go_simp; (try with_reducible rfl))
          refine tkS 3 hHeld ?_ (hy := by rintro w ⟨s8, s4, s5⟩; go_simp; (try with_reducible rfl))
          refine tkS 4 hHeld ?_ (hy := by rintro w ⟨s8, s4, s5⟩; go_simp; (try with_reducible rfl))
          refine tkS 5 hHeld ?_ (hy := by rintro w ⟨s8, s4, s5⟩; go_simp; (try with_reducible rfl))
          refine tkS 6 hHeld ?_ (hy := by rintro w ⟨s8, s4, s5⟩; go_simp; (try with_reducible rfl))
          refine tkS 7 hHeld ?_ (hy := by rintro w ⟨s8, s4, s5⟩; go_simp; (try with_reducible rfl))
          refine tkS 8 hHeld ?_ (hy := by rintro w ⟨s8, s4, s5⟩; go_simp; (try with_reducible rfl))
          refine wpAnyH_ready (rs := [9]) (by kernel_rfl) (by simp) ?_
          refine AllReadyH.cons rfl (fun K hK => ?_) AllReadyH.nil
          go_simp
          (with_reducible refine HRC.out.mono ?_); rintro e w7 ⟨rfl, hj7, ho7⟩
          have hcl7 := hj7.cells
          rw [HAJ.out] at hcl7
          have s7 : w7.cell? ⟨w1.heap.size + 1 + 1, 0, none⟩ = some (.pointer (some ⟨w1.heap.size + 1, 0, none⟩)) := (World.cell?_of_block (a := ⟨w1.heap.size + 1 + 1, 0, none⟩) (ho7.block _ (by show w1.heap.size + 1 + 1 < wr.heap.size; omega) HR.out)).trans r8
          have o7 := ho7.undrew
          have s9 : w7.cell? ⟨q9, 0, none⟩ = some (.int .i64 (m : Int)) := (World.cell?_of_block (a := ⟨q9, 0, none⟩) (o7.block _ (World.block_lt_of_cell? _ _ r9) (fun e => by have h1 := (HRS.out q9 e).1; omega))).trans r9
          rw [HE.out.1, HE.out.2.1, HE.out.2.2] at hj7
          have hss := o7.size
          have hj7' : JC w7 a (grow F w w7) J.V J.S dt J.head J.first J.next J.at' J.C := hj7.wide (by
            rintro q (e | e)
            · rcases HF2.out q e with e | e
              · exact .inl e
              · exact .inr ⟨e.1, by omega⟩
            · have e1 : wr.heap.size ≤ q := e.1
              exact .inr ⟨by omega, e.2⟩) (grow_lt HLT.out (by omega))
          have hmn := HMN.out
          have hfa := face_any w7 a.jb _ hj7'.cells rfl 201 (enters_of Tryz.func201 (by kernel_rfl) rfl) #[.pointer (some ⟨w1.heap.size + 1 + 1, 0, none⟩), .pointer (some ⟨q9, 0, none⟩)] a.R
            (fun w' => JAt w' a.p a.b a.jb (fun q => grow F w w7 q ∨ (w7.heap.size + 2 ≤ q ∧ q < w'.heap.size)) J.home) (fun q hq => hj7'.dev.lt q (hj7'.dev.sub q hq)) (fun w2 hb2 hz2 => (open1_any w2 a _ _ _ _ _ _ _ _ _ (hj7'.later hb2) (w1.heap.size + 1 + 1) q9 m (by rw [HAJ.out]; exact LJ.cell hb2 s7) (LJ.cell hb2 s9) HHF.out.2 (by rw [hmn]; exact HHF.out.1) (by rw [HAN.out]; have := HOK.out.area4; have := HOK.out.arean; omega) (by rw [HAN.out, HAA.out]; exact Nat.le_of_lt HOK.out.arean) (by rw [HAN.out, HAA.out]; exact HOK.out.cells) (HOK.out.full (by have := HFL.out; omega))).mono (by
              rintro e w' ⟨rfl, cm', hj, ho⟩
              refine ⟨rfl, ⟨{ a with cm := cm' }, rfl, rfl, rfl, HAN.out, HAA.out, false, ?_, Jn.home_ok HOK.out HHF.out.2 HHF.out.1, fun _ => rfl⟩, ho⟩
              have e2 : grow (grow F w w7) w2 w' = fun q => grow F w w7 q ∨ (w7.heap.size + 2 ≤ q ∧ q < w'.heap.size) := by
                have hz : w2.heap.size = w7.heap.size + 2 := hz2
                show (fun q => grow F w w7 q ∨ (w2.heap.size ≤ q ∧ q < w'.heap.size)) = _
                rw [hz]
              rw [← e2]
              have hv : J.homeW = setS (homeV a.area J.C J.V) ((J.head + 1) % 2) (blk (be (m + 1) 8) (J.head + 1)) := by unfold Jn.homeW; rw [HAA.out, hmn]
              show JC w' _ (grow (grow F w w7) w2 w') J.homeW J.homeW false (J.head + 1) J.next J.next 2 (fun _ => none)
              rw [hv]
              rw [← hmn]
              exact hj))
          have hfin := fun w9 (hf : FaceOut w7 a.R (fun w' => JAt w' a.p a.b a.jb (fun q => grow F w w7 q ∨ (w7.heap.size + 2 ≤ q ∧ q < w'.heap.size)) J.home) w9) => JAt.face (w := w7) hj7'.dev.lt hj7'.dev.sub hf
          have o47 := (HO4B.out.trans HOX.out).trans o7
          rw [HAJ.out] at hfa
          have HFA := Lib.hid hfa
          have HFIN := Lib.hid hfin
          have HO47 := Lib.hid o47
          have HC7 := Lib.hid hcl7
          have HSS := Lib.hid hss
          clear hj7 hj7' ho7 o7 hfa hfin o47 hss hmn
          refine hK.out _ _ ?_ (fun hHeld => ?_)
          · exact ⟨s7, cell_blk HC7.out 4, cell_blk HC7.out 5⟩
          clear hK K
          refine tkS 10 hHeld ?_ (hy := by rintro w ⟨s8, s4, s5⟩; go_simp; (try with_reducible rfl))
          refine tkS 11 hHeld ?_ (hy := by rintro w ⟨s8, s4, s5⟩; go_simp; (try with_reducible rfl))
          refine tkS 12 hHeld ?_ (hy := by rintro w ⟨s8, s4, s5⟩; go_simp; (try with_reducible rfl))
          refine tkS 13 hHeld ?_ (hy := by rintro w ⟨s8, s4, s5⟩; go_simp; (try with_reducible rfl))
          refine tkS 14 hHeld ?_ (hy := by rintro w ⟨s8, s4, s5⟩; go_simp; (try with_reducible rfl))
          refine wpAnyH_done (by kernel_rfl) ?_ _
          all_goals
            go_wp2_with (first
              | (go_at_call 54; (with_reducible refine HFA.out.mono ?_); rintro e w9 ⟨rfl, hf9⟩; have HF9 := Lib.hid hf9; have HO79 := Lib.hid (face_only hf9); clear hf9
                 have s8 : w9.cell? ⟨w1.heap.size + 1 + 1, 0, none⟩ = some (.pointer (some ⟨w1.heap.size + 1, 0, none⟩)) := (World.cell?_of_block (a := ⟨w1.heap.size + 1 + 1, 0, none⟩) (HO79.out.block _ (World.block_lt_of_cell? _ _ s7) HR.out)).trans s7)
              | fail)
            go_ret2
            have h1 := (HFIN.out w9 (by rw [HAJ.out]; exact HF9.out)).1
            rw [show a.p = p from by rw [HA.out], show a.b = b from by rw [HA.out], HAJ.out] at h1
            have hs7 := HSS.out
            have hs9 := HO79.out.size
            exact ⟨w1.heap.size + 1, rfl, h1.kept (Nat.le_refl _) (fun _ _ => rfl) (grow_grow (by omega) hs9) (grow_lt HLT.out (by omega)), only_old HL04.out (HO47.out.trans HO79.out) (fun q hq hl => (HRS.out q hq).2 hl)⟩
end Go.Proofs.YtfpbocjmlhcgiaaGreatDoor
