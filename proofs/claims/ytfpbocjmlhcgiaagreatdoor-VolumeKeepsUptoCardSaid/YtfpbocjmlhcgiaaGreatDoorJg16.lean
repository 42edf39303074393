/- Jg16, merged: J59 J60. -/
import Derived.Test.YtfpbocjmlhcgiaaGreatDoorJ58
set_option linter.unusedSimpArgs false
set_option linter.unusedVariables false
/- The journal's Format. -/
namespace Go.Proofs.YtfpbocjmlhcgiaaGreatDoor
open Go.RowKit PJ Go.Maps

theorem DevAt.reV {w : World} {p g mb b n cached : Nat} {R F : Nat → Prop} {V S V' S' : View} {dt : Bool} (h : DevAt w p g mb b n cached R F V S dt) (hV : ∀ i, i < n → V i = V' i) (hS : ∀ i, i < n → S i = S' i) : DevAt w p g mb b n cached R F V' S' dt := by
  obtain ⟨safe, U, cv, misses, xs, h⟩ := h
  refine ⟨safe, U, cv, misses, xs, h.disk, h.cells, h.cache, h.len, h.ca, h.keys, fun i hi => ?_, h.clean, fun k hk => ?_, h.sub, h.lt, h.rp, h.rg, h.rm, h.rb, h.bp, h.bg, h.bm⟩
  · rw [← hV i hi, ← hS i hi]
    exact h.views i hi
  · obtain ⟨h1, h2⟩ := h.kept k hk
    exact ⟨h1, by rw [← hV _ h1]; exact h2⟩
theorem JC.reV {w : World} {a : JA} {F : Nat → Prop} {V S V' S' : View} {dt : Bool} {head first next at' : Nat} {C : Cells} (h : JC w a F V S dt head first next at' C) (hV : ∀ i, i < a.n → V i = V' i) (hS : ∀ i, i < a.n → S i = S' i) : JC w a F V' S' dt head first next at' C :=
  ⟨h.dev.reV hV hS, h.cells, h.map, h.apart⟩
/-- A journal's disk, newly formatted. -/
def V0 : View := fun i => if i = 0 then blk (be 1 8) 2 else blk [] 0
def J0 (n area : Nat) : Jn := { n := n, area := area, head := 2, first := 1, next := 1, at' := 2, C := fun _ => none, V := V0, S := V0 }
theorem J0_ok {n area : Nat} (h4 : 4 ≤ area) (hn : area < n) (h12 : n ≤ 4096) : (J0 n area).OK := by
  refine ⟨h4, hn, h12, (fun c d hd => by cases hd), Nat.le_refl _, (by show 2 ≤ area; omega), Nat.le_refl _, Nat.le_refl _, fun _ => ⟨rfl, fun _ => rfl⟩, (fun e => absurd rfl e), fun i hi => ?_, fun i hi hi2 => ?_, Nat.le_refl _, ?_, .inl ?_⟩
  rotate_left 2
  · simp [J0, V0]
  · simp [J0, V0]
  · by_cases e : i = 0
    · exact ⟨be 1 8, 2, by show V0 i = _; unfold V0; rw [if_pos e], by rw [be_len]; omega, by omega⟩
    · exact ⟨[], 0, by show V0 i = _; unfold V0; rw [if_neg e], by simp, by omega⟩
  · exact ⟨[], 0, by show V0 i = _; unfold V0; rw [if_neg (by omega)], by simp, by show 0 < 1; omega, by omega⟩
set_option maxRecDepth 100000 in
theorem fits_any (w : World) (p g mb b n cached : Nat) (R F : Nat → Prop) (V S : View) (dt : Bool) (h : DevAt w p g mb b n cached R F V S dt) (area : Int) :
    Calls Tryz.prog 53 #[.pointer (some ⟨b, 0, none⟩), .int .i64 area] w fun e w' => e = .returned (.bool (decide (4 ≤ area) && decide (area < n))) ∧ w = w' := by
  have hn := h.n12.1
  have HC := Lib.hid (bcount_at w p g mb b n cached R F V S dt h)
  have hni : (n : Int) ≤ 4096 := by omega
  clear h
  rcases Int.lt_or_le area 4 with h4 | h4
  · have g1 : decide (4 ≤ area) = false := by simp; omega
    rw [g1, Bool.false_and]
    go_enter Tryz.func53, Tryz.ntmps53
    go_wp2_with fail
    go_ret
    exact ⟨rfl, rfl⟩
  · have g1 : decide (4 ≤ area) = true := by simp; omega
    rw [g1, Bool.true_and]
    rcases Int.lt_or_le area n with hlt | hge
    · have g2 : decide (area < (n : Int)) = true := by simp; omega
      have hwr : IntKind.i64.wrap ((n : Int) - area) = (n : Int) - area := by rw [IntKind.wrap_i64]; omega
      have g3 : decide ((n : Int) - area ≤ 65536) = true := by simp; omega
      rw [g2]
      go_enter Tryz.func53, Tryz.ntmps53
      go_wp2_with (first
        | (go_at_call 57; (with_reducible refine HC.out.mono ?_); rintro e w1 ⟨rfl, hw1⟩; subst hw1)
        | fail)
      go_ret
      exact ⟨rfl, rfl⟩
    · have g2 : decide (area < (n : Int)) = false := by simp; omega
      rw [g2]
      go_enter Tryz.func53, Tryz.ntmps53
      go_wp2_with (first
        | (go_at_call 57; (with_reducible refine HC.out.mono ?_); rintro e w1 ⟨rfl, hw1⟩; subst hw1)
        | fail)
      go_ret
      exact ⟨rfl, rfl⟩
def fmtV (V : View) (i : Nat) : View := fun k => if 1 ≤ k ∧ k < i then blk [] 0 else V k
set_option maxRecDepth 100000 in
set_option maxHeartbeats 2000000 in
theorem format1_any (w : World) (a : JA) (F : Nat → Prop) (V S : View) (dt : Bool) (h : JC w a F V S dt 0 0 1 2 (fun _ => none)) (hn2 : 2 ≤ a.n) (q6 q2 : Nat) (h6 : w.cell? ⟨q6, 0, none⟩ = some (.pointer (some ⟨a.jb, 0, none⟩))) (h2 : w.cell? ⟨q2, 0, none⟩ = some (.pointer (some ⟨a.b, 0, none⟩))) (hF2 : ¬ F q2) :
    Calls Tryz.prog 55 #[.pointer (some ⟨q6, 0, none⟩), .pointer (some ⟨q2, 0, none⟩)] w fun e w' => e = .returned (.tuple #[]) ∧ JC w' a (grow F w w') V0 V0 false 2 1 1 2 (fun _ => none) ∧ OnlyJ a.R w w' := by
  have HLAY := Lib.hid (show Calls Tryz.prog 56 #[.pointer (some ⟨a.jb, 0, none⟩), .int .i64 2, .int .i64 1] w fun e w' => e = .returned (.tuple #[]) ∧ JC w' a (grow F w w') (setS V 0 (blk (be 1 8) 2)) S true 2 1 1 2 (fun _ => none) ∧ OnlyJ a.R w w' from
    lay_any w a F V S dt 0 0 1 2 _ h 2 1 (by omega) (by omega) hn2)
  have hn12 := h.dev.n12.1
  have HH := Lib.hid h
  have HLT := Lib.hid h.dev.lt
  have HQ2 := Lib.hid h2
  have hq2l : q2 < w.heap.size := World.block_lt_of_cell? _ _ h2
  have HF2 := Lib.hid hF2
  have HM := must_hid
  clear h h2 hF2
  go_enter Tryz.func55, Tryz.ntmps55
  go_upto_region 2 with (first
    | (go_at_call 56; (with_reducible refine HLAY.out.mono ?_); rintro e w1 ⟨rfl, hj1, ho1⟩; have HJ1 := Lib.hid hj1; have HO1 := Lib.hid ho1; clear hj1 ho1)
    | fail)
  obtain ⟨V1, hV1⟩ : ∃ V1, setS V 0 (blk (be 1 8) 2) = V1 := ⟨_, rfl⟩
  rw [hV1] at HJ1
  have HV1 := Lib.hid hV1
  clear hV1
  go_loopw [2] (fun v2 wr => ∃ i : Nat, 1 ≤ i ∧ i ≤ a.n ∧ v2 = .int .i64 (i : Int) ∧ Hid (JC wr a (grow F w wr) (fmtV V1 i) S true 2 1 1 2 (fun _ => none)) ∧ Hid (OnlyJ a.R w wr)) (fun v2 _ => a.n - (intOf v2).toNat)
  case atStart =>
    refine ⟨1, by omega, by omega, rfl, Lib.hid ?_, HO1⟩
    have e : fmtV V1 1 = V1 := by funext k; unfold fmtV; rw [if_neg (by omega)]
    rw [e]
    exact HJ1.out
  case round =>
    obtain ⟨i, hi1, hin, rfl, HJ, HO⟩ := hrel
    have hsr := HO.out.size
    have hnR : ¬ a.R q2 := fun e => HF2.out (HH.out.dev.sub _ e)
    have r2 : wr.cell? ⟨q2, 0, none⟩ = some (.pointer (some ⟨a.b, 0, none⟩)) := (World.cell?_of_block (a := ⟨q2, 0, none⟩) (HO.out.block q2 hq2l hnR)).trans HQ2.out
    have HCN := Lib.hid (bcount_at wr a.p a.g a.mb a.b a.n a.cached a.R _ _ _ _ HJ.out.dev)
    clear hnR
    by_cases hlt : i < a.n
    · have HWR := Lib.hid (show Calls Tryz.prog 59 #[.pointer (some ⟨a.b, 0, none⟩), .int .i64 i, .string ⟨#[]⟩, .int .i64 0] wr fun e w' => e = .returned (.int .i64 0) ∧ JC w' a (grow (grow F w wr) wr w') (setS (fmtV V1 i) i (blk [] 0)) S true 2 1 1 2 (fun _ => none) ∧ OnlyJ a.R wr w' from
        jwrite_any wr a _ _ _ _ _ _ _ _ _ HJ.out wr (LJ.refl wr) i hlt ⟨#[]⟩ (by decide) 0 (by omega))
      go_wp2_with (first
        | (go_at_call 57; (with_reducible refine HCN.out.mono ?_); rintro e wc ⟨rfl, hwc⟩; subst hwc)
        | (go_at_call 59; (with_reducible refine HWR.out.mono ?_); rintro e w5 ⟨rfl, hj5, ho5⟩; have HJ5 := Lib.hid hj5; have HO5 := Lib.hid ho5; clear hj5 ho5)
        | (go_at_call 58; (with_reducible refine (HM _).out.mono ?_); rintro e wm ⟨rfl, hwm⟩; subst hwm)
        | fail)
      go_roundw
      case rel =>
        refine ⟨i + 1, by omega, by omega, by simp, Lib.hid ?_, Lib.hid (HO.out.trans HO5.out)⟩
        have e : fmtV V1 (i + 1) = setS (fmtV V1 i) i (blk [] 0) := by
          funext k
          unfold fmtV setS
          by_cases hk : k = i
          · subst hk; rw [if_pos (by omega), if_pos rfl]
          · rw [if_neg hk]
            show _ = (if 1 ≤ k ∧ k < i then blk [] 0 else V1 k)
            by_cases h2 : 1 ≤ k ∧ k < i
            · rw [if_pos (by omega), if_pos h2]
            · rw [if_neg (by omega), if_neg h2]
        rw [e]
        exact JC.comp HJ5.out hsr HO5.out.size HLT.out
      case measure => simp [intOf]; omega
    · have hie : i = a.n := by omega
      subst hie
      have hj0 := HJ.out
      have HBA := Lib.hid (jbarrier_any wr a _ _ _ _ _ _ _ _ _ hj0 wr (LJ.refl wr))
      clear hj0
      go_wp2_with (first
        | (go_at_call 57; (with_reducible refine HCN.out.mono ?_); rintro e wc ⟨rfl, hwc⟩; subst hwc)
        | (go_at_call 60; (with_reducible refine HBA.out.mono ?_); rintro e w5 ⟨rfl, hj5, ho5⟩; have HJ5 := Lib.hid hj5; have HO5 := Lib.hid ho5; clear hj5 ho5)
        | (go_at_call 58; (with_reducible refine (HM _).out.mono ?_); rintro e wm ⟨rfl, hwm⟩; subst hwm)
        | fail)
      go_end0
      have hv : ∀ k, k < a.n → fmtV V1 a.n k = V0 k := by
        intro k hk
        unfold fmtV V0
        by_cases h0 : k = 0
        · subst h0
          rw [if_neg (by omega), if_pos rfl, ← HV1.out, setS_same]
        · rw [if_pos (by omega), if_neg h0]
      exact ⟨rfl, (JC.comp HJ5.out hsr HO5.out.size HLT.out).reV hv hv, HO.out.trans HO5.out⟩
end Go.Proofs.YtfpbocjmlhcgiaaGreatDoor
/- The journal's Format: the walk. -/
namespace Go.Proofs.YtfpbocjmlhcgiaaGreatDoor
open Go.RowKit PJ Go.Maps

theorem DevAt.reRF {w : World} {p g mb b n cached : Nat} {R R' F F' : Nat → Prop} {V S : View} {dt : Bool} (h : DevAt w p g mb b n cached R F V S dt) (hs : ∀ q, R' q → F' q) (hp : R' p) (hg : R' g) (hm : R' mb) (hb : R' b) (hn : ∀ q, F q → R' q → R q) (hF : ∀ q, F q → F' q) (hl : ∀ q, F' q → q < w.heap.size) : DevAt w p g mb b n cached R' F' V S dt := by
  obtain ⟨safe, U, cv, misses, xs, h⟩ := h
  refine ⟨safe, U, cv, misses, xs, h.disk, h.cells, ?_, h.len, h.ca, h.keys, h.views, h.clean, h.kept, hs, hl, hp, hg, hm, hb, h.bp, h.bg, h.bm⟩
  rcases h.cache with h | ⟨cg, off, cap, h1, h2, h3, h4, h5⟩
  · exact .inl h
  · exact .inr ⟨cg, off, cap, h1, h2, fun e => h3 (hn _ h4 e), hF _ h4, h5⟩
theorem DevAt.Rs {w : World} {p g mb b n cached : Nat} {R F : Nat → Prop} {V S : View} {dt : Bool} (h : DevAt w p g mb b n cached R F V S dt) : R p ∧ R g ∧ R mb ∧ R b := by
  obtain ⟨_, _, _, _, _, h⟩ := h
  exact ⟨h.rp, h.rg, h.rm, h.rb⟩
/-- A journal laid in memory over a device. -/
theorem JC.lay0 {w w4 : World} {p g mb b n cached : Nat} {R F : Nat → Prop} {V S : View} {dt : Bool} (h : DevAt w p g mb b n cached R F V S dt) (hl : LJ w w4) (jb cm area head first next at' : Nat) (hjw : w.heap.size ≤ jb) (hcw : w.heap.size ≤ cm) (hjc : cm ≠ jb) (hj4 : jb < w4.heap.size) (hc4 : cm < w4.heap.size)
    (hcj : w4.heap[jb]? = some (.cells (jCells b area head first next at' cm) 108 (0, 0))) (hcm : CellsAt w4 cm (n - area) (fun _ => none)) :
    JC w4 ⟨p, g, mb, b, jb, cm, n, cached, area⟩ (fun q => F q ∨ q = jb ∨ q = cm) V S dt head first next at' (fun _ => none) := by
  obtain ⟨r1, r2, r3, r4⟩ := h.Rs
  have hlt := h.lt
  have hsz : w.heap.size ≤ w4.heap.size := Below.size hl
  have f1 := h.sub _ r1
  have f2 := h.sub _ r2
  have f3 := h.sub _ r3
  have f4 := h.sub _ r4
  have l1 := hlt _ f1
  have l2 := hlt _ f2
  have l3 := hlt _ f3
  have l4 := hlt _ f4
  refine ⟨(h.later hl).reRF ?_ (.inl rfl) (.inr (.inl rfl)) (.inr (.inr (.inl rfl))) (.inr (.inr (.inr (.inl rfl)))) ?_ (fun q hq => .inl hq) ?_, hcj, hcm, ⟨?_, ?_, ?_, ?_, ?_, ?_, ?_, ?_, hjc⟩⟩
  · rintro q (rfl | rfl | rfl | rfl | rfl | rfl)
    · exact .inl f1
    · exact .inl f2
    · exact .inl f3
    · exact .inl f4
    · exact .inr (.inl rfl)
    · exact .inr (.inr rfl)
  · intro q hq hr
    have := hlt q hq
    rcases hr with rfl | rfl | rfl | rfl | e | e
    · exact r1
    · exact r2
    · exact r3
    · exact r4
    · have e' : q = jb := e
      omega
    · have e' : q = cm := e
      omega
  · rintro q (hq | rfl | rfl)
    · have := hlt q hq; omega
    · exact hj4
    · exact hc4
  · show jb ≠ p; omega
  · show jb ≠ g; omega
  · show jb ≠ mb; omega
  · show jb ≠ b; omega
  · show cm ≠ p; omega
  · show cm ≠ g; omega
  · show cm ≠ mb; omega
  · show cm ≠ b; omega
set_option maxRecDepth 100000 in
set_option maxHeartbeats 2000000 in
theorem format_any (w : World) (p g mb b n cached : Nat) (R F : Nat → Prop) (V S : View) (dt : Bool) (h : DevAt w p g mb b n cached R F V S dt) (area : Nat) (h4 : 4 ≤ area) (han : area < n) :
    Calls Tryz.prog 14 #[.pointer (some ⟨b, 0, none⟩), .int .i64 area] w fun e w' => ∃ jb, e = .returned (.tuple #[.pointer (some ⟨jb, 0, none⟩), .int .i64 0]) ∧ JAt w' p b jb (grow F w w') (J0 n area) ∧ OnlyJ F w w' := by
  have hmm := @run_makeMap Tryz.prog
  have hmf : ∀ (fn : Fn) (first cap : Array Value) (w : World), (Instr.makeFunc fn first cap).run Tryz.prog w = .ok (.func fn first cap) w := fun _ _ _ _ => rfl
  have hn12 := h.n12.1
  obtain ⟨w1, hw1⟩ : ∃ w1, w.alloc (.cells #[.pointer (some ⟨b, 0, none⟩)] 31) = w1 := ⟨_, rfl⟩
  have hl1 : LJ w w1 := by rw [← hw1]; exact (LJ.refl w).alloc _
  have hz1 : w1.heap.size = w.heap.size + 1 := by rw [← hw1, World.size_alloc]
  have x1 : w1.cell? ⟨w.heap.size, 0, none⟩ = some (.pointer (some ⟨b, 0, none⟩)) := by rw [← hw1]; exact cell_blk (alloc_blk w _) 0
  have hf := fits_any w1 p g mb b n cached R F V S dt (h.later hl1) (area : Int)
  have hb : (decide ((4 : Int) ≤ (area : Int)) && decide ((area : Int) < (n : Int))) = true := by
    rw [Bool.and_eq_true, decide_eq_true_eq, decide_eq_true_eq]
    omega
  rw [hb] at hf
  obtain ⟨w3, hw3⟩ : ∃ w3, (w1.alloc (.map #[] 0)).alloc (.cells (jCells b area 0 0 1 2 (w.heap.size + 1)) 108) = w3 := ⟨_, rfl⟩
  obtain ⟨w4, hw4⟩ : ∃ w4, w3.alloc (.cells #[.pointer (some ⟨w.heap.size + 1 + 1, 0, none⟩)] 34) = w4 := ⟨_, rfl⟩
  have hz3 : w3.heap.size = w.heap.size + 1 + 1 + 1 := by rw [← hw3]; simp [hz1]
  have hz4 : w4.heap.size = w.heap.size + 1 + 1 + 1 + 1 := by rw [← hw4, World.size_alloc, hz3]
  have hl13 : LJ w1 w3 := by rw [← hw3]; exact ((LJ.refl w1).alloc _).alloc _
  have hl34 : LJ w3 w4 := by rw [← hw4]; exact (LJ.refl w3).alloc _
  have hl04 : LJ w w4 := hl1.trans (hl13.trans hl34)
  have hcm : CellsAt w4 (w.heap.size + 1) (n - area) (fun _ => none) := by
    have h1 := CellsAt.made w1 (n - area)
    rw [hz1] at h1
    refine h1.kept ?_
    rw [← hw4, Below.heap_alloc _ _ _ (by omega), ← hw3, Below.heap_alloc _ _ _ (by simp [hz1])]
  have hcj : w4.heap[w.heap.size + 1 + 1]? = some (.cells (jCells b area 0 0 1 2 (w.heap.size + 1)) 108 (0, 0)) := by
    have h1 := alloc_blk (w1.alloc (.map #[] 0)) (.cells (jCells b area 0 0 1 2 (w.heap.size + 1)) 108)
    rw [World.size_alloc, hz1, hw3] at h1
    exact hl34.block h1
  have hjc := JC.lay0 h hl04 (w.heap.size + 1 + 1) (w.heap.size + 1) area 0 0 1 2 (by omega) (by omega) (by omega) (by omega) (by omega) hcj hcm
  have y2 : w4.cell? ⟨w.heap.size, 0, none⟩ = some (.pointer (some ⟨b, 0, none⟩)) := LJ.cell (hl13.trans hl34) x1
  have y6 : w4.cell? ⟨w.heap.size + 1 + 1 + 1, 0, none⟩ = some (.pointer (some ⟨w.heap.size + 1 + 1, 0, none⟩)) := by
    have h1 := alloc_blk w3 (.cells #[.pointer (some ⟨w.heap.size + 1 + 1, 0, none⟩)] 34)
    rw [hz3, hw4] at h1
    exact cell_blk h1 0
  have hlt := h.lt
  have hRl : ∀ q, JA.R ⟨p, g, mb, b, w.heap.size + 1 + 1, w.heap.size + 1, n, cached, area⟩ q → q < w4.heap.size := fun q hq => hjc.dev.lt q (hjc.dev.sub q hq)
  have hn2 : ¬ (F w.heap.size ∨ w.heap.size = w.heap.size + 1 + 1 ∨ w.heap.size = w.heap.size + 1) := by
    rintro (e | e | e)
    · have := hlt _ e; omega
    · omega
    · omega
  have hok := J0_ok h4 han hn12
  have HFA := Lib.hid (show Calls Tryz.prog 54 #[.pointer (some ⟨w.heap.size + 1 + 1, 0, none⟩), .func (.func 55) #[] #[.pointer (some ⟨w.heap.size + 1 + 1 + 1, 0, none⟩), .pointer (some ⟨w.heap.size, 0, none⟩)]] w4 fun e w' => e = .returned (.int .i64 0) ∧ JOut w4 p b (w.heap.size + 1 + 1) (fun q => F q ∨ q = w.heap.size + 1 + 1 ∨ q = w.heap.size + 1) (J0 n area) w' from (face_any w4 (w.heap.size + 1 + 1) _ hcj rfl 55 (enters_of Tryz.func55 (by kernel_rfl) rfl) #[.pointer (some ⟨w.heap.size + 1 + 1 + 1, 0, none⟩), .pointer (some ⟨w.heap.size, 0, none⟩)] _
    (fun w' => JAt w' p b (w.heap.size + 1 + 1) (fun q => (F q ∨ q = w.heap.size + 1 + 1 ∨ q = w.heap.size + 1) ∨ (w4.heap.size + 2 ≤ q ∧ q < w'.heap.size)) (J0 n area)) hRl (fun w2 hb2 hz2 => (format1_any w2 _ _ V S dt (hjc.later hb2) (by show 2 ≤ n; omega) (w.heap.size + 1 + 1 + 1) w.heap.size (LJ.cell hb2 y6) (LJ.cell hb2 y2) hn2).mono (by
      rintro e w' ⟨rfl, hj, ho⟩
      refine ⟨rfl, ⟨⟨p, g, mb, b, w.heap.size + 1 + 1, w.heap.size + 1, n, cached, area⟩, rfl, rfl, rfl, rfl, rfl, false, ?_, hok, fun _ => rfl⟩, ho⟩
      have e2 : grow (fun q => F q ∨ q = w.heap.size + 1 + 1 ∨ q = w.heap.size + 1) w2 w' = fun q => (F q ∨ q = w.heap.size + 1 + 1 ∨ q = w.heap.size + 1) ∨ (w4.heap.size + 2 ≤ q ∧ q < w'.heap.size) := by unfold grow; rw [hz2]
      rw [← e2]
      exact hj))).mono (by
        rintro e w' ⟨rfl, hf⟩
        exact ⟨rfl, JAt.face hjc.dev.lt hjc.dev.sub hf⟩))
  have HF := Lib.hid hf
  have HW1 := Lib.hid hw1
  have HW3 := Lib.hid hw3
  have HW4 := Lib.hid hw4
  have HLT := Lib.hid hlt
  have HL04 := Lib.hid hl04
  have HZ1 := Lib.hid hz1
  have HZ4 := Lib.hid hz4
  have hmk := hmm 100 w1
  rw [hz1] at hmk
  obtain ⟨wm, hwm⟩ : ∃ wm, w1.alloc (.map #[] 0) = wm := ⟨_, rfl⟩
  rw [hwm] at hmk HW3
  have hzm : wm.heap.size = w.heap.size + 1 + 1 := by rw [← hwm, World.size_alloc, hz1]
  have HY6 := Lib.hid y6
  have hjs : jCells b area 0 0 1 2 (w.heap.size + 1) = #[.pointer (some ⟨b, 0, none⟩), .int .i64 area, .int .i64 0, .int .i64 0, .int .i64 1, .int .i64 2, .map (some (w.heap.size + 1)), .bool false] := rfl
  rw [hjs] at HW3
  have HZM := Lib.hid hzm
  have HZ3 := Lib.hid hz3
  clear hf hw1 hw3 hw4 hlt hl04 hl1 hl13 hl34 hcm hcj hjc hRl hn2 hok hz1 hz3 hz4 h hb hmm y2 y6 hwm hjs hzm
  go_enter Tryz.func14, Tryz.ntmps14
  go_upto_region 1 with fail
  rw [HW1.out]
  go_upto_region 4 with (first
    | (go_at_call 53; (with_reducible refine HF.out.mono ?_); rintro e w2 ⟨rfl, hw2⟩; subst hw2)
    | fail)
  rw [HW3.out, HZM.out, HW4.out]
  have hy6 := HY6.out
  go_wp2_with (first
    | (go_at_call 54; (with_reducible refine HFA.out.mono ?_); rintro e w5 ⟨rfl, hj5⟩; have HJ5 := Lib.hid hj5; have y5 : w5.cell? ⟨w.heap.size + 1 + 1 + 1, 0, none⟩ = some (.pointer (some ⟨w.heap.size + 1 + 1, 0, none⟩)) := (World.cell?_of_block (a := ⟨w.heap.size + 1 + 1 + 1, 0, none⟩) (hj5.2.block (w.heap.size + 1 + 1 + 1) (by have := HZ4.out; omega) (by rintro (e | e | e); (have := HLT.out _ e; omega); omega; omega))).trans HY6.out; clear hj5)
    | fail)
  go_ret2
  have h5 := HJ5.out
  have s4 := HZ4.out
  have s5 := h5.2.size
  refine ⟨w.heap.size + 1 + 1, rfl, h5.1.kept (Nat.le_refl _) (fun _ _ => rfl) ?_ (grow_lt HLT.out (by omega)), ⟨h5.2.os.trans HL04.out.os, h5.2.tape.trans HL04.out.tape, h5.2.output.trans HL04.out.output, by omega, fun q hq hne => (h5.2.block q (by omega) ?_).trans (Below.block HL04.out q hq)⟩⟩
  · rintro q ((e | e | e) | e)
    · exact .inl e
    · exact .inr ⟨by omega, by omega⟩
    · exact .inr ⟨by omega, by omega⟩
    · exact .inr ⟨by omega, e.2⟩
  · rintro (e | e | e)
    · exact hne e
    · omega
    · omega
end Go.Proofs.YtfpbocjmlhcgiaaGreatDoor
