/- The walks of (*Machine).laid: a repetition (printed by a program of ours, gen_laidc.py: the two last loops' text is one, used three times). -/
import Derived.Test.YtaelkjffidjcjaaDoorLaidB
import Derived.Deep.QuietTactic
import Derived.BigQuiet
set_option linter.unusedSimpArgs false
set_option linter.unusedVariables false
namespace Go.Proofs.YtaelkjffidjcjaaDoor
open Go.RowKit PX

theorem stsCells_set : ∀ (g : List St) (i : Nat) (st : St) (n : Nat), g[i]? = some st → stsCells (g.set i { st with next := n }) = (stsCells g).set (i * 7 + 1) (.int .i64 n)
  | x :: g, 0, st, n, h => by
    simp only [List.getElem?_cons_zero, Option.some.injEq] at h
    subst h
    simp [stsCells, stCells]
  | x :: g, i + 1, st, n, h => by
    simp only [List.getElem?_cons_succ] at h
    have := stsCells_set g i st n h
    simp only [List.set_cons_succ, stsCells]
    rw [this, List.set_append_right _ _ (by simp [stCells]; omega)]
    have e : (stCells x).length = 7 := rfl
    rw [e, show (i + 1) * 7 + 1 - 7 = i * 7 + 1 by omega]

theorem mul_succ_cast (c : Int) (j : Nat) : c * ((j + 1 : Nat) : Int) = c * j + c := by rw [Int.natCast_add, Int.mul_add]; simp

/-- A state's next, stored. -/
theorem MachAt.store {w : World} {base p gb cap : Nat} {ws : List Value} {g : List St} (h : MachAt w base p (.slice (some ⟨gb, 0, none⟩) g.length cap) ws g) (i : Nat) (st : St) (n : Nat) (hi : g[i]? = some st) :
    MachAt (w.setCell ⟨gb, i * 7 + 1, none⟩ (.int .i64 n)) base p (.slice (some ⟨gb, 0, none⟩) g.length cap) ws (g.set i { st with next := n }) ∧ Keeps base p w (w.setCell ⟨gb, i * 7 + 1, none⟩ (.int .i64 n)) ∧
      w.cell? ⟨gb, i * 7 + 1, none⟩ = some (.int .i64 st.next) ∧ w.frozen? ⟨gb, i * 7 + 1, none⟩ = false := by
  have hr := h.stRow gb rfl
  have hne : gb ≠ p := by have := h.apart; simp only [Value.ownBlock, ne_eq, Option.some.injEq] at this; exact this
  have hil : i < g.length := (List.getElem?_eq_some_iff.1 hi).1
  refine ⟨⟨?_, h.words, ?_, h.apart, by have := h.base; simp [World.setCell]; omega, by have := h.few; simpa using this⟩, Only.setCell (Keeps.refl base p w) (.inl (.inr hr)) _, ?_, h.row.frozenAt _⟩
  · rw [Below.heap_setCell _ _ _ _ (by show p ≠ gb; omega)]; exact h.block
  · rw [stsCells_set g i st n hi, List.length_set]; exact (h.row.stored _ _).1
  · rw [h.row.cellAt _ (by omega), stsCells_get g i 1 st hi (by omega)]; rfl

set_option maxRecDepth 100000 in
set_option maxHeartbeats 4000000 in
theorem laid_repB (mn mx s0 s1 s2 s3 : Int) (a : Option Addr) (cap : Nat) (l : List RxA) (hmx : mx ≠ -1) (ih : ∀ x ∈ l, LaidOK x) : LaidOK (.node 3 mn mx s0 s1 s2 s3 a cap l) := by
  intro w base p B v ws g next hm hin hBb hBp hf hg hn hbig
  have hin' := hin
  simp only [RxA.In] at hin'
  obtain ⟨-, hl1, hl2, -, hl⟩ := hin'
  clear hin
  unfold maxLen at hl2
  have hbase := hm.base
  have hB : B ≤ w.heap.size := by omega
  have hfi := (formB_iff _ _ _ _ _ _ _ _).1 (by simpa only [RxA.bare] using hf)
  have hff : formAll (bareAll l) = true := hfi.2
  have hsh : l.length = 1 ∧ 0 ≤ mn ∧ mn ≤ 15 ∧ mx ≤ 15 ∧ (mx = -1 ∨ mn ≤ mx) := by
    have := hfi.1
    rw [bareAll_length] at this
    unfold Shape at this; omega
  clear hfi hf
  obtain ⟨hlen, hmn0, hmn15, hmx15, hmnx⟩ := hsh
  rcases hl with rfl | ⟨b, o, rfl, hb, hl⟩
  · simp at hlen
  match l, hlen with
  | [x0], _ =>
    simp only [InL] at hl
    obtain ⟨h00, hin0, -⟩ := hl
    have hf0 : x0.bare.formB = true := by simpa only [bareAll, formAll, Bool.and_eq_true, and_true] using hff
    clear hff
    have hb0 := Rx.big_pos x0.bare
    have hbigx : (RxA.node 3 mn mx s0 s1 s2 s3 (some ⟨b, o, none⟩) cap [x0]).bare.big = 1 + max (max 1 mn) mx * x0.bare.big := by simp [RxA.bare, bareAll, Rx.big, bigAll, times]
    rw [hbigx] at hbig
    clear hbigx
    have hll : (RxA.node 3 mn mx s0 s1 s2 s3 (some ⟨b, o, none⟩) cap [x0]).bare.lay g next = layRepOf x0.bare.lay mn mx g next := by
      simp [RxA.bare, Rx.lay, bareAll, layRep]
    have HLL := Lib.hid hll; clear hll
    have ih0 := Lib.hid (ih x0 (by simp)); clear ih
    have HF0 := Lib.hid hf0; clear hf0
    have HM := Lib.hid hm; clear hm
    have HPB : p ≠ w.heap.size := by have := lt_of_block HM.out.block; omega
    have HPB2 : p ≠ w.heap.size + 1 := by have := lt_of_block HM.out.block; omega
    obtain ⟨C, HC⟩ : ∃ C, Hid (C = #[Value.int .i64 3, .int .i64 mn, .int .i64 mx, .int .u64 s0, .int .u64 s1, .int .u64 s2, .int .u64 s3, .slice (some ⟨b, o, none⟩) 1 cap]) := ⟨_, rfl⟩
    have hcap : 1 ≤ cap := by simpa using hl1
    clear hl1
    have hin0' := Lib.hid hin0; clear hin0
    have hc0 : ∀ i, i < 8 → (w.alloc (.cells C 26)).cell? ⟨b, o + i, none⟩ = x0.cells[i]? := fun i hi => (World.cell?_alloc_past _ _ _ (by show b < w.heap.size; omega)).trans (h00 i hi)
    rw [HC.out] at hc0
    obtain ⟨lay, HLAY⟩ : ∃ lay, Hid (x0.bare.lay = lay) := ⟨_, rfl⟩
    have hsa := Rx.lay_sound x0.bare HF0.out
    rw [HLAY.out] at hsa
    generalize hx0b : x0.bare.big = bx at *
    have HBB := Lib.hid hx0b; clear hx0b
    have HSA := Lib.hid hsa; clear hsa
    obtain ⟨k', mn', mx', s0', s1', s2', s3', a', cap', l'⟩ := x0
    obtain ⟨d0, d1, d2, d3, d4, d5, d6, d7⟩ := node_cells (o := o) hc0
    clear hc0 h00
    have hM0 := Lib.hid ((HM.out.alloc (.cells #[Value.int .i64 3, .int .i64 mn, .int .i64 mx, .int .u64 s0, .int .u64 s1, .int .u64 s2, .int .u64 s3, .slice (some ⟨b, o, none⟩) 1 cap] 26)).alloc (.cells #[Value.int .i64 k', .int .i64 mn', .int .i64 mx', .int .u64 s0', .int .u64 s1', .int .u64 s2', .int .u64 s3', .slice a' l'.length cap'] 26))
    show Calls Tryd.prog 38 #[.pointer (some ⟨p, 0, none⟩), .agg #[.int .i64 3, .int .i64 mn, .int .i64 mx, .int .u64 s0, .int .u64 s1, .int .u64 s2, .int .u64 s3, .slice (some ⟨b, o, none⟩) 1 cap], .int .i64 next] w _
    have hmb : (mx == -1) = false := by rw [beq_eq_false_iff_ne]; exact hmx
    have hle : mn ≤ mx := by omega
    have hbnd : 2 * (max (max 1 mn) mx * bx) = (2 * bx - 1 + 1) * max (max 1 mn) mx := by rw [show 2 * bx - 1 + 1 = 2 * bx by omega, Int.mul_assoc, Int.mul_comm bx]
    obtain ⟨L, HL⟩ : ∃ L : Nat, mn = (L : Int) := ⟨mn.toNat, by omega⟩
    have hbnd2 : (2 * bx - 1 + 1) * (((mx - mn).toNat : Nat) : Int) + (2 * bx - 1) * (L : Int) ≤ (2 * bx - 1 + 1) * max (max 1 mn) mx := by
      have e1 : (2 * bx - 1 + 1) * (((mx - mn).toNat : Nat) : Int) + (2 * bx - 1 + 1) * (L : Int) = (2 * bx - 1 + 1) * mx := by rw [← Int.mul_add]; congr 1; omega
      have e2 : (2 * bx - 1) * (L : Int) ≤ (2 * bx - 1 + 1) * (L : Int) := Int.mul_le_mul_of_nonneg_right (by omega) (by omega)
      have e3 : (2 * bx - 1 + 1) * mx ≤ (2 * bx - 1 + 1) * max (max 1 mn) mx := Int.mul_le_mul_of_nonneg_left (by omega) (by omega)
      omega
    have hL0 : 0 ≤ (2 * bx - 1) * (L : Int) := Int.mul_nonneg (by omega) (by omega)
    have hbig2 : (g.length : Int) + ((2 * bx - 1 + 1) * (((mx - mn).toNat : Nat) : Int) + (2 * bx - 1) * (L : Int)) + 2 < 100000 := by rw [Int.mul_add, hbnd] at hbig; omega
    clear hbnd hbnd2 hbig hmnx
    have hrel : (RxA.node 3 mn mx s0 s1 s2 s3 (some ⟨b, o, none⟩) cap [.node k' mn' mx' s0' s1' s2' s3' a' cap' l']).bare.lay g next = layTimes lay L (layMay lay next (mx - mn).toNat g next).1 (layMay lay next (mx - mn).toNat g next).2 := by
      rw [HLL.out, HLAY.out]; unfold layRepOf; rw [if_neg hmx]; simp only; congr 1; omega
    have HREL := Lib.hid hrel; clear hrel hmx HLL
    subst HL
    go_enter Tryd.func38, Tryd.ntmps38
    go_wp2_with fail
    go_quiet (fail)
    go_wp2_with fail
    generalize hW : World.drewN _ _ = WX
    have HKW := Lib.hid (show Keeps base p w WX by rw [← hW]; exact (((Keeps.refl base p w).alloc _).alloc _).drewN _)
    have HMG := Lib.hid (show MachAt WX base p v ws g by rw [← hW]; exact hM0.out.drewN _)
    have HBX := Lib.hid (show WX.heap[w.heap.size + 1]? = some (.cells #[Value.int .i64 k', .int .i64 mn', .int .i64 mx', .int .u64 s0', .int .u64 s1', .int .u64 s2', .int .u64 s3', .slice a' l'.length cap'] 26 (0, 0)) by
      rw [← hW]
      have := alloc_block (w.alloc (.cells #[Value.int .i64 3, .int .i64 L, .int .i64 mx, .int .u64 s0, .int .u64 s1, .int .u64 s2, .int .u64 s3, .slice (some ⟨b, o, none⟩) 1 cap] 26)) (.cells #[Value.int .i64 k', .int .i64 mn', .int .i64 mx', .int .u64 s0', .int .u64 s1', .int .u64 s2', .int .u64 s3', .slice a' l'.length cap'] 26)
      rw [World.size_alloc] at this
      exact this)
    clear hW hM0 d0 d1 d2 d3 d4 d5 d6 d7
    have HBP := Ne.symm HPB2
    have HOG := Lib.hid hg
    have hFG := hn
    have hnG := hn
    -- the two last loops
    obtain ⟨N, HN⟩ : ∃ N : Nat, Hid (N = (mx - (L : Int)).toNat) := ⟨_, rfl⟩
    have hc0 : 0 ≤ 2 * bx - 1 := by omega
    have hbigN : (g.length : Int) + ((2 * bx - 1 + 1) * (N : Int) + (2 * bx - 1) * (L : Int)) + 2 < 100000 := by rw [HN.out]; exact hbig2
    clear hbig2
    go_loopw [12, 109] (fun f i wr => ∃ j : Nat, j ≤ N ∧ i = .int .i64 (j : Int) ∧ f = .int .i64 (layMay lay next j g next).2 ∧
        ∃ v', MachAt wr base p v' ws (layMay lay next j g next).1 ∧ Keeps base p WX wr) (fun _ i _ => N - (intOf i).toNat)
    case atStart => exact ⟨0, Nat.zero_le _, rfl, rfl, v, HMG.out, Keeps.refl _ _ _⟩
    case round =>
      obtain ⟨j, hj, rfl, rfl, v', hm', hk⟩ := hrel
      have hs := layMay_sound hc0 HSA.out next j g next HOG.out hFG hnG
      have hmost := hs.most
      have hok := hs.ok
      have hfst := hs.fst
      have hln := hs.len
      have HOK := Lib.hid hok; clear hok hs
      have hbox := hk.other HBX.out HBP (by decide)
      obtain ⟨d0, d1, d2, d3, d4, d5, d6, d7⟩ := node_cells (o := 0) (fun i hi => by rw [Nat.zero_add, cell_of_block hbox i]; exact List.getElem?_toArray ..)
      simp only [Nat.zero_add] at d1 d2 d3 d4 d5 d6 d7
      have HBOX := Lib.hid hbox; clear hbox
      have hbw : Below B w wr := (HKW.out.trans hk).below hB hBb hBp
      have HIN := Lib.hid (hin0'.out.below hbw (Nat.le_refl _)); clear hbw
      have hws := hk.size
      have HM' := Lib.hid hm'; clear hm'
      have HK := Lib.hid hk; clear hk
      have hjm := (mul_succ_cast (2 * bx - 1 + 1) j)
      by_cases hlt : j < N
      · have hNj : (2 * bx - 1 + 1) * ((j + 1 : Nat) : Int) ≤ (2 * bx - 1 + 1) * (N : Int) := Int.mul_le_mul_of_nonneg_left (by omega) (by omega)
        have hjN : (j : Int) < mx - (L : Int) := by have := HN.out; omega
        have hst := layMay_step lay next j g next
        have HST := Lib.hid hst; clear hst
        have hsx := HSA.out (layMay lay next j g next).1 (layMay lay next j g next).2 HOK.out hfst
        have hmx := hsx.most
        have hmf := hsx.fst
        clear hsx
        have HE := Lib.hid (show (RxA.node k' mn' mx' s0' s1' s2' s3' a' cap' l').bare.lay (layMay lay next j g next).1 (layMay lay next j g next).2 = lay (layMay lay next j g next).1 (layMay lay next j g next).2 from by rw [HLAY.out])
        have hjm2 := Lib.hid hjm; 
        have hfin : ((layMay lay next j g next).1.length : Int) + 2 * bx < 100000 := by omega
        have hfin2 : ((lay (layMay lay next j g next).1 (layMay lay next j g next).2).1.length : Int) < 100000 := by omega
        clear hjm hNj hmost
        go_wp2_with fail
        refine (ih0.out wr base p B v' ws _ _ HM'.out HIN.out hBb hBp HF0.out HOK.out hfst (by rw [HBB.out]; exact hfin)).mono ?_
        rintro e w2 ⟨rfl, v2, hm3, hk2⟩
        rw [HE.out]
        rw [HE.out] at hm3
        obtain ⟨q, HQ⟩ : ∃ q, Hid (lay (layMay lay next j g next).1 (layMay lay next j g next).2 = q) := ⟨_, rfl⟩
        rw [HQ.out]
        rw [HQ.out] at hm3 hfin2
        have HK2 := Lib.hid hk2; clear hk2
        have HM3 := Lib.hid hm3; clear hm3
        go_wp2_with fail
        refine (add_any (St.split q.2 next) _ base p v2 ws _ HM3.out (by omega)).mono ?_
        rintro e w3 ⟨rfl, v3, hm4, hk3⟩
        go_wp2_with fail
        go_roundw
        case rel => exact ⟨j + 1, by omega, by go_num, by rw [HST.out, HQ.out], v3, by rw [HST.out, HQ.out]; exact hm4, (HK.out.trans HK2.out).trans hk3⟩
        case measure => simp only [intOf]; omega
      · have hje : j = N := by omega
        have hjN : ¬ (j : Int) < mx - (L : Int) := by have := HN.out; omega
        subst hje
        obtain ⟨G2, HG2⟩ : ∃ G2, Hid ((layMay lay next j g next).1 = G2) := ⟨_, rfl⟩
        obtain ⟨F2, HF2⟩ : ∃ F2, Hid ((layMay lay next j g next).2 = F2) := ⟨_, rfl⟩
        have hm2 := HM'.out
        have hok2 := HOK.out
        rw [HG2.out] at hm2 hok2 hmost hfst hln
        rw [HF2.out] at hfst ⊢
        have HM2 := Lib.hid hm2; clear hm2
        have HOK2 := Lib.hid hok2; clear hok2
        clear d0 d1 d2 d3 d4 d5 d6 d7
        go_wp2_with fail
        go_loopw [12, 121] (fun f i wz => ∃ m : Nat, m ≤ L ∧ i = .int .i64 (m : Int) ∧ f = .int .i64 (layTimes lay m G2 F2).2 ∧
            ∃ v', MachAt wz base p v' ws (layTimes lay m G2 F2).1 ∧ Keeps base p wr wz) (fun _ i _ => L - (intOf i).toNat)
        case atStart => exact ⟨0, Nat.zero_le _, rfl, rfl, v', HM2.out, Keeps.refl _ _ _⟩
        case round =>
          obtain ⟨m, hm, rfl, rfl, v2, hm3, hk3⟩ := hrel
          have hs := layTimes_sound hc0 HSA.out m G2 F2 HOK2.out hfst
          have hmost2 := hs.most
          have hok := hs.ok
          have hfst2 := hs.fst
          have HOK3 := Lib.hid hok; clear hok hs
          have hbox := hk3.other HBOX.out HBP (by decide)
          obtain ⟨d0, d1, d2, d3, d4, d5, d6, d7⟩ := node_cells (o := 0) (fun i hi => by rw [Nat.zero_add, cell_of_block hbox i]; exact List.getElem?_toArray ..)
          simp only [Nat.zero_add] at d1 d2 d3 d4 d5 d6 d7
          clear hbox
          have hbw : Below B w wr := ((HKW.out.trans HK.out).trans hk3).below hB hBb hBp
          have HIN3 := Lib.hid (hin0'.out.below hbw (Nat.le_refl _)); clear hbw
          have HM3 := Lib.hid hm3; clear hm3
          have HK3 := Lib.hid hk3; clear hk3
          by_cases hlt2 : m < L
          · have hmm : (2 * bx - 1) * ((m + 1 : Nat) : Int) ≤ (2 * bx - 1) * (L : Int) := Int.mul_le_mul_of_nonneg_left (by omega) (by omega)
            have hme := mul_succ_cast (2 * bx - 1) m
            have hst := layTimes_step lay m G2 F2
            have HST := Lib.hid hst; clear hst
            have HE := Lib.hid (show (RxA.node k' mn' mx' s0' s1' s2' s3' a' cap' l').bare.lay (layTimes lay m G2 F2).1 (layTimes lay m G2 F2).2 = lay (layTimes lay m G2 F2).1 (layTimes lay m G2 F2).2 from by rw [HLAY.out])
            have hfin : ((layTimes lay m G2 F2).1.length : Int) + 2 * bx < 100000 := by omega
            clear hmm hme hmost2
            go_wp2_with fail
            refine (ih0.out wr base p B v2 ws _ _ HM3.out HIN3.out hBb hBp HF0.out HOK3.out hfst2 (by rw [HBB.out]; exact hfin)).mono ?_
            rintro e w4 ⟨rfl, v4, hm4, hk4⟩
            rw [HE.out]
            rw [HE.out] at hm4
            go_wp2_with fail
            go_roundw
            case rel => exact ⟨m + 1, by omega, by go_num, by rw [HST.out], v4, by rw [HST.out]; exact hm4, HK3.out.trans hk4⟩
            case measure => simp only [intOf]; omega
          · have hme : m = L := by omega
            subst hme
            go_wp2_with fail
            go_ret
            refine ⟨ret_int (by rw [HREL.out, ← HN.out, HG2.out, HF2.out]), v2, by rw [HREL.out, ← HN.out, HG2.out, HF2.out]; exact HM3.out, ?_⟩
            exact (HKW.out.trans HK.out).trans HK3.out
set_option maxRecDepth 100000 in
set_option maxHeartbeats 4000000 in
theorem laid_repA1 (L : Nat) (s0 s1 s2 s3 : Int) (a : Option Addr) (cap : Nat) (l : List RxA) (ih : ∀ x ∈ l, LaidOK x) : LaidOK (.node 3 ((L : Int) + 1) (-1) s0 s1 s2 s3 a cap l) := by
  intro w base p B v ws g next hm hin hBb hBp hf hg hn hbig
  have hin' := hin
  simp only [RxA.In] at hin'
  obtain ⟨-, hl1, hl2, -, hl⟩ := hin'
  clear hin
  unfold maxLen at hl2
  have hbase := hm.base
  have hB : B ≤ w.heap.size := by omega
  have hfi := (formB_iff _ _ _ _ _ _ _ _).1 (by simpa only [RxA.bare] using hf)
  have hff : formAll (bareAll l) = true := hfi.2
  have hsh : l.length = 1 ∧ 0 ≤ ((L : Int) + 1) ∧ ((L : Int) + 1) ≤ 15 := by
    have := hfi.1
    rw [bareAll_length] at this
    unfold Shape at this; omega
  clear hfi hf
  obtain ⟨hlen, hmn0, hmn15⟩ := hsh
  rcases hl with rfl | ⟨b, o, rfl, hb, hl⟩
  · simp at hlen
  match l, hlen with
  | [x0], _ =>
    simp only [InL] at hl
    obtain ⟨h00, hin0, -⟩ := hl
    have hf0 : x0.bare.formB = true := by simpa only [bareAll, formAll, Bool.and_eq_true, and_true] using hff
    clear hff
    have hb0 := Rx.big_pos x0.bare
    have hbigx : (RxA.node 3 ((L : Int) + 1) (-1) s0 s1 s2 s3 (some ⟨b, o, none⟩) cap [x0]).bare.big = 1 + max (max 1 ((L : Int) + 1)) (-1) * x0.bare.big := by simp [RxA.bare, bareAll, Rx.big, bigAll, times]
    rw [hbigx] at hbig
    clear hbigx
    have hll : (RxA.node 3 ((L : Int) + 1) (-1) s0 s1 s2 s3 (some ⟨b, o, none⟩) cap [x0]).bare.lay g next = layRepOf x0.bare.lay ((L : Int) + 1) (-1) g next := by
      simp [RxA.bare, Rx.lay, bareAll, layRep]
    have HLL := Lib.hid hll; clear hll
    have ih0 := Lib.hid (ih x0 (by simp)); clear ih
    have HF0 := Lib.hid hf0; clear hf0
    have HM := Lib.hid hm; clear hm
    have HPB : p ≠ w.heap.size := by have := lt_of_block HM.out.block; omega
    have HPB2 : p ≠ w.heap.size + 1 := by have := lt_of_block HM.out.block; omega
    obtain ⟨C, HC⟩ : ∃ C, Hid (C = #[Value.int .i64 3, .int .i64 ((L : Int) + 1), .int .i64 (-1), .int .u64 s0, .int .u64 s1, .int .u64 s2, .int .u64 s3, .slice (some ⟨b, o, none⟩) 1 cap]) := ⟨_, rfl⟩
    have hcap : 1 ≤ cap := by simpa using hl1
    clear hl1
    have hin0' := Lib.hid hin0; clear hin0
    have hc0 : ∀ i, i < 8 → (w.alloc (.cells C 26)).cell? ⟨b, o + i, none⟩ = x0.cells[i]? := fun i hi => (World.cell?_alloc_past _ _ _ (by show b < w.heap.size; omega)).trans (h00 i hi)
    rw [HC.out] at hc0
    obtain ⟨lay, HLAY⟩ : ∃ lay, Hid (x0.bare.lay = lay) := ⟨_, rfl⟩
    have hsa := Rx.lay_sound x0.bare HF0.out
    rw [HLAY.out] at hsa
    generalize hx0b : x0.bare.big = bx at *
    have HBB := Lib.hid hx0b; clear hx0b
    have HSA := Lib.hid hsa; clear hsa
    obtain ⟨k', mn', mx', s0', s1', s2', s3', a', cap', l'⟩ := x0
    obtain ⟨d0, d1, d2, d3, d4, d5, d6, d7⟩ := node_cells (o := o) hc0
    clear hc0 h00
    have hM0 := Lib.hid ((HM.out.alloc (.cells #[Value.int .i64 3, .int .i64 ((L : Int) + 1), .int .i64 (-1), .int .u64 s0, .int .u64 s1, .int .u64 s2, .int .u64 s3, .slice (some ⟨b, o, none⟩) 1 cap] 26)).alloc (.cells #[Value.int .i64 k', .int .i64 mn', .int .i64 mx', .int .u64 s0', .int .u64 s1', .int .u64 s2', .int .u64 s3', .slice a' l'.length cap'] 26))
    show Calls Tryd.prog 38 #[.pointer (some ⟨p, 0, none⟩), .agg #[.int .i64 3, .int .i64 ((L : Int) + 1), .int .i64 (-1), .int .u64 s0, .int .u64 s1, .int .u64 s2, .int .u64 s3, .slice (some ⟨b, o, none⟩) 1 cap], .int .i64 next] w _
    have hbig2 : ((g.length : Int) + 1 + (2 * bx - 1)) + ((2 * bx - 1 + 1) * (((-1 - ((L : Int) + 1) : Int)).toNat : Int) + (2 * bx - 1) * (L : Int)) + 2 < 100000 := by
      have e0 : ((-1 - ((L : Int) + 1) : Int)).toNat = 0 := by omega
      rw [e0]
      have e1 : max (max 1 ((L : Int) + 1)) (-1) = (L : Int) + 1 := by omega
      rw [e1, Int.add_mul] at hbig
      have e2 : (2 * bx - 1) * (L : Int) ≤ (2 * bx) * (L : Int) := Int.mul_le_mul_of_nonneg_right (by omega) (by omega)
      have e3 : (2 * bx) * (L : Int) = 2 * ((L : Int) * bx) := by rw [Int.mul_assoc, Int.mul_comm bx]
      simp
      omega
    have hb1 : (g.length : Int) + 2 * bx + 1 < 100000 := by
      have e1 : 1 * bx ≤ max (max 1 ((L : Int) + 1)) (-1) * bx := Int.mul_le_mul_of_nonneg_right (by omega) (by omega)
      omega
    clear hbig
    have HB2 := Lib.hid hbig2; clear hbig2
    go_enter Tryd.func38, Tryd.ntmps38
    go_wp2_with fail
    go_quiet (fail)
    go_wp2_with fail
    generalize hW : World.drewN _ _ = WX
    have HKW := Lib.hid (show Keeps base p w WX by rw [← hW]; exact (((Keeps.refl base p w).alloc _).alloc _).drewN _)
    have HMG := Lib.hid (show MachAt WX base p v ws g by rw [← hW]; exact hM0.out.drewN _)
    have HBX := Lib.hid (show WX.heap[w.heap.size + 1]? = some (.cells #[Value.int .i64 k', .int .i64 mn', .int .i64 mx', .int .u64 s0', .int .u64 s1', .int .u64 s2', .int .u64 s3', .slice a' l'.length cap'] 26 (0, 0)) by
      rw [← hW]
      have := alloc_block (w.alloc (.cells #[Value.int .i64 3, .int .i64 ((L : Int) + 1), .int .i64 (-1), .int .u64 s0, .int .u64 s1, .int .u64 s2, .int .u64 s3, .slice (some ⟨b, o, none⟩) 1 cap] 26)) (.cells #[Value.int .i64 k', .int .i64 mn', .int .i64 mx', .int .u64 s0', .int .u64 s1', .int .u64 s2', .int .u64 s3', .slice a' l'.length cap'] 26)
      rw [World.size_alloc] at this
      exact this)
    have HBX1 := Lib.hid (show WX.heap[w.heap.size]? = some (.cells #[Value.int .i64 3, .int .i64 ((L : Int) + 1), .int .i64 (-1), .int .u64 s0, .int .u64 s1, .int .u64 s2, .int .u64 s3, .slice (some ⟨b, o, none⟩) 1 cap] 26 (0, 0)) by
      rw [← hW]
      exact alloc_old (alloc_block w _) _)
    clear hW hM0 d0 d1 d2 d3 d4 d5 d6 d7
    have HBP := Ne.symm HPB2
    refine (add_any (St.split 0 next) _ base p v ws g HMG.out (by omega)).mono ?_
    rintro e w2 ⟨rfl, v2, hm2, hk2⟩
    have hbox := hk2.other HBX.out HBP (by decide)
    have hbox1 := hk2.other HBX1.out (Ne.symm HPB) (by decide)
    obtain ⟨d0, d1, d2, d3, d4, d5, d6, d7⟩ := node_cells (o := 0) (fun i hi => by rw [Nat.zero_add, cell_of_block hbox i]; exact List.getElem?_toArray ..)
    simp only [Nat.zero_add] at d1 d2 d3 d4 d5 d6 d7
    have HBOX := Lib.hid hbox; clear hbox
    have HBOX1 := Lib.hid hbox1; clear hbox1
    have hbw : Below B w w2 := (HKW.out.trans hk2).below hB hBb hBp
    have HIN := Lib.hid (hin0'.out.below hbw (Nat.le_refl _)); clear hbw
    have HM2 := Lib.hid hm2; clear hm2
    have HK2 := Lib.hid (HKW.out.trans hk2); clear hk2
    have hog : OkG (g ++ [St.split 0 next]) := hg.snoc (by simp [St.split]) (by simp [St.split]) (by simp only [St.split]; omega) (by simp [St.split]) (by simp [St.split]; omega)
    have HOGS := Lib.hid hog; clear hog
    have HE := Lib.hid (show (RxA.node k' mn' mx' s0' s1' s2' s3' a' cap' l').bare.lay (g ++ [St.split 0 next]) g.length = lay (g ++ [St.split 0 next]) g.length from by rw [HLAY.out])
    go_wp2_with fail
    refine (ih0.out w2 base p B v2 ws _ _ HM2.out HIN.out hBb hBp HF0.out HOGS.out (by simp) (by rw [HBB.out]; simp; omega)).mono ?_
    rintro e w3 ⟨rfl, v3, hm3, hk3⟩
    have hsx := HSA.out (g ++ [St.split 0 next]) g.length HOGS.out (by simp)
    have hlx := (Rx.lay_lays (RxA.node k' mn' mx' s0' s1' s2' s3' a' cap' l').bare HF0.out (g ++ [St.split 0 next]) g.length (by simp) (by simp)).old g.length (by simp)
    rw [HE.out]
    rw [HE.out] at hm3 hlx
    generalize hrr : lay (g ++ [St.split 0 next]) g.length = rr at *
    have HRR := Lib.hid hrr; clear hrr
    have hst : rr.1[g.length]? = some (St.split 0 next) := by rw [hlx]; simp
    clear hlx
    have hlen3 := hsx.len
    have hmost3 := hsx.most
    have hfst3 := hsx.fst
    have hok3 := hsx.ok
    simp only [List.length_append, List.length_cons, List.length_nil] at hlen3 hmost3
    clear hsx
    obtain ⟨gb, capb, rfl, hcb1, hcb2⟩ := ownsRow_pos hm3.row (by omega)
    obtain ⟨hmS, hkS, hcS, hfS⟩ := hm3.store g.length _ rr.2 hst
    have hp0 : w3.cell? ⟨p, 0, none⟩ = some (.slice (some ⟨gb, 0, none⟩) rr.1.length capb) := by rw [cell_of_block hm3.block 0]; rfl
    have hbox3 := hk3.other HBOX.out HBP (by decide)
    have hbox31 := hk3.other HBOX1.out (Ne.symm HPB) (by decide)
    have e1 : w3.cell? ⟨w.heap.size, 1, none⟩ = some (.int .i64 ((L : Int) + 1)) := by rw [cell_of_block hbox31]; rfl
    have e2 : w3.cell? ⟨w.heap.size, 2, none⟩ = some (.int .i64 (-1)) := by rw [cell_of_block hbox31]; rfl
    have HBX3 := Lib.hid (hkS.other hbox3 HBP (by decide)); clear hbox3 HBX HBOX
    have HBX31 := Lib.hid (hkS.other hbox31 (Ne.symm HPB) (by decide)); clear hbox31 HBX1 HBOX1
    have HKW3 := Lib.hid ((HK2.out.trans hk3).trans hkS); clear hkS hk3 HK2 HKW
    have HMG3 := Lib.hid hmS; clear hmS HM2 hm3 HMG
    have hokS : OkG (rr.1.set g.length (St.split rr.2 next)) := hok3.set _ (by simp [St.split]) (by simp [St.split]) (by simp [St.split]; omega) (by simp [St.split]) (by simp [St.split]; omega)
    have HOG := Lib.hid hokS; clear hokS hok3 HOGS
    clear d0 d1 d2 d3 d4 d5 d6 d7 HIN hst
    go_wp2_with fail
    clear e1 e2 hcS hfS hp0
    generalize hW5 : w3.setCell _ _ = WY at *
    clear hW5
    generalize hv5 : Value.slice (some ⟨gb, 0, none⟩) rr.1.length capb = v5 at HMG3
    clear hv5
    have HMG := HMG3
    have HKW := HKW3
    have HBX := HBX3
    clear HMG3 HKW3 HBX31 HBX3
    have hbig2 : (((rr.1.set g.length (St.split rr.2 next)).length : Int) + ((2 * bx - 1 + 1) * ((-1 - ((L : Int) + 1) : Int).toNat : Int) + (2 * bx - 1) * (L : Int)) + 2 < 100000) := by
      have := HB2.out
      rw [List.length_set]; omega
    have hFG : rr.2 < (rr.1.set g.length (St.split rr.2 next)).length := by rw [List.length_set]; omega
    have hnG : next < (rr.1.set g.length (St.split rr.2 next)).length := by rw [List.length_set]; omega
    have hrel : (RxA.node 3 ((L : Int) + 1) (-1) s0 s1 s2 s3 (some ⟨b, o, none⟩) cap [.node k' mn' mx' s0' s1' s2' s3' a' cap' l']).bare.lay g next = layTimes lay L (layMay lay next (-1 - ((L : Int) + 1) : Int).toNat (rr.1.set g.length (St.split rr.2 next)) rr.2).1 (layMay lay next (-1 - ((L : Int) + 1) : Int).toNat (rr.1.set g.length (St.split rr.2 next)) rr.2).2 := by
      rw [HLL.out, HLAY.out]; unfold layRepOf; rw [if_pos rfl]
      have e0 : (-1 - ((L : Int) + 1) : Int).toNat = 0 := by omega
      simp only [HRR.out, e0, layMay]
      rw [if_pos (by omega)]; congr 1; omega
    have HREL := Lib.hid hrel; clear hrel HLL HRR HE
    -- the two last loops
    obtain ⟨N, HN⟩ : ∃ N : Nat, Hid (N = (-1 - ((L : Int) + 1)).toNat) := ⟨_, rfl⟩
    have hc0 : 0 ≤ 2 * bx - 1 := by omega
    have hbigN : ((rr.1.set g.length (St.split rr.2 next)).length : Int) + ((2 * bx - 1 + 1) * (N : Int) + (2 * bx - 1) * (L : Int)) + 2 < 100000 := by rw [HN.out]; exact hbig2
    clear hbig2
    go_loopw [12, 109] (fun f i wr => ∃ j : Nat, j ≤ N ∧ i = .int .i64 (j : Int) ∧ f = .int .i64 (layMay lay next j (rr.1.set g.length (St.split rr.2 next)) rr.2).2 ∧
        ∃ v', MachAt wr base p v' ws (layMay lay next j (rr.1.set g.length (St.split rr.2 next)) rr.2).1 ∧ Keeps base p WY wr) (fun _ i _ => N - (intOf i).toNat)
    case atStart => exact ⟨0, Nat.zero_le _, rfl, rfl, v5, HMG.out, Keeps.refl _ _ _⟩
    case round =>
      obtain ⟨j, hj, rfl, rfl, v', hm', hk⟩ := hrel
      have hs := layMay_sound hc0 HSA.out next j (rr.1.set g.length (St.split rr.2 next)) rr.2 HOG.out hFG hnG
      have hmost := hs.most
      have hok := hs.ok
      have hfst := hs.fst
      have hln := hs.len
      have HOK := Lib.hid hok; clear hok hs
      have hbox := hk.other HBX.out HBP (by decide)
      obtain ⟨d0, d1, d2, d3, d4, d5, d6, d7⟩ := node_cells (o := 0) (fun i hi => by rw [Nat.zero_add, cell_of_block hbox i]; exact List.getElem?_toArray ..)
      simp only [Nat.zero_add] at d1 d2 d3 d4 d5 d6 d7
      have HBOX := Lib.hid hbox; clear hbox
      have hbw : Below B w wr := (HKW.out.trans hk).below hB hBb hBp
      have HIN := Lib.hid (hin0'.out.below hbw (Nat.le_refl _)); clear hbw
      have hws := hk.size
      have HM' := Lib.hid hm'; clear hm'
      have HK := Lib.hid hk; clear hk
      have hjm := (mul_succ_cast (2 * bx - 1 + 1) j)
      by_cases hlt : j < N
      · exact absurd hlt (by have := HN.out; omega)
      · have hje : j = N := by omega
        have hjN : ¬ (j : Int) < -1 - ((L : Int) + 1) := by have := HN.out; omega
        subst hje
        obtain ⟨G2, HG2⟩ : ∃ G2, Hid ((layMay lay next j (rr.1.set g.length (St.split rr.2 next)) rr.2).1 = G2) := ⟨_, rfl⟩
        obtain ⟨F2, HF2⟩ : ∃ F2, Hid ((layMay lay next j (rr.1.set g.length (St.split rr.2 next)) rr.2).2 = F2) := ⟨_, rfl⟩
        have hm2 := HM'.out
        have hok2 := HOK.out
        rw [HG2.out] at hm2 hok2 hmost hfst hln
        rw [HF2.out] at hfst ⊢
        have HM2 := Lib.hid hm2; clear hm2
        have HOK2 := Lib.hid hok2; clear hok2
        clear d0 d1 d2 d3 d4 d5 d6 d7
        go_wp2_with fail
        go_loopw [12, 121] (fun f i wz => ∃ m : Nat, m ≤ L ∧ i = .int .i64 (m : Int) ∧ f = .int .i64 (layTimes lay m G2 F2).2 ∧
            ∃ v', MachAt wz base p v' ws (layTimes lay m G2 F2).1 ∧ Keeps base p wr wz) (fun _ i _ => L - (intOf i).toNat)
        case atStart => exact ⟨0, Nat.zero_le _, rfl, rfl, v', HM2.out, Keeps.refl _ _ _⟩
        case round =>
          obtain ⟨m, hm, rfl, rfl, v2, hm3, hk3⟩ := hrel
          have hs := layTimes_sound hc0 HSA.out m G2 F2 HOK2.out hfst
          have hmost2 := hs.most
          have hok := hs.ok
          have hfst2 := hs.fst
          have HOK3 := Lib.hid hok; clear hok hs
          have hbox := hk3.other HBOX.out HBP (by decide)
          obtain ⟨d0, d1, d2, d3, d4, d5, d6, d7⟩ := node_cells (o := 0) (fun i hi => by rw [Nat.zero_add, cell_of_block hbox i]; exact List.getElem?_toArray ..)
          simp only [Nat.zero_add] at d1 d2 d3 d4 d5 d6 d7
          clear hbox
          have hbw : Below B w wr := ((HKW.out.trans HK.out).trans hk3).below hB hBb hBp
          have HIN3 := Lib.hid (hin0'.out.below hbw (Nat.le_refl _)); clear hbw
          have HM3 := Lib.hid hm3; clear hm3
          have HK3 := Lib.hid hk3; clear hk3
          by_cases hlt2 : m < L
          · have hmm : (2 * bx - 1) * ((m + 1 : Nat) : Int) ≤ (2 * bx - 1) * (L : Int) := Int.mul_le_mul_of_nonneg_left (by omega) (by omega)
            have hme := mul_succ_cast (2 * bx - 1) m
            have hst := layTimes_step lay m G2 F2
            have HST := Lib.hid hst; clear hst
            have HE := Lib.hid (show (RxA.node k' mn' mx' s0' s1' s2' s3' a' cap' l').bare.lay (layTimes lay m G2 F2).1 (layTimes lay m G2 F2).2 = lay (layTimes lay m G2 F2).1 (layTimes lay m G2 F2).2 from by rw [HLAY.out])
            have hfin : ((layTimes lay m G2 F2).1.length : Int) + 2 * bx < 100000 := by omega
            clear hmm hme hmost2
            go_wp2_with fail
            refine (ih0.out wr base p B v2 ws _ _ HM3.out HIN3.out hBb hBp HF0.out HOK3.out hfst2 (by rw [HBB.out]; exact hfin)).mono ?_
            rintro e w4 ⟨rfl, v4, hm4, hk4⟩
            rw [HE.out]
            rw [HE.out] at hm4
            go_wp2_with fail
            go_roundw
            case rel => exact ⟨m + 1, by omega, by go_num, by rw [HST.out], v4, by rw [HST.out]; exact hm4, HK3.out.trans hk4⟩
            case measure => simp only [intOf]; omega
          · have hme : m = L := by omega
            subst hme
            go_wp2_with fail
            go_ret
            refine ⟨ret_int (by rw [HREL.out, ← HN.out, HG2.out, HF2.out]), v2, by rw [HREL.out, ← HN.out, HG2.out, HF2.out]; exact HM3.out, ?_⟩
            exact (HKW.out.trans HK.out).trans HK3.out
set_option maxRecDepth 100000 in
set_option maxHeartbeats 4000000 in
theorem laid_repA0 (s0 s1 s2 s3 : Int) (a : Option Addr) (cap : Nat) (l : List RxA) (ih : ∀ x ∈ l, LaidOK x) : LaidOK (.node 3 0 (-1) s0 s1 s2 s3 a cap l) := by
  intro w base p B v ws g next hm hin hBb hBp hf hg hn hbig
  have hin' := hin
  simp only [RxA.In] at hin'
  obtain ⟨-, hl1, hl2, -, hl⟩ := hin'
  clear hin
  unfold maxLen at hl2
  have hbase := hm.base
  have hB : B ≤ w.heap.size := by omega
  have hfi := (formB_iff _ _ _ _ _ _ _ _).1 (by simpa only [RxA.bare] using hf)
  have hff : formAll (bareAll l) = true := hfi.2
  have hsh : l.length = 1 ∧ 0 ≤ 0 ∧ 0 ≤ 15 := by
    have := hfi.1
    rw [bareAll_length] at this
    unfold Shape at this; omega
  clear hfi hf
  obtain ⟨hlen, hmn0, hmn15⟩ := hsh
  rcases hl with rfl | ⟨b, o, rfl, hb, hl⟩
  · simp at hlen
  match l, hlen with
  | [x0], _ =>
    simp only [InL] at hl
    obtain ⟨h00, hin0, -⟩ := hl
    have hf0 : x0.bare.formB = true := by simpa only [bareAll, formAll, Bool.and_eq_true, and_true] using hff
    clear hff
    have hb0 := Rx.big_pos x0.bare
    have hbigx : (RxA.node 3 0 (-1) s0 s1 s2 s3 (some ⟨b, o, none⟩) cap [x0]).bare.big = 1 + max (max 1 0) (-1) * x0.bare.big := by simp [RxA.bare, bareAll, Rx.big, bigAll, times]
    rw [hbigx] at hbig
    clear hbigx
    have hll : (RxA.node 3 0 (-1) s0 s1 s2 s3 (some ⟨b, o, none⟩) cap [x0]).bare.lay g next = layRepOf x0.bare.lay 0 (-1) g next := by
      simp [RxA.bare, Rx.lay, bareAll, layRep]
    have HLL := Lib.hid hll; clear hll
    have ih0 := Lib.hid (ih x0 (by simp)); clear ih
    have HF0 := Lib.hid hf0; clear hf0
    have HM := Lib.hid hm; clear hm
    have HPB : p ≠ w.heap.size := by have := lt_of_block HM.out.block; omega
    have HPB2 : p ≠ w.heap.size + 1 := by have := lt_of_block HM.out.block; omega
    obtain ⟨C, HC⟩ : ∃ C, Hid (C = #[Value.int .i64 3, .int .i64 0, .int .i64 (-1), .int .u64 s0, .int .u64 s1, .int .u64 s2, .int .u64 s3, .slice (some ⟨b, o, none⟩) 1 cap]) := ⟨_, rfl⟩
    have hcap : 1 ≤ cap := by simpa using hl1
    clear hl1
    have hin0' := Lib.hid hin0; clear hin0
    have hc0 : ∀ i, i < 8 → (w.alloc (.cells C 26)).cell? ⟨b, o + i, none⟩ = x0.cells[i]? := fun i hi => (World.cell?_alloc_past _ _ _ (by show b < w.heap.size; omega)).trans (h00 i hi)
    rw [HC.out] at hc0
    obtain ⟨lay, HLAY⟩ : ∃ lay, Hid (x0.bare.lay = lay) := ⟨_, rfl⟩
    have hsa := Rx.lay_sound x0.bare HF0.out
    rw [HLAY.out] at hsa
    generalize hx0b : x0.bare.big = bx at *
    have HBB := Lib.hid hx0b; clear hx0b
    have HSA := Lib.hid hsa; clear hsa
    obtain ⟨k', mn', mx', s0', s1', s2', s3', a', cap', l'⟩ := x0
    obtain ⟨d0, d1, d2, d3, d4, d5, d6, d7⟩ := node_cells (o := o) hc0
    clear hc0 h00
    have hM0 := Lib.hid ((HM.out.alloc (.cells #[Value.int .i64 3, .int .i64 0, .int .i64 (-1), .int .u64 s0, .int .u64 s1, .int .u64 s2, .int .u64 s3, .slice (some ⟨b, o, none⟩) 1 cap] 26)).alloc (.cells #[Value.int .i64 k', .int .i64 mn', .int .i64 mx', .int .u64 s0', .int .u64 s1', .int .u64 s2', .int .u64 s3', .slice a' l'.length cap'] 26))
    show Calls Tryd.prog 38 #[.pointer (some ⟨p, 0, none⟩), .agg #[.int .i64 3, .int .i64 0, .int .i64 (-1), .int .u64 s0, .int .u64 s1, .int .u64 s2, .int .u64 s3, .slice (some ⟨b, o, none⟩) 1 cap], .int .i64 next] w _
    have hbig2 : ((g.length : Int) + 1 + (2 * bx - 1)) + ((2 * bx - 1 + 1) * (((-1 - 0 : Int)).toNat : Int) + (2 * bx - 1) * (0 : Int)) + 2 < 100000 := by
      have e0 : ((-1 - 0 : Int)).toNat = 0 := by omega
      rw [e0]
      have e1 : max (max (1 : Int) 0) (-1) = 1 := by omega
      rw [e1] at hbig
      simp
      omega
    have hb1 : (g.length : Int) + 2 * bx + 1 < 100000 := by
      have e1 : 1 * bx ≤ max (max 1 0) (-1) * bx := Int.mul_le_mul_of_nonneg_right (by omega) (by omega)
      omega
    clear hbig
    have HB2 := Lib.hid hbig2; clear hbig2
    go_enter Tryd.func38, Tryd.ntmps38
    go_wp2_with fail
    go_quiet (fail)
    go_wp2_with fail
    generalize hW : World.drewN _ _ = WX
    have HKW := Lib.hid (show Keeps base p w WX by rw [← hW]; exact (((Keeps.refl base p w).alloc _).alloc _).drewN _)
    have HMG := Lib.hid (show MachAt WX base p v ws g by rw [← hW]; exact hM0.out.drewN _)
    have HBX := Lib.hid (show WX.heap[w.heap.size + 1]? = some (.cells #[Value.int .i64 k', .int .i64 mn', .int .i64 mx', .int .u64 s0', .int .u64 s1', .int .u64 s2', .int .u64 s3', .slice a' l'.length cap'] 26 (0, 0)) by
      rw [← hW]
      have := alloc_block (w.alloc (.cells #[Value.int .i64 3, .int .i64 0, .int .i64 (-1), .int .u64 s0, .int .u64 s1, .int .u64 s2, .int .u64 s3, .slice (some ⟨b, o, none⟩) 1 cap] 26)) (.cells #[Value.int .i64 k', .int .i64 mn', .int .i64 mx', .int .u64 s0', .int .u64 s1', .int .u64 s2', .int .u64 s3', .slice a' l'.length cap'] 26)
      rw [World.size_alloc] at this
      exact this)
    have HBX1 := Lib.hid (show WX.heap[w.heap.size]? = some (.cells #[Value.int .i64 3, .int .i64 0, .int .i64 (-1), .int .u64 s0, .int .u64 s1, .int .u64 s2, .int .u64 s3, .slice (some ⟨b, o, none⟩) 1 cap] 26 (0, 0)) by
      rw [← hW]
      exact alloc_old (alloc_block w _) _)
    clear hW hM0 d0 d1 d2 d3 d4 d5 d6 d7
    have HBP := Ne.symm HPB2
    refine (add_any (St.split 0 next) _ base p v ws g HMG.out (by omega)).mono ?_
    rintro e w2 ⟨rfl, v2, hm2, hk2⟩
    have hbox := hk2.other HBX.out HBP (by decide)
    have hbox1 := hk2.other HBX1.out (Ne.symm HPB) (by decide)
    obtain ⟨d0, d1, d2, d3, d4, d5, d6, d7⟩ := node_cells (o := 0) (fun i hi => by rw [Nat.zero_add, cell_of_block hbox i]; exact List.getElem?_toArray ..)
    simp only [Nat.zero_add] at d1 d2 d3 d4 d5 d6 d7
    have HBOX := Lib.hid hbox; clear hbox
    have HBOX1 := Lib.hid hbox1; clear hbox1
    have hbw : Below B w w2 := (HKW.out.trans hk2).below hB hBb hBp
    have HIN := Lib.hid (hin0'.out.below hbw (Nat.le_refl _)); clear hbw
    have HM2 := Lib.hid hm2; clear hm2
    have HK2 := Lib.hid (HKW.out.trans hk2); clear hk2
    have hog : OkG (g ++ [St.split 0 next]) := hg.snoc (by simp [St.split]) (by simp [St.split]) (by simp only [St.split]; omega) (by simp [St.split]) (by simp [St.split]; omega)
    have HOGS := Lib.hid hog; clear hog
    have HE := Lib.hid (show (RxA.node k' mn' mx' s0' s1' s2' s3' a' cap' l').bare.lay (g ++ [St.split 0 next]) g.length = lay (g ++ [St.split 0 next]) g.length from by rw [HLAY.out])
    go_wp2_with fail
    refine (ih0.out w2 base p B v2 ws _ _ HM2.out HIN.out hBb hBp HF0.out HOGS.out (by simp) (by rw [HBB.out]; simp; omega)).mono ?_
    rintro e w3 ⟨rfl, v3, hm3, hk3⟩
    have hsx := HSA.out (g ++ [St.split 0 next]) g.length HOGS.out (by simp)
    have hlx := (Rx.lay_lays (RxA.node k' mn' mx' s0' s1' s2' s3' a' cap' l').bare HF0.out (g ++ [St.split 0 next]) g.length (by simp) (by simp)).old g.length (by simp)
    rw [HE.out]
    rw [HE.out] at hm3 hlx
    generalize hrr : lay (g ++ [St.split 0 next]) g.length = rr at *
    have HRR := Lib.hid hrr; clear hrr
    have hst : rr.1[g.length]? = some (St.split 0 next) := by rw [hlx]; simp
    clear hlx
    have hlen3 := hsx.len
    have hmost3 := hsx.most
    have hfst3 := hsx.fst
    have hok3 := hsx.ok
    simp only [List.length_append, List.length_cons, List.length_nil] at hlen3 hmost3
    clear hsx
    obtain ⟨gb, capb, rfl, hcb1, hcb2⟩ := ownsRow_pos hm3.row (by omega)
    obtain ⟨hmS, hkS, hcS, hfS⟩ := hm3.store g.length _ rr.2 hst
    have hp0 : w3.cell? ⟨p, 0, none⟩ = some (.slice (some ⟨gb, 0, none⟩) rr.1.length capb) := by rw [cell_of_block hm3.block 0]; rfl
    have hbox3 := hk3.other HBOX.out HBP (by decide)
    have hbox31 := hk3.other HBOX1.out (Ne.symm HPB) (by decide)
    have e1 : w3.cell? ⟨w.heap.size, 1, none⟩ = some (.int .i64 0) := by rw [cell_of_block hbox31]; rfl
    have e2 : w3.cell? ⟨w.heap.size, 2, none⟩ = some (.int .i64 (-1)) := by rw [cell_of_block hbox31]; rfl
    have HBX3 := Lib.hid (hkS.other hbox3 HBP (by decide)); clear hbox3 HBX HBOX
    have HBX31 := Lib.hid (hkS.other hbox31 (Ne.symm HPB) (by decide)); clear hbox31 HBX1 HBOX1
    have HKW3 := Lib.hid ((HK2.out.trans hk3).trans hkS); clear hkS hk3 HK2 HKW
    have HMG3 := Lib.hid hmS; clear hmS HM2 hm3 HMG
    have hokS : OkG (rr.1.set g.length (St.split rr.2 next)) := hok3.set _ (by simp [St.split]) (by simp [St.split]) (by simp [St.split]; omega) (by simp [St.split]) (by simp [St.split]; omega)
    have HOG := Lib.hid hokS; clear hokS hok3 HOGS
    clear d0 d1 d2 d3 d4 d5 d6 d7 HIN hst
    go_wp2_with fail
    clear e1 e2 hcS hfS hp0
    generalize hW5 : w3.setCell _ _ = WY at *
    clear hW5
    generalize hv5 : Value.slice (some ⟨gb, 0, none⟩) rr.1.length capb = v5 at HMG3
    clear hv5
    have HMG := HMG3
    have HKW := HKW3
    have HBX := HBX3
    clear HMG3 HKW3 HBX31 HBX3
    have hbig2 : (((rr.1.set g.length (St.split rr.2 next)).length : Int) + ((2 * bx - 1 + 1) * ((-1 - 0 : Int).toNat : Int) + (2 * bx - 1) * (0 : Int)) + 2 < 100000) := by
      have := HB2.out
      rw [List.length_set]; omega
    have hFG : g.length < (rr.1.set g.length (St.split rr.2 next)).length := by rw [List.length_set]; omega
    have hnG : next < (rr.1.set g.length (St.split rr.2 next)).length := by rw [List.length_set]; omega
    have hrel : (RxA.node 3 0 (-1) s0 s1 s2 s3 (some ⟨b, o, none⟩) cap [.node k' mn' mx' s0' s1' s2' s3' a' cap' l']).bare.lay g next = layTimes lay 0 (layMay lay next (-1 - 0 : Int).toNat (rr.1.set g.length (St.split rr.2 next)) g.length).1 (layMay lay next (-1 - 0 : Int).toNat (rr.1.set g.length (St.split rr.2 next)) g.length).2 := by
      rw [HLL.out, HLAY.out]; unfold layRepOf; rw [if_pos rfl]
      have e0 : (-1 - 0 : Int).toNat = 0 := by omega
      simp only [HRR.out, e0, layMay]
      simp [layTimes]
    have HREL := Lib.hid hrel; clear hrel HLL HRR HE
    -- the two last loops
    obtain ⟨N, HN⟩ : ∃ N : Nat, Hid (N = ((-1 : Int) - 0).toNat) := ⟨_, rfl⟩
    have hc0 : 0 ≤ 2 * bx - 1 := by omega
    have hbigN : ((rr.1.set g.length (St.split rr.2 next)).length : Int) + ((2 * bx - 1 + 1) * (N : Int) + (2 * bx - 1) * (0 : Int)) + 2 < 100000 := by rw [HN.out]; exact hbig2
    clear hbig2
    go_loopw [12, 109] (fun f i wr => ∃ j : Nat, j ≤ N ∧ i = .int .i64 (j : Int) ∧ f = .int .i64 (layMay lay next j (rr.1.set g.length (St.split rr.2 next)) g.length).2 ∧
        ∃ v', MachAt wr base p v' ws (layMay lay next j (rr.1.set g.length (St.split rr.2 next)) g.length).1 ∧ Keeps base p WY wr) (fun _ i _ => N - (intOf i).toNat)
    case atStart => exact ⟨0, Nat.zero_le _, rfl, rfl, v5, HMG.out, Keeps.refl _ _ _⟩
    case round =>
      obtain ⟨j, hj, rfl, rfl, v', hm', hk⟩ := hrel
      have hs := layMay_sound hc0 HSA.out next j (rr.1.set g.length (St.split rr.2 next)) g.length HOG.out hFG hnG
      have hmost := hs.most
      have hok := hs.ok
      have hfst := hs.fst
      have hln := hs.len
      have HOK := Lib.hid hok; clear hok hs
      have hbox := hk.other HBX.out HBP (by decide)
      obtain ⟨d0, d1, d2, d3, d4, d5, d6, d7⟩ := node_cells (o := 0) (fun i hi => by rw [Nat.zero_add, cell_of_block hbox i]; exact List.getElem?_toArray ..)
      simp only [Nat.zero_add] at d1 d2 d3 d4 d5 d6 d7
      have HBOX := Lib.hid hbox; clear hbox
      have hbw : Below B w wr := (HKW.out.trans hk).below hB hBb hBp
      have HIN := Lib.hid (hin0'.out.below hbw (Nat.le_refl _)); clear hbw
      have hws := hk.size
      have HM' := Lib.hid hm'; clear hm'
      have HK := Lib.hid hk; clear hk
      have hjm := (mul_succ_cast (2 * bx - 1 + 1) j)
      by_cases hlt : j < N
      · exact absurd hlt (by have := HN.out; omega)
      · have hje : j = N := by omega
        have hjN : ¬ (j : Int) < -1 := by omega
        subst hje
        obtain ⟨G2, HG2⟩ : ∃ G2, Hid ((layMay lay next j (rr.1.set g.length (St.split rr.2 next)) g.length).1 = G2) := ⟨_, rfl⟩
        obtain ⟨F2, HF2⟩ : ∃ F2, Hid ((layMay lay next j (rr.1.set g.length (St.split rr.2 next)) g.length).2 = F2) := ⟨_, rfl⟩
        have hm2 := HM'.out
        have hok2 := HOK.out
        rw [HG2.out] at hm2 hok2 hmost hfst hln
        rw [HF2.out] at hfst ⊢
        have HM2 := Lib.hid hm2; clear hm2
        have HOK2 := Lib.hid hok2; clear hok2
        clear d0 d1 d2 d3 d4 d5 d6 d7
        go_wp2_with fail
        go_loopw [12, 121] (fun f i wz => ∃ m : Nat, m ≤ 0 ∧ i = .int .i64 (m : Int) ∧ f = .int .i64 (layTimes lay m G2 F2).2 ∧
            ∃ v', MachAt wz base p v' ws (layTimes lay m G2 F2).1 ∧ Keeps base p wr wz) (fun _ i _ => 0 - (intOf i).toNat)
        case atStart => exact ⟨0, Nat.zero_le _, rfl, rfl, v', HM2.out, Keeps.refl _ _ _⟩
        case round =>
          obtain ⟨m, hm, rfl, rfl, v2, hm3, hk3⟩ := hrel
          have hs := layTimes_sound hc0 HSA.out m G2 F2 HOK2.out hfst
          have hmost2 := hs.most
          have hok := hs.ok
          have hfst2 := hs.fst
          have HOK3 := Lib.hid hok; clear hok hs
          have hbox := hk3.other HBOX.out HBP (by decide)
          obtain ⟨d0, d1, d2, d3, d4, d5, d6, d7⟩ := node_cells (o := 0) (fun i hi => by rw [Nat.zero_add, cell_of_block hbox i]; exact List.getElem?_toArray ..)
          simp only [Nat.zero_add] at d1 d2 d3 d4 d5 d6 d7
          clear hbox
          have hbw : Below B w wr := ((HKW.out.trans HK.out).trans hk3).below hB hBb hBp
          have HIN3 := Lib.hid (hin0'.out.below hbw (Nat.le_refl _)); clear hbw
          have HM3 := Lib.hid hm3; clear hm3
          have HK3 := Lib.hid hk3; clear hk3
          by_cases hlt2 : m < 0
          · exact absurd hlt2 (by omega)
          · have hme : m = 0 := by omega
            subst hme
            go_wp2_with fail
            go_ret
            refine ⟨ret_int (by rw [HREL.out, ← HN.out, HG2.out, HF2.out]), v2, by rw [HREL.out, ← HN.out, HG2.out, HF2.out]; exact HM3.out, ?_⟩
            exact (HKW.out.trans HK.out).trans HK3.out
end Go.Proofs.YtaelkjffidjcjaaDoor
