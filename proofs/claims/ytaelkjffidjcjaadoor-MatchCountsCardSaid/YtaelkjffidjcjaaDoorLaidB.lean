/- The walks of (*Machine).laid: an alternative. -/
import Derived.Test.YtaelkjffidjcjaaDoorLaidA
set_option linter.unusedSimpArgs false
set_option linter.unusedVariables false
namespace Go.Proofs.YtaelkjffidjcjaaDoor
open Go.RowKit PX

set_option maxRecDepth 100000 in
set_option maxHeartbeats 2000000 in
theorem laid_alt (mn mx s0 s1 s2 s3 : Int) (a : Option Addr) (cap : Nat) (l : List RxA) (ih : ∀ x ∈ l, LaidOK x) : LaidOK (.node 2 mn mx s0 s1 s2 s3 a cap l) := by
  intro w base p B v ws g next hm hin hBb hBp hf hg hn hbig
  have hin' := hin
  simp only [RxA.In] at hin'
  obtain ⟨-, hl1, hl2, -, hl⟩ := hin'
  clear hin
  unfold maxLen at hl2
  have hbase := hm.base
  have hB : B ≤ w.heap.size := by omega
  have hfi := (formB_iff _ _ _ _ _ _ _ _).1 (by simpa only [RxA.bare] using hf)
  have hff : formAll (bareAll l) = true := hfi.2
  have hlen : 2 ≤ l.length := by
    have := hfi.1
    rw [bareAll_length] at this
    unfold Shape at this; omega
  clear hfi hf
  have hbl : 2 * bigAll (bareAll l) ≤ 2 * (RxA.node 2 mn mx s0 s1 s2 s3 a cap l).bare.big := by
    simp only [RxA.bare, Rx.big, times]; simp; have := bigAll_nonneg (bareAll l); omega
  rcases hl with rfl | ⟨b, o, rfl, hb, hl⟩
  · simp at hlen
  match l, hlen with
  | x0 :: xs, hlen =>
    simp only [InL] at hl
    obtain ⟨h00, hin0, hl⟩ := hl
    have hget : ∀ j (h : j < xs.length), (∀ i, i < 8 → w.cell? ⟨b, o + 8 + j * 8 + i, none⟩ = xs[j].cells[i]?) ∧ xs[j].In w B := fun j hj => RxA.In.get hl j hj
    have hfx : formAll (bareAll xs) = true := by simp only [bareAll, formAll, Bool.and_eq_true] at hff; exact hff.2
    have hf0 : x0.bare.formB = true := by simp only [bareAll, formAll, Bool.and_eq_true] at hff; exact hff.1
    have hbl2 : 2 * x0.bare.big + 2 * bigAll (bareAll xs) + g.length < 100000 := by simp only [bareAll, bigAll] at hbl; omega
    have hb0 := Rx.big_pos x0.bare
    have hbx := bigAll_nonneg (bareAll xs)
    have hs0 := Rx.lay_sound x0.bare hf0 g next hg hn
    have hll : (RxA.node 2 mn mx s0 s1 s2 s3 (some ⟨b, o, none⟩) cap (x0 :: xs)).bare.lay g next = moreTo xs xs.length (x0.bare.lay g next).1 next (x0.bare.lay g next).2 := by
      simp [RxA.bare, Rx.lay, bareAll, layAlt, moreTo]
    have HLL := Lib.hid hll; clear hll
    have ih0 := Lib.hid (ih x0 (by simp))
    have IH := Lib.hid (fun x (hx : x ∈ xs) => ih x (by simp [hx])); clear ih
    have HG := Lib.hid hget; clear hget hl
    have HFX := Lib.hid hfx; clear hfx hff
    have HF0 := Lib.hid hf0; clear hf0
    have HM := Lib.hid hm; clear hm
    have HPB : p ≠ w.heap.size := by have := lt_of_block HM.out.block; omega
    clear hbig hbl
    obtain ⟨C, HC⟩ : ∃ C, Hid (C = #[Value.int .i64 2, .int .i64 mn, .int .i64 mx, .int .u64 s0, .int .u64 s1, .int .u64 s2, .int .u64 s3, .slice (some ⟨b, o, none⟩) (xs.length + 1) cap]) := ⟨_, rfl⟩
    have hlc : xs.length + 1 ≤ cap := by simpa using hl1
    have hc2 : 2 ≤ cap := by simp only [List.length_cons] at hlen; omega
    clear hl1 hlen
    have hm1 := Lib.hid (HM.out.alloc (.cells C 26))
    have HIN0 := Lib.hid (in_box (.cells C 26) hB hin0); clear hin0
    have hc0 : ∀ i, i < 8 → (w.alloc (.cells C 26)).cell? ⟨b, o + i, none⟩ = x0.cells[i]? := fun i hi => (World.cell?_alloc_past _ _ _ (by show b < w.heap.size; omega)).trans (h00 i hi)
    rw [HC.out] at hc0 hm1 HIN0
    obtain ⟨r0, HR0⟩ : ∃ r0, Hid (x0.bare.lay g next = r0) := ⟨_, rfl⟩
    have HS0 := Lib.hid hs0; clear hs0
    have hlen0 : g.length ≤ r0.1.length ∧ (r0.1.length : Int) ≤ g.length + (2 * x0.bare.big - 1) ∧ r0.2 < r0.1.length := by
      have h := HS0.out
      rw [HR0.out] at h
      exact ⟨h.len, h.most, h.fst⟩
    have hok0 : OkG r0.1 := by have h := HS0.out.ok; rw [HR0.out] at h; exact h
    have HOK0 := Lib.hid hok0; clear hok0
    show Calls Tryd.prog 38 #[.pointer (some ⟨p, 0, none⟩), .agg #[.int .i64 2, .int .i64 mn, .int .i64 mx, .int .u64 s0, .int .u64 s1, .int .u64 s2, .int .u64 s3, .slice (some ⟨b, o, none⟩) (xs.length + 1) cap], .int .i64 next] w _
    generalize hx0b : x0.bare.big = bx0 at *
    have HB0 := Lib.hid hx0b; clear hx0b
    obtain ⟨k', mn', mx', s0', s1', s2', s3', a', cap', l'⟩ := x0
    obtain ⟨d0, d1, d2, d3, d4, d5, d6, d7⟩ := node_cells (o := o) hc0
    clear hc0 h00
    go_enter Tryd.func38, Tryd.ntmps38
    go_wp2_with fail
    refine (ih0.out _ base p B v ws g next hm1.out HIN0.out hBb hBp HF0.out hg hn (by rw [HB0.out]; omega)).mono ?_
    rintro e w1 ⟨rfl, v1, hm2, hk1⟩
    rw [HR0.out]
    rw [HR0.out] at hm2
    have hkb1 := hk1.other (k := w.heap.size) (alloc_block w _) (Ne.symm HPB) (by decide)
    have c7 : w1.cell? ⟨w.heap.size, 7, none⟩ = some (.slice (some ⟨b, o, none⟩) (xs.length + 1) cap) := by rw [cell_of_block hkb1]; rfl
    clear d0 d1 d2 d3 d4 d5 d6 d7
    have HK1 := Lib.hid hk1; clear hk1 hkb1
    have HM2 := Lib.hid hm2; clear hm2 hm1
    go_wp2_with fail
    have hB1 : B ≤ w1.heap.size := by have := HK1.out.size; simp at this; omega
    go_loopw [8, 58] (fun f i wr => ∃ j : Nat, j ≤ xs.length ∧ i = .int .i64 (j : Int) ∧ f = .int .i64 (moreTo xs j r0.1 next r0.2).2 ∧
        ∃ v', MachAt wr base p v' ws (moreTo xs j r0.1 next r0.2).1 ∧ Keeps base p w1 wr) (fun _ i _ => xs.length - (intOf i).toNat)
    case atStart => exact ⟨0, Nat.zero_le _, rfl, rfl, v1, HM2.out, Keeps.refl _ _ _⟩
    case round =>
      obtain ⟨j, hj, rfl, rfl, v', hm', hk⟩ := hrel
      have hs := moreTo_sound HFX.out j HOK0.out (next := next) (f := r0.2) (by omega) hlen0.2.2
      have hbt := bigAll_take xs j
      have hmost := hs.most
      have hok := hs.ok
      have hfst := hs.fst
      have hln := hs.len
      have HM' := Lib.hid hm'; clear hm'
      have HK := Lib.hid hk; clear hk
      have HOK := Lib.hid hok; clear hok hs
      by_cases hlt : j < xs.length
      · obtain ⟨hcs, hxin⟩ := HG.out j hlt
        have hih := IH.out xs[j] (List.getElem_mem hlt)
        have hst := moreTo_step xs j hlt r0.1 next r0.2
        have hbd := big_take xs j hlt
        have hbt2 := bigAll_take xs (j + 1)
        have hxf := formAll_of_mem HFX.out (List.getElem_mem hlt)
        have hbp := Rx.big_pos xs[j].bare
        generalize hxe : xs[j] = x at *
        have HXE := Lib.hid hxe; clear hxe
        have hsx := Rx.lay_sound x.bare hxf (moreTo xs j r0.1 next r0.2).1 next HOK.out (by omega)
        have hmx := hsx.most
        clear hsx
        have HST := Lib.hid hst; clear hst
        have HIH := Lib.hid hih; clear hih
        have HXF := Lib.hid hxf; clear hxf
        have hbw : Below B w wr := ((((Keeps.refl base p w).alloc _).trans HK1.out).trans HK.out).below hB hBb hBp
        obtain ⟨k', mn', mx', s0', s1', s2', s3', a', cap', l'⟩ := x
        obtain ⟨d0, d1, d2, d3, d4, d5, d6, d7⟩ := node_cells (o := o + 8 + j * 8) (fun i hi => (hbw.cell (p := ⟨b, o + 8 + j * 8 + i, none⟩) hb).trans (hcs i hi))
        have HIN := Lib.hid (in_box (.cells #[Value.int .i64 k', .int .i64 mn', .int .i64 mx', .int .u64 s0', .int .u64 s1', .int .u64 s2', .int .u64 s3', .slice a' l'.length cap'] 26) (by have := HK.out.size; omega) (hxin.below hbw (Nat.le_refl _))); clear hxin hcs hbw
        have HMA := Lib.hid (HM'.out.alloc (.cells #[Value.int .i64 k', .int .i64 mn', .int .i64 mx', .int .u64 s0', .int .u64 s1', .int .u64 s2', .int .u64 s3', .slice a' l'.length cap'] 26))
        generalize hbx : (RxA.node k' mn' mx' s0' s1' s2' s3' a' cap' l').bare.big = bx at *
        have HBX := Lib.hid hbx; clear hbx
        go_wp2_with fail
        refine (HIH.out _ base p B v' ws _ _ HMA.out HIN.out hBb hBp HXF.out HOK.out (by omega) (by rw [HBX.out]; omega)).mono ?_
        rintro e w2 ⟨rfl, v2, hm3, hk2⟩
        obtain ⟨q, HQ⟩ : ∃ q, Hid ((RxA.node k' mn' mx' s0' s1' s2' s3' a' cap' l').bare.lay (moreTo xs j r0.1 next r0.2).1 next = q) := ⟨_, rfl⟩
        rw [HQ.out]
        rw [HQ.out] at hm3 hmx
        obtain ⟨f0, HF0⟩ : ∃ f0, Hid ((moreTo xs j r0.1 next r0.2).2 = f0) := ⟨_, rfl⟩
        rw [HF0.out]
        have HK2 := Lib.hid hk2; clear hk2
        have HM3 := Lib.hid hm3; clear hm3
        go_wp2_with fail
        refine (add_any (St.split f0 q.2) _ base p v2 ws _ HM3.out (by omega)).mono ?_
        rintro e w3 ⟨rfl, v3, hm4, hk3⟩
        go_wp2_with fail
        go_roundw
        case rel => exact ⟨j + 1, by omega, by go_num, by rw [HST.out, HQ.out], v3, by rw [HST.out, HQ.out, HF0.out]; exact hm4, ((HK.out.alloc _).trans HK2.out).trans hk3⟩
        case measure => simp only [intOf]; omega
      · have hje : j = xs.length := by omega
        subst hje
        go_wp2_with fail
        go_ret
        refine ⟨ret_int (by rw [HLL.out, HR0.out]), v', by rw [HLL.out, HR0.out]; exact HM'.out, ?_⟩
        exact (((Keeps.refl base p w).alloc _).trans HK1.out).trans HK.out
end Go.Proofs.YtaelkjffidjcjaaDoor
