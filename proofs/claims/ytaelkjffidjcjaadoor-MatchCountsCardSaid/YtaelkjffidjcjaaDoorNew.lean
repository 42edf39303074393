/- The walk of New. -/
import Derived.Test.YtaelkjffidjcjaaDoorW64
set_option linter.unusedSimpArgs false
set_option linter.unusedVariables false
namespace Go.Proofs.YtaelkjffidjcjaaDoor
open Go.RowKit PX

theorem MachAt.states {w : World} {base p : Nat} {v : Value} {ws : List Value} {g : List St} (h : MachAt w base p v ws g) (hg : 0 < g.length) : StatesAt w v g := by
  obtain ⟨gb, cap, rfl, h1, h2⟩ := ownsRow_pos h.row hg
  refine ⟨gb, cap, rfl, h1, h2, fun i st hi j hj => ?_⟩
  have hil : i < g.length := (List.getElem?_eq_some_iff.1 hi).1
  rw [h.row.cellAt (i * 7 + j) (by omega)]
  exact stsCells_get g i j st hi hj

def st0 : St := ⟨2, 0, 0, 0, 0, 0, 0⟩
/-- A machine of one state, as New lays it. -/
theorem machAt_first (w : World) : MachAt ((w.alloc (.cells #[.int .i64 2, .int .i64 0, .int .i64 0, .int .u64 0, .int .u64 0, .int .u64 0, .int .u64 0] 63)).alloc
      (.cells #[.slice (some ⟨w.heap.size, 0, none⟩) 1 1, .int .u64 0, .int .u64 0, .int .u64 0, .int .u64 0, .int .u64 0, .int .u64 0, .int .u64 0, .int .u64 0, .int .u64 0, .int .u64 0, .int .u64 0, .int .u64 0] 68))
    w.heap.size (w.heap.size + 1) (.slice (some ⟨w.heap.size, 0, none⟩) 1 1) (wv (List.replicate 12 0)) [st0] := by
  refine ⟨?_, rfl, ?_, ?_, by simp; omega, by simp⟩
  · have h := alloc_block (w.alloc (.cells #[.int .i64 2, .int .i64 0, .int .i64 0, .int .u64 0, .int .u64 0, .int .u64 0, .int .u64 0] 63))
      (.cells #[.slice (some ⟨w.heap.size, 0, none⟩) 1 1, .int .u64 0, .int .u64 0, .int .u64 0, .int .u64 0, .int .u64 0, .int .u64 0, .int .u64 0, .int .u64 0, .int .u64 0, .int .u64 0, .int .u64 0, .int .u64 0] 68)
    rw [show (w.alloc (.cells #[.int .i64 2, .int .i64 0, .int .i64 0, .int .u64 0, .int .u64 0, .int .u64 0, .int .u64 0] 63)).heap.size = w.heap.size + 1 by simp] at h
    exact h
  · refine World.ownsRow.alloc ?_ _
    exact ⟨by simp [stsCells, stCells], .inr ⟨w.heap.size, 1, #[.int .i64 2, .int .i64 0, .int .i64 0, .int .u64 0, .int .u64 0, .int .u64 0, .int .u64 0], rfl, Nat.le_refl _, heap_alloc_new w _, by simp, by unfold maxLen; omega, rfl, rfl⟩⟩
  · simp only [Value.ownBlock, ne_eq, Option.some.injEq]; omega

set_option maxRecDepth 100000 in
set_option maxHeartbeats 2000000 in
theorem new_any (x : RxA) (w : World) (B : Nat) (hB : B ≤ w.heap.size) (hin : x.In w B) :
    Calls Tryd.prog 14 #[x.val] w fun e w' => Below w.heap.size w w' ∧
      ((checkR x.bare = 0 ∧ ∃ p, e = .returned (.tuple #[.pointer (some ⟨p, 0, none⟩), .int .i64 0]) ∧ w.heap.size ≤ p ∧ Machine w' p x.bare) ∨
       (checkR x.bare ≠ 0 ∧ e = .returned (.tuple #[.pointer none, .int .i64 (checkR x.bare)]))) := by
  have hck := pcheck_any x (w.alloc (.cells x.cells.toArray 26)) B (by simp; omega) (in_box _ hB hin)
  have HCK := Lib.hid hck; clear hck
  obtain ⟨X, HX⟩ : ∃ X, Hid (x = X) := ⟨_, rfl⟩
  obtain ⟨k, mn, mx, s0, s1, s2, s3, a, cap, l⟩ := x
  simp only [RxA.val, RxA.cells] at HCK ⊢
  rw [HX.out] at HCK hin ⊢
  go_enter Tryd.func14, Tryd.ntmps14
  cases hc0 : (checkR X.bare != 0)
  · have hc1 : checkR X.bare = 0 := by simpa using hc0
    rw [hc1] at HCK hc0
    have HC1 := Lib.hid hc1; clear hc1
    go_wp2_with (go_at_call 31; refine HCK.out.mono ?_; rintro e w1 ⟨rfl, hb1⟩)
    have hbw : Below w.heap.size w w1 := by
      have h := hb1
      rw [show (w.alloc (.cells #[.int .i64 k, .int .i64 mn, .int .i64 mx, .int .u64 s0, .int .u64 s1, .int .u64 s2, .int .u64 s3, .slice a l.length cap] 26)).heap.size = w.heap.size + 1 by simp] at h
      exact ((Below.refl w.heap.size w).alloc (Nat.le_refl _) _).trans (h.mono (by omega))
    have hm4 := machAt_first w1
    have hs1 : w.heap.size < w1.heap.size := by have := hb1.size; simp at this; omega
    have hb4 := (hb1.alloc (by simp; omega) (.cells #[.int .i64 2, .int .i64 0, .int .i64 0, .int .u64 0, .int .u64 0, .int .u64 0, .int .u64 0] 63)).alloc (by simp; omega)
      (.cells #[.slice (some ⟨w1.heap.size, 0, none⟩) 1 1, .int .u64 0, .int .u64 0, .int .u64 0, .int .u64 0, .int .u64 0, .int .u64 0, .int .u64 0, .int .u64 0, .int .u64 0, .int .u64 0, .int .u64 0, .int .u64 0] 68)
    have hbw4 := (hbw.alloc (by omega) (.cells #[.int .i64 2, .int .i64 0, .int .i64 0, .int .u64 0, .int .u64 0, .int .u64 0, .int .u64 0] 63)).alloc (by simp; omega)
      (.cells #[.slice (some ⟨w1.heap.size, 0, none⟩) 1 1, .int .u64 0, .int .u64 0, .int .u64 0, .int .u64 0, .int .u64 0, .int .u64 0, .int .u64 0, .int .u64 0, .int .u64 0, .int .u64 0, .int .u64 0, .int .u64 0] 68)
    have hs4 : w1.heap.size + 2 ≤ ((w1.alloc (.cells #[.int .i64 2, .int .i64 0, .int .i64 0, .int .u64 0, .int .u64 0, .int .u64 0, .int .u64 0] 63)).alloc
      (.cells #[.slice (some ⟨w1.heap.size, 0, none⟩) 1 1, .int .u64 0, .int .u64 0, .int .u64 0, .int .u64 0, .int .u64 0, .int .u64 0, .int .u64 0, .int .u64 0, .int .u64 0, .int .u64 0, .int .u64 0, .int .u64 0] 68)).heap.size := by simp
    generalize World.alloc (World.alloc w1 _) _ = W4 at *
    have hlt : w.heap.size < (w.alloc (.cells #[.int .i64 k, .int .i64 mn, .int .i64 mx, .int .u64 s0, .int .u64 s1, .int .u64 s2, .int .u64 s3, .slice a l.length cap] 26)).heap.size := by simp
    have c0 := laid_cell hb4 hlt 0 _ rfl
    have c1 := laid_cell hb4 hlt 1 _ rfl
    have c2 := laid_cell hb4 hlt 2 _ rfl
    have c3 := laid_cell hb4 hlt 3 _ rfl
    have c4 := laid_cell hb4 hlt 4 _ rfl
    have c5 := laid_cell hb4 hlt 5 _ rfl
    have c6 := laid_cell hb4 hlt 6 _ rfl
    have c7 := laid_cell hb4 hlt 7 _ rfl
    clear hb1 hb4 hbw HCK hlt
    have hck : X.bare.formB = true ∧ X.bare.sizeI ≤ 256 := by
      have h := HC1.out
      unfold checkR at h
      split at h
      · split at h
        · omega
        · exact ⟨by assumption, by omega⟩
      · omega
    have hmo := X.bare.machine_ok hck.1
    have hsz := X.bare.sizeI_eq
    have hbig : X.bare.big ≤ 256 := by omega
    have hok0 : OkG [st0] := by intro st hst; simp only [List.mem_singleton] at hst; subst hst; simp [st0]
    have hinW : X.In W4.drew B := hin.below hbw4.drew hB
    have hlaid := laid_any X W4.drew w1.heap.size (w1.heap.size + 1) B _ _ [st0] 0 (hm4.drewN 1) hinW (by omega) (by omega) hck.1 hok0 (by simp) (by simp; omega)
    have hval : X.val = .agg #[.int .i64 k, .int .i64 mn, .int .i64 mx, .int .u64 s0, .int .u64 s1, .int .u64 s2, .int .u64 s3, .slice a l.length cap] := by rw [← HX.out]; rfl
    rw [hval] at hlaid
    have HLAID := Lib.hid hlaid; clear hlaid hm4 hinW
    have hshut : Shut X.bare.machine.1 (fun i => bitW (List.replicate 12 0) i = true) := by
      intro i st h _ _; rw [bitW_zero] at h; cases h
    have HSH := Lib.hid hshut; clear hshut
    have HMO := Lib.hid hmo; clear hmo
    have HCH := Lib.hid hck; clear hck
    have HBW := Lib.hid hbw4; clear hbw4
    have h700 : X.bare.machine.1.length ≤ 700 := by have := HMO.out; omega
    have h1st : 0 < X.bare.machine.1.length := by have := HMO.out; omega
    have hput : ∀ w2 v2, MachAt w2 w1.heap.size (w1.heap.size + 1) v2 (wv (List.replicate 12 0)) X.bare.machine.1 →
        Calls Tryd.prog 37 #[.pointer (some ⟨w1.heap.size + 1, 0, none⟩), .pointer (some ⟨w1.heap.size + 1, 1, none⟩), .int .i64 ((X.bare.machine.2 : Nat) : Int)] w2 fun e w' => e = .returned (.tuple #[]) ∧
          ∃ ws', w'.heap[w1.heap.size + 1]? = some (.cells ([v2] ++ wv ws').toArray 68 (0, 0)) ∧ Words ws' ∧ (∀ i, bitW ws' i = true ↔ bitW (List.replicate 12 0) i = true ∨ Eps X.bare.machine.1 X.bare.machine.2 i) ∧ Only (fun k => k = w1.heap.size + 1) w2 w' := by
      intro w2 v2 hm2
      exact put_any w2 (w1.heap.size + 1) (w1.heap.size + 1) v2 X.bare.machine.1 [v2] 68 (List.replicate 12 0) X.bare.machine.2 (hm2.states h1st) (by rw [cell_of_block hm2.block]; rfl) hm2.block (by simp) (by simp) hm2.apart HMO.out.1 h700 HMO.out.2.1 words_zero HSH.out
    have HPUT := Lib.hid hput; clear hput
    go_region_with (first
      | (go_at_call 38; refine HLAID.out.mono ?_; rintro e w2 ⟨rfl, v2, hm2, hk2⟩)
      | (go_at_call 37; refine (HPUT.out w2 v2 hm2).mono ?_; rintro e w3 ⟨rfl, ws3, hq3, hw3, hb3, ho3⟩))
    go_wp2_with fail
    go_ret2
    have hbw2 : Below w.heap.size w w2 := HBW.out.drew.trans ((hk2.below (B := w.heap.size) (by simp; omega) (by omega) (by omega)))
    have hbw3 := hbw2.trans (ho3.below (B := w.heap.size) (by have := hbw2.size; omega) (by intro j hj; omega))
    have hm2' : MachAt w2 w1.heap.size (w1.heap.size + 1) v2 (wv (List.replicate 12 0)) X.bare.machine.1 := hm2
    refine ⟨hbw3, .inl ⟨HC1.out, w1.heap.size + 1, rfl, by omega, HCH.out.1, in_ok64 hin, HCH.out.2, v2, ws3, hq3, ?_, hw3, fun i => ?_⟩⟩
    · exact (hm2'.states h1st).only ho3 (by rintro j hj rfl; exact hm2'.apart hj)
    · rw [hb3 i, bitW_zero]; simp
  · go_wp2_with (go_at_call 31; refine HCK.out.mono ?_; rintro e w1 ⟨rfl, hb1⟩)
    go_ret2
    have hbw : Below w.heap.size w w1 := by
      have h := hb1
      rw [show (w.alloc (.cells #[.int .i64 k, .int .i64 mn, .int .i64 mx, .int .u64 s0, .int .u64 s1, .int .u64 s2, .int .u64 s3, .slice a l.length cap] 26)).heap.size = w.heap.size + 1 by simp] at h
      exact ((Below.refl w.heap.size w).alloc (Nat.le_refl _) _).trans (h.mono (by omega))
    exact ⟨hbw, .inr ⟨by simpa using hc0, rfl⟩⟩
end Go.Proofs.YtaelkjffidjcjaaDoor
