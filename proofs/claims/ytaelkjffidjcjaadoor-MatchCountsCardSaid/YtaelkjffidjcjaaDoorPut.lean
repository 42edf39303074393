/- The walk of (*Machine).put. -/
import Derived.Test.YtaelkjffidjcjaaDoorSet
import Derived.BigRegion
import Derived.Deep.LoopGhost
import Derived.Deep.QuietTactic
import Derived.BigQuiet
set_option linter.unusedSimpArgs false
set_option linter.unusedVariables false
namespace Go.Proofs.YtaelkjffidjcjaaDoor
open Go.RowKit PX

/-- States as they are read: a slice over a row. -/
structure StatesAt (w : World) (v : Value) (g : List St) : Prop where
  ex : ∃ gb cap, v = .slice (some ⟨gb, 0, none⟩) g.length cap ∧ g.length ≤ cap ∧ cap ≤ 9223372036854775807 ∧
    ∀ (i : Nat) (st : St), g[i]? = some st → ∀ j, j < 7 → w.cell? ⟨gb, i * 7 + j, none⟩ = (stCells st)[j]?

theorem info_int : (Tryd.prog.info? 3).map (fun i => (i.zero, i.size, i.bytes)) = some (some (.int .i64 0), 1, 8) := by kernel_rfl
def iv (l : List Nat) : List Value := l.map fun n : Nat => Value.int .i64 (n : Int)

set_option maxRecDepth 100000 in
set_option maxHeartbeats 2000000 in
theorem put_any (w : World) (p q : Nat) (v : Value) (g : List St) (pre : List Value) (tq : TypeId) (ws : List Int) (at_ : Nat)
    (hv : StatesAt w v g) (hp : w.cell? ⟨p, 0, none⟩ = some v) (hq : w.heap[q]? = some (.cells (pre ++ wv ws).toArray tq (0, 0))) (hpre : pre.length ≤ 1) (hqp : q = p → pre.length = 1)
    (hqv : v.ownBlock ≠ some q) (hg : OkG g) (hgl : g.length ≤ 700) (ha : at_ < g.length) (hw : Words ws) (hs : Shut g (fun i => bitW ws i = true)) :
    Calls Tryd.prog 37 #[.pointer (some ⟨p, 0, none⟩), .pointer (some ⟨q, pre.length, none⟩), .int .i64 at_] w fun e w' => e = .returned (.tuple #[]) ∧
      ∃ ws', w'.heap[q]? = some (.cells (pre ++ wv ws').toArray tq (0, 0)) ∧ Words ws' ∧ (∀ i, bitW ws' i = true ↔ bitW ws i = true ∨ Eps g at_ i) ∧ Only (fun k => k = q) w w' := by
  obtain ⟨gb, cap, rfl, hcap1, hcap2, hst⟩ := hv.ex
  have HST := Lib.hid hst; clear hst hv
  have HQ := Lib.hid hq; clear hq
  have HP := Lib.hid hp; clear hp
  have HI := Lib.hid (putInv_start hw ha hs); clear hs
  have hqb := lt_of_block HQ.out
  have hpb : p < w.heap.size := World.block_lt_of_cell? _ _ HP.out
  have hgb : gb < w.heap.size ∧ gb ≠ q := by
    obtain ⟨st, hst⟩ : ∃ st, g[at_]? = some st := ⟨g[at_], List.getElem?_eq_getElem ha⟩
    refine ⟨World.block_lt_of_cell? _ _ (HST.out at_ st hst 0 (by omega)), ?_⟩
    simpa only [Value.ownBlock, ne_eq, Option.some.injEq] using hqv
  obtain ⟨i0, hi, hz0, hz1, hz2⟩ := info_parts info_int
  go_enter Tryd.func37, Tryd.ntmps37
  go_wp2_with fail
  go_step3
  go_wp2_with fail
  go_step3
  go_wp2_with fail
  go_loopg [6] (3 * unset ws g.length + 1) (fun gk v6 wr => ∃ (stack : List Nat) (ws' : List Int), gk = 3 * unset ws' g.length + stack.length ∧ gk ≤ 2101 ∧ wr.ownsRow w.heap.size 3 1 v6 stack.length (iv stack) ∧
      wr.heap[q]? = some (.cells (pre ++ wv ws').toArray tq (0, 0)) ∧ PutInv g ws at_ ws' stack ∧ Only (fun k => k = q) w wr ∧ w.heap.size < wr.heap.size)
  case atStart =>
    refine ⟨[at_], ws, rfl, by have := unset_le ws g.length; omega, ?_, alloc_old HQ.out _, HI.out, (Only.refl _ w).alloc _, by simp⟩
    refine ⟨by simp [iv], .inr ⟨w.heap.size, 1, #[.int .i64 (at_ : Int)], rfl, Nat.le_refl _, heap_alloc_new w _, ?_⟩⟩
    exact ⟨by simp, by unfold maxLen; omega, rfl, by simp [iv]⟩
  case round =>
    obtain ⟨stack, ws', hgk, hgm, hown, hqr, hinv, honly, hsz⟩ := hrel
    have HGK := Lib.hid hgk; clear hgk
    obtain rfl | ⟨st, n, rfl⟩ : stack = [] ∨ ∃ st n, stack = st ++ [n] := by
      rcases List.eq_nil_or_concat stack with h | ⟨a, b, h⟩
      · exact .inl h
      · exact .inr ⟨a, b, by simpa using h⟩
    · simp only [List.length_nil] at hown
      have hvv : ∃ a c, u6 = .slice a 0 c := by
        rcases hown.2 with ⟨rfl, _⟩ | ⟨g', c, cur, rfl, _⟩
        · exact ⟨_, _, rfl⟩
        · exact ⟨_, _, rfl⟩
      obtain ⟨a6, c6, rfl⟩ := hvv
      go_wp2_with fail
      rw [Exit.noGoto_normal]
      go_wp2_with fail
      go_end0
      refine ⟨rfl, ws', hqr, hinv.words, fun i => putInv_end hinv i, honly⟩
    · have HINV := Lib.hid hinv; clear hinv
      have HQR := Lib.hid hqr; clear hqr
      have hn : n < g.length := HINV.out.lt n (by simp)
      obtain ⟨wb, wcap, rfl, hwc1, hwc2⟩ := ownsRow_pos hown (by simp)
      have hll : (st ++ [n]).length = st.length + 1 := by simp
      rw [hll] at hown hwc1 ⊢
      clear hll
      have hlast : wr.cell? ⟨wb, st.length, none⟩ = some (.int .i64 n) := by
        rw [hown.cellAt st.length (by omega)]; simp [iv]
      have HOWN := Lib.hid hown; clear hown
      have hword : wr.cell? ⟨q, pre.length + n / 64, none⟩ = some (.int .u64 (ws'[n / 64]?.getD 0)) := by
        rw [cell_of_block HQR.out]
        have h := (word_get HINV.out.words (n / 64) (by omega)).1
        simp only [List.getElem?_toArray]
        rw [List.getElem?_append_right (by omega), Nat.add_sub_cancel_left, wv, List.getElem?_map, h]
        rfl
      have hwf : wr.frozen? ⟨q, pre.length + n / 64, none⟩ = false := free_of_block HQR.out _
      have hwb := (word_get HINV.out.words (n / 64) (by omega)).2
      have hbt := bit_test (ws'[n / 64]?.getD 0) (n % 64) hwb
      have hbt2 : bitW ws' n = (bits BinOp.and IntKind.u64 ((ws'[n / 64]?.getD 0) / 2 ^ (n % 64)) 1 == 1) := hbt.symm
      clear hbt
      obtain ⟨W, HW⟩ : ∃ W, Hid (ws'[n / 64]?.getD 0 = W) := ⟨_, rfl⟩
      rw [HW.out] at hword hwb hbt2
      obtain ⟨stt, hstt⟩ : ∃ stt, g[n]? = some stt := ⟨g[n], List.getElem?_eq_getElem hn⟩
      have hcells : ∀ j, j < 7 → wr.cell? ⟨gb, n * 7 + j, none⟩ = (stCells stt)[j]? := fun j hj => (honly.cell (p := ⟨gb, n * 7 + j, none⟩) hgb.1 hgb.2).trans (HST.out n stt hstt j hj)
      have hpc : wr.cell? ⟨p, 0, none⟩ = some (.slice (some ⟨gb, 0, none⟩) g.length cap) := by
        by_cases hpq : q = p
        · subst hpq
          rw [cell_of_block HQR.out 0]
          have h := HP.out
          rw [cell_of_block HQ.out 0] at h
          simp only [List.getElem?_toArray] at h ⊢
          rw [List.getElem?_append_left (by have := hqp rfl; omega)] at h ⊢
          exact h
        · exact (honly.cell (p := ⟨p, 0, none⟩) hpb (fun h => hpq h.symm)).trans HP.out
      have hokst := hg stt (List.mem_of_getElem? hstt)
      have HSTT := Lib.hid hstt; clear hstt
      have k0 := hcells 0 (by omega)
      have k1 := hcells 1 (by omega)
      have k2 := hcells 2 (by omega)
      simp only [Nat.add_zero, stCells, List.getElem?_cons_zero, List.getElem?_cons_succ] at k0 k1 k2
      clear hcells
      cases hbb : bitW ws' n
      · rw [hbb] at hbt2
        have hbt3 := hbt2.symm
        clear hbt2
        have HBB := Lib.hid hbb; clear hbb
        go_wp2_with fail
        go_region
        generalize hWZ : World.drew _ = WZ
        have hq2 : WZ.heap[q]? = some (.cells (pre ++ wv (setW ws' n)).toArray tq (0, 0)) := by
          rw [← hWZ, or_bit W (n % 64) hwb (Nat.mod_lt _ (by omega))]
          show (wr.setCell _ _).heap[q]? = _
          rw [setCell_block HQR.out]
          congr 2
          rw [setW, HW.out, wv, wv, List.map_set]
          apply Array.ext'
          simp only [Array.toList_setIfInBounds]
          rw [List.set_append_right _ _ (by omega), Nat.add_sub_cancel_left]
        have ho2 : Only (fun k => k = q) w WZ := by
          rw [← hWZ]
          exact (honly.setCell (.inl rfl) _).drew
        have hr2 : Only (fun k => k = q) wr WZ := by
          rw [← hWZ]
          exact ((Only.refl (fun k => k = q) wr).setCell (p := ⟨q, _, none⟩) (.inl rfl) _).drew
        have hqn : ∀ k, k = wb → k ≠ q := by
          rintro k rfl rfl
          have h := HOWN.out.lt k rfl
          omega
        have hrow2 := ownsRow_pop (size := 1) (n := st.length) (xs := iv st) (last := [.int .i64 (n : Int)]) (by simp [iv]) (by have h := HOWN.out; simpa [iv] using h)
        have hrow3 := hr2.ownsRow hrow2 (by rintro k hk rfl; simp only [Value.ownBlock, Option.some.injEq] at hk; exact hqn _ hk.symm rfl)
        have hzs : w.heap.size < WZ.heap.size := by have := hr2.size; omega
        have gq : gb < wr.heap.size := World.block_lt_of_cell? _ _ k0
        have z0 := (hr2.cell (p := ⟨gb, n * 7, none⟩) gq hgb.2).trans k0
        have z1 := (hr2.cell (p := ⟨gb, n * 7 + 1, none⟩) gq hgb.2).trans k1
        have z2 := (hr2.cell (p := ⟨gb, n * 7 + 2, none⟩) gq hgb.2).trans k2
        have zp : WZ.cell? ⟨p, 0, none⟩ = some (.slice (some ⟨gb, 0, none⟩) g.length cap) := by
          rw [← hWZ]
          show (wr.setCell _ _).cell? _ = _
          rw [World.cell?_setCell_other _ _ _ _ (by
            intro h
            have h1 := congrArg Addr.block h
            have h2 := congrArg Addr.off h
            simp only at h1 h2
            have := hqp (by omega)
            omega)]
          exact hpc
        clear hWZ hrow2 hr2 k0 k1 k2 hpc hword hwf hlast honly hsz
        have HQ2 := Lib.hid hq2; clear hq2
        have HO2 := Lib.hid ho2; clear ho2
        have HR3 := Lib.hid hrow3; clear hrow3
        have hmeas := unset_setW HINV.out.words hn (by omega) HBB.out
        cases hkind : (stt.kind == 1)
        · go_wp2_with fail
          go_roundg (3 * unset (setW ws' n) g.length + st.length)
          case measure => have := HGK.out; simp at this; omega
          case rel =>
            refine ⟨st, setW ws' n, rfl, by have := HGK.out; simp at this; omega, HR3.out, HQ2.out, ?_, HO2.out, hzs⟩
            have h := putInv_put (more := []) HINV.out (by omega) (by simp) (by simp) (fun st' hs' hk' => by rw [HSTT.out] at hs'; cases hs'; rw [hk'] at hkind; cases hkind)
            simpa using h
        · have hstl : st.length < 2200 := by have := HGK.out; simp at this; omega
          have hwbl := HOWN.out.lt wb rfl
          have H1 := Lib.hid (show ∀ u ∈ [Value.int .i64 stt.next, .int .i64 stt.other], u.oneCell' = true by
            intro u hu
            simp only [List.mem_cons, List.not_mem_nil, or_false] at hu
            rcases hu with rfl | rfl <;> rfl)
          go_wp2_with fail
          go_region_law (((refine step_append_own rfl _ _ 90 rfl w.heap.size 3 i0 _ 1 8 Tryd.underlying90 hi hz0 hz1 hz2 rfl (by decide) (.slice (some ⟨wb, 0, none⟩) st.length wcap) st.length (iv st) rfl ((HR3.out.alloc _).drew) ⟨WZ.heap.size, 0, none⟩ 2 2 [.int .i64 stt.next, .int .i64 stt.other] rfl rfl (cells_new_drew WZ [.int .i64 stt.next, .int .i64 stt.other] 3) H1.out (by unfold maxLen; omega) (by omega) (by simp; omega) ?_); intro v' w1 hown hgrow _))
          all_goals
            go_wp2_with fail
            go_roundg (3 * unset (setW ws' n) g.length + (st.length + 2))
            case measure => have := HGK.out; simp at this; omega
            case rel =>
              refine ⟨st ++ [stt.next.toNat, stt.other.toNat], setW ws' n, by simp, by have := HGK.out; simp at this; omega, ?_, ?_, ?_, ?_, ?_⟩
              · have e : iv (st ++ [stt.next.toNat, stt.other.toNat]) = iv st ++ [.int .i64 stt.next, .int .i64 stt.other] := by
                  have e1 : ((stt.next.toNat : Nat) : Int) = stt.next := by omega
                  have e2 : ((stt.other.toNat : Nat) : Int) = stt.other := by omega
                  simp [iv, e1, e2]
                rw [e]
                simpa using hown
              · rw [hgrow.block q (by have := lt_of_block HQ2.out; simp; omega) (by simp only [Value.ownBlock, ne_eq, Option.some.injEq]; intro h; exact hqn _ h rfl)]
                exact alloc_old HQ2.out _
              · refine putInv_put HINV.out (by omega) ?_ ?_ ?_
                · intro i hi
                  simp only [List.mem_cons, List.not_mem_nil, or_false] at hi
                  rcases hi with rfl | rfl <;> omega
                · intro i hi
                  have hk1 : stt.kind = 1 := by simpa using hkind
                  simp only [List.mem_cons, List.not_mem_nil, or_false] at hi
                  rcases hi with rfl | rfl
                  · exact .next HSTT.out hk1 (.refl _)
                  · exact .other HSTT.out hk1 (.refl _)
                · intro st' hs' _
                  rw [HSTT.out] at hs'; cases hs'
                  exact ⟨by simp, by simp⟩
              · exact ((HO2.out.alloc _).drew).grown hgrow (by intro k hk; simp only [Value.ownBlock, Option.some.injEq] at hk; right; omega)
              · have := hgrow.size; simp at this; omega
      · rw [hbb] at hbt2
        have hbt3 := hbt2.symm
        clear hbt2
        have HBB := Lib.hid hbb; clear hbb
        have hrow2 := ownsRow_pop (size := 1) (n := st.length) (xs := iv st) (last := [.int .i64 (n : Int)]) (by simp [iv]) (by have h := HOWN.out; simpa [iv] using h)
        have HR2 := Lib.hid hrow2; clear hrow2
        go_wp2_with fail
        go_roundg (3 * unset ws' g.length + st.length)
        case measure => have := HGK.out; simp at this; omega
        case rel => exact ⟨st, ws', rfl, by have := HGK.out; simp at this; omega, HR2.out, HQR.out, putInv_skip HINV.out HBB.out, honly, hsz⟩
end Go.Proofs.YtaelkjffidjcjaaDoor
