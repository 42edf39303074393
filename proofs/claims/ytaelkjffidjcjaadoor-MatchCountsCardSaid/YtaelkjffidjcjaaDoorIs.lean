/- The walk of Is. -/
import Derived.Test.YtaelkjffidjcjaaDoorTell
import Derived.Lib.ConvBytes
set_option linter.unusedSimpArgs false
set_option linter.unusedVariables false
namespace Go.Proofs.YtaelkjffidjcjaaDoor
open Go.RowKit PX

theorem Only.setRow {r : Nat → Prop} {a w : World} (h : Only r a w) {q : Nat} (hq : r q ∨ a.heap.size ≤ q) (cs : Array Value) : Only r a (w.setRow q cs) :=
  ⟨h.os, h.tape, h.output, by simpa using h.size, fun k hk hr => (setRow_other w q k cs (by rintro rfl; rcases hq with hq | hq; exact hr hq; omega)).trans (h.block k hk hr)⟩
theorem wv12 {ws : List Int} (h : Words ws) : (wv ws).toArray.size = 12 := by simp [wv, h.len]
theorem wvOne (ws : List Int) : (wv ws).toArray.all (·.oneCell') = true := by simp [wv, Value.oneCell']
theorem wvInfo {ws : List Int} (h : Words ws) : (Tryd.prog.info? 66).map (·.size) = some (wv ws).toArray.size := by rw [wv12 h]; exact info_many
theorem after_lt {g : List St} (hg : OkG g) {S : Nat → Prop} {b : UInt8} {i : Nat} (h : after g S b i) : i < g.length := by
  obtain ⟨m, st, -, hm, -, he⟩ := h
  have := hg st (List.mem_of_getElem? hm)
  exact eps_lt hg he (by omega)

set_option maxRecDepth 100000 in
set_option maxHeartbeats 2000000 in
theorem is_any (w : World) (p : Nat) (x : Rx) (s : ByteArray) (h : Machine w p x) (hT : TabAt 0 Lib.deBruijn64tab w) :
    Calls Tryd.prog 17 #[.pointer (some ⟨p, 0, none⟩), .string s] w fun e w' => Below w.heap.size w w' ∧
      ((256 < s.size ∧ e = .returned (.tuple #[.bool false, .int .i64 60])) ∨ (s.size ≤ 256 ∧ ∃ r : Bool, e = .returned (.tuple #[.bool r, .int .i64 0]) ∧ (r = true ↔ x.lang s.data.toList))) := by
  have HM := Lib.hid h
  obtain ⟨v, ws, hp, hv, hw, hs⟩ := h.ex
  obtain ⟨CS, HCS⟩ : ∃ CS, Hid ((wv ws).toArray = CS) := ⟨_, rfl⟩
  have hcs : CS.size = 12 := by rw [← HCS.out]; simp [wv, hw.len]
  have HSZ := Lib.hid (show (Tryd.prog.info? 66).map (·.size) = some CS.size by rw [hcs]; exact info_many)
  have HC := Lib.hid (show ∀ j u, CS[j]? = some u → w.cell? ⟨p, 1 + j, none⟩ = some u by
    intro j u hj
    rw [cell_of_block hp, List.getElem?_toArray, Nat.add_comm, List.getElem?_cons_succ, ← List.getElem?_toArray, HCS.out]
    exact hj)
  have H12 := Lib.hid (show (12 : Nat) = CS.size from hcs.symm); clear hcs
  have H1 := Lib.hid (show CS.all (·.oneCell') = true by rw [← HCS.out]; simp [wv, Value.oneCell'])
  have HZ := Lib.hid (show (w.alloc zero12).heap[w.heap.size]? = some zero12 from alloc_block w _)
  have HT := Lib.hid hT; clear hT hp
  go_enter Tryd.func17, Tryd.ntmps17
  by_cases hl : 256 < s.size
  · go_wp2_with fail
    go_ret2
    exact ⟨Below.refl _ _, .inl ⟨hl, rfl⟩⟩
  · have hconv : ∀ W : World, (convert 9 43 (.string s)).run Tryd.prog W = .ok (.slice (some ⟨W.heap.size, 0, none⟩) s.size (grownCap W s.size 0 5)) (Lib.bytesWorld W 5 s) :=
      fun W => Lib.run_convert_string_bytes W _ _ _ s Tryd.underlying9 Tryd.underlying43 Tryd.underlying5
    go_wp2_with (first
      | refine wpList_load_at rfl 66 (.tmp 14) rfl p 1 rfl CS _ HC.out Tryd.underlying66 rfl HSZ.out ?_
      | refine wpList_store_row rfl 66 (.tmp 6) (.tmp 15) rfl w.heap.size CS rfl rfl 66 _ HZ.out HSZ.out H12.out H1.out ?_)
    have hW1 : ∀ W1, W1 = (w.alloc zero12).setRow w.heap.size CS → W1.heap.size = w.heap.size + 1 ∧ W1.heap[w.heap.size]? = some (.cells CS 66 (0, 0)) ∧ Below w.heap.size w W1 := by
      rintro W1 rfl
      refine ⟨by simp, setRow_heap _ _ _ _ _ _ HZ.out, ?_⟩
      have h1 := (Below.refl w.heap.size w).alloc (Nat.le_refl _) zero12
      exact ⟨h1.os, h1.tape, h1.output, by simp, fun k hk => (setRow_other _ _ _ _ (by omega)).trans (h1.block k hk)⟩
    generalize hg1 : World.setRow (World.alloc w _) _ _ = W1
    obtain ⟨hz1, hr1, hb1⟩ := hW1 W1 hg1.symm
    clear hW1 hg1 hconv
    have hz2 : (Lib.bytesWorld W1 5 s).heap.size = w.heap.size + 2 := by rw [Lib.bytesWorld_size, hz1]
    have hr2 : (Lib.bytesWorld W1 5 s).heap[w.heap.size]? = some (.cells CS 66 (0, 0)) := by rw [Lib.bytesWorld_at_old _ _ _ _ (by omega)]; exact hr1
    have hb2 : Below w.heap.size w (Lib.bytesWorld W1 5 s) :=
      ⟨hb1.os, hb1.tape, hb1.output, by omega, fun k hk => (Lib.bytesWorld_at_old _ _ _ _ (by omega)).trans (hb1.block k hk)⟩
    have hby : ∀ j, j < s.size → (Lib.bytesWorld W1 5 s).cell? ⟨w.heap.size + 1, j, none⟩ = some (.int .u8 (s.data.toList.getD j 0).toNat) := by
      intro j hj
      rw [← hz1]; exact Lib.bytesWorld_cell _ _ _ _ hj
    generalize Lib.bytesWorld W1 5 s = W2 at *
    clear hr1 hb1 hz1
    have HR2 := Lib.hid hr2; clear hr2
    have HB2 := Lib.hid hb2; clear hb2
    have HBY := Lib.hid hby; clear hby
    generalize grownCap W1 s.size 0 5 = cap
    have hslen : s.data.toList.length = s.size := by rw [Array.length_toList]; rfl
    have hpl := h.lt
    go_loopw [19] (fun i wr => ∃ k : Nat, k ≤ s.size ∧ i = .int .i64 k ∧ ∃ wsi, wr.heap[w.heap.size]? = some (.cells (wv wsi).toArray 66 (0, 0)) ∧ Words wsi ∧ (∀ j, bitW wsi j = true → j < x.machine.1.length) ∧
        (run x.machine.1 (fun j => bitW wsi j = true) (s.data.toList.drop k) 0 ↔ x.lang s.data.toList) ∧ Only (fun j => j = w.heap.size) W2 wr) (fun i _ => s.size - (intOf i).toNat)
    case atStart =>
      refine ⟨0, by omega, rfl, ws, by rw [HCS.out]; exact HR2.out, hw, fun j hj => eps_lt (x.machine_ok h.form).1 ((hs j).1 hj) (x.machine_ok h.form).2.1, ?_, Only.refl _ _⟩
      rw [bits_eq hs]
      exact x.machine_lang h.form _
    case round =>
      obtain ⟨k, hk, rfl, wsi, hq, hwi, hlt, hrun, honly⟩ := hrel
      have HRUN := Lib.hid hrun; clear hrun
      obtain ⟨CX, HCX⟩ : ∃ CX, Hid ((wv wsi).toArray = CX) := ⟨_, rfl⟩
      have HSX := Lib.hid (wvInfo hwi)
      rw [HCX.out] at hq HSX
      have hbwr : Below w.heap.size w wr := HB2.out.trans (honly.below (by omega) (by intro j hj; omega))
      by_cases hks : k = s.size
      · subst hks
        have hd := done_any wr wsi hwi
        rw [HCX.out] at hd
        have HD := Lib.hid hd; clear hd
        have HQ := Lib.hid hq; clear hq
        go_wp2_with (first
          | refine wpList_load_row rfl 66 (.tmp 6) rfl w.heap.size rfl 66 CX (0, 0) _ HQ.out Tryd.underlying66 rfl HSX.out ?_
          | (go_at_call 43; refine HD.out.mono ?_; rintro e w1 ⟨rfl, hb1⟩))
        go_ret2
        refine ⟨hbwr.trans (hb1.mono hbwr.size), .inr ⟨by omega, _, rfl, ?_⟩⟩
        rw [← HRUN.out, List.drop_eq_nil_of_le (by omega)]
        rfl
      · have hcell : wr.cell? ⟨w.heap.size + 1, k, none⟩ = some (.int .u8 (s.data.toList.getD k 0).toNat) := by
          rw [honly.cell (p := ⟨w.heap.size + 1, k, none⟩) (by show w.heap.size + 1 < W2.heap.size; omega) (by show ¬ w.heap.size + 1 = w.heap.size; omega)]
          exact HBY.out k (by omega)
        obtain ⟨b, HBB⟩ : ∃ b : UInt8, Hid (s.data.toList.getD k 0 = b) := ⟨_, rfl⟩
        rw [HBB.out] at hcell
        have hmr : Machine wr p x := HM.out.below hbwr
        have hmo := x.machine_ok h.form
        have hstep : Calls Tryd.prog 42 #[.pointer (some ⟨p, 0, none⟩), .agg CX, .int .u8 b.toNat] wr fun e w' => ∃ ws', e = .returned (.agg (wv ws').toArray) ∧ Words ws' ∧
            (∀ i, bitW ws' i = true ↔ after x.machine.1 (fun i => bitW wsi i = true) b i) ∧ Below wr.heap.size wr w' := by
          obtain ⟨v', ws', hp', hv', -, -⟩ := hmr.ex
          have h := step_any wr p v' x.machine.1 wsi b.toNat hv' (by rw [cell_of_block hp']; rfl) (TabAt.below HT.out hbwr) hmo.1 (machine_64 h.ok) (by have := h.few; omega) hwi hlt (UInt8.toNat_lt _)
          rw [HCX.out, UInt8.ofNat_toNat] at h
          exact h
        have HSTEP := Lib.hid hstep; clear hstep
        have HQ := Lib.hid hq; clear hq
        have hwrs := honly.size
        go_wp2_with (first
          | refine wpList_load_row rfl 66 (.tmp 6) rfl w.heap.size rfl 66 CX (0, 0) _ HQ.out Tryd.underlying66 rfl HSX.out ?_
          | (go_at_call 42; refine HSTEP.out.mono ?_; rintro e w1 ⟨ws1, rfl, hw1, hb1, hbl1⟩; obtain ⟨C1, HC1⟩ : ∃ C1, Hid ((wv ws1).toArray = C1) := ⟨_, rfl⟩; rw [HC1.out])
          | refine wpList_store_row rfl 66 (.tmp 6) (.tmp 26) rfl w.heap.size C1 rfl rfl 66 CX ((hbl1.block w.heap.size (by omega)).trans HQ.out) (by rw [← HC1.out]; exact wvInfo hw1) (by rw [← HC1.out, wv12 hw1, ← HCX.out, wv12 hwi]) (by rw [← HC1.out]; exact wvOne ws1) ?_)
        go_roundw
        case measure => simp only [intOf]; omega
        case rel =>
          refine ⟨k + 1, by omega, by simp, ws1, by rw [HC1.out]; exact setRow_heap _ _ _ _ _ _ ((hbl1.block w.heap.size (by omega)).trans HQ.out), hw1, fun j hj => after_lt hmo.1 ((hb1 j).1 hj), ?_, (honly.trans (Only.of_below hbl1)).setRow (.inl rfl) _⟩
          rw [← HRUN.out, List.drop_eq_getElem_cons (i := k) (by omega)]
          have e : (fun j => bitW ws1 j = true) = after x.machine.1 (fun i => bitW wsi i = true) (s.data.toList[k]'(by omega)) := by
            funext j
            rw [propext (hb1 j)]
            congr 1
            rw [← HBB.out, List.getD_eq_getElem?_getD, List.getElem?_eq_getElem (by omega)]; rfl
          rw [e]
          rfl
end Go.Proofs.YtaelkjffidjcjaaDoor
