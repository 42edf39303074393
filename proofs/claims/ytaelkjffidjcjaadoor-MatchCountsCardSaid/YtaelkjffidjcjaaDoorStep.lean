/- The walk of (*Machine).step. -/
import Derived.Test.YtaelkjffidjcjaaDoorTz
import Derived.Deep.RegionWith
import Derived.BigRegion
import Derived.Deep.CutRange
set_option linter.unusedSimpArgs false
set_option linter.unusedVariables false
namespace Go.Proofs.YtaelkjffidjcjaaDoor
open Go.RowKit PX

theorem eps_lt {g : List St} (hg : OkG g) {i j : Nat} (h : Eps g i j) (hi : i < g.length) : j < g.length := by
  induction h with
  | refl => exact hi
  | next a b r ih => have := hg _ (List.mem_of_getElem? a); exact ih (by omega)
  | other a b r ih => have := hg _ (List.mem_of_getElem? a); exact ih (by omega)

/-- What the states of which P holds lead to. -/
def From (g : List St) (ws : List Int) (b : UInt8) (P : Nat → Prop) (i : Nat) : Prop := ∃ m st, P m ∧ bitW ws m = true ∧ g[m]? = some st ∧ st.eatsB b = true ∧ Eps g st.next.toNat i
theorem from_shut (g : List St) (ws : List Int) (b : UInt8) (P : Nat → Prop) : Shut g (From g ws b P) := by
  rintro i st ⟨m, st', hp, hb, hm, he, hr⟩ hi hk
  have := shut_eps g st'.next.toNat i st hr hi hk
  exact ⟨⟨m, st', hp, hb, hm, he, this.1⟩, ⟨m, st', hp, hb, hm, he, this.2⟩⟩
theorem from_lt {g : List St} (hg : OkG g) {ws : List Int} {b : UInt8} {P : Nat → Prop} {i : Nat} (h : From g ws b P i) : i < g.length := by
  obtain ⟨m, st, -, -, hm, -, he⟩ := h
  have := hg st (List.mem_of_getElem? hm)
  exact eps_lt hg he (by omega)
theorem from_congr {g : List St} {ws : List Int} {b : UInt8} {P P' : Nat → Prop} (h : ∀ m, bitW ws m = true → (P m ↔ P' m)) (i : Nat) : From g ws b P i ↔ From g ws b P' i := by
  constructor
  · rintro ⟨m, st, hp, hb, r⟩; exact ⟨m, st, (h m hb).1 hp, hb, r⟩
  · rintro ⟨m, st, hp, hb, r⟩; exact ⟨m, st, (h m hb).2 hp, hb, r⟩
/-- One state more. -/
theorem from_more {g : List St} {ws : List Int} {b : UInt8} {P : Nat → Prop} {m : Nat} {st : St} (hb : bitW ws m = true) (hm : g[m]? = some st) (i : Nat) :
    From g ws b (fun j => P j ∨ j = m) i ↔ From g ws b P i ∨ (st.eatsB b = true ∧ Eps g st.next.toNat i) := by
  constructor
  · rintro ⟨m', st', hp | rfl, hb', hm', he, hr⟩
    · exact .inl ⟨m', st', hp, hb', hm', he, hr⟩
    · rw [hm] at hm'; cases hm'; exact .inr ⟨he, hr⟩
  · rintro (⟨m', st', hp, r⟩ | ⟨he, hr⟩)
    · exact ⟨m', st', .inl hp, r⟩
    · exact ⟨m, st, .inr rfl, hb, hm, he, hr⟩

/-- Of the word k the bits that are not in X are done, and all ahead of it. -/
def Done (k X : Nat) (m : Nat) : Prop := m < 64 * k ∨ (m / 64 = k ∧ X.testBit (m % 64) = false)

/-- What has been put so far. -/
structure Put (w wr : World) (B : Nat) (g : List St) (ws : List Int) (b : UInt8) (P : Nat → Prop) : Prop where
  ex : ∃ wsx, wr.heap[B + 2]? = some (.cells (wv wsx).toArray 66 (0, 0)) ∧ Words wsx ∧ (∀ i, bitW wsx i = true ↔ From g ws b P i)
  only : Only (fun j => j = B + 2) w wr

theorem Put.congr {w wr : World} {B : Nat} {g : List St} {ws : List Int} {b : UInt8} {P P' : Nat → Prop} (h : Put w wr B g ws b P) (hc : ∀ m, bitW ws m = true → (P m ↔ P' m)) : Put w wr B g ws b P' := by
  obtain ⟨wsx, h1, h2, h3⟩ := h.ex
  exact ⟨⟨wsx, h1, h2, fun i => (h3 i).trans (from_congr hc i)⟩, h.only⟩

theorem StatesAt.only {r : Nat → Prop} {w w' : World} {v : Value} {g : List St} (h : StatesAt w v g) (hr : Only r w w') (hv : ∀ k, v.ownBlock = some k → ¬ r k) : StatesAt w' v g := by
  obtain ⟨gb, cap, rfl, h1, h2, h3⟩ := h.ex
  refine ⟨gb, cap, rfl, h1, h2, fun i st hi j hj => ?_⟩
  have h4 := h3 i st hi j hj
  rw [hr.cell (p := ⟨gb, i * 7 + j, none⟩) ?_ (hv gb rfl)]
  · exact h4
  · have : j < (stCells st).length := hj
    rw [List.getElem?_eq_getElem this] at h4
    exact World.block_lt_of_cell? _ _ h4

def zero12 : Obj := Obj.cells #[Value.int .u64 0, .int .u64 0, .int .u64 0, .int .u64 0, .int .u64 0, .int .u64 0, .int .u64 0, .int .u64 0, .int .u64 0, .int .u64 0, .int .u64 0, .int .u64 0] 66
theorem zero12_eq : zero12 = Obj.cells (wv (List.replicate 12 0)).toArray 66 := rfl
theorem bitW_zero (i : Nat) : bitW (List.replicate 12 0) i = false := by
  have : (List.replicate 12 (0 : Int))[i / 64]?.getD 0 = 0 := by
    rw [List.getElem?_replicate]; split <;> rfl
  rw [bitW, this]; simp
theorem words_zero : Words (List.replicate 12 0) := ⟨rfl, fun x hx => by rw [List.mem_replicate] at hx; omega⟩

theorem run_index_many (cs : Array Value) (i : Nat) (h : i < 12) (v : Value) (hv : cs[i]? = some v) (w : World) : (Instr.index 66 (.agg cs) (.int .i64 i)).run Tryd.prog w = .ok v w := by
  have h1 : (0 : Int) ≤ (i : Int) ∧ (i : Int) < ((12 : Nat) : Int) := by omega
  have h2 := part_int (w := w) Tryd.underlying22 cs i v hv
  simp only [Instr.index, asIntOf, Sem.run_bind, Sem.run_pure, Result.andThen_ok, run_underlying Tryd.underlying66]
  rw [if_pos h1]
  simp only [Sem.run_bind, sizeU64, Result.andThen_ok, Int.toNat_natCast, Nat.mul_one]
  exact h2

/-- A state's words are words. -/
def W64 (st : St) : Prop := (0 ≤ st.s0 ∧ st.s0 < 18446744073709551616) ∧ (0 ≤ st.s1 ∧ st.s1 < 18446744073709551616) ∧ (0 ≤ st.s2 ∧ st.s2 < 18446744073709551616) ∧ (0 ≤ st.s3 ∧ st.s3 < 18446744073709551616)
theorem W64.word {st : St} (h : W64 st) (b : Nat) : 0 ≤ word st.s0 st.s1 st.s2 st.s3 b ∧ word st.s0 st.s1 st.s2 st.s3 b < 18446744073709551616 := by
  unfold PX.word
  obtain ⟨h0, h1, h2, h3⟩ := h
  split
  · exact h0
  · split
    · exact h1
    · split
      · exact h2
      · exact h3
theorem off_u64' (x : Nat) (hx : x < 18446744073709551616) (hx0 : x ≠ 0) : bits BinOp.and IntKind.u64 (x : Int) ((x : Int) - 1) = ((x &&& (x - 1) : Nat) : Int) := by
  rw [show (x : Int) - 1 = ((x - 1 : Nat) : Int) by omega, bits_and_u64_nat x _ hx (by omega)]
theorem wrap_small {n : Int} (h0 : 0 ≤ n) (h1 : n ≤ 4294967296) : IntKind.i64.wrap n = n := by
  rw [IntKind.wrap_i64]; omega
theorem word_cell {ws : List Int} (hw : Words ws) (k : Nat) (hk : k < 12) : (wv ws).toArray[k]? = some (.int .u64 (ws[k]?.getD 0)) := by
  rw [List.getElem?_toArray, wv, List.getElem?_map, (word_get hw k hk).1]; rfl
theorem done_off {k X c : Nat} (hX : X < 18446744073709551616) (hX0 : X ≠ 0) (hc : Lib.ctz 64 X = c) (hc2 : c < 64) (m : Nat) : Done k (X &&& (X - 1)) m ↔ Done k X m ∨ m = 64 * k + c := by
  obtain ⟨h1, h2, -⟩ := lowest_off X hX hX0
  rw [hc] at h1 h2
  unfold Done
  rw [h2]
  constructor
  · rintro (h | ⟨h, h'⟩)
    · exact .inl (.inl h)
    · by_cases he : m % 64 = c
      · exact .inr (by omega)
      · simp [he] at h'; exact .inl (.inr ⟨h, h'⟩)
  · rintro ((h | ⟨h, h'⟩) | rfl)
    · exact .inl h
    · exact .inr ⟨h, by simp [h']⟩
    · have : (64 * k + c) % 64 = c := by omega
      exact .inr ⟨by omega, by simp [this]⟩
/-- The bit that is asked of a byte's set. -/
theorem eats_bit (s0 s1 s2 s3 : Int) (b : Nat) (hb : b < 256) (h : 0 ≤ word s0 s1 s2 s3 b ∧ word s0 s1 s2 s3 b < 18446744073709551616) :
    (bits BinOp.and IntKind.u64 (word s0 s1 s2 s3 b / 2 ^ (b % 64)) 1 == 1) = hasB s0 s1 s2 s3 (UInt8.ofNat b).toNat := by
  have e : (UInt8.ofNat b).toNat = b := by simp [UInt8.toNat_ofNat']; omega
  rw [bit_test _ _ h, hasB, e]

set_option maxRecDepth 100000 in
set_option maxHeartbeats 2000000 in
theorem step_core (w : World) (p : Nat) (v : Value) (g : List St) (ws : List Int) (b : Nat) (CS : Array Value) (HCS : Hid (CS = (wv ws).toArray))
    (hv : StatesAt w v g) (hp : w.cell? ⟨p, 0, none⟩ = some v) (hT : TabAt 0 Lib.deBruijn64tab w) (hg : OkG g) (hu : ∀ st ∈ g, W64 st) (hgl : g.length ≤ 700) (hw : Words ws) (hlt : ∀ i, bitW ws i = true → i < g.length) (hb : b < 256) :
    Calls Tryd.prog 42 #[.pointer (some ⟨p, 0, none⟩), .agg CS, .int .u8 b] w fun e w' => ∃ ws', e = .returned (.agg (wv ws').toArray) ∧ Words ws' ∧
      (∀ i, bitW ws' i = true ↔ From g ws (UInt8.ofNat b) (fun _ => True) i) ∧ Below w.heap.size w w' := by
  have HV := Lib.hid hv
  obtain ⟨gb, cap, rfl, hcap1, hcap2, hst⟩ := hv.ex
  have HST := Lib.hid hst; clear hst hv
  have HP := Lib.hid hp; clear hp
  have HT := Lib.hid hT; clear hT
  have hpb : p < w.heap.size := World.block_lt_of_cell? _ _ HP.out
  have hld0 : ∀ A B : Obj, (((w.alloc (.cells CS 66)).alloc A).alloc B).heap[w.heap.size]? = some (.cells CS 66 (0, 0)) := fun A B => alloc_old (alloc_old (alloc_block w _) _) _
  have hsz0 : (Tryd.prog.info? 66).map (·.size) = some CS.size := by rw [show CS.size = 12 by rw [HCS.out]; simp [wv, hw.len]]; exact info_many
  have HLD := Lib.hid hld0; clear hld0
  have HSZ := Lib.hid hsz0; clear hsz0
  go_enter Tryd.func42, Tryd.ntmps42
  go_wp2_with (refine wpList_load_row rfl 66 (.tmp 4) rfl w.heap.size rfl 66 CS (0, 0) _ (HLD.out _ _) Tryd.underlying66 rfl HSZ.out ?_)
  obtain ⟨B, HB⟩ : ∃ B, Hid (w.heap.size = B) := ⟨_, rfl⟩
  generalize hW : World.alloc (World.alloc (World.alloc _ _) _) _ = W3
  have hs3 : W3.heap.size = w.heap.size + 3 := by rw [← hW]; simp
  have hz : W3.heap[w.heap.size + 2]? = some (.cells (wv (List.replicate 12 0)).toArray 66 (0, 0)) := by
    rw [← hW]
    have h := alloc_block ((w.alloc (.cells CS 66)).alloc zero12) zero12
    rw [show ((w.alloc (.cells CS 66)).alloc zero12).heap.size = w.heap.size + 2 by simp] at h
    exact h
  have hr3 : (W3.heap[w.heap.size + 1]? = some zero12) := by
    rw [← hW]
    have h := alloc_old (alloc_block (w.alloc (.cells CS 66)) zero12) zero12
    rw [show (w.alloc (.cells CS 66)).heap.size = w.heap.size + 1 by simp] at h
    exact h
  have hbl : Below w.heap.size w W3 := by
    rw [← hW]
    exact (((Below.refl w.heap.size w).alloc (Nat.le_refl _) _).alloc (by simp) _).alloc (by simp; omega) _
  clear hW
  have HZ := Lib.hid hz; clear hz
  have HR3 := Lib.hid hr3; clear hr3
  have HBL := Lib.hid hbl; clear hbl
  go_loopw [12] (fun i wr => ∃ k : Nat, k ≤ 12 ∧ i = .int .i64 k ∧ Put W3 wr w.heap.size g ws (UInt8.ofNat b) (fun m => m < 64 * k)) (fun i _ => 12 - (intOf i).toNat)
  case atStart =>
    refine ⟨0, by omega, rfl, ⟨_, HZ.out, words_zero, fun i => ?_⟩, Only.refl _ _⟩
    rw [bitW_zero]
    constructor
    · intro h; cases h
    · rintro ⟨m, st, hm, -⟩; omega
  case round =>
    obtain ⟨k, hk, rfl, hput⟩ := hrel
    have HPUT := Lib.hid hput; clear hput
    by_cases hk12 : k = 12
    · subst hk12
      obtain ⟨wsx, hq, hwx, hbx⟩ := HPUT.out.ex
      obtain ⟨CX, HCX⟩ : ∃ CX, Hid ((wv wsx).toArray = CX) := ⟨_, rfl⟩
      rw [HCX.out] at hq
      have HR1 := Lib.hid (show wr.heap[w.heap.size + 1]? = some zero12 by
        rw [HPUT.out.only.block _ (by omega) (by omega)]; exact HR3.out)
      have hcx : CX.size = 12 := by rw [← HCX.out]; simp [wv, hwx.len]
      have HSX := Lib.hid (show (Tryd.prog.info? 66).map (·.size) = some CX.size by rw [hcx]; exact info_many)
      have H12 := Lib.hid (show (12 : Nat) = CX.size from hcx.symm); clear hcx
      have H1 := Lib.hid (show CX.all (·.oneCell') = true by rw [← HCX.out]; simp [wv, Value.oneCell'])
      have HQ := Lib.hid hq; clear hq
      go_wp2_with (first
        | refine wpList_load_row rfl 66 (.tmp 7) rfl (w.heap.size + 2) rfl 66 CX (0, 0) _ HQ.out Tryd.underlying66 rfl HSX.out ?_
        | refine wpList_store_row rfl 66 (.tmp 6) (.tmp 53) rfl (w.heap.size + 1) CX rfl rfl 66 _ HR1.out HSX.out H12.out H1.out ?_)
      (try simp only [Exit.inBlock, Exit.then])
      refine bodyPost_ret (results_cell_row rfl _ _ (w.heap.size + 1) 66 CX (0, 0) _ rfl (setRow_heap _ _ _ _ _ _ HR1.out) Tryd.underlying66 rfl HSX.out) rfl ?_
      refine ⟨wsx, by rw [HCX.out], hwx, fun i => (hbx i).trans (from_congr (fun m hm => ⟨fun _ => trivial, fun _ => by have := hlt m hm; omega⟩) i), ?_⟩
      have hb1 := HBL.out.trans (HPUT.out.only.below (B := w.heap.size) (by omega) (by intro k hk; omega))
      exact ⟨hb1.os, hb1.tape, hb1.output, by simpa using hb1.size, fun k hk => (setRow_other wr (w.heap.size + 1) k CX (by omega)).trans (hb1.block k hk)⟩
    · have h0 := word_get hw k (by omega)
      have HW1 := Lib.hid h0.1
      obtain ⟨W0, hW0⟩ : ∃ W0 : Nat, ws[k]?.getD 0 = (W0 : Int) := ⟨(ws[k]?.getD 0).toNat, by omega⟩
      have hidx : ∀ w : World, (Instr.index 66 (.agg CS) (.int .i64 k)).run Tryd.prog w = .ok (.int .u64 (W0 : Int)) w :=
        fun w => run_index_many CS k (by omega) _ (by rw [HCS.out, word_cell hw k (by omega), hW0]) w
      have hW0l : W0 < 18446744073709551616 := by omega
      have HBITS := Lib.hid (show ∀ c, c < 64 → bitW ws (64 * k + c) = W0.testBit c by
        intro c hc
        rw [bitW, show (64 * k + c) / 64 = k by omega, show (64 * k + c) % 64 = c by omega, hW0]; rfl)
      clear h0 hW0
      go_wp2_with fail
      clear hidx
      rw [show decide ((k : Int) < 12) = true from decide_eq_true (by omega)]
      go_loopw [9] (fun x wr => ∃ X : Nat, x = .int .u64 (X : Int) ∧ X < 18446744073709551616 ∧ (∀ j, X.testBit j = true → W0.testBit j = true) ∧ Put W3 wr w.heap.size g ws (UInt8.ofNat b) (Done k X)) (fun x _ => (intOf x).toNat)
      case atStart =>
        refine ⟨W0, rfl, hW0l, fun _ h => h, HPUT.out.congr fun m hm => ?_⟩
        constructor
        · intro h; exact .inl h
        · rintro (h | ⟨h1, h2⟩)
          · exact h
          · have h3 := HBITS.out (m % 64) (by omega)
            rw [show 64 * k + m % 64 = m by omega, hm, h2] at h3; cases h3
      case round =>
        obtain ⟨X, rfl, hX, hsub, hput⟩ := hrel
        have HPX := Lib.hid hput; clear hput
        clear HPUT
        by_cases hX0 : X = 0
        · subst hX0
          go_wp2_with fail
          refine ⟨⟨k + 1, by omega, by simp, HPX.out.congr fun m hm => ?_⟩, by simp only [intOf]; omega⟩
          constructor
          · rintro (h | ⟨h, -⟩) <;> omega
          · intro h
            by_cases h2 : m < 64 * k
            · exact .inl h2
            · exact .inr ⟨by omega, by simp⟩
        · obtain ⟨c, hc⟩ : ∃ c, Lib.ctz 64 X = c := ⟨_, rfl⟩
          have hc64 : c < 64 := by rw [← hc]; exact (Lib.lowest_bit 64 X hX0 (by omega)).2
          have hbm : bitW ws (64 * k + c) = true := by
            rw [HBITS.out c hc64]
            refine hsub c ?_
            have := (lowest_off X hX hX0).1
            rw [hc] at this; exact this
          have hm0l := hlt _ hbm
          have htz := fun w' hT' => tz64_any X hX hX0 w' hT'
          rw [hc] at htz
          have HTZ := Lib.hid htz; clear htz
          have HC := Lib.hid hc; clear hc
          obtain ⟨m0, hm0⟩ : ∃ m0, 64 * k + c = m0 := ⟨_, rfl⟩
          rw [hm0] at hbm hm0l
          obtain ⟨stt, hstt⟩ : ∃ stt, g[m0]? = some stt := ⟨g[m0], List.getElem?_eq_getElem hm0l⟩
          have hm0i : 64 * (k : Int) + (c : Int) = (m0 : Int) := by omega
          have hw1 : IntKind.i64.wrap (64 * (k : Int)) = 64 * (k : Int) := wrap_small (by omega) (by omega)
          have hw2 : IntKind.i64.wrap (m0 : Int) = (m0 : Int) := wrap_small (by omega) (by omega)
          have HON := Lib.hid (HPX.out.only)
          have HON2 := Lib.hid (show Below w.heap.size w wr from HBL.out.trans (HPX.out.only.below (by omega) (by omega)))
          have hx0 : ((X : Int) == 0) = false := by simp; omega
          have HM := Lib.hid hm0; clear hm0
          have hokst := hg stt (List.mem_of_getElem? hstt)
          go_wp2_with fail
          have htq : TabAt 0 Lib.deBruijn64tab wr := fun j hj => by
            have h := HT.out j hj
            exact (HON2.out.cell (p := ⟨0, j, none⟩) (World.block_lt_of_cell? _ _ h)).trans h
          have HTQ := Lib.hid (show TabAt 0 Lib.deBruijn64tab wr.drew from htq)
          have HTA := Lib.hid (show ∀ o, TabAt 0 Lib.deBruijn64tab (wr.drew.alloc o) from fun o j hj => by
            have h := htq j hj
            exact (World.cell?_alloc_past (w := wr.drew) o 0 j (World.block_lt_of_cell? _ _ h)).trans h)
          clear htq
          have hgbl : gb < w.heap.size := by
            have h0 := HST.out m0 stt hstt 0 (by omega)
            exact World.block_lt_of_cell? _ _ h0
          have hcells : ∀ j, j < 7 → wr.cell? ⟨gb, m0 * 7 + j, none⟩ = (stCells stt)[j]? := fun j hj => by
            have h := HST.out m0 stt hstt j hj
            exact (HON2.out.cell (p := ⟨gb, m0 * 7 + j, none⟩) hgbl).trans h
          have hpc : wr.cell? ⟨p, 0, none⟩ = some (.slice (some ⟨gb, 0, none⟩) g.length cap) := (HON2.out.cell (p := ⟨p, 0, none⟩) hpb).trans HP.out
          have k0 := hcells 0 (by omega)
          have k1 := hcells 1 (by omega)
          have k2 := hcells 2 (by omega)
          have k3 := hcells 3 (by omega)
          have k4 := hcells 4 (by omega)
          have k5 := hcells 5 (by omega)
          have k6 := hcells 6 (by omega)
          simp only [Nat.add_zero, stCells, List.getElem?_cons_zero, List.getElem?_cons_succ] at k0 k1 k2 k3 k4 k5 k6
          clear hcells
          have hwrs := HON.out.size
          have hgbw : gb < wr.heap.size := by omega
          have hpw : p < wr.heap.size := by omega
          go_cut [10] from 16 to 32 (fun x wc => x = .pointer (some ⟨wr.heap.size, 0, none⟩) ∧ wc = (wr.alloc (.cells #[.int .i64 stt.kind, .int .i64 stt.next, .int .i64 stt.other, .int .u64 stt.s0, .int .u64 stt.s1, .int .u64 stt.s2, .int .u64 stt.s3] 63)).drew)
          case first =>
            go_region_with (go_at_call 53; refine (HTZ.out _ (by first | exact HTQ.out | exact HTA.out _)).mono ?_; rintro e w' ⟨rfl, rfl⟩)
            all_goals
              go_wp2_with fail
              go_meet
              case rel => exact ⟨rfl, rfl⟩
          case rest =>
            obtain ⟨rfl, hwc⟩ := hcut
            have hxc : ∀ j, j < 7 → wc.cell? ⟨wr.heap.size, j, none⟩ = (stCells stt)[j]? := by
              intro j _
              rw [hwc]
              show (wr.alloc _).cell? _ = _
              rw [World.cell?_alloc_at _ _ _ _ rfl]
              simp [stCells]
            have hon3 : Only (fun j => j = w.heap.size + 2) W3 wc := by rw [hwc]; exact (HON.out.alloc _).drew
            have hwcs : wc.heap.size = wr.heap.size + 1 := by rw [hwc]; simp
            have hwc2 := hwc
            clear hwc k0 k1 k2 k3 k4 k5 k6 hpc
            have x0 := hxc 0 (by omega)
            have x1 := hxc 1 (by omega)
            simp only [stCells, List.getElem?_cons_zero, List.getElem?_cons_succ] at x0 x1
            obtain ⟨wsx, hq, hwx, hbx⟩ := HPX.out.ex
            have hqc : wc.heap[w.heap.size + 1 + 1]? = some (.cells (wv wsx).toArray 66 (0, 0)) := by
              rw [hwc2]
              exact alloc_old hq _
            have HQC := Lib.hid hqc; clear hqc hq hwc2
            have hmeas : (X &&& (X - 1)) < X := (lowest_off X hX hX0).2.2
            have hoff := off_u64' X hX hX0
            have HDO := Lib.hid (fun m => done_off (k := k) hX hX0 HC.out hc64 m)
            have HSUB := Lib.hid (show ∀ j, (X &&& (X - 1)).testBit j = true → W0.testBit j = true from fun j hj => by
              rw [Nat.testBit_and, Bool.and_eq_true] at hj; exact hsub j hj.1)
            have HFM := Lib.hid (fun i => from_more (b := UInt8.ofNat b) (P := Done k X) hbm hstt i)
            rw [HM.out] at HDO
            obtain ⟨X', HX'⟩ : ∃ X', Hid (X &&& (X - 1) = X') := ⟨_, rfl⟩
            rw [HX'.out] at hmeas hoff HDO HSUB
            cases hkind : (stt.kind == 0)
            · clear hxc
              go_wp2_with fail
              go_roundw
              case measure => simp only [intOf]; omega
              case rel =>
                refine ⟨X', rfl, by omega, HSUB.out, ⟨wsx, HQC.out, hwx, fun i => ?_⟩, hon3⟩
                rw [hbx i, from_congr (fun m _ => HDO.out m) i, HFM.out i]
                have : stt.eatsB (UInt8.ofNat b) = false := by
                  have : stt.kind ≠ 0 := by simpa using hkind
                  simp [St.eatsB, this]
                simp [this]
            · have hbw : wc.cell? ⟨wr.heap.size, 3 + b / 64, none⟩ = some (.int .u64 (word stt.s0 stt.s1 stt.s2 stt.s3 b)) := by
                have hb4 : b / 64 = 0 ∨ b / 64 = 1 ∨ b / 64 = 2 ∨ b / 64 = 3 := by omega
                rw [hxc _ (by omega)]
                rcases hb4 with h | h | h | h <;> rw [h] <;> simp only [stCells, word] 
                · rw [if_pos (by omega)]; rfl
                · rw [if_neg (by omega), if_pos (by omega)]; rfl
                · rw [if_neg (by omega), if_neg (by omega), if_pos (by omega)]; rfl
                · rw [if_neg (by omega), if_neg (by omega), if_neg (by omega)]; rfl
              clear hxc
              have hea := eats_bit stt.s0 stt.s1 stt.s2 stt.s3 b hb ((hu stt (List.mem_of_getElem? hstt)).word b)
              have hk0 : stt.kind = 0 := by simpa using hkind
              have heb : stt.eatsB (UInt8.ofNat b) = hasB stt.s0 stt.s1 stt.s2 stt.s3 (UInt8.ofNat b).toNat := by simp [St.eatsB, hk0]
              rw [← heb] at hea
              have HEB := Lib.hid heb; clear heb hk0
              have HNX := Lib.hid (show ((stt.next.toNat : Nat) : Int) = stt.next by omega)
              cases hee : stt.eatsB (UInt8.ofNat b)
              · rw [hee] at hea
                have HEE := Lib.hid hee; clear hee
                go_wp2_with fail
                go_roundw
                case measure => simp only [intOf]; omega
                case rel =>
                  refine ⟨X', rfl, by omega, HSUB.out, ⟨wsx, HQC.out, hwx, fun i => ?_⟩, hon3⟩
                  rw [hbx i, from_congr (fun m _ => HDO.out m) i, HFM.out i]
                  simp [HEE.out]
              · rw [hee] at hea
                have HEE := Lib.hid hee; clear hee
                have hstc : StatesAt wc (.slice (some ⟨gb, 0, none⟩) g.length cap) g :=
                  (HV.out.only (r := fun _ => False) (Only.of_below HBL.out) (fun _ _ h => h)).only hon3 (by
                    intro k hk; simp only [Value.ownBlock, Option.some.injEq] at hk; subst hk; omega)
                have hpcc : wc.cell? ⟨p, 0, none⟩ = some (.slice (some ⟨gb, 0, none⟩) g.length cap) := by
                  rw [hon3.cell (p := ⟨p, 0, none⟩) (by show p < _; omega) (by show ¬ p = _; omega), HBL.out.cell (p := ⟨p, 0, none⟩) hpb]
                  exact HP.out
                have hcall := put_any wc p (w.heap.size + 1 + 1) (.slice (some ⟨gb, 0, none⟩) g.length cap) g [] 66 wsx stt.next.toNat hstc hpcc HQC.out (by simp) (by intro h; omega)
                  (by simp only [Value.ownBlock, ne_eq, Option.some.injEq]; omega) hg hgl (by omega) hwx (by
                    intro i st hi hk1 hk2
                    have h := from_shut g ws (UInt8.ofNat b) (Done k X) i st ((hbx i).1 hi) hk1 hk2
                    exact ⟨(hbx _).2 h.1, (hbx _).2 h.2⟩)
                simp only [List.length_nil, List.nil_append] at hcall
                rw [HNX.out] at hcall
                have HCALL := Lib.hid hcall; clear hcall hstc hpcc
                go_wp2_with (go_at_call 37; refine HCALL.out.mono ?_; rintro e w' ⟨rfl, ws2, hq2, hw2', hb2, ho2⟩)
                go_roundw
                case measure => simp only [intOf]; omega
                case rel =>
                  refine ⟨X', rfl, by omega, HSUB.out, ⟨ws2, hq2, hw2', fun i => ?_⟩, hon3.trans (ho2.mono fun k _ hk => .inl hk)⟩
                  rw [hb2 i, hbx i, from_congr (fun m _ => HDO.out m) i, HFM.out i]
                  simp [HEE.out]

/-- The set behind a byte. -/
theorem step_any (w : World) (p : Nat) (v : Value) (g : List St) (ws : List Int) (b : Nat)
    (hv : StatesAt w v g) (hp : w.cell? ⟨p, 0, none⟩ = some v) (hT : TabAt 0 Lib.deBruijn64tab w) (hg : OkG g) (hu : ∀ st ∈ g, W64 st) (hgl : g.length ≤ 700) (hw : Words ws) (hlt : ∀ i, bitW ws i = true → i < g.length) (hb : b < 256) :
    Calls Tryd.prog 42 #[.pointer (some ⟨p, 0, none⟩), .agg (wv ws).toArray, .int .u8 b] w fun e w' => ∃ ws', e = .returned (.agg (wv ws').toArray) ∧ Words ws' ∧
      (∀ i, bitW ws' i = true ↔ after g (fun i => bitW ws i = true) (UInt8.ofNat b) i) ∧ Below w.heap.size w w' := by
  refine (step_core w p v g ws b _ (Lib.hid rfl) hv hp hT hg hu hgl hw hlt hb).mono ?_
  rintro e w' ⟨ws', rfl, h1, h2, h3⟩
  refine ⟨ws', rfl, h1, fun i => (h2 i).trans ?_, h3⟩
  constructor
  · rintro ⟨m, st, -, r⟩; exact ⟨m, st, r⟩
  · rintro ⟨m, st, r⟩; exact ⟨m, st, trivial, r⟩
end Go.Proofs.YtaelkjffidjcjaaDoor
