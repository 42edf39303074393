/- B4, merged: Tz Step W64 New Tell Is Hit Hits Fits Pairs. -/
import Derived.Test.YtjhclopdcbnmkaaGreatDoorB3
import Derived.Test.YtjhclopdcbnmkaaGreatDoorB2b
import Derived.Shelf.Spec.TrailingZeros
import Derived.Deep.RegionWith
import Derived.BigRegion
import Derived.Deep.CutRange
import Derived.Lib.ConvBytes
set_option linter.unusedSimpArgs false
set_option linter.unusedVariables false
/- The walks of TrailingZeros64 and done; the lowest bit taken off. -/
namespace Go.Proofs.YtjhclopdcbnmkaaGreatDoor
open Go.RowKit PX

set_option maxHeartbeats 1000000 in
theorem tz64_core (x k idx : Nat) (w : World) (hx0 : ((x : Int) == 0) = false)
    (key : IntKind.u64.wrap (bits BinOp.and IntKind.u64 (x : Int) (IntKind.u64.wrap (-(x : Int))) * 285870213051353865) / 288230376151711744 = (idx : Int))
    (hi : idx < 64) (hk : k < 64) (hcell : w.cell? ⟨0, idx, none⟩ = some (.int .u8 k)) :
    Calls Tryz.prog 83 #[.int .u64 x] w fun e w' => e = .returned (.int .i64 k) ∧ w' = w := by
  go_enter Tryz.func83, Tryz.ntmps83
  go_wp2_with (simp only [key])
  go_ret
  exact ⟨rfl, rfl⟩

/-- math/bits.TrailingZeros64, of a word that is not 0. -/
theorem tz64_any (x : Nat) (hx : x < 18446744073709551616) (hx0 : x ≠ 0) (w : World) (hT : TabAt 0 Lib.deBruijn64tab w) :
    Calls Tryz.prog 83 #[.int .u64 x] w fun e w' => e = .returned (.int .i64 (Lib.ctz 64 x)) ∧ w' = w := by
  obtain ⟨hlow, hk⟩ := Lib.lowest_bit 64 x hx0 hx
  obtain ⟨hi, htab⟩ := Lib.deBruijn64_at _ hk
  have hcell := hT _ hi
  rw [htab] at hcell
  exact tz64_core x _ _ w (by simp; omega) (tz64_key x _ hx hx0 hlow) hi hk hcell

/-- The lowest bit is there; without it the others stand. -/
theorem lowest_off (x : Nat) (hx : x < 18446744073709551616) (hx0 : x ≠ 0) :
    x.testBit (Lib.ctz 64 x) = true ∧ (∀ j, (x &&& (x - 1)).testBit j = (x.testBit j && decide (j ≠ Lib.ctz 64 x))) ∧ (x &&& (x - 1)) < x := by
  have hc : Lib.ctz 64 x = Lib.ctzFrom 64 x := by rw [Lib.ctz, if_neg hx0]
  obtain ⟨m, hm, -⟩ := Lib.ctzFrom_spec 64 x (by omega) (by omega)
  rw [hc]
  generalize Lib.ctzFrom 64 x = c at hm
  have hp := Nat.two_pow_pos c
  have e1 : x = 2 ^ c * (2 * m + 1) + 0 := by omega
  have e2 : x - 1 = 2 ^ c * (2 * m) + (2 ^ c - 1) := by
    rw [hm, Nat.mul_add]; omega
  have b1 : ∀ j, x.testBit j = if j < c then false else (2 * m + 1).testBit (j - c) := by
    intro j
    rw [e1, Nat.testBit_two_pow_mul_add _ hp]
    simp
  have b2 : ∀ j, (x - 1).testBit j = if j < c then (2 ^ c - 1).testBit j else (2 * m).testBit (j - c) := by
    intro j
    rw [e2, Nat.testBit_two_pow_mul_add _ (by omega)]
  refine ⟨by rw [b1]; simp, fun j => ?_, Nat.lt_of_le_of_lt Nat.and_le_right (by omega)⟩
  rw [Nat.testBit_and, b1, b2]
  by_cases h1 : j < c
  · simp [h1]
  · by_cases h2 : j = c
    · subst h2; simp
    · obtain ⟨n, hn⟩ : ∃ n, j - c = n + 1 := ⟨j - c - 1, by omega⟩
      rw [if_neg h1, if_neg h1, hn, Nat.testBit_succ, Nat.testBit_succ]
      have q1 : (2 * m + 1) / 2 = m := by omega
      have q2 : 2 * m / 2 = m := by omega
      rw [q1, q2]
      simp [h2]

theorem off_u64 (x : Nat) (hx : x < 18446744073709551616) (hx0 : x ≠ 0) : bits BinOp.and IntKind.u64 (x : Int) (IntKind.u64.wrap ((x : Int) - 1)) = ((x &&& (x - 1) : Nat) : Int) := by
  have e : IntKind.u64.wrap ((x : Int) - 1) = ((x - 1 : Nat) : Int) := by rw [IntKind.wrap_u64]; omega
  rw [e, bits_and_u64_nat x _ hx (by omega)]

theorem wv_length (ws : List Int) : (wv ws).length = ws.length := by simp [wv]
theorem info_many : ((Tryz.prog.info? 103).map (·.size)) = some 12 := by kernel_rfl

set_option maxRecDepth 100000 in
set_option maxHeartbeats 1000000 in
theorem done_core (w : World) (cs : Array Value) (W : Int) (hcell : (w.alloc (.cells cs 103)).cell? ⟨w.heap.size, 0, none⟩ = some (.int .u64 W)) :
    Calls Tryz.prog 58 #[.agg cs] w fun e w' => e = .returned (.bool (bits BinOp.and IntKind.u64 W 1 == 1)) ∧ Below w.heap.size w w' := by
  go_enter Tryz.func58, Tryz.ntmps58
  go_wp2_with fail
  go_ret
  exact ⟨rfl, (Below.refl w.heap.size w).alloc (Nat.le_refl _) _⟩

/-- done: is the state 0 in a set? -/
theorem done_any (w : World) (ws : List Int) (hw : Words ws) :
    Calls Tryz.prog 58 #[.agg (wv ws).toArray] w fun e w' => e = .returned (.bool (bitW ws 0)) ∧ Below w.heap.size w w' := by
  have h0 := word_get hw 0 (by omega)
  have hb := bit_test (ws[0]?.getD 0) 0 h0.2
  have e : (bits BinOp.and IntKind.u64 (ws[0]?.getD 0) 1 == 1) = bitW ws 0 := by simpa [bitW] using hb
  have hc : (wv ws)[0]? = some (.int .u64 (ws[0]?.getD 0)) := by rw [wv, List.getElem?_map, h0.1]; rfl
  have h := done_core w (wv ws).toArray (ws[0]?.getD 0) (by rw [World.cell?_alloc_at _ _ _ _ rfl]; simpa using hc)
  rw [e] at h
  exact h
end Go.Proofs.YtjhclopdcbnmkaaGreatDoor

/- The walk of (*Machine).step. -/
namespace Go.Proofs.YtjhclopdcbnmkaaGreatDoor
open Go.RowKit PX

theorem eps_lt {g : List St} (hg : OkG g) {i j : Nat} (h : Eps g i j) (hi : i < g.length) : j < g.length := by
  induction h with
  | refl => exact hi
  | next a b r ih => have := hg _ (List.mem_of_getElem? a); exact ih (by omega)
  | other a b r ih => have := hg _ (List.mem_of_getElem? a); exact ih (by omega)

/-- What the states of which P holds lead to. -/
def From (g : List St) (ws : List Int) (b : UInt8) (P : Nat → Prop) (i : Nat) : Prop := ∃ m st, P m ∧ bitW ws m = true ∧ g[m]? = some st ∧ st.eatsB b = true ∧ Eps g st.next.toNat i
theorem from_shut (g : List St) (ws : List Int) (b : UInt8) (P : Nat → Prop) : Shut g (From g ws b P) := by
  rintro i st ⟨m, st', hp, hb, hm, he, hr⟩ hi hk
  have := shut_eps g st'.next.toNat i st hr hi hk
  exact ⟨⟨m, st', hp, hb, hm, he, this.1⟩, ⟨m, st', hp, hb, hm, he, this.2⟩⟩
theorem from_lt {g : List St} (hg : OkG g) {ws : List Int} {b : UInt8} {P : Nat → Prop} {i : Nat} (h : From g ws b P i) : i < g.length := by
  obtain ⟨m, st, -, -, hm, -, he⟩ := h
  have := hg st (List.mem_of_getElem? hm)
  exact eps_lt hg he (by omega)
theorem from_congr {g : List St} {ws : List Int} {b : UInt8} {P P' : Nat → Prop} (h : ∀ m, bitW ws m = true → (P m ↔ P' m)) (i : Nat) : From g ws b P i ↔ From g ws b P' i := by
  constructor
  · rintro ⟨m, st, hp, hb, r⟩; exact ⟨m, st, (h m hb).1 hp, hb, r⟩
  · rintro ⟨m, st, hp, hb, r⟩; exact ⟨m, st, (h m hb).2 hp, hb, r⟩
/-- One state more. -/
theorem from_more {g : List St} {ws : List Int} {b : UInt8} {P : Nat → Prop} {m : Nat} {st : St} (hb : bitW ws m = true) (hm : g[m]? = some st) (i : Nat) :
    From g ws b (fun j => P j ∨ j = m) i ↔ From g ws b P i ∨ (st.eatsB b = true ∧ Eps g st.next.toNat i) := by
  constructor
  · rintro ⟨m', st', hp | rfl, hb', hm', he, hr⟩
    · exact .inl ⟨m', st', hp, hb', hm', he, hr⟩
    · rw [hm] at hm'; cases hm'; exact .inr ⟨he, hr⟩
  · rintro (⟨m', st', hp, r⟩ | ⟨he, hr⟩)
    · exact ⟨m', st', .inl hp, r⟩
    · exact ⟨m, st, .inr rfl, hb, hm, he, hr⟩

/-- Of the word k the bits that are not in X are done, and all ahead of it. -/
def Done (k X : Nat) (m : Nat) : Prop := m < 64 * k ∨ (m / 64 = k ∧ X.testBit (m % 64) = false)

/-- What has been put so far. -/
structure Put (w wr : World) (B : Nat) (g : List St) (ws : List Int) (b : UInt8) (P : Nat → Prop) : Prop where
  ex : ∃ wsx, wr.heap[B + 2]? = some (.cells (wv wsx).toArray 103 (0, 0)) ∧ Words wsx ∧ (∀ i, bitW wsx i = true ↔ From g ws b P i)
  only : Only (fun j => j = B + 2) w wr

theorem Put.congr {w wr : World} {B : Nat} {g : List St} {ws : List Int} {b : UInt8} {P P' : Nat → Prop} (h : Put w wr B g ws b P) (hc : ∀ m, bitW ws m = true → (P m ↔ P' m)) : Put w wr B g ws b P' := by
  obtain ⟨wsx, h1, h2, h3⟩ := h.ex
  exact ⟨⟨wsx, h1, h2, fun i => (h3 i).trans (from_congr hc i)⟩, h.only⟩

theorem StatesAt.only {r : Nat → Prop} {w w' : World} {v : Value} {g : List St} (h : StatesAt w v g) (hr : Only r w w') (hv : ∀ k, v.ownBlock = some k → ¬ r k) : StatesAt w' v g := by
  obtain ⟨gb, cap, rfl, h1, h2, h3⟩ := h.ex
  refine ⟨gb, cap, rfl, h1, h2, fun i st hi j hj => ?_⟩
  have h4 := h3 i st hi j hj
  rw [hr.cell (p := ⟨gb, i * 7 + j, none⟩) ?_ (hv gb rfl)]
  · exact h4
  · have : j < (stCells st).length := hj
    rw [List.getElem?_eq_getElem this] at h4
    exact World.block_lt_of_cell? _ _ h4

def zero12 : Obj := Obj.cells #[Value.int .u64 0, .int .u64 0, .int .u64 0, .int .u64 0, .int .u64 0, .int .u64 0, .int .u64 0, .int .u64 0, .int .u64 0, .int .u64 0, .int .u64 0, .int .u64 0] 103
theorem zero12_eq : zero12 = Obj.cells (wv (List.replicate 12 0)).toArray 103 := rfl
theorem bitW_zero (i : Nat) : bitW (List.replicate 12 0) i = false := by
  have : (List.replicate 12 (0 : Int))[i / 64]?.getD 0 = 0 := by
    rw [List.getElem?_replicate]; split <;> rfl
  rw [bitW, this]; simp
theorem words_zero : Words (List.replicate 12 0) := ⟨rfl, fun x hx => by rw [List.mem_replicate] at hx; omega⟩

theorem run_index_many (cs : Array Value) (i : Nat) (h : i < 12) (v : Value) (hv : cs[i]? = some v) (w : World) : (Instr.index 103 (.agg cs) (.int .i64 i)).run Tryz.prog w = .ok v w := by
  have h1 : (0 : Int) ≤ (i : Int) ∧ (i : Int) < ((12 : Nat) : Int) := by omega
  have h2 := part_int (w := w) Tryz.underlying22 cs i v hv
  simp only [Instr.index, asIntOf, Sem.run_bind, Sem.run_pure, Result.andThen_ok, run_underlying Tryz.underlying103]
  rw [if_pos h1]
  simp only [Sem.run_bind, sizeU64, Result.andThen_ok, Int.toNat_natCast, Nat.mul_one]
  exact h2

/-- A state's words are words. -/
def W64 (st : St) : Prop := (0 ≤ st.s0 ∧ st.s0 < 18446744073709551616) ∧ (0 ≤ st.s1 ∧ st.s1 < 18446744073709551616) ∧ (0 ≤ st.s2 ∧ st.s2 < 18446744073709551616) ∧ (0 ≤ st.s3 ∧ st.s3 < 18446744073709551616)
theorem W64.word {st : St} (h : W64 st) (b : Nat) : 0 ≤ word st.s0 st.s1 st.s2 st.s3 b ∧ word st.s0 st.s1 st.s2 st.s3 b < 18446744073709551616 := by
  unfold PX.word
  obtain ⟨h0, h1, h2, h3⟩ := h
  split
  · exact h0
  · split
    · exact h1
    · split
      · exact h2
      · exact h3
theorem off_u64' (x : Nat) (hx : x < 18446744073709551616) (hx0 : x ≠ 0) : bits BinOp.and IntKind.u64 (x : Int) ((x : Int) - 1) = ((x &&& (x - 1) : Nat) : Int) := by
  rw [show (x : Int) - 1 = ((x - 1 : Nat) : Int) by omega, bits_and_u64_nat x _ hx (by omega)]
theorem wrap_small {n : Int} (h0 : 0 ≤ n) (h1 : n ≤ 4294967296) : IntKind.i64.wrap n = n := by
  rw [IntKind.wrap_i64]; omega
theorem word_cell {ws : List Int} (hw : Words ws) (k : Nat) (hk : k < 12) : (wv ws).toArray[k]? = some (.int .u64 (ws[k]?.getD 0)) := by
  rw [List.getElem?_toArray, wv, List.getElem?_map, (word_get hw k hk).1]; rfl
theorem done_off {k X c : Nat} (hX : X < 18446744073709551616) (hX0 : X ≠ 0) (hc : Lib.ctz 64 X = c) (hc2 : c < 64) (m : Nat) : Done k (X &&& (X - 1)) m ↔ Done k X m ∨ m = 64 * k + c := by
  obtain ⟨h1, h2, -⟩ := lowest_off X hX hX0
  rw [hc] at h1 h2
  unfold Done
  rw [h2]
  constructor
  · rintro (h | ⟨h, h'⟩)
    · exact .inl (.inl h)
    · by_cases he : m % 64 = c
      · exact .inr (by omega)
      · simp [he] at h'; exact .inl (.inr ⟨h, h'⟩)
  · rintro ((h | ⟨h, h'⟩) | rfl)
    · exact .inl h
    · exact .inr ⟨h, by simp [h']⟩
    · have : (64 * k + c) % 64 = c := by omega
      exact .inr ⟨by omega, by simp [this]⟩
/-- The bit that is asked of a byte's set. -/
theorem eats_bit (s0 s1 s2 s3 : Int) (b : Nat) (hb : b < 256) (h : 0 ≤ word s0 s1 s2 s3 b ∧ word s0 s1 s2 s3 b < 18446744073709551616) :
    (bits BinOp.and IntKind.u64 (word s0 s1 s2 s3 b / 2 ^ (b % 64)) 1 == 1) = hasB s0 s1 s2 s3 (UInt8.ofNat b).toNat := by
  have e : (UInt8.ofNat b).toNat = b := by simp [UInt8.toNat_ofNat']; omega
  rw [bit_test _ _ h, hasB, e]

set_option maxRecDepth 100000 in
set_option maxHeartbeats 2000000 in
theorem step_core (w : World) (p : Nat) (v : Value) (g : List St) (ws : List Int) (b : Nat) (CS : Array Value) (HCS : Hid (CS = (wv ws).toArray))
    (hv : StatesAt w v g) (hp : w.cell? ⟨p, 0, none⟩ = some v) (hT : TabAt 0 Lib.deBruijn64tab w) (hg : OkG g) (hu : ∀ st ∈ g, W64 st) (hgl : g.length ≤ 700) (hw : Words ws) (hlt : ∀ i, bitW ws i = true → i < g.length) (hb : b < 256) :
    Calls Tryz.prog 57 #[.pointer (some ⟨p, 0, none⟩), .agg CS, .int .u8 b] w fun e w' => ∃ ws', e = .returned (.agg (wv ws').toArray) ∧ Words ws' ∧
      (∀ i, bitW ws' i = true ↔ From g ws (UInt8.ofNat b) (fun _ => True) i) ∧ Below w.heap.size w w' := by
  have HV := Lib.hid hv
  obtain ⟨gb, cap, rfl, hcap1, hcap2, hst⟩ := hv.ex
  have HST := Lib.hid hst; clear hst hv
  have HP := Lib.hid hp; clear hp
  have HT := Lib.hid hT; clear hT
  have hpb : p < w.heap.size := World.block_lt_of_cell? _ _ HP.out
  have hld0 : ∀ A B : Obj, (((w.alloc (.cells CS 103)).alloc A).alloc B).heap[w.heap.size]? = some (.cells CS 103 (0, 0)) := fun A B => alloc_old (alloc_old (alloc_block w _) _) _
  have hsz0 : (Tryz.prog.info? 103).map (·.size) = some CS.size := by rw [show CS.size = 12 by rw [HCS.out]; simp [wv, hw.len]]; exact info_many
  have HLD := Lib.hid hld0; clear hld0
  have HSZ := Lib.hid hsz0; clear hsz0
  go_enter Tryz.func57, Tryz.ntmps57
  go_wp2_with (refine wpList_load_row rfl 103 (.tmp 4) rfl w.heap.size rfl 103 CS (0, 0) _ (HLD.out _ _) Tryz.underlying103 rfl HSZ.out ?_)
  obtain ⟨B, HB⟩ : ∃ B, Hid (w.heap.size = B) := ⟨_, rfl⟩
  generalize hW : World.alloc (World.alloc (World.alloc _ _) _) _ = W3
  have hs3 : W3.heap.size = w.heap.size + 3 := by rw [← hW]; simp
  have hz : W3.heap[w.heap.size + 2]? = some (.cells (wv (List.replicate 12 0)).toArray 103 (0, 0)) := by
    rw [← hW]
    have h := alloc_block ((w.alloc (.cells CS 103)).alloc zero12) zero12
    rw [show ((w.alloc (.cells CS 103)).alloc zero12).heap.size = w.heap.size + 2 by simp] at h
    exact h
  have hr3 : (W3.heap[w.heap.size + 1]? = some zero12) := by
    rw [← hW]
    have h := alloc_old (alloc_block (w.alloc (.cells CS 103)) zero12) zero12
    rw [show (w.alloc (.cells CS 103)).heap.size = w.heap.size + 1 by simp] at h
    exact h
  have hbl : Below w.heap.size w W3 := by
    rw [← hW]
    exact (((Below.refl w.heap.size w).alloc (Nat.le_refl _) _).alloc (by simp) _).alloc (by simp; omega) _
  clear hW
  have HZ := Lib.hid hz; clear hz
  have HR3 := Lib.hid hr3; clear hr3
  have HBL := Lib.hid hbl; clear hbl
  go_loopw [12] (fun i wr => ∃ k : Nat, k ≤ 12 ∧ i = .int .i64 k ∧ Put W3 wr w.heap.size g ws (UInt8.ofNat b) (fun m => m < 64 * k)) (fun i _ => 12 - (intOf i).toNat)
  case atStart =>
    refine ⟨0, by omega, rfl, ⟨_, HZ.out, words_zero, fun i => ?_⟩, Only.refl _ _⟩
    rw [bitW_zero]
    constructor
    · intro h; cases h
    · rintro ⟨m, st, hm, -⟩; omega
  case round =>
    obtain ⟨k, hk, rfl, hput⟩ := hrel
    have HPUT := Lib.hid hput; clear hput
    by_cases hk12 : k = 12
    · subst hk12
      obtain ⟨wsx, hq, hwx, hbx⟩ := HPUT.out.ex
      obtain ⟨CX, HCX⟩ : ∃ CX, Hid ((wv wsx).toArray = CX) := ⟨_, rfl⟩
      rw [HCX.out] at hq
      have HR1 := Lib.hid (show wr.heap[w.heap.size + 1]? = some zero12 by
        rw [HPUT.out.only.block _ (by omega) (by omega)]; exact HR3.out)
      have hcx : CX.size = 12 := by rw [← HCX.out]; simp [wv, hwx.len]
      have HSX := Lib.hid (show (Tryz.prog.info? 103).map (·.size) = some CX.size by rw [hcx]; exact info_many)
      have H12 := Lib.hid (show (12 : Nat) = CX.size from hcx.symm); clear hcx
      have H1 := Lib.hid (show CX.all (·.oneCell') = true by rw [← HCX.out]; simp [wv, Value.oneCell'])
      have HQ := Lib.hid hq; clear hq
      go_wp2_with (first
        | refine wpList_load_row rfl 103 (.tmp 7) rfl (w.heap.size + 2) rfl 103 CX (0, 0) _ HQ.out Tryz.underlying103 rfl HSX.out ?_
        | refine wpList_store_row rfl 103 (.tmp 6) (.tmp 53) rfl (w.heap.size + 1) CX rfl rfl 103 _ HR1.out HSX.out H12.out H1.out ?_)
      (try simp only [Exit.inBlock, Exit.then])
      refine bodyPost_ret (results_cell_row rfl _ _ (w.heap.size + 1) 103 CX (0, 0) _ rfl (setRow_heap _ _ _ _ _ _ HR1.out) Tryz.underlying103 rfl HSX.out) rfl ?_
      refine ⟨wsx, by rw [HCX.out], hwx, fun i => (hbx i).trans (from_congr (fun m hm => ⟨fun _ => trivial, fun _ => by have := hlt m hm; omega⟩) i), ?_⟩
      have hb1 := HBL.out.trans (HPUT.out.only.below (B := w.heap.size) (by omega) (by intro k hk; omega))
      exact ⟨hb1.os, hb1.tape, hb1.output, by simpa using hb1.size, fun k hk => (setRow_other wr (w.heap.size + 1) k CX (by omega)).trans (hb1.block k hk)⟩
    · have h0 := word_get hw k (by omega)
      have HW1 := Lib.hid h0.1
      obtain ⟨W0, hW0⟩ : ∃ W0 : Nat, ws[k]?.getD 0 = (W0 : Int) := ⟨(ws[k]?.getD 0).toNat, by omega⟩
      have hidx : ∀ w : World, (Instr.index 103 (.agg CS) (.int .i64 k)).run Tryz.prog w = .ok (.int .u64 (W0 : Int)) w :=
        fun w => run_index_many CS k (by omega) _ (by rw [HCS.out, word_cell hw k (by omega), hW0]) w
      have hW0l : W0 < 18446744073709551616 := by omega
      have HBITS := Lib.hid (show ∀ c, c < 64 → bitW ws (64 * k + c) = W0.testBit c by
        intro c hc
        rw [bitW, show (64 * k + c) / 64 = k by omega, show (64 * k + c) % 64 = c by omega, hW0]; rfl)
      clear h0 hW0
      go_wp2_with fail
      clear hidx
      rw [show decide ((k : Int) < 12) = true from decide_eq_true (by omega)]
      go_loopw [9] (fun x wr => ∃ X : Nat, x = .int .u64 (X : Int) ∧ X < 18446744073709551616 ∧ (∀ j, X.testBit j = true → W0.testBit j = true) ∧ Put W3 wr w.heap.size g ws (UInt8.ofNat b) (Done k X)) (fun x _ => (intOf x).toNat)
      case atStart =>
        refine ⟨W0, rfl, hW0l, fun _ h => h, HPUT.out.congr fun m hm => ?_⟩
        constructor
        · intro h; exact .inl h
        · rintro (h | ⟨h1, h2⟩)
          · exact h
          · have h3 := HBITS.out (m % 64) (by omega)
            rw [show 64 * k + m % 64 = m by omega, hm, h2] at h3; cases h3
      case round =>
        obtain ⟨X, rfl, hX, hsub, hput⟩ := hrel
        have HPX := Lib.hid hput; clear hput
        clear HPUT
        by_cases hX0 : X = 0
        · subst hX0
          go_wp2_with fail
          refine ⟨⟨k + 1, by omega, by simp, HPX.out.congr fun m hm => ?_⟩, by simp only [intOf]; omega⟩
          constructor
          · rintro (h | ⟨h, -⟩) <;> omega
          · intro h
            by_cases h2 : m < 64 * k
            · exact .inl h2
            · exact .inr ⟨by omega, by simp⟩
        · obtain ⟨c, hc⟩ : ∃ c, Lib.ctz 64 X = c := ⟨_, rfl⟩
          have hc64 : c < 64 := by rw [← hc]; exact (Lib.lowest_bit 64 X hX0 (by omega)).2
          have hbm : bitW ws (64 * k + c) = true := by
            rw [HBITS.out c hc64]
            refine hsub c ?_
            have := (lowest_off X hX hX0).1
            rw [hc] at this; exact this
          have hm0l := hlt _ hbm
          have htz := fun w' hT' => tz64_any X hX hX0 w' hT'
          rw [hc] at htz
          have HTZ := Lib.hid htz; clear htz
          have HC := Lib.hid hc; clear hc
          obtain ⟨m0, hm0⟩ : ∃ m0, 64 * k + c = m0 := ⟨_, rfl⟩
          rw [hm0] at hbm hm0l
          obtain ⟨stt, hstt⟩ : ∃ stt, g[m0]? = some stt := ⟨g[m0], List.getElem?_eq_getElem hm0l⟩
          have hm0i : 64 * (k : Int) + (c : Int) = (m0 : Int) := by omega
          have hw1 : IntKind.i64.wrap (64 * (k : Int)) = 64 * (k : Int) := wrap_small (by omega) (by omega)
          have hw2 : IntKind.i64.wrap (m0 : Int) = (m0 : Int) := wrap_small (by omega) (by omega)
          have HON := Lib.hid (HPX.out.only)
          have HON2 := Lib.hid (show Below w.heap.size w wr from HBL.out.trans (HPX.out.only.below (by omega) (by omega)))
          have hx0 : ((X : Int) == 0) = false := by simp; omega
          have HM := Lib.hid hm0; clear hm0
          have hokst := hg stt (List.mem_of_getElem? hstt)
          go_wp2_with fail
          have htq : TabAt 0 Lib.deBruijn64tab wr := fun j hj => by
            have h := HT.out j hj
            exact (HON2.out.cell (p := ⟨0, j, none⟩) (World.block_lt_of_cell? _ _ h)).trans h
          have HTQ := Lib.hid (show TabAt 0 Lib.deBruijn64tab wr.drew from htq)
          have HTA := Lib.hid (show ∀ o, TabAt 0 Lib.deBruijn64tab (wr.drew.alloc o) from fun o j hj => by
            have h := htq j hj
            exact (World.cell?_alloc_past (w := wr.drew) o 0 j (World.block_lt_of_cell? _ _ h)).trans h)
          clear htq
          have hgbl : gb < w.heap.size := by
            have h0 := HST.out m0 stt hstt 0 (by omega)
            exact World.block_lt_of_cell? _ _ h0
          have hcells : ∀ j, j < 7 → wr.cell? ⟨gb, m0 * 7 + j, none⟩ = (stCells stt)[j]? := fun j hj => by
            have h := HST.out m0 stt hstt j hj
            exact (HON2.out.cell (p := ⟨gb, m0 * 7 + j, none⟩) hgbl).trans h
          have hpc : wr.cell? ⟨p, 0, none⟩ = some (.slice (some ⟨gb, 0, none⟩) g.length cap) := (HON2.out.cell (p := ⟨p, 0, none⟩) hpb).trans HP.out
          have k0 := hcells 0 (by omega)
          have k1 := hcells 1 (by omega)
          have k2 := hcells 2 (by omega)
          have k3 := hcells 3 (by omega)
          have k4 := hcells 4 (by omega)
          have k5 := hcells 5 (by omega)
          have k6 := hcells 6 (by omega)
          simp only [Nat.add_zero, stCells, List.getElem?_cons_zero, List.getElem?_cons_succ] at k0 k1 k2 k3 k4 k5 k6
          clear hcells
          have hwrs := HON.out.size
          have hgbw : gb < wr.heap.size := by omega
          have hpw : p < wr.heap.size := by omega
          go_cut [10] from 16 to 32 (fun x wc => x = .pointer (some ⟨wr.heap.size, 0, none⟩) ∧ wc = (wr.alloc (.cells #[.int .i64 stt.kind, .int .i64 stt.next, .int .i64 stt.other, .int .u64 stt.s0, .int .u64 stt.s1, .int .u64 stt.s2, .int .u64 stt.s3] 111)).drew)
          case first =>
            go_region_with (go_at_call 83; refine (HTZ.out _ (by first | exact HTQ.out | exact HTA.out _)).mono ?_; rintro e w' ⟨rfl, rfl⟩)
            all_goals
              go_wp2_with fail
              go_meet
              case rel => exact ⟨rfl, rfl⟩
          case rest =>
            obtain ⟨rfl, hwc⟩ := hcut
            have hxc : ∀ j, j < 7 → wc.cell? ⟨wr.heap.size, j, none⟩ = (stCells stt)[j]? := by
              intro j _
              rw [hwc]
              show (wr.alloc _).cell? _ = _
              rw [World.cell?_alloc_at _ _ _ _ rfl]
              simp [stCells]
            have hon3 : Only (fun j => j = w.heap.size + 2) W3 wc := by rw [hwc]; exact (HON.out.alloc _).drew
            have hwcs : wc.heap.size = wr.heap.size + 1 := by rw [hwc]; simp
            have hwc2 := hwc
            clear hwc k0 k1 k2 k3 k4 k5 k6 hpc
            have x0 := hxc 0 (by omega)
            have x1 := hxc 1 (by omega)
            simp only [stCells, List.getElem?_cons_zero, List.getElem?_cons_succ] at x0 x1
            obtain ⟨wsx, hq, hwx, hbx⟩ := HPX.out.ex
            have hqc : wc.heap[w.heap.size + 1 + 1]? = some (.cells (wv wsx).toArray 103 (0, 0)) := by
              rw [hwc2]
              exact alloc_old hq _
            have HQC := Lib.hid hqc; clear hqc hq hwc2
            have hmeas : (X &&& (X - 1)) < X := (lowest_off X hX hX0).2.2
            have hoff := off_u64' X hX hX0
            have HDO := Lib.hid (fun m => done_off (k := k) hX hX0 HC.out hc64 m)
            have HSUB := Lib.hid (show ∀ j, (X &&& (X - 1)).testBit j = true → W0.testBit j = true from fun j hj => by
              rw [Nat.testBit_and, Bool.and_eq_true] at hj; exact hsub j hj.1)
            have HFM := Lib.hid (fun i => from_more (b := UInt8.ofNat b) (P := Done k X) hbm hstt i)
            rw [HM.out] at HDO
            obtain ⟨X', HX'⟩ : ∃ X', Hid (X &&& (X - 1) = X') := ⟨_, rfl⟩
            rw [HX'.out] at hmeas hoff HDO HSUB
            cases hkind : (stt.kind == 0)
            · clear hxc
              go_wp2_with fail
              go_roundw
              case measure => simp only [intOf]; omega
              case rel =>
                refine ⟨X', rfl, by omega, HSUB.out, ⟨wsx, HQC.out, hwx, fun i => ?_⟩, hon3⟩
                rw [hbx i, from_congr (fun m _ => HDO.out m) i, HFM.out i]
                have : stt.eatsB (UInt8.ofNat b) = false := by
                  have : stt.kind ≠ 0 := by simpa using hkind
                  simp [St.eatsB, this]
                simp [this]
            · have hbw : wc.cell? ⟨wr.heap.size, 3 + b / 64, none⟩ = some (.int .u64 (word stt.s0 stt.s1 stt.s2 stt.s3 b)) := by
                have hb4 : b / 64 = 0 ∨ b / 64 = 1 ∨ b / 64 = 2 ∨ b / 64 = 3 := by omega
                rw [hxc _ (by omega)]
                rcases hb4 with h | h | h | h <;> rw [h] <;> simp only [stCells, word] 
                · rw [if_pos (by omega)]; rfl
                · rw [if_neg (by omega), if_pos (by omega)]; rfl
                · rw [if_neg (by omega), if_neg (by omega), if_pos (by omega)]; rfl
                · rw [if_neg (by omega), if_neg (by omega), if_neg (by omega)]; rfl
              clear hxc
              have hea := eats_bit stt.s0 stt.s1 stt.s2 stt.s3 b hb ((hu stt (List.mem_of_getElem? hstt)).word b)
              have hk0 : stt.kind = 0 := by simpa using hkind
              have heb : stt.eatsB (UInt8.ofNat b) = hasB stt.s0 stt.s1 stt.s2 stt.s3 (UInt8.ofNat b).toNat := by simp [St.eatsB, hk0]
              rw [← heb] at hea
              have HEB := Lib.hid heb; clear heb hk0
              have HNX := Lib.hid (show ((stt.next.toNat : Nat) : Int) = stt.next by omega)
              cases hee : stt.eatsB (UInt8.ofNat b)
              · rw [hee] at hea
                have HEE := Lib.hid hee; clear hee
                go_wp2_with fail
                go_roundw
                case measure => simp only [intOf]; omega
                case rel =>
                  refine ⟨X', rfl, by omega, HSUB.out, ⟨wsx, HQC.out, hwx, fun i => ?_⟩, hon3⟩
                  rw [hbx i, from_congr (fun m _ => HDO.out m) i, HFM.out i]
                  simp [HEE.out]
              · rw [hee] at hea
                have HEE := Lib.hid hee; clear hee
                have hstc : StatesAt wc (.slice (some ⟨gb, 0, none⟩) g.length cap) g :=
                  (HV.out.only (r := fun _ => False) (Only.of_below HBL.out) (fun _ _ h => h)).only hon3 (by
                    intro k hk; simp only [Value.ownBlock, Option.some.injEq] at hk; subst hk; omega)
                have hpcc : wc.cell? ⟨p, 0, none⟩ = some (.slice (some ⟨gb, 0, none⟩) g.length cap) := by
                  rw [hon3.cell (p := ⟨p, 0, none⟩) (by show p < _; omega) (by show ¬ p = _; omega), HBL.out.cell (p := ⟨p, 0, none⟩) hpb]
                  exact HP.out
                have hcall := put_any wc p (w.heap.size + 1 + 1) (.slice (some ⟨gb, 0, none⟩) g.length cap) g [] 103 wsx stt.next.toNat hstc hpcc HQC.out (by simp) (by intro h; omega)
                  (by simp only [Value.ownBlock, ne_eq, Option.some.injEq]; omega) hg hgl (by omega) hwx (by
                    intro i st hi hk1 hk2
                    have h := from_shut g ws (UInt8.ofNat b) (Done k X) i st ((hbx i).1 hi) hk1 hk2
                    exact ⟨(hbx _).2 h.1, (hbx _).2 h.2⟩)
                simp only [List.length_nil, List.nil_append] at hcall
                rw [HNX.out] at hcall
                have HCALL := Lib.hid hcall; clear hcall hstc hpcc
                go_wp2_with (go_at_call 64; refine HCALL.out.mono ?_; rintro e w' ⟨rfl, ws2, hq2, hw2', hb2, ho2⟩)
                go_roundw
                case measure => simp only [intOf]; omega
                case rel =>
                  refine ⟨X', rfl, by omega, HSUB.out, ⟨ws2, hq2, hw2', fun i => ?_⟩, hon3.trans (ho2.mono fun k _ hk => .inl hk)⟩
                  rw [hb2 i, hbx i, from_congr (fun m _ => HDO.out m) i, HFM.out i]
                  simp [HEE.out]

/-- The set behind a byte. -/
theorem step_any (w : World) (p : Nat) (v : Value) (g : List St) (ws : List Int) (b : Nat)
    (hv : StatesAt w v g) (hp : w.cell? ⟨p, 0, none⟩ = some v) (hT : TabAt 0 Lib.deBruijn64tab w) (hg : OkG g) (hu : ∀ st ∈ g, W64 st) (hgl : g.length ≤ 700) (hw : Words ws) (hlt : ∀ i, bitW ws i = true → i < g.length) (hb : b < 256) :
    Calls Tryz.prog 57 #[.pointer (some ⟨p, 0, none⟩), .agg (wv ws).toArray, .int .u8 b] w fun e w' => ∃ ws', e = .returned (.agg (wv ws').toArray) ∧ Words ws' ∧
      (∀ i, bitW ws' i = true ↔ after g (fun i => bitW ws i = true) (UInt8.ofNat b) i) ∧ Below w.heap.size w w' := by
  refine (step_core w p v g ws b _ (Lib.hid rfl) hv hp hT hg hu hgl hw hlt hb).mono ?_
  rintro e w' ⟨ws', rfl, h1, h2, h3⟩
  refine ⟨ws', rfl, h1, fun i => (h2 i).trans ?_, h3⟩
  constructor
  · rintro ⟨m, st, -, r⟩; exact ⟨m, st, r⟩
  · rintro ⟨m, st, r⟩; exact ⟨m, st, trivial, r⟩
end Go.Proofs.YtjhclopdcbnmkaaGreatDoor

/- The words of a machine's states are words; a machine in memory. -/
namespace Go.Proofs.YtjhclopdcbnmkaaGreatDoor
open Go.RowKit PX

mutual
def Ok64 : Rx → Prop
  | .node _ _ _ s0 s1 s2 s3 l => ((0 ≤ s0 ∧ s0 < 18446744073709551616) ∧ (0 ≤ s1 ∧ s1 < 18446744073709551616) ∧ (0 ≤ s2 ∧ s2 < 18446744073709551616) ∧ (0 ≤ s3 ∧ s3 < 18446744073709551616)) ∧ Ok64All l
def Ok64All : List Rx → Prop
  | [] => True
  | x :: xs => Ok64 x ∧ Ok64All xs
end
mutual
theorem in_ok64 {w : World} {B : Nat} : ∀ {x : RxA}, x.In w B → Ok64 x.bare
  | .node .., h => by
    simp only [RxA.In, U64] at h
    simp only [RxA.bare, Ok64]
    obtain ⟨⟨_, _, _, h0, h1, h2, h3⟩, -, -, -, hl⟩ := h
    refine ⟨⟨by omega, by omega, by omega, by omega⟩, ?_⟩
    rcases hl with rfl | ⟨b, o, -, -, hl⟩
    · trivial
    · exact inL_ok64 hl
theorem inL_ok64 {w : World} {B b : Nat} : ∀ {l : List RxA} {o : Nat}, InL w B b o l → Ok64All (bareAll l)
  | [], _, _ => trivial
  | x :: xs, o, h => by
    simp only [InL] at h
    exact ⟨in_ok64 h.2.1, inL_ok64 h.2.2⟩
end

def All64 (g : List St) : Prop := ∀ st ∈ g, W64 st
theorem W64.split (f o : Nat) : W64 (St.split f o) := by simp [W64, St.split]
theorem All64.snoc {g : List St} (h : All64 g) {st : St} (hs : W64 st) : All64 (g ++ [st]) := by
  intro x hx
  simp only [List.mem_append, List.mem_singleton] at hx
  rcases hx with hx | rfl
  · exact h x hx
  · exact hs
theorem All64.set {g : List St} (h : All64 g) (i : Nat) {st : St} (hs : W64 st) : All64 (g.set i st) := by
  intro x hx
  rcases List.mem_or_eq_of_mem_set hx with hx | rfl
  · exact h x hx
  · exact hs
theorem layTimes_64 {lay : List St → Nat → List St × Nat} (hl : ∀ g next, All64 g → All64 (lay g next).1) : ∀ (n : Nat) (g : List St) (f : Nat), All64 g → All64 (layTimes lay n g f).1
  | 0, _, _, h => h
  | n + 1, g, f, h => layTimes_64 hl n _ _ (hl g f h)
theorem layMay_64 {lay : List St → Nat → List St × Nat} (hl : ∀ g next, All64 g → All64 (lay g next).1) (next : Nat) : ∀ (n : Nat) (g : List St) (f : Nat), All64 g → All64 (layMay lay next n g f).1
  | 0, _, _, h => h
  | n + 1, g, f, h => layMay_64 hl next n _ _ ((hl g f h).snoc (W64.split _ _))
theorem layRepOf_64 {lay : List St → Nat → List St × Nat} (hl : ∀ g next, All64 g → All64 (lay g next).1) (mn mx : Int) (g : List St) (next : Nat) (h : All64 g) : All64 (layRepOf lay mn mx g next).1 := by
  unfold layRepOf
  split
  · have h1 := hl _ g.length (h.snoc (W64.split 0 next))
    have h2 := h1.set g.length (W64.split (lay (g ++ [St.split 0 next]) g.length).2 next)
    split
    · exact layTimes_64 hl _ _ _ h2
    · exact h2
  · exact layTimes_64 hl _ _ _ (layMay_64 hl next _ _ _ h)
mutual
theorem lay_64 : ∀ (x : Rx), Ok64 x → ∀ g next, All64 g → All64 (x.lay g next).1
  | .node kind mn mx s0 s1 s2 s3 l, h, g, next, hg => by
    simp only [Ok64] at h
    simp only [Rx.lay]
    split
    · exact hg.snoc ⟨h.1.1, h.1.2.1, h.1.2.2.1, h.1.2.2.2⟩
    · split
      · exact laySeq_64 l h.2 g next hg
      · split
        · match l, h.2 with
          | [], _ => exact hg
          | x :: xs, h2 =>
            simp only [Ok64All] at h2
            exact layMore_64 xs h2.2 _ _ _ (lay_64 x h2.1 g next hg)
        · match l, h.2 with
          | [], _ => exact hg
          | x :: xs, h2 =>
            simp only [Ok64All] at h2
            exact layRepOf_64 (lay_64 x h2.1) mn mx g next hg
theorem laySeq_64 : ∀ (l : List Rx), Ok64All l → ∀ g next, All64 g → All64 (laySeq l g next).1
  | [], _, _, _, hg => hg
  | x :: xs, h, g, next, hg => by
    simp only [Ok64All] at h
    exact lay_64 x h.1 _ _ (laySeq_64 xs h.2 g next hg)
theorem layMore_64 : ∀ (l : List Rx), Ok64All l → ∀ g next f, All64 g → All64 (layMore l g next f).1
  | [], _, _, _, _, hg => hg
  | x :: xs, h, g, next, f, hg => by
    simp only [Ok64All] at h
    exact layMore_64 xs h.2 _ _ _ ((lay_64 x h.1 g next hg).snoc (W64.split _ _))
end
theorem machine_64 {x : Rx} (h : Ok64 x) : ∀ st ∈ x.machine.1, W64 st :=
  lay_64 x h _ _ (by intro st hst; simp only [List.mem_singleton] at hst; subst hst; simp [W64])

/-- A machine of x at block p. -/
structure Machine (w : World) (p : Nat) (x : Rx) : Prop where
  form : x.formB = true
  ok : Ok64 x
  size : x.sizeI ≤ 256
  ex : ∃ v ws, w.heap[p]? = some (.cells (v :: wv ws).toArray 105 (0, 0)) ∧ StatesAt w v x.machine.1 ∧ Words ws ∧ ∀ i, bitW ws i = true ↔ Eps x.machine.1 x.machine.2 i

theorem Machine.few {w : World} {p : Nat} {x : Rx} (h : Machine w p x) : x.machine.1.length ≤ 512 := by
  have h1 := (x.machine_ok h.form).2.2.2
  have h2 := x.sizeI_eq
  have := h.size
  omega
end Go.Proofs.YtjhclopdcbnmkaaGreatDoor

/- The walk of New. -/
namespace Go.Proofs.YtjhclopdcbnmkaaGreatDoor
open Go.RowKit PX

theorem MachAt.states {w : World} {base p : Nat} {v : Value} {ws : List Value} {g : List St} (h : MachAt w base p v ws g) (hg : 0 < g.length) : StatesAt w v g := by
  obtain ⟨gb, cap, rfl, h1, h2⟩ := ownsRow_pos h.row hg
  refine ⟨gb, cap, rfl, h1, h2, fun i st hi j hj => ?_⟩
  have hil : i < g.length := (List.getElem?_eq_some_iff.1 hi).1
  rw [h.row.cellAt (i * 7 + j) (by omega)]
  exact stsCells_get g i j st hi hj

def st0 : St := ⟨2, 0, 0, 0, 0, 0, 0⟩
/-- A machine of one state, as New lays it. -/
theorem machAt_first (w : World) : MachAt ((w.alloc (.cells #[.int .i64 2, .int .i64 0, .int .i64 0, .int .u64 0, .int .u64 0, .int .u64 0, .int .u64 0] 111)).alloc
      (.cells #[.slice (some ⟨w.heap.size, 0, none⟩) 1 1, .int .u64 0, .int .u64 0, .int .u64 0, .int .u64 0, .int .u64 0, .int .u64 0, .int .u64 0, .int .u64 0, .int .u64 0, .int .u64 0, .int .u64 0, .int .u64 0] 105))
    w.heap.size (w.heap.size + 1) (.slice (some ⟨w.heap.size, 0, none⟩) 1 1) (wv (List.replicate 12 0)) [st0] := by
  refine ⟨?_, rfl, ?_, ?_, by simp; omega, by simp⟩
  · have h := alloc_block (w.alloc (.cells #[.int .i64 2, .int .i64 0, .int .i64 0, .int .u64 0, .int .u64 0, .int .u64 0, .int .u64 0] 111))
      (.cells #[.slice (some ⟨w.heap.size, 0, none⟩) 1 1, .int .u64 0, .int .u64 0, .int .u64 0, .int .u64 0, .int .u64 0, .int .u64 0, .int .u64 0, .int .u64 0, .int .u64 0, .int .u64 0, .int .u64 0, .int .u64 0] 105)
    rw [show (w.alloc (.cells #[.int .i64 2, .int .i64 0, .int .i64 0, .int .u64 0, .int .u64 0, .int .u64 0, .int .u64 0] 111)).heap.size = w.heap.size + 1 by simp] at h
    exact h
  · refine World.ownsRow.alloc ?_ _
    exact ⟨by simp [stsCells, stCells], .inr ⟨w.heap.size, 1, #[.int .i64 2, .int .i64 0, .int .i64 0, .int .u64 0, .int .u64 0, .int .u64 0, .int .u64 0], rfl, Nat.le_refl _, heap_alloc_new w _, by simp, by unfold maxLen; omega, rfl, rfl⟩⟩
  · simp only [Value.ownBlock, ne_eq, Option.some.injEq]; omega

set_option maxRecDepth 100000 in
set_option maxHeartbeats 2000000 in
theorem new_any (x : RxA) (w : World) (B : Nat) (hB : B ≤ w.heap.size) (hin : x.In w B) :
    Calls Tryz.prog 40 #[x.val] w fun e w' => Below w.heap.size w w' ∧
      ((checkR x.bare = 0 ∧ ∃ p, e = .returned (.tuple #[.pointer (some ⟨p, 0, none⟩), .int .i64 0]) ∧ w.heap.size ≤ p ∧ Machine w' p x.bare) ∨
       (checkR x.bare ≠ 0 ∧ e = .returned (.tuple #[.pointer none, .int .i64 (checkR x.bare)]))) := by
  have hck := pcheck_any x (w.alloc (.cells x.cells.toArray 26)) B (by simp; omega) (in_box _ hB hin)
  have HCK := Lib.hid hck; clear hck
  obtain ⟨X, HX⟩ : ∃ X, Hid (x = X) := ⟨_, rfl⟩
  obtain ⟨k, mn, mx, s0, s1, s2, s3, a, cap, l⟩ := x
  simp only [RxA.val, RxA.cells] at HCK ⊢
  rw [HX.out] at HCK hin ⊢
  go_enter Tryz.func40, Tryz.ntmps40
  cases hc0 : (checkR X.bare != 0)
  · have hc1 : checkR X.bare = 0 := by simpa using hc0
    rw [hc1] at HCK hc0
    have HC1 := Lib.hid hc1; clear hc1
    go_wp2_with (go_at_call 10; refine HCK.out.mono ?_; rintro e w1 ⟨rfl, hb1⟩)
    have hbw : Below w.heap.size w w1 := by
      have h := hb1
      rw [show (w.alloc (.cells #[.int .i64 k, .int .i64 mn, .int .i64 mx, .int .u64 s0, .int .u64 s1, .int .u64 s2, .int .u64 s3, .slice a l.length cap] 26)).heap.size = w.heap.size + 1 by simp] at h
      exact ((Below.refl w.heap.size w).alloc (Nat.le_refl _) _).trans (h.mono (by omega))
    have hm4 := machAt_first w1
    have hs1 : w.heap.size < w1.heap.size := by have := hb1.size; simp at this; omega
    have hb4 := (hb1.alloc (by simp; omega) (.cells #[.int .i64 2, .int .i64 0, .int .i64 0, .int .u64 0, .int .u64 0, .int .u64 0, .int .u64 0] 111)).alloc (by simp; omega)
      (.cells #[.slice (some ⟨w1.heap.size, 0, none⟩) 1 1, .int .u64 0, .int .u64 0, .int .u64 0, .int .u64 0, .int .u64 0, .int .u64 0, .int .u64 0, .int .u64 0, .int .u64 0, .int .u64 0, .int .u64 0, .int .u64 0] 105)
    have hbw4 := (hbw.alloc (by omega) (.cells #[.int .i64 2, .int .i64 0, .int .i64 0, .int .u64 0, .int .u64 0, .int .u64 0, .int .u64 0] 111)).alloc (by simp; omega)
      (.cells #[.slice (some ⟨w1.heap.size, 0, none⟩) 1 1, .int .u64 0, .int .u64 0, .int .u64 0, .int .u64 0, .int .u64 0, .int .u64 0, .int .u64 0, .int .u64 0, .int .u64 0, .int .u64 0, .int .u64 0, .int .u64 0] 105)
    have hs4 : w1.heap.size + 2 ≤ ((w1.alloc (.cells #[.int .i64 2, .int .i64 0, .int .i64 0, .int .u64 0, .int .u64 0, .int .u64 0, .int .u64 0] 111)).alloc
      (.cells #[.slice (some ⟨w1.heap.size, 0, none⟩) 1 1, .int .u64 0, .int .u64 0, .int .u64 0, .int .u64 0, .int .u64 0, .int .u64 0, .int .u64 0, .int .u64 0, .int .u64 0, .int .u64 0, .int .u64 0, .int .u64 0] 105)).heap.size := by simp
    generalize World.alloc (World.alloc w1 _) _ = W4 at *
    have hlt : w.heap.size < (w.alloc (.cells #[.int .i64 k, .int .i64 mn, .int .i64 mx, .int .u64 s0, .int .u64 s1, .int .u64 s2, .int .u64 s3, .slice a l.length cap] 26)).heap.size := by simp
    have c0 := laid_cell hb4 hlt 0 _ rfl
    have c1 := laid_cell hb4 hlt 1 _ rfl
    have c2 := laid_cell hb4 hlt 2 _ rfl
    have c3 := laid_cell hb4 hlt 3 _ rfl
    have c4 := laid_cell hb4 hlt 4 _ rfl
    have c5 := laid_cell hb4 hlt 5 _ rfl
    have c6 := laid_cell hb4 hlt 6 _ rfl
    have c7 := laid_cell hb4 hlt 7 _ rfl
    clear hb1 hb4 hbw HCK hlt
    have hck : X.bare.formB = true ∧ X.bare.sizeI ≤ 256 := by
      have h := HC1.out
      unfold checkR at h
      split at h
      · split at h
        · omega
        · exact ⟨by assumption, by omega⟩
      · omega
    have hmo := X.bare.machine_ok hck.1
    have hsz := X.bare.sizeI_eq
    have hbig : X.bare.big ≤ 256 := by omega
    have hok0 : OkG [st0] := by intro st hst; simp only [List.mem_singleton] at hst; subst hst; simp [st0]
    have hinW : X.In W4.drew B := hin.below hbw4.drew hB
    have hlaid := laid_any X W4.drew w1.heap.size (w1.heap.size + 1) B _ _ [st0] 0 (hm4.drewN 1) hinW (by omega) (by omega) hck.1 hok0 (by simp) (by simp; omega)
    have hval : X.val = .agg #[.int .i64 k, .int .i64 mn, .int .i64 mx, .int .u64 s0, .int .u64 s1, .int .u64 s2, .int .u64 s3, .slice a l.length cap] := by rw [← HX.out]; rfl
    rw [hval] at hlaid
    have HLAID := Lib.hid hlaid; clear hlaid hm4 hinW
    have hshut : Shut X.bare.machine.1 (fun i => bitW (List.replicate 12 0) i = true) := by
      intro i st h _ _; rw [bitW_zero] at h; cases h
    have HSH := Lib.hid hshut; clear hshut
    have HMO := Lib.hid hmo; clear hmo
    have HCH := Lib.hid hck; clear hck
    have HBW := Lib.hid hbw4; clear hbw4
    have h700 : X.bare.machine.1.length ≤ 700 := by have := HMO.out; omega
    have h1st : 0 < X.bare.machine.1.length := by have := HMO.out; omega
    have hput : ∀ w2 v2, MachAt w2 w1.heap.size (w1.heap.size + 1) v2 (wv (List.replicate 12 0)) X.bare.machine.1 →
        Calls Tryz.prog 64 #[.pointer (some ⟨w1.heap.size + 1, 0, none⟩), .pointer (some ⟨w1.heap.size + 1, 1, none⟩), .int .i64 ((X.bare.machine.2 : Nat) : Int)] w2 fun e w' => e = .returned (.tuple #[]) ∧
          ∃ ws', w'.heap[w1.heap.size + 1]? = some (.cells ([v2] ++ wv ws').toArray 105 (0, 0)) ∧ Words ws' ∧ (∀ i, bitW ws' i = true ↔ bitW (List.replicate 12 0) i = true ∨ Eps X.bare.machine.1 X.bare.machine.2 i) ∧ Only (fun k => k = w1.heap.size + 1) w2 w' := by
      intro w2 v2 hm2
      exact put_any w2 (w1.heap.size + 1) (w1.heap.size + 1) v2 X.bare.machine.1 [v2] 105 (List.replicate 12 0) X.bare.machine.2 (hm2.states h1st) (by rw [cell_of_block hm2.block]; rfl) hm2.block (by simp) (by simp) hm2.apart HMO.out.1 h700 HMO.out.2.1 words_zero HSH.out
    have HPUT := Lib.hid hput; clear hput
    go_region_with (first
      | (go_at_call 65; refine HLAID.out.mono ?_; rintro e w2 ⟨rfl, v2, hm2, hk2⟩)
      | (go_at_call 64; refine (HPUT.out w2 v2 hm2).mono ?_; rintro e w3 ⟨rfl, ws3, hq3, hw3, hb3, ho3⟩))
    go_wp2_with fail
    go_ret2
    have hbw2 : Below w.heap.size w w2 := HBW.out.drew.trans ((hk2.below (B := w.heap.size) (by simp; omega) (by omega) (by omega)))
    have hbw3 := hbw2.trans (ho3.below (B := w.heap.size) (by have := hbw2.size; omega) (by intro j hj; omega))
    have hm2' : MachAt w2 w1.heap.size (w1.heap.size + 1) v2 (wv (List.replicate 12 0)) X.bare.machine.1 := hm2
    refine ⟨hbw3, .inl ⟨HC1.out, w1.heap.size + 1, rfl, by omega, HCH.out.1, in_ok64 hin, HCH.out.2, v2, ws3, hq3, ?_, hw3, fun i => ?_⟩⟩
    · exact (hm2'.states h1st).only ho3 (by rintro j hj rfl; exact hm2'.apart hj)
    · rw [hb3 i, bitW_zero]; simp
  · go_wp2_with (go_at_call 10; refine HCK.out.mono ?_; rintro e w1 ⟨rfl, hb1⟩)
    go_ret2
    have hbw : Below w.heap.size w w1 := by
      have h := hb1
      rw [show (w.alloc (.cells #[.int .i64 k, .int .i64 mn, .int .i64 mx, .int .u64 s0, .int .u64 s1, .int .u64 s2, .int .u64 s3, .slice a l.length cap] 26)).heap.size = w.heap.size + 1 by simp] at h
      exact ((Below.refl w.heap.size w).alloc (Nat.le_refl _) _).trans (h.mono (by omega))
    exact ⟨hbw, .inr ⟨by simpa using hc0, rfl⟩⟩
end Go.Proofs.YtjhclopdcbnmkaaGreatDoor

/- The walks of Nothing and Is. -/
namespace Go.Proofs.YtjhclopdcbnmkaaGreatDoor
open Go.RowKit PX

theorem wpList_load_at {P : Program} {ops : Array Oper} {rest : List Oper} {o : Oper} {a : Act} {w : World} {Q : Exit → Act → World → Prop} (hgd : o.guard = none) (ty : TypeId) (x : Operand) (ho : o.op = .load ty x)
    (g j0 : Nat) (hx : a.eval x = .pointer (some ⟨g, j0, none⟩)) (cs : Array Value) (d : TypeDesc) (hc : ∀ j v, cs[j]? = some v → w.cell? ⟨g, j0 + j, none⟩ = some v)
    (hu : P.underlying ty = some d) (hd : (match d with | .struct _ | .array _ _ => true | _ => false) = true) (hi : (P.info? ty).map (·.size) = some cs.size)
    (h : wpList P ops Q rest (a.put o.dst (.agg cs)) w) : wpList P ops Q (o :: rest) a w := by
  refine wpList_plain hgd fun K hK => ?_
  have hl : (loadCells ⟨g, j0, none⟩ cs.toList.length).run P w = .ok cs.toList.toArray w :=
    run_loadCells_list (P := P) w ⟨g, j0, none⟩ cs.toList (fun j v hv => by
      have hadd : (⟨g, j0, none⟩ : Addr).add j = ⟨g, j0 + j, none⟩ := by unfold Addr.add; split <;> simp_all
      rw [hadd]
      exact hc j v (by simpa using hv))
  have hload : (loadVar ty ⟨g, j0, none⟩).run P w = .ok (.agg cs) w := by
    cases hq : P.info? ty with
    | none => simp [hq] at hi
    | some i =>
      have hs : i.size = cs.size := by simpa [hq] using hi
      have hagg : (isAgg ty).run P w = .ok true w := by
        unfold isAgg
        rw [Sem.run_bind, run_underlying hu w]
        cases d <;> simp_all
      simp only [Array.length_toList, Array.toArray_toList] at hl
      simp [loadVar, Sem.run_bind, hagg, sizeOf, typeInfo, hq, hs, hl]
  unfold Oper.wp execOp
  simp only [ho, hx, Instr.loadAt, Instr.sureAddr, Sem.run_bind, Sem.run_pure, Result.andThen_ok, hload]
  exact hK _ _ h

theorem TabAt.below {w w' : World} {tab : List Nat} (h : TabAt 0 tab w) (hb : Below w.heap.size w w') : TabAt 0 tab w' := fun j hj => by
  have h1 := h j hj
  exact (hb.cell (p := ⟨0, j, none⟩) (World.block_lt_of_cell? _ _ h1)).trans h1

theorem Machine.lt {w : World} {p : Nat} {x : Rx} (h : Machine w p x) : p < w.heap.size := by
  obtain ⟨v, ws, hp, -⟩ := h.ex
  exact lt_of_block hp
theorem Machine.below {w w' : World} {p : Nat} {x : Rx} (h : Machine w p x) (hb : Below w.heap.size w w') : Machine w' p x := by
  have hlt := h.lt
  obtain ⟨v, ws, hp, hv, hw, hs⟩ := h.ex
  exact ⟨h.form, h.ok, h.size, v, ws, by rw [hb.block p hlt]; exact hp, hv.only (r := fun _ => False) (Only.of_below hb) (fun _ _ h => h), hw, hs⟩

theorem bits_eq {G : List St} {f : Nat} {ws : List Int} (h : ∀ i, bitW ws i = true ↔ Eps G f i) : (fun i => bitW ws i = true) = Eps G f := funext fun i => propext (h i)

end Go.Proofs.YtjhclopdcbnmkaaGreatDoor

/- The walk of Is. -/
namespace Go.Proofs.YtjhclopdcbnmkaaGreatDoor
open Go.RowKit PX

theorem Only.setRow {r : Nat → Prop} {a w : World} (h : Only r a w) {q : Nat} (hq : r q ∨ a.heap.size ≤ q) (cs : Array Value) : Only r a (w.setRow q cs) :=
  ⟨h.os, h.tape, h.output, by simpa using h.size, fun k hk hr => (setRow_other w q k cs (by rintro rfl; rcases hq with hq | hq; exact hr hq; omega)).trans (h.block k hk hr)⟩
theorem wv12 {ws : List Int} (h : Words ws) : (wv ws).toArray.size = 12 := by simp [wv, h.len]
theorem wvOne (ws : List Int) : (wv ws).toArray.all (·.oneCell') = true := by simp [wv, Value.oneCell']
theorem wvInfo {ws : List Int} (h : Words ws) : (Tryz.prog.info? 103).map (·.size) = some (wv ws).toArray.size := by rw [wv12 h]; exact info_many
theorem after_lt {g : List St} (hg : OkG g) {S : Nat → Prop} {b : UInt8} {i : Nat} (h : after g S b i) : i < g.length := by
  obtain ⟨m, st, -, hm, -, he⟩ := h
  have := hg st (List.mem_of_getElem? hm)
  exact eps_lt hg he (by omega)

set_option maxRecDepth 100000 in
set_option maxHeartbeats 2000000 in
theorem is_any (w : World) (p : Nat) (x : Rx) (s : ByteArray) (h : Machine w p x) (hT : TabAt 0 Lib.deBruijn64tab w) :
    Calls Tryz.prog 37 #[.pointer (some ⟨p, 0, none⟩), .string s] w fun e w' => Below w.heap.size w w' ∧
      ((256 < s.size ∧ e = .returned (.tuple #[.bool false, .int .i64 60])) ∨ (s.size ≤ 256 ∧ ∃ r : Bool, e = .returned (.tuple #[.bool r, .int .i64 0]) ∧ (r = true ↔ x.lang s.data.toList))) := by
  have HM := Lib.hid h
  obtain ⟨v, ws, hp, hv, hw, hs⟩ := h.ex
  obtain ⟨CS, HCS⟩ : ∃ CS, Hid ((wv ws).toArray = CS) := ⟨_, rfl⟩
  have hcs : CS.size = 12 := by rw [← HCS.out]; simp [wv, hw.len]
  have HSZ := Lib.hid (show (Tryz.prog.info? 103).map (·.size) = some CS.size by rw [hcs]; exact info_many)
  have HC := Lib.hid (show ∀ j u, CS[j]? = some u → w.cell? ⟨p, 1 + j, none⟩ = some u by
    intro j u hj
    rw [cell_of_block hp, List.getElem?_toArray, Nat.add_comm, List.getElem?_cons_succ, ← List.getElem?_toArray, HCS.out]
    exact hj)
  have H12 := Lib.hid (show (12 : Nat) = CS.size from hcs.symm); clear hcs
  have H1 := Lib.hid (show CS.all (·.oneCell') = true by rw [← HCS.out]; simp [wv, Value.oneCell'])
  have HZ := Lib.hid (show (w.alloc zero12).heap[w.heap.size]? = some zero12 from alloc_block w _)
  have HT := Lib.hid hT; clear hT hp
  go_enter Tryz.func37, Tryz.ntmps37
  by_cases hl : 256 < s.size
  · go_wp2_with fail
    go_ret2
    exact ⟨Below.refl _ _, .inl ⟨hl, rfl⟩⟩
  · have hconv : ∀ W : World, (convert 9 58 (.string s)).run Tryz.prog W = .ok (.slice (some ⟨W.heap.size, 0, none⟩) s.size (grownCap W s.size 0 5)) (Lib.bytesWorld W 5 s) :=
      fun W => Lib.run_convert_string_bytes W _ _ _ s Tryz.underlying9 Tryz.underlying58 Tryz.underlying5
    go_wp2_with (first
      | refine wpList_load_at rfl 103 (.tmp 14) rfl p 1 rfl CS _ HC.out Tryz.underlying103 rfl HSZ.out ?_
      | refine wpList_store_row rfl 103 (.tmp 6) (.tmp 15) rfl w.heap.size CS rfl rfl 103 _ HZ.out HSZ.out H12.out H1.out ?_)
    have hW1 : ∀ W1, W1 = (w.alloc zero12).setRow w.heap.size CS → W1.heap.size = w.heap.size + 1 ∧ W1.heap[w.heap.size]? = some (.cells CS 103 (0, 0)) ∧ Below w.heap.size w W1 := by
      rintro W1 rfl
      refine ⟨by simp, setRow_heap _ _ _ _ _ _ HZ.out, ?_⟩
      have h1 := (Below.refl w.heap.size w).alloc (Nat.le_refl _) zero12
      exact ⟨h1.os, h1.tape, h1.output, by simp, fun k hk => (setRow_other _ _ _ _ (by omega)).trans (h1.block k hk)⟩
    generalize hg1 : World.setRow (World.alloc w _) _ _ = W1
    obtain ⟨hz1, hr1, hb1⟩ := hW1 W1 hg1.symm
    clear hW1 hg1 hconv
    have hz2 : (Lib.bytesWorld W1 5 s).heap.size = w.heap.size + 2 := by rw [Lib.bytesWorld_size, hz1]
    have hr2 : (Lib.bytesWorld W1 5 s).heap[w.heap.size]? = some (.cells CS 103 (0, 0)) := by rw [Lib.bytesWorld_at_old _ _ _ _ (by omega)]; exact hr1
    have hb2 : Below w.heap.size w (Lib.bytesWorld W1 5 s) :=
      ⟨hb1.os, hb1.tape, hb1.output, by omega, fun k hk => (Lib.bytesWorld_at_old _ _ _ _ (by omega)).trans (hb1.block k hk)⟩
    have hby : ∀ j, j < s.size → (Lib.bytesWorld W1 5 s).cell? ⟨w.heap.size + 1, j, none⟩ = some (.int .u8 (s.data.toList.getD j 0).toNat) := by
      intro j hj
      rw [← hz1]; exact Lib.bytesWorld_cell _ _ _ _ hj
    generalize Lib.bytesWorld W1 5 s = W2 at *
    clear hr1 hb1 hz1
    have HR2 := Lib.hid hr2; clear hr2
    have HB2 := Lib.hid hb2; clear hb2
    have HBY := Lib.hid hby; clear hby
    generalize grownCap W1 s.size 0 5 = cap
    have hslen : s.data.toList.length = s.size := by rw [Array.length_toList]; rfl
    have hpl := h.lt
    go_loopw [19] (fun i wr => ∃ k : Nat, k ≤ s.size ∧ i = .int .i64 k ∧ ∃ wsi, wr.heap[w.heap.size]? = some (.cells (wv wsi).toArray 103 (0, 0)) ∧ Words wsi ∧ (∀ j, bitW wsi j = true → j < x.machine.1.length) ∧
        (run x.machine.1 (fun j => bitW wsi j = true) (s.data.toList.drop k) 0 ↔ x.lang s.data.toList) ∧ Only (fun j => j = w.heap.size) W2 wr) (fun i _ => s.size - (intOf i).toNat)
    case atStart =>
      refine ⟨0, by omega, rfl, ws, by rw [HCS.out]; exact HR2.out, hw, fun j hj => eps_lt (x.machine_ok h.form).1 ((hs j).1 hj) (x.machine_ok h.form).2.1, ?_, Only.refl _ _⟩
      rw [bits_eq hs]
      exact x.machine_lang h.form _
    case round =>
      obtain ⟨k, hk, rfl, wsi, hq, hwi, hlt, hrun, honly⟩ := hrel
      have HRUN := Lib.hid hrun; clear hrun
      obtain ⟨CX, HCX⟩ : ∃ CX, Hid ((wv wsi).toArray = CX) := ⟨_, rfl⟩
      have HSX := Lib.hid (wvInfo hwi)
      rw [HCX.out] at hq HSX
      have hbwr : Below w.heap.size w wr := HB2.out.trans (honly.below (by omega) (by intro j hj; omega))
      by_cases hks : k = s.size
      · subst hks
        have hd := done_any wr wsi hwi
        rw [HCX.out] at hd
        have HD := Lib.hid hd; clear hd
        have HQ := Lib.hid hq; clear hq
        go_wp2_with (first
          | refine wpList_load_row rfl 103 (.tmp 6) rfl w.heap.size rfl 103 CX (0, 0) _ HQ.out Tryz.underlying103 rfl HSX.out ?_
          | (go_at_call 58; refine HD.out.mono ?_; rintro e w1 ⟨rfl, hb1⟩))
        go_ret2
        refine ⟨hbwr.trans (hb1.mono hbwr.size), .inr ⟨by omega, _, rfl, ?_⟩⟩
        rw [← HRUN.out, List.drop_eq_nil_of_le (by omega)]
        rfl
      · have hcell : wr.cell? ⟨w.heap.size + 1, k, none⟩ = some (.int .u8 (s.data.toList.getD k 0).toNat) := by
          rw [honly.cell (p := ⟨w.heap.size + 1, k, none⟩) (by show w.heap.size + 1 < W2.heap.size; omega) (by show ¬ w.heap.size + 1 = w.heap.size; omega)]
          exact HBY.out k (by omega)
        obtain ⟨b, HBB⟩ : ∃ b : UInt8, Hid (s.data.toList.getD k 0 = b) := ⟨_, rfl⟩
        rw [HBB.out] at hcell
        have hmr : Machine wr p x := HM.out.below hbwr
        have hmo := x.machine_ok h.form
        have hstep : Calls Tryz.prog 57 #[.pointer (some ⟨p, 0, none⟩), .agg CX, .int .u8 b.toNat] wr fun e w' => ∃ ws', e = .returned (.agg (wv ws').toArray) ∧ Words ws' ∧
            (∀ i, bitW ws' i = true ↔ after x.machine.1 (fun i => bitW wsi i = true) b i) ∧ Below wr.heap.size wr w' := by
          obtain ⟨v', ws', hp', hv', -, -⟩ := hmr.ex
          have h := step_any wr p v' x.machine.1 wsi b.toNat hv' (by rw [cell_of_block hp']; rfl) (TabAt.below HT.out hbwr) hmo.1 (machine_64 h.ok) (by have := h.few; omega) hwi hlt (UInt8.toNat_lt _)
          rw [HCX.out, UInt8.ofNat_toNat] at h
          exact h
        have HSTEP := Lib.hid hstep; clear hstep
        have HQ := Lib.hid hq; clear hq
        have hwrs := honly.size
        go_wp2_with (first
          | refine wpList_load_row rfl 103 (.tmp 6) rfl w.heap.size rfl 103 CX (0, 0) _ HQ.out Tryz.underlying103 rfl HSX.out ?_
          | (go_at_call 57; refine HSTEP.out.mono ?_; rintro e w1 ⟨ws1, rfl, hw1, hb1, hbl1⟩; obtain ⟨C1, HC1⟩ : ∃ C1, Hid ((wv ws1).toArray = C1) := ⟨_, rfl⟩; rw [HC1.out])
          | refine wpList_store_row rfl 103 (.tmp 6) (.tmp 26) rfl w.heap.size C1 rfl rfl 103 CX ((hbl1.block w.heap.size (by omega)).trans HQ.out) (by rw [← HC1.out]; exact wvInfo hw1) (by rw [← HC1.out, wv12 hw1, ← HCX.out, wv12 hwi]) (by rw [← HC1.out]; exact wvOne ws1) ?_)
        go_roundw
        case measure => simp only [intOf]; omega
        case rel =>
          refine ⟨k + 1, by omega, by simp, ws1, by rw [HC1.out]; exact setRow_heap _ _ _ _ _ _ ((hbl1.block w.heap.size (by omega)).trans HQ.out), hw1, fun j hj => after_lt hmo.1 ((hb1 j).1 hj), ?_, (honly.trans (Only.of_below hbl1)).setRow (.inl rfl) _⟩
          rw [← HRUN.out, List.drop_eq_getElem_cons (i := k) (by omega)]
          have e : (fun j => bitW ws1 j = true) = after x.machine.1 (fun i => bitW wsi i = true) (s.data.toList[k]'(by omega)) := by
            funext j
            rw [propext (hb1 j)]
            congr 1
            rw [← HBB.out, List.getD_eq_getElem?_getD, List.getElem?_eq_getElem (by omega)]; rfl
          rw [e]
          rfl
end Go.Proofs.YtjhclopdcbnmkaaGreatDoor

/- The walk of Hit. -/
namespace Go.Proofs.YtjhclopdcbnmkaaGreatDoor
open Go.RowKit PX

theorem run_append (G : List St) : ∀ (u v : List UInt8) (S : Nat → Prop), run G S (u ++ v) = run G (run G S u) v
  | [], _, _ => rfl
  | b :: u, v, S => run_append G u v (after G S b)
theorem run_none (G : List St) : ∀ (v : List UInt8) (S : Nat → Prop), (∀ j, ¬ S j) → ∀ j, ¬ run G S v j
  | [], _, h => h
  | b :: v, S, h => run_none G v (after G S b) (by rintro j ⟨i, st, hi, -⟩; exact h i hi)
theorem sub_succ (s : List UInt8) {a b : Nat} (h : a ≤ b) (hb : b < s.length) : sub s a (b + 1) = sub s a b ++ [s[b]] := by
  rw [← sub_one s b hb, sub_append s h (by omega)]

/-- The set behind the bytes from a up to b. -/
def SetAt (x : Rx) (s : List UInt8) (a b : Nat) (ws : List Int) : Prop := (fun j => bitW ws j = true) = run x.machine.1 (Eps x.machine.1 x.machine.2) (sub s a b)
theorem SetAt.is {x : Rx} (hx : x.formB = true) {s : List UInt8} {a b : Nat} {ws : List Int} (h : SetAt x s a b ws) : bitW ws 0 = true ↔ x.lang (sub s a b) := by
  rw [← x.machine_lang hx]
  have := congrFun h 0
  rw [← this]
theorem SetAt.next {x : Rx} {s : List UInt8} {a b : Nat} {ws ws' : List Int} (h : SetAt x s a b ws) (hab : a ≤ b) (hb : b < s.length) (h' : ∀ i, bitW ws' i = true ↔ after x.machine.1 (fun i => bitW ws i = true) s[b] i) : SetAt x s a (b + 1) ws' := by
  unfold SetAt
  rw [sub_succ s hab hb, run_append, ← h]
  funext i
  exact propext (h' i)
theorem SetAt.dead {x : Rx} (hx : x.formB = true) {s : List UInt8} {a b : Nat} {ws : List Int} (h : SetAt x s a b ws) (hab : a ≤ b) (hz : ws = List.replicate 12 0) : ∀ k, b ≤ k → ¬ x.lang (sub s a k) := by
  intro k hk
  rw [← x.machine_lang hx, ← sub_append s hab hk, run_append, ← h]
  exact run_none _ _ _ (fun j hj => by subst hz; rw [bitW_zero] at hj; cases hj) 0

theorem run_eq12 (ws : List Int) (hw : Words ws) (w : World) : (Op.equalIn 10000 103 (.agg (wv ws).toArray) (.agg #[Value.int .u64 0, .int .u64 0, .int .u64 0, .int .u64 0, .int .u64 0, .int .u64 0, .int .u64 0, .int .u64 0, .int .u64 0, .int .u64 0, .int .u64 0, .int .u64 0])).run Tryz.prog w =
    .ok (decide (ws = List.replicate 12 0)) w :=
  eqArr_int (w := w) (d := 9998) Tryz.underlying103 Tryz.underlying22 sizeU64 _ _ ws (List.replicate 12 0) hw.len rfl rfl rfl

theorem run_lt {G : List St} (hG : OkG G) : ∀ (v : List UInt8) (S : Nat → Prop), (∀ j, S j → j < G.length) → ∀ j, run G S v j → j < G.length
  | [], _, h => h
  | b :: v, S, _ => run_lt hG v (after G S b) (fun _ hj => after_lt hG hj)
theorem SetAt.lt {x : Rx} (hx : x.formB = true) {s : List UInt8} {a b : Nat} {ws : List Int} (h : SetAt x s a b ws) (j : Nat) (hj : bitW ws j = true) : j < x.machine.1.length := by
  have hmo := x.machine_ok hx
  have h2 : run x.machine.1 (Eps x.machine.1 x.machine.2) (sub s a b) j := by rw [← congrFun h j]; exact hj
  exact run_lt hmo.1 _ _ (fun i hi => eps_lt hmo.1 hi hmo.2.1) j h2
theorem setAt_start {x : Rx} (s : List UInt8) (a : Nat) {ws : List Int} (h : ∀ i, bitW ws i = true ↔ Eps x.machine.1 x.machine.2 i) : SetAt x s a a ws := by
  unfold SetAt; rw [sub_self]; exact bits_eq h

/-- What is known of an end so far. -/
def EndAt (L : List UInt8 → Prop) (s : List UInt8) (a b e : Nat) : Prop :=
  (e = 0 ∧ ∀ k, a < k → k ≤ b → ¬ L (sub s a k)) ∨ (a < e ∧ e ≤ b ∧ L (sub s a e) ∧ ∀ k, e < k → k ≤ b → ¬ L (sub s a k))
theorem EndAt.no {L : List UInt8 → Prop} {s : List UInt8} {a b e : Nat} (h : EndAt L s a b e) (hn : ¬ L (sub s a (b + 1))) : EndAt L s a (b + 1) e := by
  rcases h with ⟨h0, h1⟩ | ⟨h0, h1, h2, h3⟩
  · refine .inl ⟨h0, fun k hk hk2 => ?_⟩
    by_cases hkb : k = b + 1
    · subst hkb; exact hn
    · exact h1 k hk (by omega)
  · refine .inr ⟨h0, by omega, h2, fun k hk hk2 => ?_⟩
    by_cases hkb : k = b + 1
    · subst hkb; exact hn
    · exact h3 k hk (by omega)
theorem EndAt.yes {L : List UInt8 → Prop} {s : List UInt8} {a b : Nat} (hab : a ≤ b) (hn : L (sub s a (b + 1))) : EndAt L s a (b + 1) (b + 1) :=
  .inr ⟨by omega, Nat.le_refl _, hn, fun k hk hk2 => by omega⟩
theorem EndAt.all {L : List UInt8 → Prop} {s : List UInt8} {a b e : Nat} (h : EndAt L s a b e) (hd : ∀ k, b < k → k ≤ s.length → ¬ L (sub s a k)) (hb : b ≤ s.length) : EndAt L s a s.length e := by
  rcases h with ⟨h0, h1⟩ | ⟨h0, h1, h2, h3⟩
  · exact .inl ⟨h0, fun k hk hk2 => by by_cases hkb : k ≤ b; exact h1 k hk hkb; exact hd k (by omega) hk2⟩
  · exact .inr ⟨h0, by omega, h2, fun k hk hk2 => by by_cases hkb : k ≤ b; exact h3 k hk hkb; exact hd k (by omega) hk2⟩

/-- What Hit tells. -/
def HitSays (x : Rx) (s : List UInt8) (from_ : Int) (e : Ending) : Prop :=
  (¬ (s.length ≤ 256 ∧ 0 ≤ from_ ∧ from_ ≤ s.length) ∧ e = .returned (.tuple #[.int .i64 0, .int .i64 0, .bool false])) ∨
  (s.length ≤ 256 ∧ ∃ f : Nat, from_ = f ∧ f ≤ s.length ∧ ((∃ a b : Nat, e = .returned (.tuple #[.int .i64 a, .int .i64 b, .bool true]) ∧ IsHit x.lang s f a b) ∨ (NoHit x.lang s f ∧ e = .returned (.tuple #[.int .i64 0, .int .i64 0, .bool false]))))

/-- A whole array is loaded by an operation whose guard lets it. -/
theorem wpList_load_row_on {P : Program} {ops : Array Oper} {rest : List Oper} {o : Oper} {a : Act} {w : World} {Q : Exit → Act → World → Prop} (hgd : Region.wanted o (yielded ops a.tmps) = true) (ty : TypeId) (x : Operand) (ho : o.op = .load ty x)
    (g : Nat) (hx : a.eval x = .pointer (some ⟨g, 0, none⟩)) (t : TypeId) (cs : Array Value) (fr : Nat × Nat) (d : TypeDesc) (hg : w.heap[g]? = some (.cells cs t fr))
    (hu : P.underlying ty = some d) (hd : (match d with | .struct _ | .array _ _ => true | _ => false) = true) (hi : (P.info? ty).map (·.size) = some cs.size)
    (h : wpList P ops Q rest (a.put o.dst (.agg cs)) w) : wpList P ops Q (o :: rest) a w :=
  wpList_step fun K hK => by rw [if_pos hgd]; exact wp_load_row ty x ho g hx t cs fr d hg hu hd hi (hK _ _ h)

theorem step_load_row {P : Program} {ops : Array Oper} {o : Oper} {a : Act} {w : World} {K : Act → World → Prop} {Q : Exit → Act → World → Prop} {E : Prop} (hgd : o.guard = none) (ty : TypeId) (x : Operand) (ho : o.op = .load ty x)
    (g : Nat) (hx : a.eval x = .pointer (some ⟨g, 0, none⟩)) (t : TypeId) (cs : Array Value) (fr : Nat × Nat) (d : TypeDesc) (hg : w.heap[g]? = some (.cells cs t fr))
    (hu : P.underlying ty = some d) (hd : (match d with | .struct _ | .array _ _ => true | _ => false) = true) (hi : (P.info? ty).map (·.size) = some cs.size)
    (h : K (a.put o.dst (.agg cs)) w) : if Region.wanted o (yielded ops a.tmps) = true then Oper.wp P o a w K Q else E := by
  rw [if_pos (by simp [Region.wanted, hgd])]
  exact wp_load_row ty x ho g hx t cs fr d hg hu hd hi h
theorem step_store_row {P : Program} {ops : Array Oper} {o : Oper} {a : Act} {w : World} {K : Act → World → Prop} {Q : Exit → Act → World → Prop} {E : Prop} (hgd : o.guard = none) (ty : TypeId) (x y : Operand) (ho : o.op = .store ty x y)
    (g : Nat) (cells : Array Value) (hx : a.eval x = .pointer (some ⟨g, 0, none⟩)) (hy : a.eval y = .agg cells)
    (t : TypeId) (old : Array Value) (hg : w.heap[g]? = some (.cells old t (0, 0))) (hi : (P.info? ty).map (·.size) = some cells.size)
    (hold : old.size = cells.size) (h1 : cells.all (·.oneCell') = true)
    (h : K (a.put o.dst undef) (w.setRow g cells)) : if Region.wanted o (yielded ops a.tmps) = true then Oper.wp P o a w K Q else E := by
  rw [if_pos (by simp [Region.wanted, hgd])]
  exact wp_store_row ty x y ho g cells hx hy t old hg hi hold h1 h

theorem hitSays_bad {x : Rx} {s : List UInt8} {f : Int} (h : ¬ (s.length ≤ 256 ∧ 0 ≤ f ∧ f ≤ s.length)) : HitSays x s f (.returned (.tuple #[.int .i64 0, .int .i64 0, .bool false])) := .inl ⟨h, rfl⟩

theorem hitMore {L : List UInt8 → Prop} {s : List UInt8} {f a : Nat} (h : ∀ c, f ≤ c → c < a → ∀ k, c < k → k ≤ s.length → ¬ L (sub s c k)) (he : EndAt L s a s.length 0) : ∀ c, f ≤ c → c < a + 1 → ∀ k, c < k → k ≤ s.length → ¬ L (sub s c k) := by
  intro c h1 h2 k h3 h4
  by_cases hc : c = a
  · subst hc
    rcases he with ⟨-, he⟩ | ⟨h0, -⟩
    · exact he k h3 h4
    · omega
  · exact h c h1 (by omega) k h3 h4
theorem hitFound {L : List UInt8 → Prop} {s : List UInt8} {f a e : Nat} (hf : f ≤ a) (h : ∀ c, f ≤ c → c < a → ∀ k, c < k → k ≤ s.length → ¬ L (sub s c k)) (he : EndAt L s a s.length e) (h0 : ¬ e = 0) : IsHit L s f a e := by
  rcases he with ⟨he, -⟩ | ⟨h1, h2, h3, h4⟩
  · exact absurd he h0
  · exact ⟨hf, h1, h2, h3, h4, h⟩

set_option maxRecDepth 100000 in
set_option maxHeartbeats 2000000 in
theorem hit_any (w : World) (p : Nat) (x : Rx) (s : ByteArray) (f : Int) (h : Machine w p x) (hT : TabAt 0 Lib.deBruijn64tab w) (hf : I64 f) :
    Calls Tryz.prog 84 #[.pointer (some ⟨p, 0, none⟩), .string s, .int .i64 f] w fun e w' => HitSays x s.data.toList f e ∧ Below w.heap.size w w' := by
  have hslen : s.data.toList.length = s.size := by rw [Array.length_toList]; rfl
  unfold I64 at hf
  by_cases h1 : 256 < s.size
  · go_enter Tryz.func84, Tryz.ntmps84
    go_wp2_with fail
    all_goals
      refine bodyPost_ret (results_tmp3 rfl _ _ _) rfl ?_
      exact ⟨hitSays_bad (by omega), Below.refl _ _⟩
  · by_cases h2 : f < 0
    · go_enter Tryz.func84, Tryz.ntmps84
      go_wp2_with fail
      all_goals
        refine bodyPost_ret (results_tmp3 rfl _ _ _) rfl ?_
        exact ⟨hitSays_bad (by omega), Below.refl _ _⟩
    · by_cases h3 : (s.size : Int) < f
      · go_enter Tryz.func84, Tryz.ntmps84
        go_wp2_with fail
        all_goals
          refine bodyPost_ret (results_tmp3 rfl _ _ _) rfl ?_
          exact ⟨hitSays_bad (by omega), Below.refl _ _⟩
      · obtain ⟨f0, rfl⟩ : ∃ f0 : Nat, f = f0 := ⟨f.toNat, by omega⟩
        have HM := Lib.hid h
        have HT := Lib.hid hT; clear hT
        have hmo := x.machine_ok h.form
        have HMO := Lib.hid hmo; clear hmo
        have hpl := h.lt
        have hf0 : f0 ≤ s.size := by omega
        clear h2 hf
        have hd3 : decide ((s.size : Int) < (f0 : Int)) = false := decide_eq_false h3
        have hd1 : decide ((256 : Int) < (s.size : Int)) = false := decide_eq_false (by omega)
        go_enter Tryz.func84, Tryz.ntmps84
        go_wp2_with fail
        go_loopw [9] (fun i wr => ∃ a : Nat, f0 ≤ a ∧ a ≤ s.size ∧ i = .int .i64 a ∧ Below w.heap.size w wr ∧ ∀ c, f0 ≤ c → c < a → ∀ k, c < k → k ≤ s.data.toList.length → ¬ x.lang (sub s.data.toList c k)) (fun i _ => s.size - (intOf i).toNat)
        case atStart => exact ⟨f0, Nat.le_refl _, hf0, rfl, Below.refl _ _, fun c h1 h2 => by omega⟩
        case round =>
          obtain ⟨a, hfa, has, rfl, hbl, hno⟩ := hrel
          obtain ⟨wo, rfl⟩ : ∃ wo, wo = wr := ⟨_, rfl⟩
          have HNO := Lib.hid hno; clear hno
          have HBL := Lib.hid hbl; clear hbl
          by_cases hae : a = s.size
          · subst hae
            go_wp2_with fail
            refine bodyPost_ret (results_tmp3 rfl _ _ _) rfl ?_
            exact ⟨.inr ⟨by omega, f0, rfl, by omega, .inr ⟨fun c k h1 h2 h3 => HNO.out c h1 (by omega) k h2 h3, rfl⟩⟩, HBL.out⟩
          · have hmr : Machine wo p x := HM.out.below HBL.out
            obtain ⟨v, ws, hp, hv, hw, hs⟩ := hmr.ex
            obtain ⟨CS, HCS⟩ : ∃ CS, Hid ((wv ws).toArray = CS) := ⟨_, rfl⟩
            have HSZ := Lib.hid (wvInfo hw)
            have H12 := Lib.hid (show (12 : Nat) = (wv ws).toArray.size from (wv12 hw).symm)
            have H1 := Lib.hid (wvOne ws)
            rw [HCS.out] at HSZ H12 H1
            have HC := Lib.hid (show ∀ j u, CS[j]? = some u → wo.cell? ⟨p, 1 + j, none⟩ = some u by
              intro j u hj
              rw [cell_of_block hp, List.getElem?_toArray, Nat.add_comm, List.getElem?_cons_succ, ← List.getElem?_toArray, HCS.out]
              exact hj)
            have HZ := Lib.hid (show (wo.alloc zero12).heap[wo.heap.size]? = some zero12 from alloc_block wo _)
            clear hp
            go_wp2_with (first
              | refine wpList_load_at rfl 103 (.tmp 35) rfl p 1 rfl CS _ HC.out Tryz.underlying103 rfl HSZ.out ?_
              | refine wpList_store_row rfl 103 (.tmp 11) (.tmp 36) rfl wo.heap.size CS rfl rfl 103 _ HZ.out HSZ.out H12.out H1.out ?_)
            have hW1 : ∀ W1, W1 = (wo.alloc zero12).setRow wo.heap.size CS → W1.heap.size = wo.heap.size + 1 ∧ W1.heap[wo.heap.size]? = some (.cells CS 103 (0, 0)) ∧ Below wo.heap.size wo W1 := by
              rintro W1 rfl
              refine ⟨by simp, setRow_heap _ _ _ _ _ _ HZ.out, ?_⟩
              have h1 := (Below.refl wo.heap.size wo).alloc (Nat.le_refl _) zero12
              exact ⟨h1.os, h1.tape, h1.output, by simp, fun k hk => (setRow_other _ _ _ _ (by omega)).trans (h1.block k hk)⟩
            generalize hg1 : World.setRow (World.alloc wo _) _ _ = W1
            obtain ⟨hz1, hr1, hb1⟩ := hW1 W1 hg1.symm
            clear hW1 hg1
            have HR1 := Lib.hid hr1; clear hr1
            have HB1 := Lib.hid hb1; clear hb1
            have hwrs := HBL.out.size
            go_loopw [10, 12] (fun e b wi => ∃ en bb : Nat, e = .int .i64 en ∧ b = .int .i64 bb ∧ a ≤ bb ∧ bb ≤ s.size ∧ EndAt x.lang s.data.toList a bb en ∧ ∃ wsi, wi.heap[wo.heap.size]? = some (.cells (wv wsi).toArray 103 (0, 0)) ∧ Words wsi ∧
                SetAt x s.data.toList a bb wsi ∧ Only (fun j => j = wo.heap.size) W1 wi) (fun _ b _ => s.size - (intOf b).toNat)
            case atStart =>
              exact ⟨0, a, rfl, rfl, Nat.le_refl _, by omega, .inl ⟨rfl, fun k h1 h2 => by omega⟩, ws, by rw [HCS.out]; exact HR1.out, hw, setAt_start _ _ hs, Only.refl _ _⟩
            case round =>
              obtain ⟨en, bb, rfl, rfl, hab, hbs, hend, wsi, hq, hwi, hset, honly⟩ := hrel
              have HEND := Lib.hid hend; clear hend
              have HSET := Lib.hid hset; clear hset
              obtain ⟨CX, HCX⟩ : ∃ CX, Hid ((wv wsi).toArray = CX) := ⟨_, rfl⟩
              have HSX := Lib.hid (wvInfo hwi)
              have hne := run_eq12 wsi hwi
              rw [HCX.out] at hq HSX hne
              have hbwi : Below wo.heap.size wo wr := HB1.out.trans (honly.below (by omega) (by intro j hj; omega))
              have hbwr : Below w.heap.size w wr := HBL.out.trans (hbwi.mono hwrs)
              have HQ := Lib.hid hq; clear hq
              by_cases hbe : bb = s.size
              · have hd : decide ((bb : Int) < (s.size : Int)) = false := decide_eq_false (by omega)
                have hall : EndAt x.lang s.data.toList a s.data.toList.length en := HEND.out.all (fun k h1 h2 => by omega) (by omega)
                have HALL := Lib.hid hall; clear hall hne
                by_cases hen : en = 0
                · subst hen
                  go_wp2_with fail
                  exact ⟨⟨a + 1, by omega, by omega, by simp, hbwr, hitMore HNO.out HALL.out⟩, by simp only [intOf]; omega⟩
                · go_wp2_with fail
                  refine bodyPost_ret (results_tmp3 rfl _ _ _) rfl ?_
                  exact ⟨.inr ⟨by omega, f0, rfl, by omega, .inl ⟨a, en, rfl, hitFound hfa HNO.out HALL.out hen⟩⟩, hbwr⟩
              · have hd : decide ((bb : Int) < (s.size : Int)) = true := decide_eq_true (by omega)
                have hbi : (bb : Int) < (s.size : Int) := by omega
                by_cases hz : wsi = List.replicate 12 0
                · have hall : EndAt x.lang s.data.toList a s.data.toList.length en := HEND.out.all (fun k h1 h2 => HSET.out.dead h.form hab hz k (by omega)) (by omega)
                  have HALL := Lib.hid hall; clear hall
                  rw [decide_eq_true hz] at hne
                  clear hz
                  by_cases hen : en = 0
                  · subst hen
                    go_wp2_with (first
                      | refine wpList_load_row_on rfl 103 (.tmp 11) rfl wo.heap.size rfl 103 CX (0, 0) _ HQ.out Tryz.underlying103 rfl HSX.out ?_)
                    exact ⟨⟨a + 1, by omega, by omega, by simp, hbwr, hitMore HNO.out HALL.out⟩, by simp only [intOf]; omega⟩
                  · go_wp2_with (first
                      | refine wpList_load_row_on rfl 103 (.tmp 11) rfl wo.heap.size rfl 103 CX (0, 0) _ HQ.out Tryz.underlying103 rfl HSX.out ?_)
                    refine bodyPost_ret (results_tmp3 rfl _ _ _) rfl ?_
                    exact ⟨.inr ⟨by omega, f0, rfl, by omega, .inl ⟨a, en, rfl, hitFound hfa HNO.out HALL.out hen⟩⟩, hbwr⟩
                · rw [decide_eq_false hz] at hne
                  clear hz
                  go_wp2_with (first
                    | refine wpList_load_row_on rfl 103 (.tmp 11) rfl wo.heap.size rfl 103 CX (0, 0) _ HQ.out Tryz.underlying103 rfl HSX.out ?_)
                  have hbl : bb < s.data.toList.length := by omega
                  obtain ⟨c, HBB⟩ : ∃ c : UInt8, Hid (s.data.toList[bb] = c) := ⟨_, Lib.hid rfl⟩
                  have hidx : ∀ W : World, (Instr.index 9 (.string s) (.int .i64 bb)).run Tryz.prog W = .ok (.int .u8 c.toNat) W := by
                    intro W
                    have hi : (0 : Int) ≤ (bb : Int) ∧ (bb : Int) < (s.size : Int) := by omega
                    rw [run_index_string (h := Tryz.underlying9), dif_pos hi, ← HBB.out]
                    rfl
                  have hmr2 : Machine wr p x := HM.out.below hbwr
                  have hstep : Calls Tryz.prog 57 #[.pointer (some ⟨p, 0, none⟩), .agg CX, .int .u8 c.toNat] wr.drew fun e w' => ∃ ws', e = .returned (.agg (wv ws').toArray) ∧ Words ws' ∧
                      (∀ i, bitW ws' i = true ↔ after x.machine.1 (fun i => bitW wsi i = true) c i) ∧ Below wr.heap.size wr w' := by
                    obtain ⟨v', ws', hp', hv', -, -⟩ := hmr2.ex
                    have h := step_any wr.drew p v' x.machine.1 wsi c.toNat ⟨hv'.ex⟩ (by rw [show wr.drew.cell? ⟨p, 0, none⟩ = wr.cell? ⟨p, 0, none⟩ from rfl, cell_of_block hp']; rfl) (TabAt.below HT.out hbwr.drew) HMO.out.1 (machine_64 h.ok) (by have := h.few; omega) hwi (HSET.out.lt h.form) (UInt8.toNat_lt _)
                    rw [HCX.out, UInt8.ofNat_toNat] at h
                    refine h.mono ?_
                    rintro e w' ⟨ws2, h1, h2, h3, h4⟩
                    exact ⟨ws2, h1, h2, h3, ((Below.refl wr.heap.size wr).drew).trans h4⟩
                  have HSTEP := Lib.hid hstep; clear hstep hne
                  go_cut [] from 49 to 54 (fun wc => ∃ ws1, wc.heap[wo.heap.size]? = some (.cells (wv ws1).toArray 103 (0, 0)) ∧ Words ws1 ∧ (∀ i, bitW ws1 i = true ↔ after x.machine.1 (fun i => bitW wsi i = true) c i) ∧ Only (fun j => j = wo.heap.size) W1 wc)
                  case first =>
                    refine wp_region_any (by kernel_rfl) ?_
                    change wpAny _ _ _ _ _ _ _ (World.drew _)
                    refine wpAny_take (i := 0) (v := .pointer (some ⟨p, 0, none⟩)) rfl (by kernel_rfl) (by kernel_rfl) (by kernel_rfl) (fun _ _ _ h => h) (Or.inl ⟨by rfl, fun w => by go_simp⟩) ?_
                    refine wpAny_take (i := 2) (v := .string s) rfl (by kernel_rfl) (by kernel_rfl) (by kernel_rfl) (fun _ _ _ h => h) (Or.inl ⟨by rfl, fun w => by go_simp⟩) ?_
                    refine wpAny_take (i := 3) (v := .int .i64 bb) rfl (by kernel_rfl) (by kernel_rfl) (by kernel_rfl) (fun _ _ _ h => h) (Or.inl ⟨by rfl, fun w => by go_simp⟩) ?_
                    refine wpAny_take (i := 4) (v := .int .u8 c.toNat) rfl (by kernel_rfl) (by kernel_rfl) (by kernel_rfl) (fun _ _ _ h => h) (Or.inl ⟨by rfl, fun w => by go_simp⟩) ?_
                    refine wpAny_ready (rs := [1]) (by kernel_rfl) (by simp) (AllReady.cons rfl (fun K hK => ?_) AllReady.nil)
                    refine step_load_row rfl 103 (.tmp 11) rfl wo.heap.size rfl 103 CX (0, 0) _ HQ.out Tryz.underlying103 rfl HSX.out ?_
                    refine hK _ _ ?_
                    clear hK K
                    refine wpAny_ready (rs := [5]) (by kernel_rfl) (by simp) (AllReady.cons rfl (fun K hK => ?_) AllReady.nil)
                    go_simp
                    refine HSTEP.out.mono ?_
                    rintro e w1 ⟨ws1, rfl, hw1, hb1, hbl1⟩
                    obtain ⟨C1, HC1⟩ : ∃ C1, Hid ((wv ws1).toArray = C1) := ⟨_, rfl⟩
                    rw [HC1.out]
                    refine hK _ _ ?_
                    clear hK K
                    refine wpAny_ready (rs := [6]) (by kernel_rfl) (by simp) (AllReady.cons rfl (fun K hK => ?_) AllReady.nil)
                    refine step_store_row rfl 103 (.tmp 11) (.tmp 54) rfl wo.heap.size C1 rfl rfl 103 CX ((hbl1.block wo.heap.size (lt_of_block HQ.out)).trans HQ.out) (by rw [← HC1.out]; exact wvInfo hw1) (by rw [← HC1.out, wv12 hw1, ← HCX.out, wv12 hwi]) (by rw [← HC1.out]; exact wvOne ws1) ?_
                    refine hK _ _ ?_
                    clear hK K
                    refine wpAny_done (by kernel_rfl) ?_ _
                    go_wp2_with fail
                    go_meet
                    case rel =>
                      exact ⟨ws1, by rw [HC1.out]; exact setRow_heap _ _ _ _ _ _ ((hbl1.block wo.heap.size (lt_of_block HQ.out)).trans HQ.out), hw1, hb1, (honly.trans (Only.of_below hbl1)).setRow (.inl rfl) _⟩
                  case rest =>
                    obtain ⟨ws1, hq1, hw1, hb1, hon1⟩ := hcut
                    have hset1 : SetAt x s.data.toList a (bb + 1) ws1 := HSET.out.next hab hbl (by rw [HBB.out]; exact hb1)
                    have hdone := done_any wc ws1 hw1
                    obtain ⟨C1, HC1⟩ : ∃ C1, Hid ((wv ws1).toArray = C1) := ⟨_, rfl⟩
                    have HS1 := Lib.hid (wvInfo hw1)
                    rw [HC1.out] at hdone hq1 HS1
                    have HDN := Lib.hid hdone; clear hdone
                    have HQ1 := Lib.hid hq1; clear hq1
                    have HSET1 := Lib.hid hset1; clear hset1
                    cases hdn : bitW ws1 0
                    · rw [hdn] at HDN
                      have hend1 : EndAt x.lang s.data.toList a (bb + 1) en := HEND.out.no (fun h' => by rw [(HSET1.out.is h.form).2 h'] at hdn; cases hdn)
                      have HEND1 := Lib.hid hend1; clear hend1
                      go_wp2_with (first
                        | refine wpList_load_row rfl 103 (.tmp 11) rfl wo.heap.size rfl 103 C1 (0, 0) _ HQ1.out Tryz.underlying103 rfl HS1.out ?_
                        | (go_at_call 58; refine HDN.out.mono ?_; rintro e w1 ⟨rfl, hbl1⟩))
                      go_roundw
                      case measure => simp only [intOf]; omega
                      case rel =>
                        exact ⟨en, bb + 1, rfl, by simp, by omega, by omega, HEND1.out, ws1, by rw [HC1.out, hbl1.block _ (lt_of_block HQ1.out)]; exact HQ1.out, hw1, HSET1.out, hon1.trans (Only.of_below hbl1)⟩
                    · rw [hdn] at HDN
                      have hend1 : EndAt x.lang s.data.toList a (bb + 1) (bb + 1) := EndAt.yes hab ((HSET1.out.is h.form).1 hdn)
                      have HEND1 := Lib.hid hend1; clear hend1
                      go_wp2_with (first
                        | refine wpList_load_row rfl 103 (.tmp 11) rfl wo.heap.size rfl 103 C1 (0, 0) _ HQ1.out Tryz.underlying103 rfl HS1.out ?_
                        | (go_at_call 58; refine HDN.out.mono ?_; rintro e w1 ⟨rfl, hbl1⟩))
                      go_roundw
                      case measure => simp only [intOf]; omega
                      case rel =>
                        exact ⟨bb + 1, bb + 1, by simp, by simp, by omega, by omega, HEND1.out, ws1, by rw [HC1.out, hbl1.block _ (lt_of_block HQ1.out)]; exact HQ1.out, hw1, HSET1.out, hon1.trans (Only.of_below hbl1)⟩
end Go.Proofs.YtjhclopdcbnmkaaGreatDoor

/- The walk of Hits. -/
namespace Go.Proofs.YtjhclopdcbnmkaaGreatDoor
open Go.RowKit PX

theorem info_pair : (Tryz.prog.info? 61).map (fun i => (i.zero, i.size, i.bytes)) = some (some (.agg #[.int .i64 0, .int .i64 0]), 2, 16) := by kernel_rfl
/-- Pairs' cells. -/
def pairCells (l : List (Nat × Nat)) : List Value := l.flatMap fun p => [.int .i64 (p.1 : Int), .int .i64 (p.2 : Int)]
/-- What Hits tells. -/
def HitsSays (x : Rx) (s : List UInt8) (l : List (Nat × Nat)) : Prop := (s.length ≤ 256 ∧ HitsFrom x.lang s 0 l) ∨ (256 < s.length ∧ l = [])

set_option maxRecDepth 100000 in
set_option maxHeartbeats 2000000 in
theorem hits_any (w : World) (p : Nat) (x : Rx) (s : ByteArray) (h : Machine w p x) (hT : TabAt 0 Lib.deBruijn64tab w) :
    Calls Tryz.prog 62 #[.pointer (some ⟨p, 0, none⟩), .string s] w fun e w' => ∃ v l, e = .returned v ∧ HitsSays x s.data.toList l ∧ w'.ownsRow w.heap.size 61 2 v l.length (pairCells l) ∧ l.length ≤ 256 ∧ Below w.heap.size w w' := by
  have hslen : s.data.toList.length = s.size := by rw [Array.length_toList]; rfl
  have HM := Lib.hid h
  have HT := Lib.hid hT; clear hT
  obtain ⟨i0, hi, hz0, hz1, hz2⟩ := info_parts info_pair
  go_enter Tryz.func62, Tryz.ntmps62
  go_wp2_with fail
  go_loopw [5, 6] (fun v i wr => ∃ (l : List (Nat × Nat)) (a : Nat), i = .int .i64 a ∧ l.length ≤ a ∧ a ≤ s.size ∧ (256 < s.size → a = 0) ∧ (∀ l', HitsFrom x.lang s.data.toList a l' → HitsFrom x.lang s.data.toList 0 (l ++ l')) ∧
      wr.ownsRow w.heap.size 61 2 v l.length (pairCells l) ∧ Below w.heap.size w wr) (fun _ i _ => s.size - (intOf i).toNat)
  case atStart =>
    refine ⟨[], 0, rfl, Nat.le_refl _, by omega, fun _ => rfl, fun l' h' => h', ?_, Below.refl _ _⟩
    exact ⟨rfl, .inl ⟨rfl, rfl⟩⟩
  case round =>
    obtain ⟨l, a, rfl, hla, has, hbig, hhf, hown, hbl⟩ := hrel
    have HOWN := Lib.hid hown; clear hown
    have HHF := Lib.hid hhf; clear hhf
    have HBL := Lib.hid hbl; clear hbl
    by_cases hs : 256 < s.size
    · obtain rfl := hbig hs
      have hl0 : l = [] := List.eq_nil_of_length_eq_zero (by omega)
      subst hl0
      have hhit : Calls Tryz.prog 84 #[.pointer (some ⟨p, 0, none⟩), .string s, .int .i64 0] wr fun e w' => e = .returned (.tuple #[.int .i64 0, .int .i64 0, .bool false]) ∧ Below wr.heap.size wr w' := by
        refine (hit_any wr p x s 0 (HM.out.below HBL.out) (TabAt.below HT.out HBL.out) (by unfold I64; omega)).mono ?_
        rintro e w' ⟨hh, hb⟩
        rcases hh with ⟨-, rfl⟩ | ⟨hh, -⟩
        · exact ⟨rfl, hb⟩
        · omega
      have HHIT := Lib.hid hhit; clear hhit hbig
      go_wp2_with (go_at_call 84; refine HHIT.out.mono ?_; rintro e w1 ⟨rfl, hb1⟩)
      go_ret
      exact ⟨_, [], rfl, .inr ⟨by omega, rfl⟩, (Only.of_below (r := fun _ => False) hb1).ownsRow HOWN.out (fun _ _ h => h), by simp, HBL.out.trans (hb1.mono HBL.out.size)⟩
    · clear hbig
      by_cases hn : NoHit x.lang s.data.toList a
      · have hhit : Calls Tryz.prog 84 #[.pointer (some ⟨p, 0, none⟩), .string s, .int .i64 a] wr fun e w' => e = .returned (.tuple #[.int .i64 0, .int .i64 0, .bool false]) ∧ Below wr.heap.size wr w' := by
          refine (hit_any wr p x s a (HM.out.below HBL.out) (TabAt.below HT.out HBL.out) (by unfold I64; omega)).mono ?_
          rintro e w' ⟨hh, hb⟩
          rcases hh with ⟨hh, rfl⟩ | ⟨-, f, hf, -, ⟨a', b', -, hih⟩ | ⟨-, rfl⟩⟩
          · exact ⟨rfl, hb⟩
          · obtain rfl : a = f := by omega
            exact (isHit_noHit hih hn).elim
          · exact ⟨rfl, hb⟩
        have HHIT := Lib.hid hhit; clear hhit
        have HN := Lib.hid hn; clear hn
        go_wp2_with (go_at_call 84; refine HHIT.out.mono ?_; rintro e w1 ⟨rfl, hb1⟩)
        go_ret
        have h := HHF.out [] (.nil HN.out)
        rw [List.append_nil] at h
        exact ⟨_, l, rfl, .inl ⟨by omega, h⟩, (Only.of_below (r := fun _ => False) hb1).ownsRow HOWN.out (fun _ _ h => h), by omega, HBL.out.trans (hb1.mono HBL.out.size)⟩
      · have hhit : Calls Tryz.prog 84 #[.pointer (some ⟨p, 0, none⟩), .string s, .int .i64 a] wr fun e w' => ∃ a' b' : Nat, e = .returned (.tuple #[.int .i64 a', .int .i64 b', .bool true]) ∧ IsHit x.lang s.data.toList a a' b' ∧ Below wr.heap.size wr w' := by
          refine (hit_any wr p x s a (HM.out.below HBL.out) (TabAt.below HT.out HBL.out) (by unfold I64; omega)).mono ?_
          rintro e w' ⟨hh, hb⟩
          rcases hh with ⟨hh, rfl⟩ | ⟨-, f, hf, -, ⟨a', b', rfl, hih⟩ | ⟨hn', rfl⟩⟩
          · omega
          · obtain rfl : a = f := by omega
            exact ⟨a', b', rfl, hih, hb⟩
          · obtain rfl : a = f := by omega
            exact (hn hn').elim
        have HHIT := Lib.hid hhit; clear hhit hn
        go_wp2_with (first
          | (go_at_call 84; refine HHIT.out.mono ?_; rintro e w1 ⟨a', b', rfl, hih, hb1⟩
             have HOW1 := Lib.hid ((Only.of_below (r := fun _ => False) hb1).ownsRow HOWN.out (fun _ _ h => h))
             have HIH := Lib.hid hih; clear hih
             have HB1 := Lib.hid hb1; clear hb1)
          | (refine wpList_append_own _ rfl (.tmp 21) (.tmp 25) 59 rfl w.heap.size 61 i0 _ 2 16 Tryz.underlying59 hi hz0 hz1 hz2 rfl (by decide) u5 l.length (pairCells l) rfl (HOW1.out.alloc _) ⟨w1.heap.size, 0, none⟩ 1 1 [.int .i64 (a' : Int), .int .i64 (b' : Int)] rfl rfl (cells_new w1 [.int .i64 (a' : Int), .int .i64 (b' : Int)] 61) (by intro u hu; simp only [List.mem_cons, List.not_mem_nil, or_false] at hu; rcases hu with rfl | rfl <;> rfl) (by unfold maxLen; omega) (by omega) (by have := HBL.out.size; have := HB1.out.size; simp; omega) ?_
             intro v' w2 hown2 hgrow _))
        go_roundw
        case measure => have := HIH.out.1; have := HIH.out.2.1; have := HIH.out.2.2.1; simp only [intOf]; omega
        case rel =>
          have h1 := HIH.out.1
          have h2 := HIH.out.2.1
          have h3 := HIH.out.2.2.1
          refine ⟨l ++ [(a', b')], b', rfl, by simp; omega, by omega, fun h' => by omega, hitsFrom_snoc HHF.out HIH.out, ?_, ?_⟩
          · have e : pairCells (l ++ [(a', b')]) = pairCells l ++ [.int .i64 (a' : Int), .int .i64 (b' : Int)] := by simp [pairCells]
            rw [e, List.length_append]
            exact hown2
          · have hb := HBL.out.trans (HB1.out.mono HBL.out.size)
            refine (hb.alloc hb.size _).grown hgrow (by have := hb.size; simp; omega) ?_
            intro k hk
            rcases HOW1.out.2 with ⟨e0, _⟩ | ⟨g', cap', cur', e0, hb', _⟩
            · rw [e0] at hk; cases hk
            · rw [e0] at hk; simp only [Value.ownBlock, Option.some.injEq] at hk; omega
end Go.Proofs.YtjhclopdcbnmkaaGreatDoor

/- The walks of fits, in, SamePairs. -/
namespace Go.Proofs.YtjhclopdcbnmkaaGreatDoor
open Go.RowKit PX

end Go.Proofs.YtjhclopdcbnmkaaGreatDoor

/- The walk of SamePairs. -/
namespace Go.Proofs.YtjhclopdcbnmkaaGreatDoor
open Go.RowKit PX

theorem below_drewN {B : Nat} {a w : World} (h : Below B a w) (n : Nat) : Below B a (w.drewN n) := ⟨h.os, h.tape, h.output, h.size, h.block⟩
theorem sizeInt (w : World) : (sizeOf 3).run Tryz.prog w = .ok 1 w := by kernel_rfl
def same2 (a0 a1 b0 b1 : Int) : Bool := decide (a0 = b0 ∧ a1 = b1)
@[go_sem high] theorem run_eq2 (w : World) (a0 a1 b0 b1 : Int) : (Op.equalIn 10000 61 (.agg #[.int .i64 a0, .int .i64 a1]) (.agg #[.int .i64 b0, .int .i64 b1])).run Tryz.prog w = .ok (same2 a0 a1 b0 b1) w := by
  have h := eqArr_int (w := w) (d := 9998) Tryz.underlying61 Tryz.underlying3 sizeInt #[.int .i64 a0, .int .i64 a1] #[.int .i64 b0, .int .i64 b1] [a0, a1] [b0, b1] rfl rfl rfl rfl
  have e : decide ([a0, a1] = [b0, b1]) = same2 a0 a1 b0 b1 := by simp [same2]
  rw [e] at h
  exact h

/-- Pairs as they are read. -/
def PairsAt (w : World) (v : Value) (l : List (Nat × Nat)) : Prop := ∃ a cap, v = .slice a l.length cap ∧ (l = [] ∨ ∃ b, a = some ⟨b, 0, none⟩ ∧ ∀ i q, l[i]? = some q → w.cell? ⟨b, i * 2, none⟩ = some (.int .i64 (q.1 : Int)) ∧ w.cell? ⟨b, i * 2 + 1, none⟩ = some (.int .i64 (q.2 : Int)))

theorem pairCells_get : ∀ (l : List (Nat × Nat)) (i : Nat) (q : Nat × Nat), l[i]? = some q → (pairCells l)[i * 2]? = some (.int .i64 (q.1 : Int)) ∧ (pairCells l)[i * 2 + 1]? = some (.int .i64 (q.2 : Int))
  | x :: l, 0, q, h => by
    simp only [List.getElem?_cons_zero, Option.some.injEq] at h
    subst h
    simp [pairCells]
  | x :: l, i + 1, q, h => by
    simp only [List.getElem?_cons_succ] at h
    have := pairCells_get l i q h
    have e : pairCells (x :: l) = .int .i64 (x.1 : Int) :: .int .i64 (x.2 : Int) :: pairCells l := by simp [pairCells]
    rw [e, show (i + 1) * 2 = i * 2 + 1 + 1 by omega, List.getElem?_cons_succ, List.getElem?_cons_succ, List.getElem?_cons_succ, List.getElem?_cons_succ]
    exact this
theorem pairs_of_row {w : World} {base : Nat} {v : Value} {l : List (Nat × Nat)} (h : w.ownsRow base 61 2 v l.length (pairCells l)) : PairsAt w v l := by
  rcases h.2 with ⟨rfl, h0⟩ | ⟨g, cap, cur, rfl, hr⟩
  · have : l = [] := List.eq_nil_of_length_eq_zero h0
    subst this
    exact ⟨none, 0, rfl, .inl rfl⟩
  · refine ⟨some ⟨g, 0, none⟩, cap, rfl, .inr ⟨g, rfl, fun i q hq => ?_⟩⟩
    have hil : i < l.length := (List.getElem?_eq_some_iff.1 hq).1
    have hp := pairCells_get l i q hq
    rw [h.cellAt (i * 2) (by omega), h.cellAt (i * 2 + 1) (by omega)]
    exact hp

end Go.Proofs.YtjhclopdcbnmkaaGreatDoor
