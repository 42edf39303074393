/- B3, merged: Set Put Add LaidL LaidA LaidB LaidC Laid Tx. -/
import Derived.Test.YtjhclopdcbnmkaaGreatDoorB2
import Derived.Laws.Bits64b
import Derived.BigRegion
import Derived.Deep.LoopGhost
import Derived.Deep.QuietTactic
import Derived.BigQuiet
set_option linter.unusedSimpArgs false
set_option linter.unusedVariables false
/- Sets of states as twelve words; the law of put. -/
namespace Go.Proofs.YtjhclopdcbnmkaaGreatDoor
open Go.RowKit PX

/-- Twelve words. -/
structure Words (ws : List Int) : Prop where
  len : ws.length = 12
  u64 : ∀ x ∈ ws, 0 ≤ x ∧ x < 18446744073709551616
def bitW (ws : List Int) (i : Nat) : Bool := ((ws[i / 64]?.getD 0).toNat).testBit (i % 64)
def setW (ws : List Int) (i : Nat) : List Int := ws.set (i / 64) (orBit (ws[i / 64]?.getD 0) (i % 64))
def wv (ws : List Int) : List Value := ws.map (Value.int .u64)

theorem orBit_u64 (w : Int) (k : Nat) (hw : 0 ≤ w ∧ w < 18446744073709551616) (hk : k < 64) : 0 ≤ orBit w k ∧ orBit w k < 18446744073709551616 := by
  unfold orBit
  have h1 : w.toNat < 2 ^ 64 := by omega
  have h2 : 2 ^ k < 2 ^ 64 := Nat.pow_lt_pow_right (by omega) hk
  have := Nat.or_lt_two_pow h1 h2
  omega
theorem setW_words {ws : List Int} (h : Words ws) (i : Nat) (hi : i < 768) : Words (setW ws i) := by
  refine ⟨by simp [setW, h.len], fun x hx => ?_⟩
  rcases List.mem_or_eq_of_mem_set hx with hx | rfl
  · exact h.u64 x hx
  · refine orBit_u64 _ _ ?_ (Nat.mod_lt _ (by omega))
    have hl : i / 64 < ws.length := by have := h.len; omega
    rw [List.getElem?_eq_getElem hl]
    exact h.u64 _ (List.getElem_mem hl)
theorem bitW_setW {ws : List Int} (h : Words ws) (i j : Nat) (hi : i < 768) : bitW (setW ws i) j = (bitW ws j || decide (i = j)) := by
  have hl : i / 64 < ws.length := by have := h.len; omega
  unfold bitW setW
  by_cases hw : i / 64 = j / 64
  · rw [← hw, List.getElem?_set_self hl]
    simp only [Option.getD_some, orBit, Int.toNat_natCast, Nat.testBit_or, Nat.testBit_two_pow]
    congr 1
    rw [decide_eq_decide]
    omega
  · rw [List.getElem?_set_ne hw]
    have : ¬ i = j := by omega
    simp [this]
theorem word_get {ws : List Int} (h : Words ws) (k : Nat) (hk : k < 12) : ws[k]? = some (ws[k]?.getD 0) ∧ 0 ≤ ws[k]?.getD 0 ∧ ws[k]?.getD 0 < 18446744073709551616 := by
  have hl : k < ws.length := by have := h.len; omega
  rw [List.getElem?_eq_getElem hl]
  exact ⟨rfl, h.u64 _ (List.getElem_mem hl)⟩

theorem bit_test (W : Int) (k : Nat) (hW : 0 ≤ W ∧ W < 18446744073709551616) : (bits BinOp.and IntKind.u64 (W / 2 ^ k) 1 == 1) = W.toNat.testBit k := by
  obtain ⟨m, rfl⟩ := Int.eq_ofNat_of_zero_le hW.1
  have hm : m < 18446744073709551616 := by omega
  have e1 : ((m : Int) / 2 ^ k) = ((m / 2 ^ k : Nat) : Int) := by simp
  have hq : m / 2 ^ k < 18446744073709551616 := Nat.lt_of_le_of_lt (Nat.div_le_self _ _) hm
  have e2 : bits BinOp.and IntKind.u64 ((m / 2 ^ k : Nat) : Int) ((1 : Nat) : Int) = ((m / 2 ^ k &&& 1 : Nat) : Int) := bits_and_u64_nat _ _ hq (by omega)
  rw [e1]
  have e3 : bits BinOp.and IntKind.u64 ((m / 2 ^ k : Nat) : Int) 1 = ((m / 2 ^ k &&& 1 : Nat) : Int) := e2
  rw [e3, Int.toNat_natCast, Nat.testBit_eq_decide_div_mod_eq, Nat.and_one_is_mod, Bool.eq_iff_iff]
  simp only [beq_iff_eq, decide_eq_true_eq]
  omega

theorem or_bit (W : Int) (k : Nat) (hW : 0 ≤ W ∧ W < 18446744073709551616) (hk : k < 64) : bits BinOp.or IntKind.u64 W (IntKind.u64.wrap (2 ^ k)) = orBit W k := by
  obtain ⟨m, rfl⟩ := Int.eq_ofNat_of_zero_le hW.1
  have h2 : 2 ^ k < 2 ^ 64 := Nat.pow_lt_pow_right (by omega) hk
  have e0 : ((2 : Int) ^ k) = ((2 ^ k : Nat) : Int) := by simp
  unfold orBit
  rw [e0, Int.toNat_natCast]
  generalize 2 ^ k = N at h2 ⊢
  have e1 : IntKind.u64.wrap (N : Int) = (N : Int) := by rw [IntKind.wrap_u64]; omega
  rw [e1, bits_or_u64_nat m N (by omega) (by omega)]

/-- How many of the first n are not in a set. -/
def unset (ws : List Int) (n : Nat) : Nat := ((List.range n).filter fun i => !bitW ws i).length
theorem unset_le (ws : List Int) (n : Nat) : unset ws n ≤ n := by
  unfold unset
  exact Nat.le_trans (List.length_filter_le _ _) (by simp)
theorem unset_setW {ws : List Int} (h : Words ws) {n i : Nat} (hi : i < n) (hn : n ≤ 768) (hb : bitW ws i = false) : unset (setW ws i) n + 1 ≤ unset ws n := by
  unfold unset
  have key : ∀ l : List Nat, i ∈ l → ((l.filter fun j => !bitW (setW ws i) j).length) + 1 ≤ (l.filter fun j => !bitW ws j).length := by
    intro l
    induction l with
    | nil => intro h; cases h
    | cons x l ih =>
      intro hm
      have mono : ((l.filter fun j => !bitW (setW ws i) j).length) ≤ (l.filter fun j => !bitW ws j).length := by
        clear ih hm
        induction l with
        | nil => simp
        | cons y l ih =>
          simp only [List.filter_cons, bitW_setW h i y (by omega)]
          generalize decide (i = y) = bb
          cases bitW ws y <;> cases bb <;> simp <;> omega
      simp only [List.filter_cons, bitW_setW h i x (by omega)]
      by_cases hx : i = x
      · subst hx
        simp only [hb, decide_true, Bool.or_true, Bool.not_true, Bool.false_eq_true, if_false, Bool.not_false, if_true, List.length_cons]
        omega
      · have hm' : i ∈ l := by cases hm with | head => exact absurd rfl hx | tail _ h => exact h
        have := ih hm'
        cases bitW ws x <;> simp [hx] <;> omega
  exact key _ (List.mem_range.2 hi)

/-- What holds at the head of each round of put: S0 the set at the beginning, at_ the state that is put, stack what is to be done. -/
structure PutInv (g : List St) (ws0 : List Int) (at_ : Nat) (ws : List Int) (stack : List Nat) : Prop where
  words : Words ws
  lt : ∀ i ∈ stack, i < g.length
  eps : ∀ i ∈ stack, Eps g at_ i
  old : ∀ i, bitW ws0 i = true → bitW ws i = true
  new : ∀ i, bitW ws i = true → bitW ws0 i = true ∨ Eps g at_ i
  shut : ∀ i st, bitW ws i = true → g[i]? = some st → st.kind = 1 → (bitW ws st.next.toNat = true ∨ st.next.toNat ∈ stack) ∧ (bitW ws st.other.toNat = true ∨ st.other.toNat ∈ stack)
  here : bitW ws at_ = true ∨ at_ ∈ stack

theorem putInv_start {g : List St} {ws : List Int} {at_ : Nat} (hw : Words ws) (ha : at_ < g.length) (hs : Shut g (fun i => bitW ws i = true)) : PutInv g ws at_ ws [at_] :=
  ⟨hw, by simpa using ha, by simp [Eps.refl], fun _ h => h, fun _ h => .inl h, fun i st h hg hk => ⟨.inl (hs i st h hg hk).1, .inl (hs i st h hg hk).2⟩, .inr (by simp)⟩
theorem putInv_end {g : List St} {ws0 ws : List Int} {at_ : Nat} (h : PutInv g ws0 at_ ws []) (i : Nat) : bitW ws i = true ↔ bitW ws0 i = true ∨ Eps g at_ i := by
  refine ⟨h.new i, ?_⟩
  rintro (h' | h')
  · exact h.old i h'
  · have hs : Shut g (fun i => bitW ws i = true) := fun j st hj hg hk => by
      have := h.shut j st hj hg hk
      simpa using this
    exact hs.eps h' (by simpa using h.here)
/-- It is there already. -/
theorem putInv_skip {g : List St} {ws0 ws : List Int} {at_ n : Nat} {stack : List Nat} (h : PutInv g ws0 at_ ws (stack ++ [n])) (hb : bitW ws n = true) : PutInv g ws0 at_ ws stack := by
  refine ⟨h.words, fun i hi => h.lt i (by simp [hi]), fun i hi => h.eps i (by simp [hi]), h.old, h.new, fun i st hi hg hk => ?_, ?_⟩
  · have := h.shut i st hi hg hk
    simp only [List.mem_append, List.mem_singleton] at this
    constructor
    · rcases this.1 with h1 | h1 | h1
      · exact .inl h1
      · exact .inr h1
      · exact .inl (by rw [h1]; exact hb)
    · rcases this.2 with h1 | h1 | h1
      · exact .inl h1
      · exact .inr h1
      · exact .inl (by rw [h1]; exact hb)
  · have := h.here
    simp only [List.mem_append, List.mem_singleton] at this
    rcases this with h1 | h1 | h1
    · exact .inl h1
    · exact .inr h1
    · exact .inl (by rw [h1]; exact hb)
theorem putInv_put {g : List St} {ws0 ws : List Int} {at_ n : Nat} {stack more : List Nat} (h : PutInv g ws0 at_ ws (stack ++ [n])) (hn : n < 768) (hlt : ∀ i ∈ more, i < g.length) (heps : ∀ i ∈ more, Eps g n i)
    (hm : ∀ st, g[n]? = some st → st.kind = 1 → st.next.toNat ∈ more ∧ st.other.toNat ∈ more) : PutInv g ws0 at_ (setW ws n) (stack ++ more) := by
  have hb : ∀ j, bitW (setW ws n) j = true ↔ bitW ws j = true ∨ n = j := fun j => by rw [bitW_setW h.words n j hn]; simp
  have hen : Eps g at_ n := h.eps n (by simp)
  refine ⟨setW_words h.words n hn, ?_, ?_, fun i hi => (hb i).2 (.inl (h.old i hi)), ?_, ?_, ?_⟩
  · intro i hi
    rcases List.mem_append.1 hi with hi | hi
    · exact h.lt i (by simp [hi])
    · exact hlt i hi
  · intro i hi
    rcases List.mem_append.1 hi with hi | hi
    · exact h.eps i (by simp [hi])
    · exact hen.trans (heps i hi)
  · intro i hi
    rcases (hb i).1 hi with hi | rfl
    · exact h.new i hi
    · exact .inr hen
  · intro i st hi hg hk
    rcases (hb i).1 hi with hi | rfl
    · have := h.shut i st hi hg hk
      simp only [List.mem_append, List.mem_singleton] at this
      constructor
      · rcases this.1 with h1 | h1 | h1
        · exact .inl ((hb _).2 (.inl h1))
        · exact .inr (by simp [h1])
        · exact .inl ((hb _).2 (.inr h1.symm))
      · rcases this.2 with h1 | h1 | h1
        · exact .inl ((hb _).2 (.inl h1))
        · exact .inr (by simp [h1])
        · exact .inl ((hb _).2 (.inr h1.symm))
    · have := hm st hg hk
      exact ⟨.inr (by simp [this.1]), .inr (by simp [this.2])⟩
  · have := h.here
    simp only [List.mem_append, List.mem_singleton] at this
    rcases this with h1 | h1 | h1
    · exact .inl ((hb _).2 (.inl h1))
    · exact .inr (by simp [h1])
    · exact .inl ((hb _).2 (.inr h1.symm))
end Go.Proofs.YtjhclopdcbnmkaaGreatDoor

/- The walk of (*Machine).put. -/
namespace Go.Proofs.YtjhclopdcbnmkaaGreatDoor
open Go.RowKit PX

/-- States as they are read: a slice over a row. -/
structure StatesAt (w : World) (v : Value) (g : List St) : Prop where
  ex : ∃ gb cap, v = .slice (some ⟨gb, 0, none⟩) g.length cap ∧ g.length ≤ cap ∧ cap ≤ 9223372036854775807 ∧
    ∀ (i : Nat) (st : St), g[i]? = some st → ∀ j, j < 7 → w.cell? ⟨gb, i * 7 + j, none⟩ = (stCells st)[j]?

theorem info_int : (Tryz.prog.info? 3).map (fun i => (i.zero, i.size, i.bytes)) = some (some (.int .i64 0), 1, 8) := by kernel_rfl
def iv (l : List Nat) : List Value := l.map fun n : Nat => Value.int .i64 (n : Int)

set_option maxRecDepth 100000 in
set_option maxHeartbeats 2000000 in
theorem put_any (w : World) (p q : Nat) (v : Value) (g : List St) (pre : List Value) (tq : TypeId) (ws : List Int) (at_ : Nat)
    (hv : StatesAt w v g) (hp : w.cell? ⟨p, 0, none⟩ = some v) (hq : w.heap[q]? = some (.cells (pre ++ wv ws).toArray tq (0, 0))) (hpre : pre.length ≤ 1) (hqp : q = p → pre.length = 1)
    (hqv : v.ownBlock ≠ some q) (hg : OkG g) (hgl : g.length ≤ 700) (ha : at_ < g.length) (hw : Words ws) (hs : Shut g (fun i => bitW ws i = true)) :
    Calls Tryz.prog 64 #[.pointer (some ⟨p, 0, none⟩), .pointer (some ⟨q, pre.length, none⟩), .int .i64 at_] w fun e w' => e = .returned (.tuple #[]) ∧
      ∃ ws', w'.heap[q]? = some (.cells (pre ++ wv ws').toArray tq (0, 0)) ∧ Words ws' ∧ (∀ i, bitW ws' i = true ↔ bitW ws i = true ∨ Eps g at_ i) ∧ Only (fun k => k = q) w w' := by
  obtain ⟨gb, cap, rfl, hcap1, hcap2, hst⟩ := hv.ex
  have HST := Lib.hid hst; clear hst hv
  have HQ := Lib.hid hq; clear hq
  have HP := Lib.hid hp; clear hp
  have HI := Lib.hid (putInv_start hw ha hs); clear hs
  have hqb := lt_of_block HQ.out
  have hpb : p < w.heap.size := World.block_lt_of_cell? _ _ HP.out
  have hgb : gb < w.heap.size ∧ gb ≠ q := by
    obtain ⟨st, hst⟩ : ∃ st, g[at_]? = some st := ⟨g[at_], List.getElem?_eq_getElem ha⟩
    refine ⟨World.block_lt_of_cell? _ _ (HST.out at_ st hst 0 (by omega)), ?_⟩
    simpa only [Value.ownBlock, ne_eq, Option.some.injEq] using hqv
  obtain ⟨i0, hi, hz0, hz1, hz2⟩ := info_parts info_int
  go_enter Tryz.func64, Tryz.ntmps64
  go_wp2_with fail
  go_step3
  go_wp2_with fail
  go_step3
  go_wp2_with fail
  go_loopg [6] (3 * unset ws g.length + 1) (fun gk v6 wr => ∃ (stack : List Nat) (ws' : List Int), gk = 3 * unset ws' g.length + stack.length ∧ gk ≤ 2101 ∧ wr.ownsRow w.heap.size 3 1 v6 stack.length (iv stack) ∧
      wr.heap[q]? = some (.cells (pre ++ wv ws').toArray tq (0, 0)) ∧ PutInv g ws at_ ws' stack ∧ Only (fun k => k = q) w wr ∧ w.heap.size < wr.heap.size)
  case atStart =>
    refine ⟨[at_], ws, rfl, by have := unset_le ws g.length; omega, ?_, alloc_old HQ.out _, HI.out, (Only.refl _ w).alloc _, by simp⟩
    refine ⟨by simp [iv], .inr ⟨w.heap.size, 1, #[.int .i64 (at_ : Int)], rfl, Nat.le_refl _, heap_alloc_new w _, ?_⟩⟩
    exact ⟨by simp, by unfold maxLen; omega, rfl, by simp [iv]⟩
  case round =>
    obtain ⟨stack, ws', hgk, hgm, hown, hqr, hinv, honly, hsz⟩ := hrel
    have HGK := Lib.hid hgk; clear hgk
    obtain rfl | ⟨st, n, rfl⟩ : stack = [] ∨ ∃ st n, stack = st ++ [n] := by
      rcases List.eq_nil_or_concat stack with h | ⟨a, b, h⟩
      · exact .inl h
      · exact .inr ⟨a, b, by simpa using h⟩
    · simp only [List.length_nil] at hown
      have hvv : ∃ a c, u6 = .slice a 0 c := by
        rcases hown.2 with ⟨rfl, _⟩ | ⟨g', c, cur, rfl, _⟩
        · exact ⟨_, _, rfl⟩
        · exact ⟨_, _, rfl⟩
      obtain ⟨a6, c6, rfl⟩ := hvv
      go_wp2_with fail
      rw [Exit.noGoto_normal]
      go_wp2_with fail
      go_end0
      refine ⟨rfl, ws', hqr, hinv.words, fun i => putInv_end hinv i, honly⟩
    · have HINV := Lib.hid hinv; clear hinv
      have HQR := Lib.hid hqr; clear hqr
      have hn : n < g.length := HINV.out.lt n (by simp)
      obtain ⟨wb, wcap, rfl, hwc1, hwc2⟩ := ownsRow_pos hown (by simp)
      have hll : (st ++ [n]).length = st.length + 1 := by simp
      rw [hll] at hown hwc1 ⊢
      clear hll
      have hlast : wr.cell? ⟨wb, st.length, none⟩ = some (.int .i64 n) := by
        rw [hown.cellAt st.length (by omega)]; simp [iv]
      have HOWN := Lib.hid hown; clear hown
      have hword : wr.cell? ⟨q, pre.length + n / 64, none⟩ = some (.int .u64 (ws'[n / 64]?.getD 0)) := by
        rw [cell_of_block HQR.out]
        have h := (word_get HINV.out.words (n / 64) (by omega)).1
        simp only [List.getElem?_toArray]
        rw [List.getElem?_append_right (by omega), Nat.add_sub_cancel_left, wv, List.getElem?_map, h]
        rfl
      have hwf : wr.frozen? ⟨q, pre.length + n / 64, none⟩ = false := free_of_block HQR.out _
      have hwb := (word_get HINV.out.words (n / 64) (by omega)).2
      have hbt := bit_test (ws'[n / 64]?.getD 0) (n % 64) hwb
      have hbt2 : bitW ws' n = (bits BinOp.and IntKind.u64 ((ws'[n / 64]?.getD 0) / 2 ^ (n % 64)) 1 == 1) := hbt.symm
      clear hbt
      obtain ⟨W, HW⟩ : ∃ W, Hid (ws'[n / 64]?.getD 0 = W) := ⟨_, rfl⟩
      rw [HW.out] at hword hwb hbt2
      obtain ⟨stt, hstt⟩ : ∃ stt, g[n]? = some stt := ⟨g[n], List.getElem?_eq_getElem hn⟩
      have hcells : ∀ j, j < 7 → wr.cell? ⟨gb, n * 7 + j, none⟩ = (stCells stt)[j]? := fun j hj => (honly.cell (p := ⟨gb, n * 7 + j, none⟩) hgb.1 hgb.2).trans (HST.out n stt hstt j hj)
      have hpc : wr.cell? ⟨p, 0, none⟩ = some (.slice (some ⟨gb, 0, none⟩) g.length cap) := by
        by_cases hpq : q = p
        · subst hpq
          rw [cell_of_block HQR.out 0]
          have h := HP.out
          rw [cell_of_block HQ.out 0] at h
          simp only [List.getElem?_toArray] at h ⊢
          rw [List.getElem?_append_left (by have := hqp rfl; omega)] at h ⊢
          exact h
        · exact (honly.cell (p := ⟨p, 0, none⟩) hpb (fun h => hpq h.symm)).trans HP.out
      have hokst := hg stt (List.mem_of_getElem? hstt)
      have HSTT := Lib.hid hstt; clear hstt
      have k0 := hcells 0 (by omega)
      have k1 := hcells 1 (by omega)
      have k2 := hcells 2 (by omega)
      simp only [Nat.add_zero, stCells, List.getElem?_cons_zero, List.getElem?_cons_succ] at k0 k1 k2
      clear hcells
      cases hbb : bitW ws' n
      · rw [hbb] at hbt2
        have hbt3 := hbt2.symm
        clear hbt2
        have HBB := Lib.hid hbb; clear hbb
        go_wp2_with fail
        go_region
        generalize hWZ : World.drew _ = WZ
        have hq2 : WZ.heap[q]? = some (.cells (pre ++ wv (setW ws' n)).toArray tq (0, 0)) := by
          rw [← hWZ, or_bit W (n % 64) hwb (Nat.mod_lt _ (by omega))]
          show (wr.setCell _ _).heap[q]? = _
          rw [setCell_block HQR.out]
          congr 2
          rw [setW, HW.out, wv, wv, List.map_set]
          apply Array.ext'
          simp only [Array.toList_setIfInBounds]
          rw [List.set_append_right _ _ (by omega), Nat.add_sub_cancel_left]
        have ho2 : Only (fun k => k = q) w WZ := by
          rw [← hWZ]
          exact (honly.setCell (.inl rfl) _).drew
        have hr2 : Only (fun k => k = q) wr WZ := by
          rw [← hWZ]
          exact ((Only.refl (fun k => k = q) wr).setCell (p := ⟨q, _, none⟩) (.inl rfl) _).drew
        have hqn : ∀ k, k = wb → k ≠ q := by
          rintro k rfl rfl
          have h := HOWN.out.lt k rfl
          omega
        have hrow2 := ownsRow_pop (size := 1) (n := st.length) (xs := iv st) (last := [.int .i64 (n : Int)]) (by simp [iv]) (by have h := HOWN.out; simpa [iv] using h)
        have hrow3 := hr2.ownsRow hrow2 (by rintro k hk rfl; simp only [Value.ownBlock, Option.some.injEq] at hk; exact hqn _ hk.symm rfl)
        have hzs : w.heap.size < WZ.heap.size := by have := hr2.size; omega
        have gq : gb < wr.heap.size := World.block_lt_of_cell? _ _ k0
        have z0 := (hr2.cell (p := ⟨gb, n * 7, none⟩) gq hgb.2).trans k0
        have z1 := (hr2.cell (p := ⟨gb, n * 7 + 1, none⟩) gq hgb.2).trans k1
        have z2 := (hr2.cell (p := ⟨gb, n * 7 + 2, none⟩) gq hgb.2).trans k2
        have zp : WZ.cell? ⟨p, 0, none⟩ = some (.slice (some ⟨gb, 0, none⟩) g.length cap) := by
          rw [← hWZ]
          show (wr.setCell _ _).cell? _ = _
          rw [World.cell?_setCell_other _ _ _ _ (by
            intro h
            have h1 := congrArg Addr.block h
            have h2 := congrArg Addr.off h
            simp only at h1 h2
            have := hqp (by omega)
            omega)]
          exact hpc
        clear hWZ hrow2 hr2 k0 k1 k2 hpc hword hwf hlast honly hsz
        have HQ2 := Lib.hid hq2; clear hq2
        have HO2 := Lib.hid ho2; clear ho2
        have HR3 := Lib.hid hrow3; clear hrow3
        have hmeas := unset_setW HINV.out.words hn (by omega) HBB.out
        cases hkind : (stt.kind == 1)
        · go_wp2_with fail
          go_roundg (3 * unset (setW ws' n) g.length + st.length)
          case measure => have := HGK.out; simp at this; omega
          case rel =>
            refine ⟨st, setW ws' n, rfl, by have := HGK.out; simp at this; omega, HR3.out, HQ2.out, ?_, HO2.out, hzs⟩
            have h := putInv_put (more := []) HINV.out (by omega) (by simp) (by simp) (fun st' hs' hk' => by rw [HSTT.out] at hs'; cases hs'; rw [hk'] at hkind; cases hkind)
            simpa using h
        · have hstl : st.length < 2200 := by have := HGK.out; simp at this; omega
          have hwbl := HOWN.out.lt wb rfl
          have H1 := Lib.hid (show ∀ u ∈ [Value.int .i64 stt.next, .int .i64 stt.other], u.oneCell' = true by
            intro u hu
            simp only [List.mem_cons, List.not_mem_nil, or_false] at hu
            rcases hu with rfl | rfl <;> rfl)
          go_wp2_with fail
          go_region_law (((refine step_append_own rfl _ _ 120 rfl w.heap.size 3 i0 _ 1 8 Tryz.underlying120 hi hz0 hz1 hz2 rfl (by decide) (.slice (some ⟨wb, 0, none⟩) st.length wcap) st.length (iv st) rfl ((HR3.out.alloc _).drew) ⟨WZ.heap.size, 0, none⟩ 2 2 [.int .i64 stt.next, .int .i64 stt.other] rfl rfl (cells_new_drew WZ [.int .i64 stt.next, .int .i64 stt.other] 3) H1.out (by unfold maxLen; omega) (by omega) (by simp; omega) ?_); intro v' w1 hown hgrow _))
          all_goals
            go_wp2_with fail
            go_roundg (3 * unset (setW ws' n) g.length + (st.length + 2))
            case measure => have := HGK.out; simp at this; omega
            case rel =>
              refine ⟨st ++ [stt.next.toNat, stt.other.toNat], setW ws' n, by simp, by have := HGK.out; simp at this; omega, ?_, ?_, ?_, ?_, ?_⟩
              · have e : iv (st ++ [stt.next.toNat, stt.other.toNat]) = iv st ++ [.int .i64 stt.next, .int .i64 stt.other] := by
                  have e1 : ((stt.next.toNat : Nat) : Int) = stt.next := by omega
                  have e2 : ((stt.other.toNat : Nat) : Int) = stt.other := by omega
                  simp [iv, e1, e2]
                rw [e]
                simpa using hown
              · rw [hgrow.block q (by have := lt_of_block HQ2.out; simp; omega) (by simp only [Value.ownBlock, ne_eq, Option.some.injEq]; intro h; exact hqn _ h rfl)]
                exact alloc_old HQ2.out _
              · refine putInv_put HINV.out (by omega) ?_ ?_ ?_
                · intro i hi
                  simp only [List.mem_cons, List.not_mem_nil, or_false] at hi
                  rcases hi with rfl | rfl <;> omega
                · intro i hi
                  have hk1 : stt.kind = 1 := by simpa using hkind
                  simp only [List.mem_cons, List.not_mem_nil, or_false] at hi
                  rcases hi with rfl | rfl
                  · exact .next HSTT.out hk1 (.refl _)
                  · exact .other HSTT.out hk1 (.refl _)
                · intro st' hs' _
                  rw [HSTT.out] at hs'; cases hs'
                  exact ⟨by simp, by simp⟩
              · exact ((HO2.out.alloc _).drew).grown hgrow (by intro k hk; simp only [Value.ownBlock, Option.some.injEq] at hk; right; omega)
              · have := hgrow.size; simp at this; omega
      · rw [hbb] at hbt2
        have hbt3 := hbt2.symm
        clear hbt2
        have HBB := Lib.hid hbb; clear hbb
        have hrow2 := ownsRow_pop (size := 1) (n := st.length) (xs := iv st) (last := [.int .i64 (n : Int)]) (by simp [iv]) (by have h := HOWN.out; simpa [iv] using h)
        have HR2 := Lib.hid hrow2; clear hrow2
        go_wp2_with fail
        go_roundg (3 * unset ws' g.length + st.length)
        case measure => have := HGK.out; simp at this; omega
        case rel => exact ⟨st, ws', rfl, by have := HGK.out; simp at this; omega, HR2.out, HQR.out, putInv_skip HINV.out HBB.out, honly, hsz⟩
end Go.Proofs.YtjhclopdcbnmkaaGreatDoor

/- The walk of (*Machine).add. -/
namespace Go.Proofs.YtjhclopdcbnmkaaGreatDoor
open Go.RowKit PX

def stVal (st : St) : Value := .agg (stCells st).toArray

set_option maxRecDepth 100000 in
set_option maxHeartbeats 2000000 in
theorem add_any (st : St) (w : World) (base p : Nat) (v : Value) (ws : List Value) (g : List St) (h : MachAt w base p v ws g) (hf : g.length < 100000) :
    Calls Tryz.prog 85 #[.pointer (some ⟨p, 0, none⟩), stVal st] w fun e w' => e = .returned (.int .i64 g.length) ∧
      ∃ v', MachAt w' base p v' ws (g ++ [st]) ∧ Keeps base p w w' := by
  have HST := Lib.hid h.stRow
  obtain ⟨hblk, hw12, hrow, hap, hbase, -⟩ := h
  obtain ⟨k, nx, ot, s0, s1, s2, s3⟩ := st
  have hp := lt_of_block hblk
  have hlt := Lib.hid hrow.lt
  have hcp := cell_of_block hblk 0
  have hc : w.cell? ⟨p, 0, none⟩ = some v := by rw [hcp]; rfl
  clear hcp
  have hfr := free_of_block hblk 0
  obtain ⟨i0, hi, hz0, hz1, hz2⟩ := info_parts info_state
  show Calls Tryz.prog 85 #[.pointer (some ⟨p, 0, none⟩), .agg #[.int .i64 k, .int .i64 nx, .int .i64 ot, .int .u64 s0, .int .u64 s1, .int .u64 s2, .int .u64 s3]] w _
  have hc1 : (w.alloc (.cells #[.int .i64 k, .int .i64 nx, .int .i64 ot, .int .u64 s0, .int .u64 s1, .int .u64 s2, .int .u64 s3] 111)).cell? ⟨p, 0, none⟩ = some v := by rw [World.cell?_alloc_past _ _ _ hp]; exact hc
  have hrow1 := (hrow.alloc (.cells #[.int .i64 k, .int .i64 nx, .int .i64 ot, .int .u64 s0, .int .u64 s1, .int .u64 s2, .int .u64 s3] 111))
  have HROW := Lib.hid hrow1; clear hrow1 hrow
  have HB := Lib.hid hblk; clear hblk
  go_enter Tryz.func85, Tryz.ntmps85
  go_wp2_with fail
  have H1 : ∀ u ∈ [Value.int .i64 k, .int .i64 nx, .int .i64 ot, .int .u64 s0, .int .u64 s1, .int .u64 s2, .int .u64 s3], u.oneCell' = true := by
    intro u hu
    simp only [List.mem_cons, List.not_mem_nil, or_false] at hu
    rcases hu with rfl | rfl | rfl | rfl | rfl | rfl | rfl <;> rfl
  have H1 := Lib.hid H1
  go_region_law (((refine step_append_own rfl _ _ 101 rfl base 111 i0 _ 7 56 Tryz.underlying101 hi hz0 hz1 hz2 rfl (by decide) v g.length (stsCells g) rfl ((HROW.out.alloc _).drew) ⟨w.heap.size + 1, 0, none⟩ 1 1 [.int .i64 k, .int .i64 nx, .int .i64 ot, .int .u64 s0, .int .u64 s1, .int .u64 s2, .int .u64 s3] rfl rfl (by have := cells_new_drew (w.alloc (.cells #[.int .i64 k, .int .i64 nx, .int .i64 ot, .int .u64 s0, .int .u64 s1, .int .u64 s2, .int .u64 s3] 111)) [.int .i64 k, .int .i64 nx, .int .i64 ot, .int .u64 s0, .int .u64 s1, .int .u64 s2, .int .u64 s3] 111; simpa only [World.size_alloc] using this) H1.out (by unfold maxLen; omega) (by omega) (by simp; omega) ?_); intro v' w1 hown hgrow _; obtain ⟨g', cap', rfl, hcap1, hcap2⟩ := ownsRow_pos hown (by omega); have hc2 : w1.cell? ⟨p, 0, none⟩ = some v := hgrow.cell (a := ⟨p, 0, none⟩) (by show ((w.alloc _).alloc _).cell? _ = _; rw [World.cell?_alloc_past _ _ _ (by simp; omega)]; exact hc1) (Ne.symm hap); have hf2 : w1.frozen? ⟨p, 0, none⟩ = false := by (rw [World.frozen?_of_block (w := (w.alloc _).alloc _) (hgrow.block p (by simp; omega) (Ne.symm hap)), World.frozen?_alloc_past _ _ _ (by simp; omega), World.frozen?_alloc_past _ _ _ hp]; exact hfr)))
  all_goals
    go_wp2_with fail
    go_ret
    have hb2 : w1.heap[p]? = some (.cells (v :: ws).toArray 105 (0, 0)) := by
      rw [hgrow.block p (by simp; omega) (Ne.symm hap)]
      exact alloc_old (alloc_old HB.out _) _
    have hne : g' ≠ p := by
      rintro rfl
      rcases hown.2 with ⟨h0, _⟩ | ⟨g2, cap2, cur, he, _, hh, _⟩
      · cases h0
      · cases he; rw [hb2] at hh; cases hh
    refine ⟨ret_int (by omega), .slice (some ⟨g', 0, none⟩) (g.length + 1) cap', ⟨?_, hw12, ?_, ?_, ?_, ?_⟩, ?_⟩
    · rw [setCell_block hb2]; simp
    · have := (Only.setCell (Only.refl (fun k => k = p) w1) (p := ⟨p, 0, none⟩) (.inl rfl) (.slice (some ⟨g', 0, none⟩) (g.length + 1) cap')).ownsRow hown (by intro k hk hkp; simp only [Value.ownBlock, Option.some.injEq] at hk; omega)
      rw [stsCells_append, List.length_append]
      exact this
    · simp only [Value.ownBlock, ne_eq, Option.some.injEq]; exact hne
    · have := hgrow.size; simp at this; simp [World.setCell]; omega
    · simp; omega
    · refine Only.setCell (Only.grown (Only.drew (((Keeps.refl base p w).alloc _).alloc _)) hgrow fun k hk => .inl (.inr (HST.out k hk))) (.inl (.inl rfl)) _
end Go.Proofs.YtjhclopdcbnmkaaGreatDoor

/- What (*Machine).laid does, plain facts about it: rounds, bounds. -/
namespace Go.Proofs.YtjhclopdcbnmkaaGreatDoor
open Go.RowKit PX

theorem formAll_iff : ∀ l : List Rx, formAll l = true ↔ ∀ x ∈ l, x.formB = true
  | [] => by simp [formAll]
  | x :: xs => by simp [formAll, formAll_iff xs]
theorem formAll_of_mem {x : RxA} {l : List RxA} (h : formAll (bareAll l) = true) (hx : x ∈ l) : x.bare.formB = true := by
  rw [formAll_iff, bareAll_eq] at h
  exact h _ (List.mem_map.2 ⟨x, hx, rfl⟩)
theorem formAll_drop {l : List RxA} (h : formAll (bareAll l) = true) (j : Nat) : formAll (bareAll (l.drop j)) = true := by
  rw [formAll_iff, bareAll_eq] at *
  intro x hx
  obtain ⟨y, hy, rfl⟩ := List.mem_map.1 hx
  exact h _ (List.mem_map.2 ⟨y, List.mem_of_mem_drop hy, rfl⟩)
theorem formAll_take {l : List RxA} (h : formAll (bareAll l) = true) (j : Nat) : formAll (bareAll (l.take j)) = true := by
  rw [formAll_iff, bareAll_eq] at *
  intro x hx
  obtain ⟨y, hy, rfl⟩ := List.mem_map.1 hx
  exact h _ (List.mem_map.2 ⟨y, List.mem_of_mem_take hy, rfl⟩)
theorem bigAll_append : ∀ a b : List Rx, bigAll (a ++ b) = bigAll a + bigAll b
  | [], b => by simp [bigAll]
  | x :: xs, b => by simp only [List.cons_append, bigAll]; rw [bigAll_append xs b]; omega
theorem bareAll_append (a b : List RxA) : bareAll (a ++ b) = bareAll a ++ bareAll b := by simp [bareAll_eq]
theorem bareAll_cons (x : RxA) (l : List RxA) : bareAll (x :: l) = x.bare :: bareAll l := rfl
theorem bigAll_drop (l : List RxA) (j : Nat) : bigAll (bareAll (l.drop j)) ≤ bigAll (bareAll l) := by
  have h := bigAll_append (bareAll (l.take j)) (bareAll (l.drop j))
  rw [← bareAll_append, List.take_append_drop] at h
  have := bigAll_nonneg (bareAll (l.take j))
  omega
theorem bigAll_take (l : List RxA) (j : Nat) : bigAll (bareAll (l.take j)) ≤ bigAll (bareAll l) := by
  have h := bigAll_append (bareAll (l.take j)) (bareAll (l.drop j))
  rw [← bareAll_append, List.take_append_drop] at h
  have := bigAll_nonneg (bareAll (l.drop j))
  omega

/-- A row's elements from j on. -/
def seqTo (l : List RxA) (j : Nat) (g : List St) (next : Nat) : List St × Nat := laySeq (bareAll (l.drop j)) g next
theorem seqTo_end (l : List RxA) (g : List St) (next : Nat) : seqTo l l.length g next = (g, next) := by simp [seqTo, bareAll, laySeq]
theorem seqTo_step (l : List RxA) (j : Nat) (h : j < l.length) (g : List St) (next : Nat) : seqTo l j g next = l[j].bare.lay (seqTo l (j + 1) g next).1 (seqTo l (j + 1) g next).2 := by
  unfold seqTo
  rw [List.drop_eq_getElem_cons h, bareAll_cons, laySeq]
theorem seqTo_sound {l : List RxA} (hf : formAll (bareAll l) = true) (j : Nat) {g : List St} {next : Nat} (hg : OkG g) (hn : next < g.length) : Sound g (seqTo l j g next) (2 * bigAll (bareAll (l.drop j))) :=
  laySeq_sound _ (formAll_drop hf j) g next hg hn
theorem big_drop (l : List RxA) (j : Nat) (h : j < l.length) : bigAll (bareAll (l.drop j)) = l[j].bare.big + bigAll (bareAll (l.drop (j + 1))) := by
  rw [List.drop_eq_getElem_cons h, bareAll_cons, bigAll]

/-- An alternative's further elements, the first j of them. -/
def moreTo (l : List RxA) (j : Nat) (g : List St) (next f : Nat) : List St × Nat := layMore (bareAll (l.take j)) g next f
theorem layMore_append : ∀ (l : List Rx) (x : Rx) (g : List St) (next f : Nat),
    layMore (l ++ [x]) g next f = ((x.lay (layMore l g next f).1 next).1 ++ [St.split (layMore l g next f).2 (x.lay (layMore l g next f).1 next).2], (x.lay (layMore l g next f).1 next).1.length)
  | [], x, g, next, f => rfl
  | y :: ys, x, g, next, f => by simp only [List.cons_append, layMore]; rw [layMore_append ys]
theorem moreTo_step (l : List RxA) (j : Nat) (h : j < l.length) (g : List St) (next f : Nat) :
    moreTo l (j + 1) g next f = ((l[j].bare.lay (moreTo l j g next f).1 next).1 ++ [St.split (moreTo l j g next f).2 (l[j].bare.lay (moreTo l j g next f).1 next).2], (l[j].bare.lay (moreTo l j g next f).1 next).1.length) := by
  unfold moreTo
  rw [List.take_succ_eq_append_getElem h, bareAll_append, show bareAll [l[j]] = [l[j].bare] from rfl, layMore_append]
theorem moreTo_sound {l : List RxA} (hf : formAll (bareAll l) = true) (j : Nat) {g : List St} {next f : Nat} (hg : OkG g) (hn : next < g.length) (hff : f < g.length) : Sound g (moreTo l j g next f) (2 * bigAll (bareAll (l.take j))) :=
  layMore_sound _ (formAll_take hf j) g next f hg hn hff
theorem big_take (l : List RxA) (j : Nat) (h : j < l.length) : bigAll (bareAll (l.take (j + 1))) = bigAll (bareAll (l.take j)) + l[j].bare.big := by
  rw [List.take_succ_eq_append_getElem h, bareAll_append, bigAll_append, show bareAll [l[j]] = [l[j].bare] from rfl]
  simp [bigAll]

theorem layMay_step (lay : List St → Nat → List St × Nat) (next : Nat) : ∀ (n : Nat) (g : List St) (f : Nat),
    layMay lay next (n + 1) g f = ((lay (layMay lay next n g f).1 (layMay lay next n g f).2).1 ++ [St.split (lay (layMay lay next n g f).1 (layMay lay next n g f).2).2 next], (lay (layMay lay next n g f).1 (layMay lay next n g f).2).1.length)
  | 0, g, f => rfl
  | n + 1, g, f => by rw [layMay, layMay_step lay next n]; rfl
theorem layTimes_step (lay : List St → Nat → List St × Nat) : ∀ (n : Nat) (g : List St) (f : Nat), layTimes lay (n + 1) g f = lay (layTimes lay n g f).1 (layTimes lay n g f).2
  | 0, g, f => rfl
  | n + 1, g, f => by rw [layTimes, layTimes_step lay n]; rfl

theorem MachAt.alloc {w : World} {base p : Nat} {v : Value} {ws : List Value} {g : List St} (h : MachAt w base p v ws g) (o : Obj) : MachAt (w.alloc o) base p v ws g :=
  ⟨alloc_old h.block o, h.words, h.row.alloc o, h.apart, by have := h.base; simp; omega, h.few⟩
theorem MachAt.drewN {w : World} {base p : Nat} {v : Value} {ws : List Value} {g : List St} (h : MachAt w base p v ws g) (n : Nat) : MachAt (w.drewN n) base p v ws g :=
  ⟨h.block, h.words, h.row, h.apart, h.base, h.few⟩
theorem Keeps.inn {w w' : World} {base p B : Nat} {x : RxA} (h : Keeps base p w w') (hin : x.In w B) (hB : B ≤ w.heap.size) (hb : B ≤ base) (hp : B ≤ p) : x.In w' B :=
  hin.below (h.below hB hb hp) (Nat.le_refl _)

theorem in_box {w : World} {B : Nat} {x : RxA} (o : Obj) (hB : B ≤ w.heap.size) (h : x.In w B) : x.In (w.alloc o) B :=
  h.below ((Below.refl w.heap.size w).alloc (Nat.le_refl _) _) hB
/-- What laid does with an expression. -/
def LaidOK (x : RxA) : Prop := ∀ (w : World) (base p B : Nat) (v : Value) (ws : List Value) (g : List St) (next : Nat), MachAt w base p v ws g → x.In w B → B ≤ base → B ≤ p →
    x.bare.formB = true → OkG g → next < g.length → (g.length : Int) + 2 * x.bare.big < 100000 →
    Calls Tryz.prog 65 #[.pointer (some ⟨p, 0, none⟩), x.val, .int .i64 next] w fun e w' => e = .returned (.int .i64 (x.bare.lay g next).2) ∧
      ∃ v', MachAt w' base p v' ws (x.bare.lay g next).1 ∧ Keeps base p w w'
end Go.Proofs.YtjhclopdcbnmkaaGreatDoor

/- The walks of (*Machine).laid: a set, a row. -/
namespace Go.Proofs.YtjhclopdcbnmkaaGreatDoor
open Go.RowKit PX

set_option maxRecDepth 100000 in
set_option maxHeartbeats 2000000 in
theorem laid_set (mn mx s0 s1 s2 s3 : Int) (a : Option Addr) (cap : Nat) (l : List RxA) : LaidOK (.node 0 mn mx s0 s1 s2 s3 a cap l) := by
  intro w base p B v ws g next hm hin hBb hBp hf hg hn hbig
  obtain ⟨C, HC⟩ : ∃ C, Hid (C = #[Value.int .i64 0, .int .i64 mn, .int .i64 mx, .int .u64 s0, .int .u64 s1, .int .u64 s2, .int .u64 s3, .slice a l.length cap]) := ⟨_, rfl⟩
  have hm1 := Lib.hid (hm.alloc (.cells #[Value.int .i64 0, .int .i64 mn, .int .i64 mx, .int .u64 s0, .int .u64 s1, .int .u64 s2, .int .u64 s3, .slice a l.length cap] 26))
  have hfew := hm.few
  have hbp : 1 ≤ (RxA.node 0 mn mx s0 s1 s2 s3 a cap l).bare.big := Rx.big_pos _
  clear hm hin
  show Calls Tryz.prog 65 #[.pointer (some ⟨p, 0, none⟩), .agg #[.int .i64 0, .int .i64 mn, .int .i64 mx, .int .u64 s0, .int .u64 s1, .int .u64 s2, .int .u64 s3, .slice a l.length cap], .int .i64 next] w _
  go_enter Tryz.func65, Tryz.ntmps65
  go_wp2_with fail
  refine (add_any ⟨0, next, 0, s0, s1, s2, s3⟩ _ base p v ws g hm1.out (by omega)).mono ?_
  rintro e w1 ⟨rfl, v', hm', hk⟩
  go_wp2_with fail
  go_ret
  refine ⟨by simp [RxA.bare, Rx.lay], v', ?_, ((Keeps.refl base p w).alloc _).trans hk⟩
  simpa [RxA.bare, Rx.lay] using hm'

set_option maxRecDepth 100000 in
set_option maxHeartbeats 2000000 in
theorem laid_seq (mn mx s0 s1 s2 s3 : Int) (a : Option Addr) (cap : Nat) (l : List RxA) (ih : ∀ x ∈ l, LaidOK x) : LaidOK (.node 1 mn mx s0 s1 s2 s3 a cap l) := by
  intro w base p B v ws g next hm hin hBb hBp hf hg hn hbig
  have hin' := hin
  simp only [RxA.In] at hin'
  obtain ⟨-, hl1, hl2, -, hl⟩ := hin'
  clear hin
  unfold maxLen at hl2
  have hbase := hm.base
  have hB : B ≤ w.heap.size := by omega
  have hff : formAll (bareAll l) = true := ((formB_iff _ _ _ _ _ _ _ _).1 (by simpa only [RxA.bare] using hf)).2
  have hbl : 2 * bigAll (bareAll l) ≤ 2 * (RxA.node 1 mn mx s0 s1 s2 s3 a cap l).bare.big := by
    simp only [RxA.bare, Rx.big, times]; simp; have := bigAll_nonneg (bareAll l); omega
  have hll : (RxA.node 1 mn mx s0 s1 s2 s3 a cap l).bare.lay g next = seqTo l 0 g next := by simp [RxA.bare, Rx.lay, seqTo]
  obtain ⟨C, HC⟩ : ∃ C, Hid (C = #[Value.int .i64 1, .int .i64 mn, .int .i64 mx, .int .u64 s0, .int .u64 s1, .int .u64 s2, .int .u64 s3, .slice a l.length cap]) := ⟨_, rfl⟩
  have hg' : ∀ j (h : j < l.length), ∃ b o, a = some ⟨b, o, none⟩ ∧ b < B ∧ (∀ i, i < 8 → w.cell? ⟨b, o + j * 8 + i, none⟩ = l[j].cells[i]?) ∧ l[j].In w B := by
    intro j hj
    rcases hl with rfl | ⟨b, o, rfl, hb, hl⟩
    · simp at hj
    · have := RxA.In.get hl j hj
      exact ⟨b, o, rfl, hb, this.1, this.2⟩
  have HG := Lib.hid hg'; clear hg' hl
  have IH := Lib.hid ih; clear ih
  have HM := Lib.hid hm; clear hm
  have HLL := Lib.hid hll; clear hll
  have HFF := Lib.hid hff; clear hff hf
  have HPB : p ≠ w.heap.size := by have := lt_of_block HM.out.block; omega
  show Calls Tryz.prog 65 #[.pointer (some ⟨p, 0, none⟩), .agg #[.int .i64 1, .int .i64 mn, .int .i64 mx, .int .u64 s0, .int .u64 s1, .int .u64 s2, .int .u64 s3, .slice a l.length cap], .int .i64 next] w _
  go_enter Tryz.func65, Tryz.ntmps65
  go_wp2_with fail
  go_loopw [2, 7] (fun nx i wr => ∃ j : Nat, j ≤ l.length ∧ i = .int .i64 ((j : Int) - 1) ∧ nx = .int .i64 (seqTo l j g next).2 ∧
      ∃ v', MachAt wr base p v' ws (seqTo l j g next).1 ∧ Keeps base p (w.alloc (.cells C 26)) wr) (fun _ i _ => (intOf i + 1).toNat)
  case atStart => exact ⟨l.length, Nat.le_refl _, by simp, by rw [seqTo_end], v, by rw [seqTo_end, HC.out]; exact ⟨HM.out.alloc _, Keeps.refl _ _ _⟩⟩
  case round =>
    obtain ⟨j, hj, rfl, rfl, v', hm', hk⟩ := hrel
    have hkb := hk.other (k := w.heap.size) (alloc_block w _) (Ne.symm HPB) (by decide)
    have c7 : wr.cell? ⟨w.heap.size, 7, none⟩ = some (.slice a l.length cap) := by rw [cell_of_block hkb, HC.out]; rfl
    have hs := seqTo_sound HFF.out j hg hn
    have hkw : Keeps base p w wr := ((Keeps.refl base p w).alloc _).trans hk
    have HM' := Lib.hid hm'; clear hm'
    have HK := Lib.hid hkw; clear hkw hkb
    have HK0 := Lib.hid hk; clear hk
    by_cases h0 : 0 < j
    · obtain ⟨m, rfl⟩ : ∃ m, j = m + 1 := ⟨j - 1, by omega⟩
      have e1 : ((m + 1 : Nat) : Int) - 1 = m := by omega
      rw [e1]
      clear e1 h0
      obtain ⟨b, o, rfl, hb, hcs, hxin⟩ := HG.out m (by omega)
      have hih := IH.out l[m] (List.getElem_mem (by omega))
      have hst := seqTo_step l m (by omega) g next
      have hbd := big_drop l m (by omega)
      have hbd2 := bigAll_drop l m
      have hxf := formAll_of_mem HFF.out (List.getElem_mem (show m < l.length by omega))
      have hmost := hs.most
      have hok := hs.ok
      have hfst := hs.fst
      have hbp := Rx.big_pos l[m].bare
      generalize hxe : l[m] = x at *
      have HXE := Lib.hid hxe; clear hxe
      have HST := Lib.hid hst; clear hst
      have HIH := Lib.hid hih; clear hih
      have HXF := Lib.hid hxf; clear hxf
      have HOK := Lib.hid hok; clear hok hs
      have hws := HK.out.size
      have hbe := HK.out.below hB hBb hBp
      obtain ⟨k', mn', mx', s0', s1', s2', s3', a', cap', l'⟩ := x
      obtain ⟨d0, d1, d2, d3, d4, d5, d6, d7⟩ := node_cells (o := o + m * 8) (fun i hi => (hbe.cell (p := ⟨b, o + m * 8 + i, none⟩) hb).trans (hcs i hi))
      have HIN := Lib.hid (hxin.below hbe (Nat.le_refl _)); clear hxin hcs hbe
      generalize hbx : (RxA.node k' mn' mx' s0' s1' s2' s3' a' cap' l').bare.big = bx at *
      have HBX := Lib.hid hbx; clear hbx
      go_wp2_with fail
      refine (HIH.out wr base p B v' ws _ _ HM'.out HIN.out hBb hBp HXF.out HOK.out hfst (by rw [HBX.out]; omega)).mono ?_
      rintro e w1 ⟨rfl, v2, hm2, hk2⟩
      go_wp2_with fail
      go_roundw
      case rel => exact ⟨m, by omega, by go_num, by rw [HST.out], v2, by rw [HST.out]; exact hm2, HK0.out.trans hk2⟩
      case measure => simp only [intOf]; omega
    · have hj0 : j = 0 := by omega
      subst hj0
      have e0 : (((0 : Nat) : Int) - 1) = -1 := rfl
      rw [e0]
      go_wp2_with fail
      go_ret
      exact ⟨ret_int (by rw [HLL.out]), v', by rw [HLL.out]; exact HM'.out, HK.out⟩
end Go.Proofs.YtjhclopdcbnmkaaGreatDoor

/- The walks of (*Machine).laid: an alternative. -/
namespace Go.Proofs.YtjhclopdcbnmkaaGreatDoor
open Go.RowKit PX

set_option maxRecDepth 100000 in
set_option maxHeartbeats 2000000 in
theorem laid_alt (mn mx s0 s1 s2 s3 : Int) (a : Option Addr) (cap : Nat) (l : List RxA) (ih : ∀ x ∈ l, LaidOK x) : LaidOK (.node 2 mn mx s0 s1 s2 s3 a cap l) := by
  intro w base p B v ws g next hm hin hBb hBp hf hg hn hbig
  have hin' := hin
  simp only [RxA.In] at hin'
  obtain ⟨-, hl1, hl2, -, hl⟩ := hin'
  clear hin
  unfold maxLen at hl2
  have hbase := hm.base
  have hB : B ≤ w.heap.size := by omega
  have hfi := (formB_iff _ _ _ _ _ _ _ _).1 (by simpa only [RxA.bare] using hf)
  have hff : formAll (bareAll l) = true := hfi.2
  have hlen : 2 ≤ l.length := by
    have := hfi.1
    rw [bareAll_length] at this
    unfold Shape at this; omega
  clear hfi hf
  have hbl : 2 * bigAll (bareAll l) ≤ 2 * (RxA.node 2 mn mx s0 s1 s2 s3 a cap l).bare.big := by
    simp only [RxA.bare, Rx.big, times]; simp; have := bigAll_nonneg (bareAll l); omega
  rcases hl with rfl | ⟨b, o, rfl, hb, hl⟩
  · simp at hlen
  match l, hlen with
  | x0 :: xs, hlen =>
    simp only [InL] at hl
    obtain ⟨h00, hin0, hl⟩ := hl
    have hget : ∀ j (h : j < xs.length), (∀ i, i < 8 → w.cell? ⟨b, o + 8 + j * 8 + i, none⟩ = xs[j].cells[i]?) ∧ xs[j].In w B := fun j hj => RxA.In.get hl j hj
    have hfx : formAll (bareAll xs) = true := by simp only [bareAll, formAll, Bool.and_eq_true] at hff; exact hff.2
    have hf0 : x0.bare.formB = true := by simp only [bareAll, formAll, Bool.and_eq_true] at hff; exact hff.1
    have hbl2 : 2 * x0.bare.big + 2 * bigAll (bareAll xs) + g.length < 100000 := by simp only [bareAll, bigAll] at hbl; omega
    have hb0 := Rx.big_pos x0.bare
    have hbx := bigAll_nonneg (bareAll xs)
    have hs0 := Rx.lay_sound x0.bare hf0 g next hg hn
    have hll : (RxA.node 2 mn mx s0 s1 s2 s3 (some ⟨b, o, none⟩) cap (x0 :: xs)).bare.lay g next = moreTo xs xs.length (x0.bare.lay g next).1 next (x0.bare.lay g next).2 := by
      simp [RxA.bare, Rx.lay, bareAll, layAlt, moreTo]
    have HLL := Lib.hid hll; clear hll
    have ih0 := Lib.hid (ih x0 (by simp))
    have IH := Lib.hid (fun x (hx : x ∈ xs) => ih x (by simp [hx])); clear ih
    have HG := Lib.hid hget; clear hget hl
    have HFX := Lib.hid hfx; clear hfx hff
    have HF0 := Lib.hid hf0; clear hf0
    have HM := Lib.hid hm; clear hm
    have HPB : p ≠ w.heap.size := by have := lt_of_block HM.out.block; omega
    clear hbig hbl
    obtain ⟨C, HC⟩ : ∃ C, Hid (C = #[Value.int .i64 2, .int .i64 mn, .int .i64 mx, .int .u64 s0, .int .u64 s1, .int .u64 s2, .int .u64 s3, .slice (some ⟨b, o, none⟩) (xs.length + 1) cap]) := ⟨_, rfl⟩
    have hlc : xs.length + 1 ≤ cap := by simpa using hl1
    have hc2 : 2 ≤ cap := by simp only [List.length_cons] at hlen; omega
    clear hl1 hlen
    have hm1 := Lib.hid (HM.out.alloc (.cells C 26))
    have HIN0 := Lib.hid (in_box (.cells C 26) hB hin0); clear hin0
    have hc0 : ∀ i, i < 8 → (w.alloc (.cells C 26)).cell? ⟨b, o + i, none⟩ = x0.cells[i]? := fun i hi => (World.cell?_alloc_past _ _ _ (by show b < w.heap.size; omega)).trans (h00 i hi)
    rw [HC.out] at hc0 hm1 HIN0
    obtain ⟨r0, HR0⟩ : ∃ r0, Hid (x0.bare.lay g next = r0) := ⟨_, rfl⟩
    have HS0 := Lib.hid hs0; clear hs0
    have hlen0 : g.length ≤ r0.1.length ∧ (r0.1.length : Int) ≤ g.length + (2 * x0.bare.big - 1) ∧ r0.2 < r0.1.length := by
      have h := HS0.out
      rw [HR0.out] at h
      exact ⟨h.len, h.most, h.fst⟩
    have hok0 : OkG r0.1 := by have h := HS0.out.ok; rw [HR0.out] at h; exact h
    have HOK0 := Lib.hid hok0; clear hok0
    show Calls Tryz.prog 65 #[.pointer (some ⟨p, 0, none⟩), .agg #[.int .i64 2, .int .i64 mn, .int .i64 mx, .int .u64 s0, .int .u64 s1, .int .u64 s2, .int .u64 s3, .slice (some ⟨b, o, none⟩) (xs.length + 1) cap], .int .i64 next] w _
    generalize hx0b : x0.bare.big = bx0 at *
    have HB0 := Lib.hid hx0b; clear hx0b
    obtain ⟨k', mn', mx', s0', s1', s2', s3', a', cap', l'⟩ := x0
    obtain ⟨d0, d1, d2, d3, d4, d5, d6, d7⟩ := node_cells (o := o) hc0
    clear hc0 h00
    go_enter Tryz.func65, Tryz.ntmps65
    go_wp2_with fail
    refine (ih0.out _ base p B v ws g next hm1.out HIN0.out hBb hBp HF0.out hg hn (by rw [HB0.out]; omega)).mono ?_
    rintro e w1 ⟨rfl, v1, hm2, hk1⟩
    rw [HR0.out]
    rw [HR0.out] at hm2
    have hkb1 := hk1.other (k := w.heap.size) (alloc_block w _) (Ne.symm HPB) (by decide)
    have c7 : w1.cell? ⟨w.heap.size, 7, none⟩ = some (.slice (some ⟨b, o, none⟩) (xs.length + 1) cap) := by rw [cell_of_block hkb1]; rfl
    clear d0 d1 d2 d3 d4 d5 d6 d7
    have HK1 := Lib.hid hk1; clear hk1 hkb1
    have HM2 := Lib.hid hm2; clear hm2 hm1
    go_wp2_with fail
    have hB1 : B ≤ w1.heap.size := by have := HK1.out.size; simp at this; omega
    go_loopw [8, 58] (fun f i wr => ∃ j : Nat, j ≤ xs.length ∧ i = .int .i64 (j : Int) ∧ f = .int .i64 (moreTo xs j r0.1 next r0.2).2 ∧
        ∃ v', MachAt wr base p v' ws (moreTo xs j r0.1 next r0.2).1 ∧ Keeps base p w1 wr) (fun _ i _ => xs.length - (intOf i).toNat)
    case atStart => exact ⟨0, Nat.zero_le _, rfl, rfl, v1, HM2.out, Keeps.refl _ _ _⟩
    case round =>
      obtain ⟨j, hj, rfl, rfl, v', hm', hk⟩ := hrel
      have hs := moreTo_sound HFX.out j HOK0.out (next := next) (f := r0.2) (by omega) hlen0.2.2
      have hbt := bigAll_take xs j
      have hmost := hs.most
      have hok := hs.ok
      have hfst := hs.fst
      have hln := hs.len
      have HM' := Lib.hid hm'; clear hm'
      have HK := Lib.hid hk; clear hk
      have HOK := Lib.hid hok; clear hok hs
      by_cases hlt : j < xs.length
      · obtain ⟨hcs, hxin⟩ := HG.out j hlt
        have hih := IH.out xs[j] (List.getElem_mem hlt)
        have hst := moreTo_step xs j hlt r0.1 next r0.2
        have hbd := big_take xs j hlt
        have hbt2 := bigAll_take xs (j + 1)
        have hxf := formAll_of_mem HFX.out (List.getElem_mem hlt)
        have hbp := Rx.big_pos xs[j].bare
        generalize hxe : xs[j] = x at *
        have HXE := Lib.hid hxe; clear hxe
        have hsx := Rx.lay_sound x.bare hxf (moreTo xs j r0.1 next r0.2).1 next HOK.out (by omega)
        have hmx := hsx.most
        clear hsx
        have HST := Lib.hid hst; clear hst
        have HIH := Lib.hid hih; clear hih
        have HXF := Lib.hid hxf; clear hxf
        have hbw : Below B w wr := ((((Keeps.refl base p w).alloc _).trans HK1.out).trans HK.out).below hB hBb hBp
        obtain ⟨k', mn', mx', s0', s1', s2', s3', a', cap', l'⟩ := x
        obtain ⟨d0, d1, d2, d3, d4, d5, d6, d7⟩ := node_cells (o := o + 8 + j * 8) (fun i hi => (hbw.cell (p := ⟨b, o + 8 + j * 8 + i, none⟩) hb).trans (hcs i hi))
        have HIN := Lib.hid (in_box (.cells #[Value.int .i64 k', .int .i64 mn', .int .i64 mx', .int .u64 s0', .int .u64 s1', .int .u64 s2', .int .u64 s3', .slice a' l'.length cap'] 26) (by have := HK.out.size; omega) (hxin.below hbw (Nat.le_refl _))); clear hxin hcs hbw
        have HMA := Lib.hid (HM'.out.alloc (.cells #[Value.int .i64 k', .int .i64 mn', .int .i64 mx', .int .u64 s0', .int .u64 s1', .int .u64 s2', .int .u64 s3', .slice a' l'.length cap'] 26))
        generalize hbx : (RxA.node k' mn' mx' s0' s1' s2' s3' a' cap' l').bare.big = bx at *
        have HBX := Lib.hid hbx; clear hbx
        go_wp2_with fail
        refine (HIH.out _ base p B v' ws _ _ HMA.out HIN.out hBb hBp HXF.out HOK.out (by omega) (by rw [HBX.out]; omega)).mono ?_
        rintro e w2 ⟨rfl, v2, hm3, hk2⟩
        obtain ⟨q, HQ⟩ : ∃ q, Hid ((RxA.node k' mn' mx' s0' s1' s2' s3' a' cap' l').bare.lay (moreTo xs j r0.1 next r0.2).1 next = q) := ⟨_, rfl⟩
        rw [HQ.out]
        rw [HQ.out] at hm3 hmx
        obtain ⟨f0, HF0⟩ : ∃ f0, Hid ((moreTo xs j r0.1 next r0.2).2 = f0) := ⟨_, rfl⟩
        rw [HF0.out]
        have HK2 := Lib.hid hk2; clear hk2
        have HM3 := Lib.hid hm3; clear hm3
        go_wp2_with fail
        refine (add_any (St.split f0 q.2) _ base p v2 ws _ HM3.out (by omega)).mono ?_
        rintro e w3 ⟨rfl, v3, hm4, hk3⟩
        go_wp2_with fail
        go_roundw
        case rel => exact ⟨j + 1, by omega, by go_num, by rw [HST.out, HQ.out], v3, by rw [HST.out, HQ.out, HF0.out]; exact hm4, ((HK.out.alloc _).trans HK2.out).trans hk3⟩
        case measure => simp only [intOf]; omega
      · have hje : j = xs.length := by omega
        subst hje
        go_wp2_with fail
        go_ret
        refine ⟨ret_int (by rw [HLL.out, HR0.out]), v', by rw [HLL.out, HR0.out]; exact HM'.out, ?_⟩
        exact (((Keeps.refl base p w).alloc _).trans HK1.out).trans HK.out
end Go.Proofs.YtjhclopdcbnmkaaGreatDoor

/- The walks of (*Machine).laid: a repetition (printed by a program of ours, gen_laidc.py: the two last loops' text is one, used three times). -/
namespace Go.Proofs.YtjhclopdcbnmkaaGreatDoor
open Go.RowKit PX

theorem stsCells_set : ∀ (g : List St) (i : Nat) (st : St) (n : Nat), g[i]? = some st → stsCells (g.set i { st with next := n }) = (stsCells g).set (i * 7 + 1) (.int .i64 n)
  | x :: g, 0, st, n, h => by
    simp only [List.getElem?_cons_zero, Option.some.injEq] at h
    subst h
    simp [stsCells, stCells]
  | x :: g, i + 1, st, n, h => by
    simp only [List.getElem?_cons_succ] at h
    have := stsCells_set g i st n h
    simp only [List.set_cons_succ, stsCells]
    rw [this, List.set_append_right _ _ (by simp [stCells]; omega)]
    have e : (stCells x).length = 7 := rfl
    rw [e, show (i + 1) * 7 + 1 - 7 = i * 7 + 1 by omega]

theorem mul_succ_cast (c : Int) (j : Nat) : c * ((j + 1 : Nat) : Int) = c * j + c := by rw [Int.natCast_add, Int.mul_add]; simp

/-- A state's next, stored. -/
theorem MachAt.store {w : World} {base p gb cap : Nat} {ws : List Value} {g : List St} (h : MachAt w base p (.slice (some ⟨gb, 0, none⟩) g.length cap) ws g) (i : Nat) (st : St) (n : Nat) (hi : g[i]? = some st) :
    MachAt (w.setCell ⟨gb, i * 7 + 1, none⟩ (.int .i64 n)) base p (.slice (some ⟨gb, 0, none⟩) g.length cap) ws (g.set i { st with next := n }) ∧ Keeps base p w (w.setCell ⟨gb, i * 7 + 1, none⟩ (.int .i64 n)) ∧
      w.cell? ⟨gb, i * 7 + 1, none⟩ = some (.int .i64 st.next) ∧ w.frozen? ⟨gb, i * 7 + 1, none⟩ = false := by
  have hr := h.stRow gb rfl
  have hne : gb ≠ p := by have := h.apart; simp only [Value.ownBlock, ne_eq, Option.some.injEq] at this; exact this
  have hil : i < g.length := (List.getElem?_eq_some_iff.1 hi).1
  refine ⟨⟨?_, h.words, ?_, h.apart, by have := h.base; simp [World.setCell]; omega, by have := h.few; simpa using this⟩, Only.setCell (Keeps.refl base p w) (.inl (.inr hr)) _, ?_, h.row.frozenAt _⟩
  · rw [Below.heap_setCell _ _ _ _ (by show p ≠ gb; omega)]; exact h.block
  · rw [stsCells_set g i st n hi, List.length_set]; exact (h.row.stored _ _).1
  · rw [h.row.cellAt _ (by omega), stsCells_get g i 1 st hi (by omega)]; rfl

set_option maxRecDepth 100000 in
set_option maxHeartbeats 4000000 in
theorem laid_repB (mn mx s0 s1 s2 s3 : Int) (a : Option Addr) (cap : Nat) (l : List RxA) (hmx : mx ≠ -1) (ih : ∀ x ∈ l, LaidOK x) : LaidOK (.node 3 mn mx s0 s1 s2 s3 a cap l) := by
  intro w base p B v ws g next hm hin hBb hBp hf hg hn hbig
  have hin' := hin
  simp only [RxA.In] at hin'
  obtain ⟨-, hl1, hl2, -, hl⟩ := hin'
  clear hin
  unfold maxLen at hl2
  have hbase := hm.base
  have hB : B ≤ w.heap.size := by omega
  have hfi := (formB_iff _ _ _ _ _ _ _ _).1 (by simpa only [RxA.bare] using hf)
  have hff : formAll (bareAll l) = true := hfi.2
  have hsh : l.length = 1 ∧ 0 ≤ mn ∧ mn ≤ 15 ∧ mx ≤ 15 ∧ (mx = -1 ∨ mn ≤ mx) := by
    have := hfi.1
    rw [bareAll_length] at this
    unfold Shape at this; omega
  clear hfi hf
  obtain ⟨hlen, hmn0, hmn15, hmx15, hmnx⟩ := hsh
  rcases hl with rfl | ⟨b, o, rfl, hb, hl⟩
  · simp at hlen
  match l, hlen with
  | [x0], _ =>
    simp only [InL] at hl
    obtain ⟨h00, hin0, -⟩ := hl
    have hf0 : x0.bare.formB = true := by simpa only [bareAll, formAll, Bool.and_eq_true, and_true] using hff
    clear hff
    have hb0 := Rx.big_pos x0.bare
    have hbigx : (RxA.node 3 mn mx s0 s1 s2 s3 (some ⟨b, o, none⟩) cap [x0]).bare.big = 1 + max (max 1 mn) mx * x0.bare.big := by simp [RxA.bare, bareAll, Rx.big, bigAll, times]
    rw [hbigx] at hbig
    clear hbigx
    have hll : (RxA.node 3 mn mx s0 s1 s2 s3 (some ⟨b, o, none⟩) cap [x0]).bare.lay g next = layRepOf x0.bare.lay mn mx g next := by
      simp [RxA.bare, Rx.lay, bareAll, layRep]
    have HLL := Lib.hid hll; clear hll
    have ih0 := Lib.hid (ih x0 (by simp)); clear ih
    have HF0 := Lib.hid hf0; clear hf0
    have HM := Lib.hid hm; clear hm
    have HPB : p ≠ w.heap.size := by have := lt_of_block HM.out.block; omega
    have HPB2 : p ≠ w.heap.size + 1 := by have := lt_of_block HM.out.block; omega
    obtain ⟨C, HC⟩ : ∃ C, Hid (C = #[Value.int .i64 3, .int .i64 mn, .int .i64 mx, .int .u64 s0, .int .u64 s1, .int .u64 s2, .int .u64 s3, .slice (some ⟨b, o, none⟩) 1 cap]) := ⟨_, rfl⟩
    have hcap : 1 ≤ cap := by simpa using hl1
    clear hl1
    have hin0' := Lib.hid hin0; clear hin0
    have hc0 : ∀ i, i < 8 → (w.alloc (.cells C 26)).cell? ⟨b, o + i, none⟩ = x0.cells[i]? := fun i hi => (World.cell?_alloc_past _ _ _ (by show b < w.heap.size; omega)).trans (h00 i hi)
    rw [HC.out] at hc0
    obtain ⟨lay, HLAY⟩ : ∃ lay, Hid (x0.bare.lay = lay) := ⟨_, rfl⟩
    have hsa := Rx.lay_sound x0.bare HF0.out
    rw [HLAY.out] at hsa
    generalize hx0b : x0.bare.big = bx at *
    have HBB := Lib.hid hx0b; clear hx0b
    have HSA := Lib.hid hsa; clear hsa
    obtain ⟨k', mn', mx', s0', s1', s2', s3', a', cap', l'⟩ := x0
    obtain ⟨d0, d1, d2, d3, d4, d5, d6, d7⟩ := node_cells (o := o) hc0
    clear hc0 h00
    have hM0 := Lib.hid ((HM.out.alloc (.cells #[Value.int .i64 3, .int .i64 mn, .int .i64 mx, .int .u64 s0, .int .u64 s1, .int .u64 s2, .int .u64 s3, .slice (some ⟨b, o, none⟩) 1 cap] 26)).alloc (.cells #[Value.int .i64 k', .int .i64 mn', .int .i64 mx', .int .u64 s0', .int .u64 s1', .int .u64 s2', .int .u64 s3', .slice a' l'.length cap'] 26))
    show Calls Tryz.prog 65 #[.pointer (some ⟨p, 0, none⟩), .agg #[.int .i64 3, .int .i64 mn, .int .i64 mx, .int .u64 s0, .int .u64 s1, .int .u64 s2, .int .u64 s3, .slice (some ⟨b, o, none⟩) 1 cap], .int .i64 next] w _
    have hmb : (mx == -1) = false := by rw [beq_eq_false_iff_ne]; exact hmx
    have hle : mn ≤ mx := by omega
    have hbnd : 2 * (max (max 1 mn) mx * bx) = (2 * bx - 1 + 1) * max (max 1 mn) mx := by rw [show 2 * bx - 1 + 1 = 2 * bx by omega, Int.mul_assoc, Int.mul_comm bx]
    obtain ⟨L, HL⟩ : ∃ L : Nat, mn = (L : Int) := ⟨mn.toNat, by omega⟩
    have hbnd2 : (2 * bx - 1 + 1) * (((mx - mn).toNat : Nat) : Int) + (2 * bx - 1) * (L : Int) ≤ (2 * bx - 1 + 1) * max (max 1 mn) mx := by
      have e1 : (2 * bx - 1 + 1) * (((mx - mn).toNat : Nat) : Int) + (2 * bx - 1 + 1) * (L : Int) = (2 * bx - 1 + 1) * mx := by rw [← Int.mul_add]; congr 1; omega
      have e2 : (2 * bx - 1) * (L : Int) ≤ (2 * bx - 1 + 1) * (L : Int) := Int.mul_le_mul_of_nonneg_right (by omega) (by omega)
      have e3 : (2 * bx - 1 + 1) * mx ≤ (2 * bx - 1 + 1) * max (max 1 mn) mx := Int.mul_le_mul_of_nonneg_left (by omega) (by omega)
      omega
    have hL0 : 0 ≤ (2 * bx - 1) * (L : Int) := Int.mul_nonneg (by omega) (by omega)
    have hbig2 : (g.length : Int) + ((2 * bx - 1 + 1) * (((mx - mn).toNat : Nat) : Int) + (2 * bx - 1) * (L : Int)) + 2 < 100000 := by rw [Int.mul_add, hbnd] at hbig; omega
    clear hbnd hbnd2 hbig hmnx
    have hrel : (RxA.node 3 mn mx s0 s1 s2 s3 (some ⟨b, o, none⟩) cap [.node k' mn' mx' s0' s1' s2' s3' a' cap' l']).bare.lay g next = layTimes lay L (layMay lay next (mx - mn).toNat g next).1 (layMay lay next (mx - mn).toNat g next).2 := by
      rw [HLL.out, HLAY.out]; unfold layRepOf; rw [if_neg hmx]; simp only; congr 1; omega
    have HREL := Lib.hid hrel; clear hrel hmx HLL
    subst HL
    go_enter Tryz.func65, Tryz.ntmps65
    go_wp2_with fail
    go_quiet (fail)
    go_wp2_with fail
    generalize hW : World.drewN _ _ = WX
    have HKW := Lib.hid (show Keeps base p w WX by rw [← hW]; exact (((Keeps.refl base p w).alloc _).alloc _).drewN _)
    have HMG := Lib.hid (show MachAt WX base p v ws g by rw [← hW]; exact hM0.out.drewN _)
    have HBX := Lib.hid (show WX.heap[w.heap.size + 1]? = some (.cells #[Value.int .i64 k', .int .i64 mn', .int .i64 mx', .int .u64 s0', .int .u64 s1', .int .u64 s2', .int .u64 s3', .slice a' l'.length cap'] 26 (0, 0)) by
      rw [← hW]
      have := alloc_block (w.alloc (.cells #[Value.int .i64 3, .int .i64 L, .int .i64 mx, .int .u64 s0, .int .u64 s1, .int .u64 s2, .int .u64 s3, .slice (some ⟨b, o, none⟩) 1 cap] 26)) (.cells #[Value.int .i64 k', .int .i64 mn', .int .i64 mx', .int .u64 s0', .int .u64 s1', .int .u64 s2', .int .u64 s3', .slice a' l'.length cap'] 26)
      rw [World.size_alloc] at this
      exact this)
    clear hW hM0 d0 d1 d2 d3 d4 d5 d6 d7
    have HBP := Ne.symm HPB2
    have HOG := Lib.hid hg
    have hFG := hn
    have hnG := hn
    -- the two last loops
    obtain ⟨N, HN⟩ : ∃ N : Nat, Hid (N = (mx - (L : Int)).toNat) := ⟨_, rfl⟩
    have hc0 : 0 ≤ 2 * bx - 1 := by omega
    have hbigN : (g.length : Int) + ((2 * bx - 1 + 1) * (N : Int) + (2 * bx - 1) * (L : Int)) + 2 < 100000 := by rw [HN.out]; exact hbig2
    clear hbig2
    go_loopw [12, 109] (fun f i wr => ∃ j : Nat, j ≤ N ∧ i = .int .i64 (j : Int) ∧ f = .int .i64 (layMay lay next j g next).2 ∧
        ∃ v', MachAt wr base p v' ws (layMay lay next j g next).1 ∧ Keeps base p WX wr) (fun _ i _ => N - (intOf i).toNat)
    case atStart => exact ⟨0, Nat.zero_le _, rfl, rfl, v, HMG.out, Keeps.refl _ _ _⟩
    case round =>
      obtain ⟨j, hj, rfl, rfl, v', hm', hk⟩ := hrel
      have hs := layMay_sound hc0 HSA.out next j g next HOG.out hFG hnG
      have hmost := hs.most
      have hok := hs.ok
      have hfst := hs.fst
      have hln := hs.len
      have HOK := Lib.hid hok; clear hok hs
      have hbox := hk.other HBX.out HBP (by decide)
      obtain ⟨d0, d1, d2, d3, d4, d5, d6, d7⟩ := node_cells (o := 0) (fun i hi => by rw [Nat.zero_add, cell_of_block hbox i]; exact List.getElem?_toArray ..)
      simp only [Nat.zero_add] at d1 d2 d3 d4 d5 d6 d7
      have HBOX := Lib.hid hbox; clear hbox
      have hbw : Below B w wr := (HKW.out.trans hk).below hB hBb hBp
      have HIN := Lib.hid (hin0'.out.below hbw (Nat.le_refl _)); clear hbw
      have hws := hk.size
      have HM' := Lib.hid hm'; clear hm'
      have HK := Lib.hid hk; clear hk
      have hjm := (mul_succ_cast (2 * bx - 1 + 1) j)
      by_cases hlt : j < N
      · have hNj : (2 * bx - 1 + 1) * ((j + 1 : Nat) : Int) ≤ (2 * bx - 1 + 1) * (N : Int) := Int.mul_le_mul_of_nonneg_left (by omega) (by omega)
        have hjN : (j : Int) < mx - (L : Int) := by have := HN.out; omega
        have hst := layMay_step lay next j g next
        have HST := Lib.hid hst; clear hst
        have hsx := HSA.out (layMay lay next j g next).1 (layMay lay next j g next).2 HOK.out hfst
        have hmx := hsx.most
        have hmf := hsx.fst
        clear hsx
        have HE := Lib.hid (show (RxA.node k' mn' mx' s0' s1' s2' s3' a' cap' l').bare.lay (layMay lay next j g next).1 (layMay lay next j g next).2 = lay (layMay lay next j g next).1 (layMay lay next j g next).2 from by rw [HLAY.out])
        have hjm2 := Lib.hid hjm; 
        have hfin : ((layMay lay next j g next).1.length : Int) + 2 * bx < 100000 := by omega
        have hfin2 : ((lay (layMay lay next j g next).1 (layMay lay next j g next).2).1.length : Int) < 100000 := by omega
        clear hjm hNj hmost
        go_wp2_with fail
        refine (ih0.out wr base p B v' ws _ _ HM'.out HIN.out hBb hBp HF0.out HOK.out hfst (by rw [HBB.out]; exact hfin)).mono ?_
        rintro e w2 ⟨rfl, v2, hm3, hk2⟩
        rw [HE.out]
        rw [HE.out] at hm3
        obtain ⟨q, HQ⟩ : ∃ q, Hid (lay (layMay lay next j g next).1 (layMay lay next j g next).2 = q) := ⟨_, rfl⟩
        rw [HQ.out]
        rw [HQ.out] at hm3 hfin2
        have HK2 := Lib.hid hk2; clear hk2
        have HM3 := Lib.hid hm3; clear hm3
        go_wp2_with fail
        refine (add_any (St.split q.2 next) _ base p v2 ws _ HM3.out (by omega)).mono ?_
        rintro e w3 ⟨rfl, v3, hm4, hk3⟩
        go_wp2_with fail
        go_roundw
        case rel => exact ⟨j + 1, by omega, by go_num, by rw [HST.out, HQ.out], v3, by rw [HST.out, HQ.out]; exact hm4, (HK.out.trans HK2.out).trans hk3⟩
        case measure => simp only [intOf]; omega
      · have hje : j = N := by omega
        have hjN : ¬ (j : Int) < mx - (L : Int) := by have := HN.out; omega
        subst hje
        obtain ⟨G2, HG2⟩ : ∃ G2, Hid ((layMay lay next j g next).1 = G2) := ⟨_, rfl⟩
        obtain ⟨F2, HF2⟩ : ∃ F2, Hid ((layMay lay next j g next).2 = F2) := ⟨_, rfl⟩
        have hm2 := HM'.out
        have hok2 := HOK.out
        rw [HG2.out] at hm2 hok2 hmost hfst hln
        rw [HF2.out] at hfst ⊢
        have HM2 := Lib.hid hm2; clear hm2
        have HOK2 := Lib.hid hok2; clear hok2
        clear d0 d1 d2 d3 d4 d5 d6 d7
        go_wp2_with fail
        go_loopw [12, 121] (fun f i wz => ∃ m : Nat, m ≤ L ∧ i = .int .i64 (m : Int) ∧ f = .int .i64 (layTimes lay m G2 F2).2 ∧
            ∃ v', MachAt wz base p v' ws (layTimes lay m G2 F2).1 ∧ Keeps base p wr wz) (fun _ i _ => L - (intOf i).toNat)
        case atStart => exact ⟨0, Nat.zero_le _, rfl, rfl, v', HM2.out, Keeps.refl _ _ _⟩
        case round =>
          obtain ⟨m, hm, rfl, rfl, v2, hm3, hk3⟩ := hrel
          have hs := layTimes_sound hc0 HSA.out m G2 F2 HOK2.out hfst
          have hmost2 := hs.most
          have hok := hs.ok
          have hfst2 := hs.fst
          have HOK3 := Lib.hid hok; clear hok hs
          have hbox := hk3.other HBOX.out HBP (by decide)
          obtain ⟨d0, d1, d2, d3, d4, d5, d6, d7⟩ := node_cells (o := 0) (fun i hi => by rw [Nat.zero_add, cell_of_block hbox i]; exact List.getElem?_toArray ..)
          simp only [Nat.zero_add] at d1 d2 d3 d4 d5 d6 d7
          clear hbox
          have hbw : Below B w wr := ((HKW.out.trans HK.out).trans hk3).below hB hBb hBp
          have HIN3 := Lib.hid (hin0'.out.below hbw (Nat.le_refl _)); clear hbw
          have HM3 := Lib.hid hm3; clear hm3
          have HK3 := Lib.hid hk3; clear hk3
          by_cases hlt2 : m < L
          · have hmm : (2 * bx - 1) * ((m + 1 : Nat) : Int) ≤ (2 * bx - 1) * (L : Int) := Int.mul_le_mul_of_nonneg_left (by omega) (by omega)
            have hme := mul_succ_cast (2 * bx - 1) m
            have hst := layTimes_step lay m G2 F2
            have HST := Lib.hid hst; clear hst
            have HE := Lib.hid (show (RxA.node k' mn' mx' s0' s1' s2' s3' a' cap' l').bare.lay (layTimes lay m G2 F2).1 (layTimes lay m G2 F2).2 = lay (layTimes lay m G2 F2).1 (layTimes lay m G2 F2).2 from by rw [HLAY.out])
            have hfin : ((layTimes lay m G2 F2).1.length : Int) + 2 * bx < 100000 := by omega
            clear hmm hme hmost2
            go_wp2_with fail
            refine (ih0.out wr base p B v2 ws _ _ HM3.out HIN3.out hBb hBp HF0.out HOK3.out hfst2 (by rw [HBB.out]; exact hfin)).mono ?_
            rintro e w4 ⟨rfl, v4, hm4, hk4⟩
            rw [HE.out]
            rw [HE.out] at hm4
            go_wp2_with fail
            go_roundw
            case rel => exact ⟨m + 1, by omega, by go_num, by rw [HST.out], v4, by rw [HST.out]; exact hm4, HK3.out.trans hk4⟩
            case measure => simp only [intOf]; omega
          · have hme : m = L := by omega
            subst hme
            go_wp2_with fail
            go_ret
            refine ⟨ret_int (by rw [HREL.out, ← HN.out, HG2.out, HF2.out]), v2, by rw [HREL.out, ← HN.out, HG2.out, HF2.out]; exact HM3.out, ?_⟩
            exact (HKW.out.trans HK.out).trans HK3.out
set_option maxRecDepth 100000 in
set_option maxHeartbeats 4000000 in
theorem laid_repA1 (L : Nat) (s0 s1 s2 s3 : Int) (a : Option Addr) (cap : Nat) (l : List RxA) (ih : ∀ x ∈ l, LaidOK x) : LaidOK (.node 3 ((L : Int) + 1) (-1) s0 s1 s2 s3 a cap l) := by
  intro w base p B v ws g next hm hin hBb hBp hf hg hn hbig
  have hin' := hin
  simp only [RxA.In] at hin'
  obtain ⟨-, hl1, hl2, -, hl⟩ := hin'
  clear hin
  unfold maxLen at hl2
  have hbase := hm.base
  have hB : B ≤ w.heap.size := by omega
  have hfi := (formB_iff _ _ _ _ _ _ _ _).1 (by simpa only [RxA.bare] using hf)
  have hff : formAll (bareAll l) = true := hfi.2
  have hsh : l.length = 1 ∧ 0 ≤ ((L : Int) + 1) ∧ ((L : Int) + 1) ≤ 15 := by
    have := hfi.1
    rw [bareAll_length] at this
    unfold Shape at this; omega
  clear hfi hf
  obtain ⟨hlen, hmn0, hmn15⟩ := hsh
  rcases hl with rfl | ⟨b, o, rfl, hb, hl⟩
  · simp at hlen
  match l, hlen with
  | [x0], _ =>
    simp only [InL] at hl
    obtain ⟨h00, hin0, -⟩ := hl
    have hf0 : x0.bare.formB = true := by simpa only [bareAll, formAll, Bool.and_eq_true, and_true] using hff
    clear hff
    have hb0 := Rx.big_pos x0.bare
    have hbigx : (RxA.node 3 ((L : Int) + 1) (-1) s0 s1 s2 s3 (some ⟨b, o, none⟩) cap [x0]).bare.big = 1 + max (max 1 ((L : Int) + 1)) (-1) * x0.bare.big := by simp [RxA.bare, bareAll, Rx.big, bigAll, times]
    rw [hbigx] at hbig
    clear hbigx
    have hll : (RxA.node 3 ((L : Int) + 1) (-1) s0 s1 s2 s3 (some ⟨b, o, none⟩) cap [x0]).bare.lay g next = layRepOf x0.bare.lay ((L : Int) + 1) (-1) g next := by
      simp [RxA.bare, Rx.lay, bareAll, layRep]
    have HLL := Lib.hid hll; clear hll
    have ih0 := Lib.hid (ih x0 (by simp)); clear ih
    have HF0 := Lib.hid hf0; clear hf0
    have HM := Lib.hid hm; clear hm
    have HPB : p ≠ w.heap.size := by have := lt_of_block HM.out.block; omega
    have HPB2 : p ≠ w.heap.size + 1 := by have := lt_of_block HM.out.block; omega
    obtain ⟨C, HC⟩ : ∃ C, Hid (C = #[Value.int .i64 3, .int .i64 ((L : Int) + 1), .int .i64 (-1), .int .u64 s0, .int .u64 s1, .int .u64 s2, .int .u64 s3, .slice (some ⟨b, o, none⟩) 1 cap]) := ⟨_, rfl⟩
    have hcap : 1 ≤ cap := by simpa using hl1
    clear hl1
    have hin0' := Lib.hid hin0; clear hin0
    have hc0 : ∀ i, i < 8 → (w.alloc (.cells C 26)).cell? ⟨b, o + i, none⟩ = x0.cells[i]? := fun i hi => (World.cell?_alloc_past _ _ _ (by show b < w.heap.size; omega)).trans (h00 i hi)
    rw [HC.out] at hc0
    obtain ⟨lay, HLAY⟩ : ∃ lay, Hid (x0.bare.lay = lay) := ⟨_, rfl⟩
    have hsa := Rx.lay_sound x0.bare HF0.out
    rw [HLAY.out] at hsa
    generalize hx0b : x0.bare.big = bx at *
    have HBB := Lib.hid hx0b; clear hx0b
    have HSA := Lib.hid hsa; clear hsa
    obtain ⟨k', mn', mx', s0', s1', s2', s3', a', cap', l'⟩ := x0
    obtain ⟨d0, d1, d2, d3, d4, d5, d6, d7⟩ := node_cells (o := o) hc0
    clear hc0 h00
    have hM0 := Lib.hid ((HM.out.alloc (.cells #[Value.int .i64 3, .int .i64 ((L : Int) + 1), .int .i64 (-1), .int .u64 s0, .int .u64 s1, .int .u64 s2, .int .u64 s3, .slice (some ⟨b, o, none⟩) 1 cap] 26)).alloc (.cells #[Value.int .i64 k', .int .i64 mn', .int .i64 mx', .int .u64 s0', .int .u64 s1', .int .u64 s2', .int .u64 s3', .slice a' l'.length cap'] 26))
    show Calls Tryz.prog 65 #[.pointer (some ⟨p, 0, none⟩), .agg #[.int .i64 3, .int .i64 ((L : Int) + 1), .int .i64 (-1), .int .u64 s0, .int .u64 s1, .int .u64 s2, .int .u64 s3, .slice (some ⟨b, o, none⟩) 1 cap], .int .i64 next] w _
    have hbig2 : ((g.length : Int) + 1 + (2 * bx - 1)) + ((2 * bx - 1 + 1) * (((-1 - ((L : Int) + 1) : Int)).toNat : Int) + (2 * bx - 1) * (L : Int)) + 2 < 100000 := by
      have e0 : ((-1 - ((L : Int) + 1) : Int)).toNat = 0 := by omega
      rw [e0]
      have e1 : max (max 1 ((L : Int) + 1)) (-1) = (L : Int) + 1 := by omega
      rw [e1, Int.add_mul] at hbig
      have e2 : (2 * bx - 1) * (L : Int) ≤ (2 * bx) * (L : Int) := Int.mul_le_mul_of_nonneg_right (by omega) (by omega)
      have e3 : (2 * bx) * (L : Int) = 2 * ((L : Int) * bx) := by rw [Int.mul_assoc, Int.mul_comm bx]
      simp
      omega
    have hb1 : (g.length : Int) + 2 * bx + 1 < 100000 := by
      have e1 : 1 * bx ≤ max (max 1 ((L : Int) + 1)) (-1) * bx := Int.mul_le_mul_of_nonneg_right (by omega) (by omega)
      omega
    clear hbig
    have HB2 := Lib.hid hbig2; clear hbig2
    go_enter Tryz.func65, Tryz.ntmps65
    go_wp2_with fail
    go_quiet (fail)
    go_wp2_with fail
    generalize hW : World.drewN _ _ = WX
    have HKW := Lib.hid (show Keeps base p w WX by rw [← hW]; exact (((Keeps.refl base p w).alloc _).alloc _).drewN _)
    have HMG := Lib.hid (show MachAt WX base p v ws g by rw [← hW]; exact hM0.out.drewN _)
    have HBX := Lib.hid (show WX.heap[w.heap.size + 1]? = some (.cells #[Value.int .i64 k', .int .i64 mn', .int .i64 mx', .int .u64 s0', .int .u64 s1', .int .u64 s2', .int .u64 s3', .slice a' l'.length cap'] 26 (0, 0)) by
      rw [← hW]
      have := alloc_block (w.alloc (.cells #[Value.int .i64 3, .int .i64 ((L : Int) + 1), .int .i64 (-1), .int .u64 s0, .int .u64 s1, .int .u64 s2, .int .u64 s3, .slice (some ⟨b, o, none⟩) 1 cap] 26)) (.cells #[Value.int .i64 k', .int .i64 mn', .int .i64 mx', .int .u64 s0', .int .u64 s1', .int .u64 s2', .int .u64 s3', .slice a' l'.length cap'] 26)
      rw [World.size_alloc] at this
      exact this)
    have HBX1 := Lib.hid (show WX.heap[w.heap.size]? = some (.cells #[Value.int .i64 3, .int .i64 ((L : Int) + 1), .int .i64 (-1), .int .u64 s0, .int .u64 s1, .int .u64 s2, .int .u64 s3, .slice (some ⟨b, o, none⟩) 1 cap] 26 (0, 0)) by
      rw [← hW]
      exact alloc_old (alloc_block w _) _)
    clear hW hM0 d0 d1 d2 d3 d4 d5 d6 d7
    have HBP := Ne.symm HPB2
    refine (add_any (St.split 0 next) _ base p v ws g HMG.out (by omega)).mono ?_
    rintro e w2 ⟨rfl, v2, hm2, hk2⟩
    have hbox := hk2.other HBX.out HBP (by decide)
    have hbox1 := hk2.other HBX1.out (Ne.symm HPB) (by decide)
    obtain ⟨d0, d1, d2, d3, d4, d5, d6, d7⟩ := node_cells (o := 0) (fun i hi => by rw [Nat.zero_add, cell_of_block hbox i]; exact List.getElem?_toArray ..)
    simp only [Nat.zero_add] at d1 d2 d3 d4 d5 d6 d7
    have HBOX := Lib.hid hbox; clear hbox
    have HBOX1 := Lib.hid hbox1; clear hbox1
    have hbw : Below B w w2 := (HKW.out.trans hk2).below hB hBb hBp
    have HIN := Lib.hid (hin0'.out.below hbw (Nat.le_refl _)); clear hbw
    have HM2 := Lib.hid hm2; clear hm2
    have HK2 := Lib.hid (HKW.out.trans hk2); clear hk2
    have hog : OkG (g ++ [St.split 0 next]) := hg.snoc (by simp [St.split]) (by simp [St.split]) (by simp only [St.split]; omega) (by simp [St.split]) (by simp [St.split]; omega)
    have HOGS := Lib.hid hog; clear hog
    have HE := Lib.hid (show (RxA.node k' mn' mx' s0' s1' s2' s3' a' cap' l').bare.lay (g ++ [St.split 0 next]) g.length = lay (g ++ [St.split 0 next]) g.length from by rw [HLAY.out])
    go_wp2_with fail
    refine (ih0.out w2 base p B v2 ws _ _ HM2.out HIN.out hBb hBp HF0.out HOGS.out (by simp) (by rw [HBB.out]; simp; omega)).mono ?_
    rintro e w3 ⟨rfl, v3, hm3, hk3⟩
    have hsx := HSA.out (g ++ [St.split 0 next]) g.length HOGS.out (by simp)
    have hlx := (Rx.lay_lays (RxA.node k' mn' mx' s0' s1' s2' s3' a' cap' l').bare HF0.out (g ++ [St.split 0 next]) g.length (by simp) (by simp)).old g.length (by simp)
    rw [HE.out]
    rw [HE.out] at hm3 hlx
    generalize hrr : lay (g ++ [St.split 0 next]) g.length = rr at *
    have HRR := Lib.hid hrr; clear hrr
    have hst : rr.1[g.length]? = some (St.split 0 next) := by rw [hlx]; simp
    clear hlx
    have hlen3 := hsx.len
    have hmost3 := hsx.most
    have hfst3 := hsx.fst
    have hok3 := hsx.ok
    simp only [List.length_append, List.length_cons, List.length_nil] at hlen3 hmost3
    clear hsx
    obtain ⟨gb, capb, rfl, hcb1, hcb2⟩ := ownsRow_pos hm3.row (by omega)
    obtain ⟨hmS, hkS, hcS, hfS⟩ := hm3.store g.length _ rr.2 hst
    have hp0 : w3.cell? ⟨p, 0, none⟩ = some (.slice (some ⟨gb, 0, none⟩) rr.1.length capb) := by rw [cell_of_block hm3.block 0]; rfl
    have hbox3 := hk3.other HBOX.out HBP (by decide)
    have hbox31 := hk3.other HBOX1.out (Ne.symm HPB) (by decide)
    have e1 : w3.cell? ⟨w.heap.size, 1, none⟩ = some (.int .i64 ((L : Int) + 1)) := by rw [cell_of_block hbox31]; rfl
    have e2 : w3.cell? ⟨w.heap.size, 2, none⟩ = some (.int .i64 (-1)) := by rw [cell_of_block hbox31]; rfl
    have HBX3 := Lib.hid (hkS.other hbox3 HBP (by decide)); clear hbox3 HBX HBOX
    have HBX31 := Lib.hid (hkS.other hbox31 (Ne.symm HPB) (by decide)); clear hbox31 HBX1 HBOX1
    have HKW3 := Lib.hid ((HK2.out.trans hk3).trans hkS); clear hkS hk3 HK2 HKW
    have HMG3 := Lib.hid hmS; clear hmS HM2 hm3 HMG
    have hokS : OkG (rr.1.set g.length (St.split rr.2 next)) := hok3.set _ (by simp [St.split]) (by simp [St.split]) (by simp [St.split]; omega) (by simp [St.split]) (by simp [St.split]; omega)
    have HOG := Lib.hid hokS; clear hokS hok3 HOGS
    clear d0 d1 d2 d3 d4 d5 d6 d7 HIN hst
    go_wp2_with fail
    clear e1 e2 hcS hfS hp0
    generalize hW5 : w3.setCell _ _ = WY at *
    clear hW5
    generalize hv5 : Value.slice (some ⟨gb, 0, none⟩) rr.1.length capb = v5 at HMG3
    clear hv5
    have HMG := HMG3
    have HKW := HKW3
    have HBX := HBX3
    clear HMG3 HKW3 HBX31 HBX3
    have hbig2 : (((rr.1.set g.length (St.split rr.2 next)).length : Int) + ((2 * bx - 1 + 1) * ((-1 - ((L : Int) + 1) : Int).toNat : Int) + (2 * bx - 1) * (L : Int)) + 2 < 100000) := by
      have := HB2.out
      rw [List.length_set]; omega
    have hFG : rr.2 < (rr.1.set g.length (St.split rr.2 next)).length := by rw [List.length_set]; omega
    have hnG : next < (rr.1.set g.length (St.split rr.2 next)).length := by rw [List.length_set]; omega
    have hrel : (RxA.node 3 ((L : Int) + 1) (-1) s0 s1 s2 s3 (some ⟨b, o, none⟩) cap [.node k' mn' mx' s0' s1' s2' s3' a' cap' l']).bare.lay g next = layTimes lay L (layMay lay next (-1 - ((L : Int) + 1) : Int).toNat (rr.1.set g.length (St.split rr.2 next)) rr.2).1 (layMay lay next (-1 - ((L : Int) + 1) : Int).toNat (rr.1.set g.length (St.split rr.2 next)) rr.2).2 := by
      rw [HLL.out, HLAY.out]; unfold layRepOf; rw [if_pos rfl]
      have e0 : (-1 - ((L : Int) + 1) : Int).toNat = 0 := by omega
      simp only [HRR.out, e0, layMay]
      rw [if_pos (by omega)]; congr 1; omega
    have HREL := Lib.hid hrel; clear hrel HLL HRR HE
    -- the two last loops
    obtain ⟨N, HN⟩ : ∃ N : Nat, Hid (N = (-1 - ((L : Int) + 1)).toNat) := ⟨_, rfl⟩
    have hc0 : 0 ≤ 2 * bx - 1 := by omega
    have hbigN : ((rr.1.set g.length (St.split rr.2 next)).length : Int) + ((2 * bx - 1 + 1) * (N : Int) + (2 * bx - 1) * (L : Int)) + 2 < 100000 := by rw [HN.out]; exact hbig2
    clear hbig2
    go_loopw [12, 109] (fun f i wr => ∃ j : Nat, j ≤ N ∧ i = .int .i64 (j : Int) ∧ f = .int .i64 (layMay lay next j (rr.1.set g.length (St.split rr.2 next)) rr.2).2 ∧
        ∃ v', MachAt wr base p v' ws (layMay lay next j (rr.1.set g.length (St.split rr.2 next)) rr.2).1 ∧ Keeps base p WY wr) (fun _ i _ => N - (intOf i).toNat)
    case atStart => exact ⟨0, Nat.zero_le _, rfl, rfl, v5, HMG.out, Keeps.refl _ _ _⟩
    case round =>
      obtain ⟨j, hj, rfl, rfl, v', hm', hk⟩ := hrel
      have hs := layMay_sound hc0 HSA.out next j (rr.1.set g.length (St.split rr.2 next)) rr.2 HOG.out hFG hnG
      have hmost := hs.most
      have hok := hs.ok
      have hfst := hs.fst
      have hln := hs.len
      have HOK := Lib.hid hok; clear hok hs
      have hbox := hk.other HBX.out HBP (by decide)
      obtain ⟨d0, d1, d2, d3, d4, d5, d6, d7⟩ := node_cells (o := 0) (fun i hi => by rw [Nat.zero_add, cell_of_block hbox i]; exact List.getElem?_toArray ..)
      simp only [Nat.zero_add] at d1 d2 d3 d4 d5 d6 d7
      have HBOX := Lib.hid hbox; clear hbox
      have hbw : Below B w wr := (HKW.out.trans hk).below hB hBb hBp
      have HIN := Lib.hid (hin0'.out.below hbw (Nat.le_refl _)); clear hbw
      have hws := hk.size
      have HM' := Lib.hid hm'; clear hm'
      have HK := Lib.hid hk; clear hk
      have hjm := (mul_succ_cast (2 * bx - 1 + 1) j)
      by_cases hlt : j < N
      · exact absurd hlt (by have := HN.out; omega)
      · have hje : j = N := by omega
        have hjN : ¬ (j : Int) < -1 - ((L : Int) + 1) := by have := HN.out; omega
        subst hje
        obtain ⟨G2, HG2⟩ : ∃ G2, Hid ((layMay lay next j (rr.1.set g.length (St.split rr.2 next)) rr.2).1 = G2) := ⟨_, rfl⟩
        obtain ⟨F2, HF2⟩ : ∃ F2, Hid ((layMay lay next j (rr.1.set g.length (St.split rr.2 next)) rr.2).2 = F2) := ⟨_, rfl⟩
        have hm2 := HM'.out
        have hok2 := HOK.out
        rw [HG2.out] at hm2 hok2 hmost hfst hln
        rw [HF2.out] at hfst ⊢
        have HM2 := Lib.hid hm2; clear hm2
        have HOK2 := Lib.hid hok2; clear hok2
        clear d0 d1 d2 d3 d4 d5 d6 d7
        go_wp2_with fail
        go_loopw [12, 121] (fun f i wz => ∃ m : Nat, m ≤ L ∧ i = .int .i64 (m : Int) ∧ f = .int .i64 (layTimes lay m G2 F2).2 ∧
            ∃ v', MachAt wz base p v' ws (layTimes lay m G2 F2).1 ∧ Keeps base p wr wz) (fun _ i _ => L - (intOf i).toNat)
        case atStart => exact ⟨0, Nat.zero_le _, rfl, rfl, v', HM2.out, Keeps.refl _ _ _⟩
        case round =>
          obtain ⟨m, hm, rfl, rfl, v2, hm3, hk3⟩ := hrel
          have hs := layTimes_sound hc0 HSA.out m G2 F2 HOK2.out hfst
          have hmost2 := hs.most
          have hok := hs.ok
          have hfst2 := hs.fst
          have HOK3 := Lib.hid hok; clear hok hs
          have hbox := hk3.other HBOX.out HBP (by decide)
          obtain ⟨d0, d1, d2, d3, d4, d5, d6, d7⟩ := node_cells (o := 0) (fun i hi => by rw [Nat.zero_add, cell_of_block hbox i]; exact List.getElem?_toArray ..)
          simp only [Nat.zero_add] at d1 d2 d3 d4 d5 d6 d7
          clear hbox
          have hbw : Below B w wr := ((HKW.out.trans HK.out).trans hk3).below hB hBb hBp
          have HIN3 := Lib.hid (hin0'.out.below hbw (Nat.le_refl _)); clear hbw
          have HM3 := Lib.hid hm3; clear hm3
          have HK3 := Lib.hid hk3; clear hk3
          by_cases hlt2 : m < L
          · have hmm : (2 * bx - 1) * ((m + 1 : Nat) : Int) ≤ (2 * bx - 1) * (L : Int) := Int.mul_le_mul_of_nonneg_left (by omega) (by omega)
            have hme := mul_succ_cast (2 * bx - 1) m
            have hst := layTimes_step lay m G2 F2
            have HST := Lib.hid hst; clear hst
            have HE := Lib.hid (show (RxA.node k' mn' mx' s0' s1' s2' s3' a' cap' l').bare.lay (layTimes lay m G2 F2).1 (layTimes lay m G2 F2).2 = lay (layTimes lay m G2 F2).1 (layTimes lay m G2 F2).2 from by rw [HLAY.out])
            have hfin : ((layTimes lay m G2 F2).1.length : Int) + 2 * bx < 100000 := by omega
            clear hmm hme hmost2
            go_wp2_with fail
            refine (ih0.out wr base p B v2 ws _ _ HM3.out HIN3.out hBb hBp HF0.out HOK3.out hfst2 (by rw [HBB.out]; exact hfin)).mono ?_
            rintro e w4 ⟨rfl, v4, hm4, hk4⟩
            rw [HE.out]
            rw [HE.out] at hm4
            go_wp2_with fail
            go_roundw
            case rel => exact ⟨m + 1, by omega, by go_num, by rw [HST.out], v4, by rw [HST.out]; exact hm4, HK3.out.trans hk4⟩
            case measure => simp only [intOf]; omega
          · have hme : m = L := by omega
            subst hme
            go_wp2_with fail
            go_ret
            refine ⟨ret_int (by rw [HREL.out, ← HN.out, HG2.out, HF2.out]), v2, by rw [HREL.out, ← HN.out, HG2.out, HF2.out]; exact HM3.out, ?_⟩
            exact (HKW.out.trans HK.out).trans HK3.out
set_option maxRecDepth 100000 in
set_option maxHeartbeats 4000000 in
theorem laid_repA0 (s0 s1 s2 s3 : Int) (a : Option Addr) (cap : Nat) (l : List RxA) (ih : ∀ x ∈ l, LaidOK x) : LaidOK (.node 3 0 (-1) s0 s1 s2 s3 a cap l) := by
  intro w base p B v ws g next hm hin hBb hBp hf hg hn hbig
  have hin' := hin
  simp only [RxA.In] at hin'
  obtain ⟨-, hl1, hl2, -, hl⟩ := hin'
  clear hin
  unfold maxLen at hl2
  have hbase := hm.base
  have hB : B ≤ w.heap.size := by omega
  have hfi := (formB_iff _ _ _ _ _ _ _ _).1 (by simpa only [RxA.bare] using hf)
  have hff : formAll (bareAll l) = true := hfi.2
  have hsh : l.length = 1 ∧ 0 ≤ 0 ∧ 0 ≤ 15 := by
    have := hfi.1
    rw [bareAll_length] at this
    unfold Shape at this; omega
  clear hfi hf
  obtain ⟨hlen, hmn0, hmn15⟩ := hsh
  rcases hl with rfl | ⟨b, o, rfl, hb, hl⟩
  · simp at hlen
  match l, hlen with
  | [x0], _ =>
    simp only [InL] at hl
    obtain ⟨h00, hin0, -⟩ := hl
    have hf0 : x0.bare.formB = true := by simpa only [bareAll, formAll, Bool.and_eq_true, and_true] using hff
    clear hff
    have hb0 := Rx.big_pos x0.bare
    have hbigx : (RxA.node 3 0 (-1) s0 s1 s2 s3 (some ⟨b, o, none⟩) cap [x0]).bare.big = 1 + max (max 1 0) (-1) * x0.bare.big := by simp [RxA.bare, bareAll, Rx.big, bigAll, times]
    rw [hbigx] at hbig
    clear hbigx
    have hll : (RxA.node 3 0 (-1) s0 s1 s2 s3 (some ⟨b, o, none⟩) cap [x0]).bare.lay g next = layRepOf x0.bare.lay 0 (-1) g next := by
      simp [RxA.bare, Rx.lay, bareAll, layRep]
    have HLL := Lib.hid hll; clear hll
    have ih0 := Lib.hid (ih x0 (by simp)); clear ih
    have HF0 := Lib.hid hf0; clear hf0
    have HM := Lib.hid hm; clear hm
    have HPB : p ≠ w.heap.size := by have := lt_of_block HM.out.block; omega
    have HPB2 : p ≠ w.heap.size + 1 := by have := lt_of_block HM.out.block; omega
    obtain ⟨C, HC⟩ : ∃ C, Hid (C = #[Value.int .i64 3, .int .i64 0, .int .i64 (-1), .int .u64 s0, .int .u64 s1, .int .u64 s2, .int .u64 s3, .slice (some ⟨b, o, none⟩) 1 cap]) := ⟨_, rfl⟩
    have hcap : 1 ≤ cap := by simpa using hl1
    clear hl1
    have hin0' := Lib.hid hin0; clear hin0
    have hc0 : ∀ i, i < 8 → (w.alloc (.cells C 26)).cell? ⟨b, o + i, none⟩ = x0.cells[i]? := fun i hi => (World.cell?_alloc_past _ _ _ (by show b < w.heap.size; omega)).trans (h00 i hi)
    rw [HC.out] at hc0
    obtain ⟨lay, HLAY⟩ : ∃ lay, Hid (x0.bare.lay = lay) := ⟨_, rfl⟩
    have hsa := Rx.lay_sound x0.bare HF0.out
    rw [HLAY.out] at hsa
    generalize hx0b : x0.bare.big = bx at *
    have HBB := Lib.hid hx0b; clear hx0b
    have HSA := Lib.hid hsa; clear hsa
    obtain ⟨k', mn', mx', s0', s1', s2', s3', a', cap', l'⟩ := x0
    obtain ⟨d0, d1, d2, d3, d4, d5, d6, d7⟩ := node_cells (o := o) hc0
    clear hc0 h00
    have hM0 := Lib.hid ((HM.out.alloc (.cells #[Value.int .i64 3, .int .i64 0, .int .i64 (-1), .int .u64 s0, .int .u64 s1, .int .u64 s2, .int .u64 s3, .slice (some ⟨b, o, none⟩) 1 cap] 26)).alloc (.cells #[Value.int .i64 k', .int .i64 mn', .int .i64 mx', .int .u64 s0', .int .u64 s1', .int .u64 s2', .int .u64 s3', .slice a' l'.length cap'] 26))
    show Calls Tryz.prog 65 #[.pointer (some ⟨p, 0, none⟩), .agg #[.int .i64 3, .int .i64 0, .int .i64 (-1), .int .u64 s0, .int .u64 s1, .int .u64 s2, .int .u64 s3, .slice (some ⟨b, o, none⟩) 1 cap], .int .i64 next] w _
    have hbig2 : ((g.length : Int) + 1 + (2 * bx - 1)) + ((2 * bx - 1 + 1) * (((-1 - 0 : Int)).toNat : Int) + (2 * bx - 1) * (0 : Int)) + 2 < 100000 := by
      have e0 : ((-1 - 0 : Int)).toNat = 0 := by omega
      rw [e0]
      have e1 : max (max (1 : Int) 0) (-1) = 1 := by omega
      rw [e1] at hbig
      simp
      omega
    have hb1 : (g.length : Int) + 2 * bx + 1 < 100000 := by
      have e1 : 1 * bx ≤ max (max 1 0) (-1) * bx := Int.mul_le_mul_of_nonneg_right (by omega) (by omega)
      omega
    clear hbig
    have HB2 := Lib.hid hbig2; clear hbig2
    go_enter Tryz.func65, Tryz.ntmps65
    go_wp2_with fail
    go_quiet (fail)
    go_wp2_with fail
    generalize hW : World.drewN _ _ = WX
    have HKW := Lib.hid (show Keeps base p w WX by rw [← hW]; exact (((Keeps.refl base p w).alloc _).alloc _).drewN _)
    have HMG := Lib.hid (show MachAt WX base p v ws g by rw [← hW]; exact hM0.out.drewN _)
    have HBX := Lib.hid (show WX.heap[w.heap.size + 1]? = some (.cells #[Value.int .i64 k', .int .i64 mn', .int .i64 mx', .int .u64 s0', .int .u64 s1', .int .u64 s2', .int .u64 s3', .slice a' l'.length cap'] 26 (0, 0)) by
      rw [← hW]
      have := alloc_block (w.alloc (.cells #[Value.int .i64 3, .int .i64 0, .int .i64 (-1), .int .u64 s0, .int .u64 s1, .int .u64 s2, .int .u64 s3, .slice (some ⟨b, o, none⟩) 1 cap] 26)) (.cells #[Value.int .i64 k', .int .i64 mn', .int .i64 mx', .int .u64 s0', .int .u64 s1', .int .u64 s2', .int .u64 s3', .slice a' l'.length cap'] 26)
      rw [World.size_alloc] at this
      exact this)
    have HBX1 := Lib.hid (show WX.heap[w.heap.size]? = some (.cells #[Value.int .i64 3, .int .i64 0, .int .i64 (-1), .int .u64 s0, .int .u64 s1, .int .u64 s2, .int .u64 s3, .slice (some ⟨b, o, none⟩) 1 cap] 26 (0, 0)) by
      rw [← hW]
      exact alloc_old (alloc_block w _) _)
    clear hW hM0 d0 d1 d2 d3 d4 d5 d6 d7
    have HBP := Ne.symm HPB2
    refine (add_any (St.split 0 next) _ base p v ws g HMG.out (by omega)).mono ?_
    rintro e w2 ⟨rfl, v2, hm2, hk2⟩
    have hbox := hk2.other HBX.out HBP (by decide)
    have hbox1 := hk2.other HBX1.out (Ne.symm HPB) (by decide)
    obtain ⟨d0, d1, d2, d3, d4, d5, d6, d7⟩ := node_cells (o := 0) (fun i hi => by rw [Nat.zero_add, cell_of_block hbox i]; exact List.getElem?_toArray ..)
    simp only [Nat.zero_add] at d1 d2 d3 d4 d5 d6 d7
    have HBOX := Lib.hid hbox; clear hbox
    have HBOX1 := Lib.hid hbox1; clear hbox1
    have hbw : Below B w w2 := (HKW.out.trans hk2).below hB hBb hBp
    have HIN := Lib.hid (hin0'.out.below hbw (Nat.le_refl _)); clear hbw
    have HM2 := Lib.hid hm2; clear hm2
    have HK2 := Lib.hid (HKW.out.trans hk2); clear hk2
    have hog : OkG (g ++ [St.split 0 next]) := hg.snoc (by simp [St.split]) (by simp [St.split]) (by simp only [St.split]; omega) (by simp [St.split]) (by simp [St.split]; omega)
    have HOGS := Lib.hid hog; clear hog
    have HE := Lib.hid (show (RxA.node k' mn' mx' s0' s1' s2' s3' a' cap' l').bare.lay (g ++ [St.split 0 next]) g.length = lay (g ++ [St.split 0 next]) g.length from by rw [HLAY.out])
    go_wp2_with fail
    refine (ih0.out w2 base p B v2 ws _ _ HM2.out HIN.out hBb hBp HF0.out HOGS.out (by simp) (by rw [HBB.out]; simp; omega)).mono ?_
    rintro e w3 ⟨rfl, v3, hm3, hk3⟩
    have hsx := HSA.out (g ++ [St.split 0 next]) g.length HOGS.out (by simp)
    have hlx := (Rx.lay_lays (RxA.node k' mn' mx' s0' s1' s2' s3' a' cap' l').bare HF0.out (g ++ [St.split 0 next]) g.length (by simp) (by simp)).old g.length (by simp)
    rw [HE.out]
    rw [HE.out] at hm3 hlx
    generalize hrr : lay (g ++ [St.split 0 next]) g.length = rr at *
    have HRR := Lib.hid hrr; clear hrr
    have hst : rr.1[g.length]? = some (St.split 0 next) := by rw [hlx]; simp
    clear hlx
    have hlen3 := hsx.len
    have hmost3 := hsx.most
    have hfst3 := hsx.fst
    have hok3 := hsx.ok
    simp only [List.length_append, List.length_cons, List.length_nil] at hlen3 hmost3
    clear hsx
    obtain ⟨gb, capb, rfl, hcb1, hcb2⟩ := ownsRow_pos hm3.row (by omega)
    obtain ⟨hmS, hkS, hcS, hfS⟩ := hm3.store g.length _ rr.2 hst
    have hp0 : w3.cell? ⟨p, 0, none⟩ = some (.slice (some ⟨gb, 0, none⟩) rr.1.length capb) := by rw [cell_of_block hm3.block 0]; rfl
    have hbox3 := hk3.other HBOX.out HBP (by decide)
    have hbox31 := hk3.other HBOX1.out (Ne.symm HPB) (by decide)
    have e1 : w3.cell? ⟨w.heap.size, 1, none⟩ = some (.int .i64 0) := by rw [cell_of_block hbox31]; rfl
    have e2 : w3.cell? ⟨w.heap.size, 2, none⟩ = some (.int .i64 (-1)) := by rw [cell_of_block hbox31]; rfl
    have HBX3 := Lib.hid (hkS.other hbox3 HBP (by decide)); clear hbox3 HBX HBOX
    have HBX31 := Lib.hid (hkS.other hbox31 (Ne.symm HPB) (by decide)); clear hbox31 HBX1 HBOX1
    have HKW3 := Lib.hid ((HK2.out.trans hk3).trans hkS); clear hkS hk3 HK2 HKW
    have HMG3 := Lib.hid hmS; clear hmS HM2 hm3 HMG
    have hokS : OkG (rr.1.set g.length (St.split rr.2 next)) := hok3.set _ (by simp [St.split]) (by simp [St.split]) (by simp [St.split]; omega) (by simp [St.split]) (by simp [St.split]; omega)
    have HOG := Lib.hid hokS; clear hokS hok3 HOGS
    clear d0 d1 d2 d3 d4 d5 d6 d7 HIN hst
    go_wp2_with fail
    clear e1 e2 hcS hfS hp0
    generalize hW5 : w3.setCell _ _ = WY at *
    clear hW5
    generalize hv5 : Value.slice (some ⟨gb, 0, none⟩) rr.1.length capb = v5 at HMG3
    clear hv5
    have HMG := HMG3
    have HKW := HKW3
    have HBX := HBX3
    clear HMG3 HKW3 HBX31 HBX3
    have hbig2 : (((rr.1.set g.length (St.split rr.2 next)).length : Int) + ((2 * bx - 1 + 1) * ((-1 - 0 : Int).toNat : Int) + (2 * bx - 1) * (0 : Int)) + 2 < 100000) := by
      have := HB2.out
      rw [List.length_set]; omega
    have hFG : g.length < (rr.1.set g.length (St.split rr.2 next)).length := by rw [List.length_set]; omega
    have hnG : next < (rr.1.set g.length (St.split rr.2 next)).length := by rw [List.length_set]; omega
    have hrel : (RxA.node 3 0 (-1) s0 s1 s2 s3 (some ⟨b, o, none⟩) cap [.node k' mn' mx' s0' s1' s2' s3' a' cap' l']).bare.lay g next = layTimes lay 0 (layMay lay next (-1 - 0 : Int).toNat (rr.1.set g.length (St.split rr.2 next)) g.length).1 (layMay lay next (-1 - 0 : Int).toNat (rr.1.set g.length (St.split rr.2 next)) g.length).2 := by
      rw [HLL.out, HLAY.out]; unfold layRepOf; rw [if_pos rfl]
      have e0 : (-1 - 0 : Int).toNat = 0 := by omega
      simp only [HRR.out, e0, layMay]
      simp [layTimes]
    have HREL := Lib.hid hrel; clear hrel HLL HRR HE
    -- the two last loops
    obtain ⟨N, HN⟩ : ∃ N : Nat, Hid (N = ((-1 : Int) - 0).toNat) := ⟨_, rfl⟩
    have hc0 : 0 ≤ 2 * bx - 1 := by omega
    have hbigN : ((rr.1.set g.length (St.split rr.2 next)).length : Int) + ((2 * bx - 1 + 1) * (N : Int) + (2 * bx - 1) * (0 : Int)) + 2 < 100000 := by rw [HN.out]; exact hbig2
    clear hbig2
    go_loopw [12, 109] (fun f i wr => ∃ j : Nat, j ≤ N ∧ i = .int .i64 (j : Int) ∧ f = .int .i64 (layMay lay next j (rr.1.set g.length (St.split rr.2 next)) g.length).2 ∧
        ∃ v', MachAt wr base p v' ws (layMay lay next j (rr.1.set g.length (St.split rr.2 next)) g.length).1 ∧ Keeps base p WY wr) (fun _ i _ => N - (intOf i).toNat)
    case atStart => exact ⟨0, Nat.zero_le _, rfl, rfl, v5, HMG.out, Keeps.refl _ _ _⟩
    case round =>
      obtain ⟨j, hj, rfl, rfl, v', hm', hk⟩ := hrel
      have hs := layMay_sound hc0 HSA.out next j (rr.1.set g.length (St.split rr.2 next)) g.length HOG.out hFG hnG
      have hmost := hs.most
      have hok := hs.ok
      have hfst := hs.fst
      have hln := hs.len
      have HOK := Lib.hid hok; clear hok hs
      have hbox := hk.other HBX.out HBP (by decide)
      obtain ⟨d0, d1, d2, d3, d4, d5, d6, d7⟩ := node_cells (o := 0) (fun i hi => by rw [Nat.zero_add, cell_of_block hbox i]; exact List.getElem?_toArray ..)
      simp only [Nat.zero_add] at d1 d2 d3 d4 d5 d6 d7
      have HBOX := Lib.hid hbox; clear hbox
      have hbw : Below B w wr := (HKW.out.trans hk).below hB hBb hBp
      have HIN := Lib.hid (hin0'.out.below hbw (Nat.le_refl _)); clear hbw
      have hws := hk.size
      have HM' := Lib.hid hm'; clear hm'
      have HK := Lib.hid hk; clear hk
      have hjm := (mul_succ_cast (2 * bx - 1 + 1) j)
      by_cases hlt : j < N
      · exact absurd hlt (by have := HN.out; omega)
      · have hje : j = N := by omega
        have hjN : ¬ (j : Int) < -1 := by omega
        subst hje
        obtain ⟨G2, HG2⟩ : ∃ G2, Hid ((layMay lay next j (rr.1.set g.length (St.split rr.2 next)) g.length).1 = G2) := ⟨_, rfl⟩
        obtain ⟨F2, HF2⟩ : ∃ F2, Hid ((layMay lay next j (rr.1.set g.length (St.split rr.2 next)) g.length).2 = F2) := ⟨_, rfl⟩
        have hm2 := HM'.out
        have hok2 := HOK.out
        rw [HG2.out] at hm2 hok2 hmost hfst hln
        rw [HF2.out] at hfst ⊢
        have HM2 := Lib.hid hm2; clear hm2
        have HOK2 := Lib.hid hok2; clear hok2
        clear d0 d1 d2 d3 d4 d5 d6 d7
        go_wp2_with fail
        go_loopw [12, 121] (fun f i wz => ∃ m : Nat, m ≤ 0 ∧ i = .int .i64 (m : Int) ∧ f = .int .i64 (layTimes lay m G2 F2).2 ∧
            ∃ v', MachAt wz base p v' ws (layTimes lay m G2 F2).1 ∧ Keeps base p wr wz) (fun _ i _ => 0 - (intOf i).toNat)
        case atStart => exact ⟨0, Nat.zero_le _, rfl, rfl, v', HM2.out, Keeps.refl _ _ _⟩
        case round =>
          obtain ⟨m, hm, rfl, rfl, v2, hm3, hk3⟩ := hrel
          have hs := layTimes_sound hc0 HSA.out m G2 F2 HOK2.out hfst
          have hmost2 := hs.most
          have hok := hs.ok
          have hfst2 := hs.fst
          have HOK3 := Lib.hid hok; clear hok hs
          have hbox := hk3.other HBOX.out HBP (by decide)
          obtain ⟨d0, d1, d2, d3, d4, d5, d6, d7⟩ := node_cells (o := 0) (fun i hi => by rw [Nat.zero_add, cell_of_block hbox i]; exact List.getElem?_toArray ..)
          simp only [Nat.zero_add] at d1 d2 d3 d4 d5 d6 d7
          clear hbox
          have hbw : Below B w wr := ((HKW.out.trans HK.out).trans hk3).below hB hBb hBp
          have HIN3 := Lib.hid (hin0'.out.below hbw (Nat.le_refl _)); clear hbw
          have HM3 := Lib.hid hm3; clear hm3
          have HK3 := Lib.hid hk3; clear hk3
          by_cases hlt2 : m < 0
          · exact absurd hlt2 (by omega)
          · have hme : m = 0 := by omega
            subst hme
            go_wp2_with fail
            go_ret
            refine ⟨ret_int (by rw [HREL.out, ← HN.out, HG2.out, HF2.out]), v2, by rw [HREL.out, ← HN.out, HG2.out, HF2.out]; exact HM3.out, ?_⟩
            exact (HKW.out.trans HK.out).trans HK3.out
end Go.Proofs.YtjhclopdcbnmkaaGreatDoor

/- laid: every expression that may be; the sets. -/
namespace Go.Proofs.YtjhclopdcbnmkaaGreatDoor
open Go.RowKit PX

theorem laid_any (x : RxA) : LaidOK x := by
  induction x using RxA.ind with
  | h k mn mx s0 s1 s2 s3 a cap l ih =>
    by_cases hf : (RxA.node k mn mx s0 s1 s2 s3 a cap l).bare.formB = true
    · have h := ((formB_iff _ _ _ _ _ _ _ _).1 (by simpa only [RxA.bare] using hf)).1
      rcases h with ⟨rfl, -, -, -, -⟩ | ⟨rfl, -⟩ | ⟨rfl, -⟩ | ⟨rfl, -, -, h0, -, -, h1⟩
      · exact laid_set mn mx s0 s1 s2 s3 a cap l
      · exact laid_seq mn mx s0 s1 s2 s3 a cap l ih
      · exact laid_alt mn mx s0 s1 s2 s3 a cap l ih
      · by_cases hm : mx = -1
        · subst hm
          by_cases hn : mn = 0
          · subst hn; exact laid_repA0 s0 s1 s2 s3 a cap l ih
          · obtain ⟨L, rfl⟩ : ∃ L : Nat, mn = (L : Int) + 1 := ⟨(mn - 1).toNat, by omega⟩
            exact laid_repA1 L s0 s1 s2 s3 a cap l ih
        · exact laid_repB mn mx s0 s1 s2 s3 a cap l hm ih
    · intro w base p B v ws g next _ _ _ _ hf'
      exact absurd hf' hf
end Go.Proofs.YtjhclopdcbnmkaaGreatDoor

/- Plain laws on expressions turned end for end. -/
namespace Go.Proofs.YtjhclopdcbnmkaaGreatDoor.PX

mutual
/-- The expression with its rows turned. -/
def Rx.turned : Rx → Rx
  | .node k mn mx s0 s1 s2 s3 l => .node k mn mx s0 s1 s2 s3 (if k = 1 then (turnedAll l).reverse else turnedAll l)
def turnedAll : List Rx → List Rx
  | [] => []
  | x :: xs => x.turned :: turnedAll xs
end
theorem turnedAll_eq : ∀ l : List Rx, turnedAll l = l.map Rx.turned
  | [] => rfl
  | x :: xs => by simp [turnedAll, turnedAll_eq xs]
theorem turnedAll_length (l : List Rx) : (turnedAll l).length = l.length := by simp [turnedAll_eq]

theorem bigAll_reverse : ∀ a : List Rx, bigAll a.reverse = bigAll a
  | [] => rfl
  | x :: a => by simp only [List.reverse_cons, bigAll_append, bigAll_reverse a, bigAll]; omega

mutual
theorem Rx.turned_form : ∀ x : Rx, x.turned.formB = x.formB
  | .node k mn mx s0 s1 s2 s3 l => by
    have h := turnedAll_form l
    have hl : (if k = 1 then (turnedAll l).reverse else turnedAll l).length = l.length := by split <;> simp [turnedAll_length]
    rw [Rx.turned, Bool.eq_iff_iff, formB_iff, formB_iff, hl]
    refine and_congr Iff.rfl ?_
    rw [← h]
    split
    · rw [formAll_iff, formAll_iff]; simp
    · rfl
theorem turnedAll_form : ∀ l : List Rx, formAll (turnedAll l) = formAll l
  | [] => rfl
  | x :: xs => by simp [turnedAll, formAll, Rx.turned_form x, turnedAll_form xs]
end
mutual
theorem Rx.turned_big : ∀ x : Rx, x.turned.big = x.big
  | .node k mn mx s0 s1 s2 s3 l => by
    have h := turnedAll_big l
    rw [Rx.turned, Rx.big, Rx.big, ← h]
    split
    · rw [bigAll_reverse]
    · rfl
theorem turnedAll_big : ∀ l : List Rx, bigAll (turnedAll l) = bigAll l
  | [] => rfl
  | x :: xs => by simp only [turnedAll, bigAll, Rx.turned_big x, turnedAll_big xs]
end
theorem Rx.turned_size (x : Rx) : x.turned.sizeI = x.sizeI := by rw [Rx.sizeI_eq, Rx.sizeI_eq, Rx.turned_big]

theorem pow_turn {L M : List UInt8 → Prop} (h : ∀ s, M s ↔ L s.reverse) : ∀ (k : Nat) (s : List UInt8), Pow M k s ↔ Pow L k s.reverse
  | 0, s => by simp [Pow]
  | k + 1, s => by
    constructor
    · rintro ⟨a, b, rfl, ha, hb⟩
      rw [List.reverse_append]
      exact Pow.add k ((pow_turn h k b).1 hb) (m := 1) ⟨a.reverse, [], by simp, (h a).1 ha, rfl⟩
    · intro hp
      obtain ⟨u, v, e, hu, hv⟩ := Pow.split k (m := 1) hp
      obtain ⟨v1, v2, rfl, hv1, rfl⟩ := hv
      have e' : s = v1.reverse ++ u.reverse := by
        have := congrArg List.reverse e
        simpa using this
      exact ⟨v1.reverse, u.reverse, e', (h _).2 (by simpa using hv1), (pow_turn h k _).2 (by simpa using hu)⟩

theorem langSeq_append : ∀ (a b : List Rx) (s : List UInt8), langSeq (a ++ b) s ↔ ∃ u v, s = u ++ v ∧ langSeq a u ∧ langSeq b v
  | [], b, s => by
    simp only [List.nil_append, langSeq]
    constructor
    · intro h; exact ⟨[], s, rfl, rfl, h⟩
    · rintro ⟨u, v, rfl, rfl, h⟩; exact h
  | x :: a, b, s => by
    simp only [List.cons_append, langSeq, langSeq_append a b]
    constructor
    · rintro ⟨u, v, rfl, hu, u', v', rfl, h1, h2⟩
      exact ⟨u ++ u', v', by simp, ⟨u, u', rfl, hu, h1⟩, h2⟩
    · rintro ⟨u, v, rfl, ⟨u', v', rfl, h0, h1⟩, h2⟩
      exact ⟨u', v' ++ v, by simp, h0, v', v, rfl, h1, h2⟩
mutual
theorem Rx.turned_lang : ∀ (x : Rx) (s : List UInt8), x.turned.lang s ↔ x.lang s.reverse
  | .node k mn mx s0 s1 s2 s3 l, s => by
    rw [Rx.turned, Rx.lang, Rx.lang]
    by_cases h0 : k = 0
    · subst h0
      simp only [if_true]
      constructor
      · rintro ⟨b, rfl, h⟩; exact ⟨b, rfl, h⟩
      · rintro ⟨b, e, h⟩
        refine ⟨b, ?_, h⟩
        have := congrArg List.reverse e
        simpa using this
    · by_cases h1 : k = 1
      · subst h1
        simp only [show ¬ ((1 : Int) = 0) by decide, if_false, if_true]
        exact turnedSeq l s
      · simp only [h0, h1, if_false]
        by_cases h2 : k = 2
        · simp only [h2, if_true]
          exact turnedAlt l s
        · simp only [h2, if_false]
          refine exists_congr fun n => and_congr Iff.rfl (and_congr Iff.rfl ?_)
          exact turnedRep l n s
theorem turnedSeq : ∀ (l : List Rx) (s : List UInt8), langSeq (turnedAll l).reverse s ↔ langSeq l s.reverse
  | [], s => by simp [turnedAll, langSeq]
  | x :: xs, s => by
    simp only [turnedAll, List.reverse_cons, langSeq_append, langSeq]
    constructor
    · rintro ⟨u, v, rfl, h1, a, b, rfl, h2, rfl⟩
      exact ⟨a.reverse, u.reverse, by simp, (Rx.turned_lang x a).1 h2, (turnedSeq xs u).1 h1⟩
    · rintro ⟨a, b, e, h1, h2⟩
      have e' : s = b.reverse ++ a.reverse := by
        have := congrArg List.reverse e
        simpa using this
      exact ⟨b.reverse, a.reverse, e', (turnedSeq xs _).2 (by simpa using h2), a.reverse, [], by simp, (Rx.turned_lang x _).2 (by simpa using h1), rfl⟩
theorem turnedAlt : ∀ (l : List Rx) (s : List UInt8), langAlt (turnedAll l) s ↔ langAlt l s.reverse
  | [], s => by simp [turnedAll, langAlt]
  | x :: xs, s => by
    simp only [turnedAll, langAlt, Rx.turned_lang x, turnedAlt xs]
theorem turnedRep : ∀ (l : List Rx) (n : Nat) (s : List UInt8), langRep (turnedAll l) n s ↔ langRep l n s.reverse
  | [], n, s => by simp [turnedAll, langRep]
  | x :: xs, n, s => by
    simp only [turnedAll, langRep]
    exact pow_turn (Rx.turned_lang x) n s
end
end Go.Proofs.YtjhclopdcbnmkaaGreatDoor.PX
