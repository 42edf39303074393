/- Sets of states as twelve words; the law of put. -/
import Derived.Test.YtaelkjffidjcjaaDoorOnly
import Derived.Laws.Bits64b
set_option linter.unusedSimpArgs false
set_option linter.unusedVariables false
namespace Go.Proofs.YtaelkjffidjcjaaDoor
open Go.RowKit PX

/-- Twelve words. -/
structure Words (ws : List Int) : Prop where
  len : ws.length = 12
  u64 : ∀ x ∈ ws, 0 ≤ x ∧ x < 18446744073709551616
def bitW (ws : List Int) (i : Nat) : Bool := ((ws[i / 64]?.getD 0).toNat).testBit (i % 64)
def setW (ws : List Int) (i : Nat) : List Int := ws.set (i / 64) (orBit (ws[i / 64]?.getD 0) (i % 64))
def wv (ws : List Int) : List Value := ws.map (Value.int .u64)

theorem orBit_u64 (w : Int) (k : Nat) (hw : 0 ≤ w ∧ w < 18446744073709551616) (hk : k < 64) : 0 ≤ orBit w k ∧ orBit w k < 18446744073709551616 := by
  unfold orBit
  have h1 : w.toNat < 2 ^ 64 := by omega
  have h2 : 2 ^ k < 2 ^ 64 := Nat.pow_lt_pow_right (by omega) hk
  have := Nat.or_lt_two_pow h1 h2
  omega
theorem setW_words {ws : List Int} (h : Words ws) (i : Nat) (hi : i < 768) : Words (setW ws i) := by
  refine ⟨by simp [setW, h.len], fun x hx => ?_⟩
  rcases List.mem_or_eq_of_mem_set hx with hx | rfl
  · exact h.u64 x hx
  · refine orBit_u64 _ _ ?_ (Nat.mod_lt _ (by omega))
    have hl : i / 64 < ws.length := by have := h.len; omega
    rw [List.getElem?_eq_getElem hl]
    exact h.u64 _ (List.getElem_mem hl)
theorem bitW_setW {ws : List Int} (h : Words ws) (i j : Nat) (hi : i < 768) : bitW (setW ws i) j = (bitW ws j || decide (i = j)) := by
  have hl : i / 64 < ws.length := by have := h.len; omega
  unfold bitW setW
  by_cases hw : i / 64 = j / 64
  · rw [← hw, List.getElem?_set_self hl]
    simp only [Option.getD_some, orBit, Int.toNat_natCast, Nat.testBit_or, Nat.testBit_two_pow]
    congr 1
    rw [decide_eq_decide]
    omega
  · rw [List.getElem?_set_ne hw]
    have : ¬ i = j := by omega
    simp [this]
theorem word_get {ws : List Int} (h : Words ws) (k : Nat) (hk : k < 12) : ws[k]? = some (ws[k]?.getD 0) ∧ 0 ≤ ws[k]?.getD 0 ∧ ws[k]?.getD 0 < 18446744073709551616 := by
  have hl : k < ws.length := by have := h.len; omega
  rw [List.getElem?_eq_getElem hl]
  exact ⟨rfl, h.u64 _ (List.getElem_mem hl)⟩

theorem bit_test (W : Int) (k : Nat) (hW : 0 ≤ W ∧ W < 18446744073709551616) : (bits BinOp.and IntKind.u64 (W / 2 ^ k) 1 == 1) = W.toNat.testBit k := by
  obtain ⟨m, rfl⟩ := Int.eq_ofNat_of_zero_le hW.1
  have hm : m < 18446744073709551616 := by omega
  have e1 : ((m : Int) / 2 ^ k) = ((m / 2 ^ k : Nat) : Int) := by simp
  have hq : m / 2 ^ k < 18446744073709551616 := Nat.lt_of_le_of_lt (Nat.div_le_self _ _) hm
  have e2 : bits BinOp.and IntKind.u64 ((m / 2 ^ k : Nat) : Int) ((1 : Nat) : Int) = ((m / 2 ^ k &&& 1 : Nat) : Int) := bits_and_u64_nat _ _ hq (by omega)
  rw [e1]
  have e3 : bits BinOp.and IntKind.u64 ((m / 2 ^ k : Nat) : Int) 1 = ((m / 2 ^ k &&& 1 : Nat) : Int) := e2
  rw [e3, Int.toNat_natCast, Nat.testBit_eq_decide_div_mod_eq, Nat.and_one_is_mod, Bool.eq_iff_iff]
  simp only [beq_iff_eq, decide_eq_true_eq]
  omega

theorem or_bit (W : Int) (k : Nat) (hW : 0 ≤ W ∧ W < 18446744073709551616) (hk : k < 64) : bits BinOp.or IntKind.u64 W (IntKind.u64.wrap (2 ^ k)) = orBit W k := by
  obtain ⟨m, rfl⟩ := Int.eq_ofNat_of_zero_le hW.1
  have h2 : 2 ^ k < 2 ^ 64 := Nat.pow_lt_pow_right (by omega) hk
  have e0 : ((2 : Int) ^ k) = ((2 ^ k : Nat) : Int) := by simp
  unfold orBit
  rw [e0, Int.toNat_natCast]
  generalize 2 ^ k = N at h2 ⊢
  have e1 : IntKind.u64.wrap (N : Int) = (N : Int) := by rw [IntKind.wrap_u64]; omega
  rw [e1, bits_or_u64_nat m N (by omega) (by omega)]

/-- How many of the first n are not in a set. -/
def unset (ws : List Int) (n : Nat) : Nat := ((List.range n).filter fun i => !bitW ws i).length
theorem unset_le (ws : List Int) (n : Nat) : unset ws n ≤ n := by
  unfold unset
  exact Nat.le_trans (List.length_filter_le _ _) (by simp)
theorem unset_setW {ws : List Int} (h : Words ws) {n i : Nat} (hi : i < n) (hn : n ≤ 768) (hb : bitW ws i = false) : unset (setW ws i) n + 1 ≤ unset ws n := by
  unfold unset
  have key : ∀ l : List Nat, i ∈ l → ((l.filter fun j => !bitW (setW ws i) j).length) + 1 ≤ (l.filter fun j => !bitW ws j).length := by
    intro l
    induction l with
    | nil => intro h; cases h
    | cons x l ih =>
      intro hm
      have mono : ((l.filter fun j => !bitW (setW ws i) j).length) ≤ (l.filter fun j => !bitW ws j).length := by
        clear ih hm
        induction l with
        | nil => simp
        | cons y l ih =>
          simp only [List.filter_cons, bitW_setW h i y (by omega)]
          generalize decide (i = y) = bb
          cases bitW ws y <;> cases bb <;> simp <;> omega
      simp only [List.filter_cons, bitW_setW h i x (by omega)]
      by_cases hx : i = x
      · subst hx
        simp only [hb, decide_true, Bool.or_true, Bool.not_true, Bool.false_eq_true, if_false, Bool.not_false, if_true, List.length_cons]
        omega
      · have hm' : i ∈ l := by cases hm with | head => exact absurd rfl hx | tail _ h => exact h
        have := ih hm'
        cases bitW ws x <;> simp [hx] <;> omega
  exact key _ (List.mem_range.2 hi)

/-- What holds at the head of each round of put: S0 the set at the beginning, at_ the state that is put, stack what is to be done. -/
structure PutInv (g : List St) (ws0 : List Int) (at_ : Nat) (ws : List Int) (stack : List Nat) : Prop where
  words : Words ws
  lt : ∀ i ∈ stack, i < g.length
  eps : ∀ i ∈ stack, Eps g at_ i
  old : ∀ i, bitW ws0 i = true → bitW ws i = true
  new : ∀ i, bitW ws i = true → bitW ws0 i = true ∨ Eps g at_ i
  shut : ∀ i st, bitW ws i = true → g[i]? = some st → st.kind = 1 → (bitW ws st.next.toNat = true ∨ st.next.toNat ∈ stack) ∧ (bitW ws st.other.toNat = true ∨ st.other.toNat ∈ stack)
  here : bitW ws at_ = true ∨ at_ ∈ stack

theorem putInv_start {g : List St} {ws : List Int} {at_ : Nat} (hw : Words ws) (ha : at_ < g.length) (hs : Shut g (fun i => bitW ws i = true)) : PutInv g ws at_ ws [at_] :=
  ⟨hw, by simpa using ha, by simp [Eps.refl], fun _ h => h, fun _ h => .inl h, fun i st h hg hk => ⟨.inl (hs i st h hg hk).1, .inl (hs i st h hg hk).2⟩, .inr (by simp)⟩
theorem putInv_end {g : List St} {ws0 ws : List Int} {at_ : Nat} (h : PutInv g ws0 at_ ws []) (i : Nat) : bitW ws i = true ↔ bitW ws0 i = true ∨ Eps g at_ i := by
  refine ⟨h.new i, ?_⟩
  rintro (h' | h')
  · exact h.old i h'
  · have hs : Shut g (fun i => bitW ws i = true) := fun j st hj hg hk => by
      have := h.shut j st hj hg hk
      simpa using this
    exact hs.eps h' (by simpa using h.here)
/-- It is there already. -/
theorem putInv_skip {g : List St} {ws0 ws : List Int} {at_ n : Nat} {stack : List Nat} (h : PutInv g ws0 at_ ws (stack ++ [n])) (hb : bitW ws n = true) : PutInv g ws0 at_ ws stack := by
  refine ⟨h.words, fun i hi => h.lt i (by simp [hi]), fun i hi => h.eps i (by simp [hi]), h.old, h.new, fun i st hi hg hk => ?_, ?_⟩
  · have := h.shut i st hi hg hk
    simp only [List.mem_append, List.mem_singleton] at this
    constructor
    · rcases this.1 with h1 | h1 | h1
      · exact .inl h1
      · exact .inr h1
      · exact .inl (by rw [h1]; exact hb)
    · rcases this.2 with h1 | h1 | h1
      · exact .inl h1
      · exact .inr h1
      · exact .inl (by rw [h1]; exact hb)
  · have := h.here
    simp only [List.mem_append, List.mem_singleton] at this
    rcases this with h1 | h1 | h1
    · exact .inl h1
    · exact .inr h1
    · exact .inl (by rw [h1]; exact hb)
theorem putInv_put {g : List St} {ws0 ws : List Int} {at_ n : Nat} {stack more : List Nat} (h : PutInv g ws0 at_ ws (stack ++ [n])) (hn : n < 768) (hlt : ∀ i ∈ more, i < g.length) (heps : ∀ i ∈ more, Eps g n i)
    (hm : ∀ st, g[n]? = some st → st.kind = 1 → st.next.toNat ∈ more ∧ st.other.toNat ∈ more) : PutInv g ws0 at_ (setW ws n) (stack ++ more) := by
  have hb : ∀ j, bitW (setW ws n) j = true ↔ bitW ws j = true ∨ n = j := fun j => by rw [bitW_setW h.words n j hn]; simp
  have hen : Eps g at_ n := h.eps n (by simp)
  refine ⟨setW_words h.words n hn, ?_, ?_, fun i hi => (hb i).2 (.inl (h.old i hi)), ?_, ?_, ?_⟩
  · intro i hi
    rcases List.mem_append.1 hi with hi | hi
    · exact h.lt i (by simp [hi])
    · exact hlt i hi
  · intro i hi
    rcases List.mem_append.1 hi with hi | hi
    · exact h.eps i (by simp [hi])
    · exact hen.trans (heps i hi)
  · intro i hi
    rcases (hb i).1 hi with hi | rfl
    · exact h.new i hi
    · exact .inr hen
  · intro i st hi hg hk
    rcases (hb i).1 hi with hi | rfl
    · have := h.shut i st hi hg hk
      simp only [List.mem_append, List.mem_singleton] at this
      constructor
      · rcases this.1 with h1 | h1 | h1
        · exact .inl ((hb _).2 (.inl h1))
        · exact .inr (by simp [h1])
        · exact .inl ((hb _).2 (.inr h1.symm))
      · rcases this.2 with h1 | h1 | h1
        · exact .inl ((hb _).2 (.inl h1))
        · exact .inr (by simp [h1])
        · exact .inl ((hb _).2 (.inr h1.symm))
    · have := hm st hg hk
      exact ⟨.inr (by simp [this.1]), .inr (by simp [this.2])⟩
  · have := h.here
    simp only [List.mem_append, List.mem_singleton] at this
    rcases this with h1 | h1 | h1
    · exact .inl ((hb _).2 (.inl h1))
    · exact .inr (by simp [h1])
    · exact .inl ((hb _).2 (.inr h1.symm))
end Go.Proofs.YtaelkjffidjcjaaDoor
