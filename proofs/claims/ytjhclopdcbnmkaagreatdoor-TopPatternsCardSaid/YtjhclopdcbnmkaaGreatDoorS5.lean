/- The printer's pattern: how long it is; numbers and joined parts in the program's own words. -/
import Derived.Test.YtjhclopdcbnmkaaGreatDoorS4
import Derived.Lib.AppendIntMem
import Derived.Lib.Join
import Derived.Lib.ItoaNum
set_option linter.unusedSimpArgs false
set_option linter.unusedVariables false
namespace Go.Proofs.YtjhclopdcbnmkaaGreatDoor.PX

theorem runsT_len : ∀ (l : List (Nat × Nat)) (b : Nat), Rising b l → b ≤ 256 → (runsT l).length + 9 * b ≤ 9 * 256
  | [], b, _, hb => by simp only [runsT, List.length_nil]; omega
  | p :: l, b, h, hb => by
    obtain ⟨h1, h2, h3, h4⟩ := h
    have := runsT_len l (p.2 + 1) h4 (by omega)
    have := runT_len p
    simp only [runsT, List.length_append]
    omega
theorem q_len (q : Q4) : q.text.length ≤ 2306 := by
  have h := runsT_len q.runs 0 (qruns_spec q).1 (by omega)
  unfold Q4.text
  split
  · simp
  split
  · omega
  · simp only [List.length_cons, List.length_append, List.length_nil]; omega
theorem numT_len (n : Nat) : (numT n).length ≤ 2 := by
  unfold numT; split <;> simp
theorem signT_len (mn mx : Int) : (signT mn mx).length ≤ 7 := by
  have h1 := numT_len mn.toNat
  have h2 := numT_len mx.toNat
  unfold signT
  repeat' split
  all_goals (simp; try omega)
theorem par_len (s : List UInt8) : (par s).length = s.length + 2 := by simp [par]
theorem piece_len (x : Rx) : (pieceT x).length ≤ x.text.length + 2 := by
  unfold pieceT; split
  · rw [par_len]; omega
  · omega
theorem row_len (x : Rx) : (rowT x).length ≤ x.text.length + 2 := by
  unfold rowT; split
  · rw [par_len]; omega
  · omega
theorem atom_len (x : Rx) : (atomT x).length ≤ x.text.length + 2 := by
  unfold atomT; split
  · omega
  · rw [par_len]; omega
mutual
theorem text_len : ∀ x : Rx, x.formB = true → (x.text.length : Int) ≤ 2500 * x.big - 100
  | .node k mn mx s0 s1 s2 s3 l, hf => by
    have hfl : formAll l = true := by rw [formB_iff] at hf; exact hf.2
    have hl := textAll_len l hfl
    have hbn := bigAll_nonneg l
    have htp := times_pos k mn mx
    have hmul : bigAll l ≤ times k mn mx * bigAll l := by
      have := Int.mul_le_mul_of_nonneg_right htp hbn
      omega
    rcases rx_kinds hf with rfl | rfl | rfl | rfl
    · have := q_len ⟨s0, s1, s2, s3⟩
      simp only [Rx.text, if_true, Rx.big]
      omega
    · rw [seq_text]
      simp only [Rx.big]
      omega
    · rw [alt_text]
      simp only [Rx.big]
      omega
    · obtain ⟨y, rfl, hy, -⟩ := rep_parts hf
      rw [rep_text, List.length_append]
      have h1 := atom_len y
      have h2 := signT_len mn mx
      have h3 := text_len y hy
      simp only [bigAll, Int.add_zero] at hmul
      simp only [Rx.big, bigAll, Int.add_zero]
      omega
theorem textAll_len : ∀ l : List Rx, formAll l = true → ((textSeq l).length : Int) ≤ 2500 * bigAll l ∧ ((textAlt l).length : Int) ≤ 2500 * bigAll l ∧ ((textMore l).length : Int) ≤ 2500 * bigAll l
  | [], _ => by simp [textSeq, textAlt, textMore, bigAll]
  | x :: l, hf => by
    simp only [formAll, Bool.and_eq_true] at hf
    have h1 := text_len x hf.1
    obtain ⟨h2, h3, h4⟩ := textAll_len l hf.2
    have h5 := piece_len x
    have h6 := row_len x
    have e1 : textSeq (x :: l) = pieceT x ++ textSeq l := rfl
    have e2 : textAlt (x :: l) = rowT x ++ textMore l := rfl
    have e3 : textMore (x :: l) = 124 :: (rowT x ++ textMore l) := rfl
    rw [e1, e2, e3]
    simp only [List.length_append, List.length_cons, bigAll]
    omega
end
/-- How an element is printed within a kind. -/
def elemT (k : Int) (x : Rx) : List UInt8 := if k = 1 then pieceT x else if k = 2 then rowT x else atomT x
theorem join_seq : ∀ l : List Rx, Lib.join (l.map (elemT 1)) [] = textSeq l
  | [] => rfl
  | x :: l => by
    have e1 : textSeq (x :: l) = pieceT x ++ textSeq l := rfl
    rw [List.map_cons, Lib.join_cons, e1, ← join_seq l]
    have : elemT 1 x = pieceT x := rfl
    rw [this]
    congr 1
    cases l with
    | nil => rfl
    | cons y l => rw [List.map_cons, Lib.join_cons]; simp [Lib.joinTail]
theorem join_more (l : List Rx) : Lib.joinTail [124] (l.map (elemT 2)) = textMore l := by
  induction l with
  | nil => rfl
  | cons x l ih =>
    have e3 : textMore (x :: l) = 124 :: (rowT x ++ textMore l) := rfl
    rw [e3, ← ih]
    simp [Lib.joinTail, elemT]
theorem join_alt (l : List Rx) : Lib.join (l.map (elemT 2)) [124] = textAlt l := by
  cases l with
  | nil => rfl
  | cons x l =>
    have e2 : textAlt (x :: l) = rowT x ++ textMore l := rfl
    rw [List.map_cons, Lib.join_cons, e2, join_more]
    rfl
theorem itoa_num : ∀ n : Nat, n ≤ 15 → Lib.itoa n = numT n := by
  intro n hn
  rcases (by omega : n = 0 ∨ n = 1 ∨ n = 2 ∨ n = 3 ∨ n = 4 ∨ n = 5 ∨ n = 6 ∨ n = 7 ∨ n = 8 ∨ n = 9 ∨ n = 10 ∨ n = 11 ∨ n = 12 ∨ n = 13 ∨ n = 14 ∨ n = 15) with rfl | rfl | rfl | rfl | rfl | rfl | rfl | rfl | rfl | rfl | rfl | rfl | rfl | rfl | rfl | rfl <;> simp [Lib.itoa, Lib.decDigits, numT]
end Go.Proofs.YtjhclopdcbnmkaaGreatDoor.PX
namespace Go.Proofs.YtjhclopdcbnmkaaGreatDoor
open Go.RowKit PX

/-- The table of the powers of ten, as it is laid. -/
def PowAt (w : World) : Prop := Lib.TabIs Tryz.prog w "internal/strconv.uint64pow10" .u64 Lib.pow10Tab
theorem PowAt.later {w w' : World} (h : PowAt w) (hl : Later w w') : PowAt w' := by
  unfold PowAt Lib.TabIs World.var? at *
  cases hg : Tryz.prog.globalNamed "internal/strconv.uint64pow10" with
  | none => simp [hg] at h
  | some g =>
    simp only [hg, Option.bind_some] at h ⊢
    have hlt : g < w.heap.size := by
      rcases Nat.lt_or_ge g w.heap.size with h' | h'
      · exact h'
      · rw [Array.getElem?_eq_none h'] at h; simp at h
    rw [Below.block hl g hlt]
    exact h
theorem itoa_any (w : World) (n : Int) (h0 : -1 ≤ n) (h1 : n ≤ 15) (hP : PowAt w) : Calls Tryz.prog 46 #[.int .i64 n] w fun e w' => e = .returned (.string ⟨(Lib.itoa n).toArray⟩) ∧ Later w w' := by
  refine (Tryz.strconv_Itoa n (by omega) (by omega) w hP).mono ?_
  rintro e w' ⟨rfl, k, os, rfl⟩
  exact ⟨rfl, Lib.below_grow _ _ (Nat.le_refl _) _ _⟩
/-- Parts of a pattern, in a row of the call's own. -/
def strRow (l : List (List UInt8)) : List Value := l.map fun (s : List UInt8) => .string ⟨s.toArray⟩
theorem info_strg : (Tryz.prog.info? 9).map (fun i => (i.zero, i.size, i.bytes)) = some (some (.string ⟨#[]⟩), 1, 16) := by kernel_rfl
theorem join_any (w : World) (base : Nat) (v : Value) (l : List (List UInt8)) (sep : ByteArray) (h : w.ownsRow base 9 1 v l.length (strRow l)) (hn : l.length ≤ 100000) (hlen : (Lib.join l sep.data.toList).length ≤ 1000000000) :
    Calls Tryz.prog 45 #[v, .string sep] w fun e w' => e = .returned (.string ⟨(Lib.join l sep.data.toList).toArray⟩) ∧ Later w w' := by
  rcases h.2 with ⟨rfl, h0⟩ | ⟨g, cap, cur, rfl, hg, hh, hcap, -, -, -⟩
  · have : l = [] := List.eq_nil_of_length_eq_zero h0
    subst this
    refine (Tryz.strings_Join_none none 0 sep w).mono ?_
    rintro e w' ⟨rfl, rfl⟩
    exact ⟨rfl, Later.refl _⟩
  · have hmap : (l.map fun (s : List UInt8) => (⟨s.toArray⟩ : ByteArray)).map (·.data.toList) = l := by
      rw [List.map_map]
      conv => rhs; rw [← List.map_id l]
      apply List.map_congr_left
      intro s _
      simp
    have hc := Tryz.strings_Join g 0 cap (l.map fun (s : List UInt8) => (⟨s.toArray⟩ : ByteArray)) sep w (fun j x hx => by
      have hx' : (strRow l)[j]? = some (.string x) := by
        unfold strRow
        rw [List.getElem?_map] at hx ⊢
        cases hj : l[j]? with
        | none => rw [hj] at hx; cases hx
        | some s => rw [hj] at hx; simp only [Option.map_some, Option.some.injEq] at hx ⊢; rw [hx]
      have := h.cells (g := g) rfl j _ hx'
      rw [addr_add_none] at this
      exact this) (lt_of_block hh) (by rw [List.length_map]; omega) (by rw [List.length_map]; exact hcap) (by rw [hmap]; omega)
    rw [hmap, List.length_map] at hc
    exact hc
end Go.Proofs.YtjhclopdcbnmkaaGreatDoor
