/- M1, merged: Steps Long Joins Counts. -/
import Derived.Test.YtjhclopdcbnmkaaGreatDoorR4
import Derived.Test.YtjhclopdcbnmkaaGreatDoorB1
import Derived.Deep.RegionHeld3
import Derived.Deep.AppendLies
set_option linter.unusedSimpArgs false
set_option linter.unusedVariables false
/- The walk of MatchSteps. -/
namespace Go.Proofs.YtjhclopdcbnmkaaGreatDoor
open Go.RowKit PX

/-- A machine, and the table that its steps read. -/
structure MX (w : World) (p : Nat) (x : Rx) : Prop where
  m : Machine w p x
  t : TabAt 0 Lib.deBruijn64tab w
theorem MX.below {w w' : World} {p : Nat} {x : Rx} (h : MX w p x) (hb : Below w.heap.size w w') : MX w' p x := ⟨h.m.below hb, TabAt.below h.t hb⟩
theorem ba_len (S : ByteArray) : S.data.toList.length = S.size := by rw [Array.length_toList]; rfl
theorem hit_some (w : World) (p : Nat) (x : Rx) (h : MX w p x) (S : ByteArray) (f a b : Nat) (hl : S.size ≤ 256) (hh : IsHit x.lang S.data.toList f a b) :
    Calls Tryz.prog 84 #[.pointer (some ⟨p, 0, none⟩), .string S, .int .i64 f] w fun e w' => e = .returned (.tuple #[.int .i64 a, .int .i64 b, .bool true]) ∧ Below w.heap.size w w' := by
  have hfl : f ≤ S.size := by have := hh.1; have := hh.2.1; have := hh.2.2.1; rw [ba_len] at this; omega
  refine (hit_any w p x S f h.m h.t ⟨by omega, by omega⟩).mono ?_
  rintro e w' ⟨hs, hb⟩
  rcases hs with ⟨hn, -⟩ | ⟨-, g, hg, -, ⟨a', b', rfl, hh'⟩ | ⟨hn, -⟩⟩
  · exact absurd ⟨by rw [ba_len]; exact hl, by omega, by rw [ba_len]; omega⟩ hn
  · obtain rfl : g = f := by omega
    obtain ⟨rfl, rfl⟩ := isHit_unique hh' hh
    exact ⟨rfl, hb⟩
  · obtain rfl : g = f := by omega
    exact (isHit_noHit hh hn).elim
theorem hit_none (w : World) (p : Nat) (x : Rx) (h : MX w p x) (S : ByteArray) (f : Nat) (hf : f ≤ 1000) (hh : 256 < S.size ∨ NoHit x.lang S.data.toList f) :
    Calls Tryz.prog 84 #[.pointer (some ⟨p, 0, none⟩), .string S, .int .i64 f] w fun e w' => e = .returned (.tuple #[.int .i64 0, .int .i64 0, .bool false]) ∧ Below w.heap.size w w' := by
  refine (hit_any w p x S f h.m h.t ⟨by omega, by omega⟩).mono ?_
  rintro e w' ⟨hs, hb⟩
  rcases hs with ⟨-, he⟩ | ⟨hl, g, hg, -, ⟨a', b', rfl, hh'⟩ | ⟨-, he⟩⟩
  · exact ⟨he, hb⟩
  · obtain rfl : g = f := by omega
    rw [ba_len] at hl
    rcases hh with hh | hh
    · omega
    · exact (isHit_noHit hh' hh).elim
  · exact ⟨he, hb⟩
theorem isHit_later {L : List UInt8 → Prop} {s : List UInt8} {f g a b : Nat} (h : IsHit L s f a b) (h1 : f ≤ g) (h2 : g ≤ a) : IsHit L s g a b :=
  ⟨h2, h.2.1, h.2.2.1, h.2.2.2.1, h.2.2.2.2.1, fun c hc => h.2.2.2.2.2 c (by omega)⟩

end Go.Proofs.YtjhclopdcbnmkaaGreatDoor

/- The walk of MatchLongest. -/
namespace Go.Proofs.YtjhclopdcbnmkaaGreatDoor
open Go.RowKit PX

theorem extract_sub (S : ByteArray) (a b : Nat) : (S.extract a b).data.toList = sub S.data.toList a b := by
  rw [ByteArray.data_extract, Array.toList_extract, sub, List.extract_eq_take_drop, List.drop_take]
theorem extract_size (S : ByteArray) (a b : Nat) (hb : b ≤ S.size) : (S.extract a b).size = b - a := by
  rw [ByteArray.size_extract]; omega
theorem below_of_drewN {B n : Nat} {w w' : World} (h : Below B (w.drewN n) w') : Below B w w' := ⟨h.os, h.tape, h.output, h.size, h.block⟩

/-- What the loops over the parts of a text find, at a hit, and behind the last one. -/
def PartsOk (L : List UInt8 → Prop) (s : List UInt8) (q bg en : Nat) : Prop := ∀ a b, q ≤ a → a ≤ bg → a < b → b ≤ s.length → L (sub s a b) → bg ≤ a ∧ b ≤ en
theorem partsOk_hit {L : List UInt8 → Prop} {s : List UInt8} {q a b : Nat} (h : IsHit L s q a b) : PartsOk L s q a b := by
  intro c d h1 h2 h3 h4 h5
  by_cases hc : c < a
  · exact absurd h5 (h.2.2.2.2.2 c h1 hc d h3 h4)
  · obtain rfl : c = a := by omega
    refine ⟨Nat.le_refl _, ?_⟩
    by_cases hd : b < d
    · exact absurd h5 (h.2.2.2.2.1 d hd h4)
    · omega
theorem partsOk_none {L : List UInt8 → Prop} {s : List UInt8} {q bg en : Nat} (h : NoHit L s q) : PartsOk L s q bg en :=
  fun a b h1 _ h3 h4 h5 => absurd h5 (h a b h1 h3 h4)

end Go.Proofs.YtjhclopdcbnmkaaGreatDoor

/- The walk of MatchJoins. -/
namespace Go.Proofs.YtjhclopdcbnmkaaGreatDoor
open Go.RowKit PX

/-- A world that comes behind another one: what was there is as it was. -/
def Later (a b : World) : Prop := Below a.heap.size a b
theorem Later.refl (w : World) : Later w w := Below.refl _ _
theorem Later.trans {a b c : World} (h : Later a b) (k : Later b c) : Later a c := Below.trans h (Below.mono k (Below.size h))
theorem Later.alloc {a b : World} (h : Later a b) (o : Obj) : Later a (b.alloc o) := Below.alloc h (Below.size h) o
theorem Later.drew {a b : World} (h : Later a b) : Later a b.drew := Below.drew h
theorem Later.block {a b : World} (h : Later a b) {k : Nat} {o : Obj} (hk : a.heap[k]? = some o) : b.heap[k]? = some o := (Below.block h k (lt_of_block hk)).trans hk
theorem Later.of {a b : World} (h : Below a.heap.size a b) : Later a b := h
theorem Later.out {a b : World} (h : Later a b) : Below a.heap.size a b := h
theorem Later.cell {a b : World} (h : Later a b) {p : Addr} {v : Value} (hp : a.cell? p = some v) : b.cell? p = some v := (Below.cell h (World.block_lt_of_cell? _ _ hp)).trans hp

theorem MX.later {w w' : World} {p : Nat} {x : Rx} (h : MX w p x) (hl : Later w w') : MX w' p x := h.below hl

/-- A machine of an expression, or none, as fits tells it. -/
def MaybeX (w : World) (v : Value) (x : Rx) : Prop := (checkR x = 0 ∧ ∃ p, v = .pointer (some ⟨p, 0, none⟩) ∧ MX w p x) ∨ (checkR x ≠ 0 ∧ v = .pointer none)
theorem MaybeX.later {w w' : World} {v : Value} {x : Rx} (h : MaybeX w v x) (hl : Later w w') : MaybeX w' v x := by
  rcases h with ⟨h1, p, h2, h3⟩ | h
  · exact .inl ⟨h1, p, h2, h3.below hl⟩
  · exact .inr h

open Classical in
/-- Is a text in a language? -/
noncomputable def inB (L : List UInt8 → Prop) (s : List UInt8) : Bool := decide (L s)
theorem inB_iff {L : List UInt8 → Prop} {s : List UInt8} : inB L s = true ↔ L s := by
  unfold inB; exact @decide_eq_true_iff _ (Classical.propDecidable _)
/-- What a call of fits needs: the table, and the two expressions. -/
structure JW (w : World) (X Y : RxA) : Prop where
  t : TabAt 0 Lib.deBruijn64tab w
  x : X.In w w.heap.size
  y : Y.In w w.heap.size
theorem alloc_at {w : World} {o : Obj} {k : Nat} (h : w.heap.size = k) : (w.alloc o).heap[k]? = some o := by subst h; exact alloc_block w o
theorem drew_block {w : World} {k : Nat} {o : Obj} (h : w.heap[k]? = some o) : w.drew.heap[k]? = some o := h
theorem JW.later {w w' : World} {X Y : RxA} (h : JW w X Y) (hl : Later w w') : JW w' X Y :=
  ⟨TabAt.below h.t hl, (h.x.below hl (Nat.le_refl _)).later (Below.size hl) (fun _ _ _ => rfl), (h.y.below hl (Nat.le_refl _)).later (Below.size hl) (fun _ _ _ => rfl)⟩
/-- What the loop finds of cuts: up to a place. -/
noncomputable def cutB (x y : Rx) (s : List UInt8) : Nat → Bool
  | 0 => false
  | k + 1 => cutB x y s k || (inB x.lang (sub s 0 k) && inB y.lang (sub s k s.length))
theorem cutB_iff (x y : Rx) (s : List UInt8) : ∀ k, cutB x y s k = true ↔ ∃ i, i < k ∧ x.lang (sub s 0 i) ∧ y.lang (sub s i s.length)
  | 0 => by simp [cutB]
  | k + 1 => by
    simp only [cutB, Bool.or_eq_true, Bool.and_eq_true, inB_iff, cutB_iff x y s k]
    constructor
    · rintro (⟨i, h, h'⟩ | h)
      · exact ⟨i, by omega, h'⟩
      · exact ⟨k, by omega, h⟩
    · rintro ⟨i, h, h'⟩
      by_cases hi : i < k
      · exact .inl ⟨i, hi, h'⟩
      · obtain rfl : i = k := by omega
        exact .inr h'
theorem cutB_row (x y : Rx) (s : List UInt8) : cutB x y s (s.length + 1) = inB (Rx.node 1 0 0 0 0 0 0 [x, y]).lang s := by
  rw [Bool.eq_iff_iff, cutB_iff, inB_iff, seq2_lang]
  refine exists_congr fun i => ?_
  rw [sub_take, sub_drop]
  exact and_congr (by omega) Iff.rfl
noncomputable def againB (x m : Rx) (s : List UInt8) : Nat → Bool
  | 0 => s.isEmpty
  | k + 1 => againB x m s k || (decide (0 < k) && (inB x.lang (sub s 0 k) && inB m.lang (sub s k s.length)))
theorem againB_iff (x m : Rx) (s : List UInt8) : ∀ k, againB x m s k = true ↔ s = [] ∨ ∃ i, 0 < i ∧ i < k ∧ x.lang (sub s 0 i) ∧ m.lang (sub s i s.length)
  | 0 => by simp [againB]
  | k + 1 => by
    simp only [againB, Bool.or_eq_true, Bool.and_eq_true, inB_iff, againB_iff x m s k, decide_eq_true_iff]
    constructor
    · rintro ((h | ⟨i, h0, h, h'⟩) | ⟨h0, h⟩)
      · exact .inl h
      · exact .inr ⟨i, h0, by omega, h'⟩
      · exact .inr ⟨k, h0, by omega, h⟩
    · rintro (h | ⟨i, h0, h, h'⟩)
      · exact .inl (.inl h)
      · by_cases hi : i < k
        · exact .inl (.inr ⟨i, h0, hi, h'⟩)
        · obtain rfl : i = k := by omega
          exact .inr ⟨h0, h'⟩
theorem againB_many (x : Rx) (s : List UInt8) : againB x (.node 3 0 (-1) 0 0 0 0 [x]) s (s.length + 1) = inB (Rx.node 3 0 (-1) 0 0 0 0 [x]).lang s := by
  rw [Bool.eq_iff_iff, againB_iff, inB_iff, many_lang]
  refine or_congr Iff.rfl (exists_congr fun i => ?_)
  rw [sub_take, sub_drop]
  exact and_congr Iff.rfl (and_congr (by omega) Iff.rfl)
theorem inB_alt (x y : Rx) (s : List UInt8) : inB (Rx.node 2 0 0 0 0 0 0 [x, y]).lang s = (inB x.lang s || inB y.lang s) := by
  rw [Bool.eq_iff_iff, inB_iff, alt2_lang, Bool.or_eq_true, inB_iff, inB_iff]

end Go.Proofs.YtjhclopdcbnmkaaGreatDoor

/- The walk of MatchCounts. -/
namespace Go.Proofs.YtjhclopdcbnmkaaGreatDoor
open Go.RowKit PX

theorem checkR_zero (x : Rx) : checkR x = 0 ↔ x.formB = true ∧ x.big ≤ 256 := by
  unfold checkR
  rw [Rx.sizeI_eq]
  cases x.formB with
  | false => simp
  | true =>
    simp only [if_true, true_and]
    split <;> constructor <;> intro h <;> first | omega | (exfalso; omega) | rfl
theorem MaybeX.good {w : World} {v : Value} {x : Rx} (h : MaybeX w v x) (hc : checkR x = 0) : ∃ p, v = .pointer (some ⟨p, 0, none⟩) ∧ MX w p x := by
  rcases h with ⟨-, h⟩ | ⟨h, -⟩
  · exact h
  · exact absurd hc h
theorem mul_mono {a b c : Int} (h : a ≤ b) (hc : 0 ≤ c) : a * c ≤ b * c := Int.mul_le_mul_of_nonneg_right h hc
theorem Later.drewN {a b : World} (h : Later a b) (n : Nat) : Later a (b.drewN n) := below_drewN h n
/-- Of a number of times that may be, so many times may be; and a row of as many. -/
theorem check_kk {x : Rx} {lo hi k : Nat} (h : checkR (.node 3 lo hi 0 0 0 0 [x]) = 0) (h1 : lo ≤ k) (h2 : k ≤ hi) : checkR (.node 3 k k 0 0 0 0 [x]) = 0 := by
  rw [checkR_zero, rep_form, rep_big] at h ⊢
  obtain ⟨⟨h3, h4⟩, h5⟩ := h
  have hp := x.big_pos
  have := mul_mono (show max (max (1 : Int) (k : Int)) (k : Int) ≤ max (max (1 : Int) (lo : Int)) (hi : Int) by omega) (show 0 ≤ x.big by omega)
  exact ⟨⟨by omega, h4⟩, Int.le_trans (Int.add_le_add_left this 1) h5⟩
theorem check_row {x : Rx} {lo hi k : Nat} (h : checkR (.node 3 lo hi 0 0 0 0 [x]) = 0) (h1 : 2 ≤ k) (h2 : k ≤ hi) : checkR (.node 1 0 0 0 0 0 0 (List.replicate k x)) = 0 := by
  rw [checkR_zero] at h ⊢
  rw [rep_form, rep_big] at h
  obtain ⟨⟨h3, h4⟩, h5⟩ := h
  rw [row_big]
  have hp := x.big_pos
  have := mul_mono (show (k : Int) ≤ max (max (1 : Int) (lo : Int)) (hi : Int) by omega) (show 0 ≤ x.big by omega)
  exact ⟨row_form h4 h1, Int.le_trans (Int.add_le_add_left this 1) h5⟩
theorem rep_kk (x : Rx) (k : Nat) (s : List UInt8) : (Rx.node 3 k k 0 0 0 0 [x]).lang s ↔ Pow x.lang k s := by
  rw [rep_lang]
  constructor
  · rintro ⟨j, h1, h2, h⟩
    obtain rfl : j = k := by omega
    exact h
  · intro h; exact ⟨k, by omega, .inr (by omega), h⟩
/-- Is a text, that is not too long, in a language? -/
noncomputable def inT (S : ByteArray) (L : List UInt8 → Prop) : Bool := decide (S.size ≤ 256) && inB L S.data.toList
theorem inT_iff {S : ByteArray} {L : List UInt8 → Prop} : inT S L = true ↔ S.size ≤ 256 ∧ L S.data.toList := by
  unfold inT; rw [Bool.and_eq_true, inB_iff, decide_eq_true_iff]
theorem inT_row_kk (x : Rx) (k : Nat) (S : ByteArray) : inT S (Rx.node 1 0 0 0 0 0 0 (List.replicate k x)).lang = inT S (Rx.node 3 k k 0 0 0 0 [x]).lang := by
  rw [Bool.eq_iff_iff, inT_iff, inT_iff, row_lang, langSeq_replicate, rep_kk]
/-- What the loop over the numbers of times has found. -/
noncomputable def oneB (x : Rx) (S : ByteArray) (lo : Nat) : Nat → Bool
  | 0 => false
  | n + 1 => oneB x S lo n || inT S (Rx.node 3 (lo + n : Nat) (lo + n : Nat) 0 0 0 0 [x]).lang
theorem oneB_iff (x : Rx) (S : ByteArray) (lo : Nat) : ∀ n, oneB x S lo n = true ↔ S.size ≤ 256 ∧ ∃ k, lo ≤ k ∧ k < lo + n ∧ Pow x.lang k S.data.toList
  | 0 => by simp [oneB]; intro _ k h1 h2; omega
  | n + 1 => by
    simp only [oneB, Bool.or_eq_true, inT_iff, rep_kk, oneB_iff x S lo n]
    constructor
    · rintro (⟨hs, k, h1, h2, h⟩ | ⟨hs, h⟩)
      · exact ⟨hs, k, h1, by omega, h⟩
      · exact ⟨hs, lo + n, by omega, by omega, h⟩
    · rintro ⟨hs, k, h1, h2, h⟩
      by_cases hk : k < lo + n
      · exact .inl ⟨hs, k, h1, hk, h⟩
      · obtain rfl : k = lo + n := by omega
        exact .inr ⟨hs, h⟩
theorem oneB_all (x : Rx) (S : ByteArray) (lo hi : Nat) (h : lo ≤ hi) : oneB x S lo (hi + 1 - lo) = inT S (Rx.node 3 lo hi 0 0 0 0 [x]).lang := by
  rw [Bool.eq_iff_iff, inT_iff, oneB_iff, rep_lang]
  refine and_congr Iff.rfl (exists_congr fun k => ?_)
  constructor
  · rintro ⟨h1, h2, h3⟩; exact ⟨by omega, .inr (by omega), h3⟩
  · rintro ⟨h1, h2, h3⟩; exact ⟨by omega, by omega, h3⟩

def lenOf : Option Value → Nat
  | some (.slice _ n _) => n
  | _ => 0

theorem bareAll_replicate (X : RxA) (k : Nat) : bareAll (List.replicate k X) = List.replicate k X.bare := by rw [bareAll_eq, List.map_replicate]
theorem rxCells_snoc (l : List RxA) (X : RxA) : rxCells (l ++ [X]) = rxCells l ++ X.cells := by rw [rxCells_append]; simp [rxCells]

end Go.Proofs.YtjhclopdcbnmkaaGreatDoor
