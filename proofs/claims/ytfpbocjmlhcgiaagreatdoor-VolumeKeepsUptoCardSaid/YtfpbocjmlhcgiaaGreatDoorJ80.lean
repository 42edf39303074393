/- Plain: the records that stand in a journal's area. -/
import Derived.Test.YtfpbocjmlhcgiaaGreatDoorJg12
import Derived.Test.YtfpbocjmlhcgiaaGreatDoorJg16
set_option linter.unusedSimpArgs false
set_option linter.unusedVariables false
namespace Go.Proofs.YtfpbocjmlhcgiaaGreatDoor
open PJ

/-- A record that may be, of so many cells. -/
structure RecOK (n : Nat) (l : List Wr) : Prop where
  ne : 1 ≤ l.length
  h40 : l.length ≤ 40
  ok : ∀ w ∈ l, 0 ≤ w.cell ∧ w.cell < (n : Int) ∧ w.data.size ≤ 116
  once : ∀ (i j : Nat) (x y : Wr), l[i]? = some x → l[j]? = some y → x.cell = y.cell → i = j
/-- Records, one behind the other. -/
def RecsV (V : View) : Nat → Nat → List (List Wr) → Prop
  | _, _, [] => True
  | k, a, l :: r => (V a = blk (recD l) k ∧ ∀ (i : Nat) (w : Wr), l[i]? = some w → V (a + 1 + i) = blk w.data.data.toList k) ∧ RecsV V (k + 1) (a + 1 + l.length) r
def recsLen : List (List Wr) → Nat
  | [] => 0
  | l :: r => 1 + l.length + recsLen r
theorem recsLen_app : ∀ (L : List (List Wr)) (l : List Wr), recsLen (L ++ [l]) = recsLen L + (1 + l.length)
  | [], l => by simp [recsLen]
  | x :: r, l => by rw [List.cons_append, recsLen, recsLen, recsLen_app r l]; omega
theorem RecsV.frame : ∀ {L : List (List Wr)} {V V' : View} {k a : Nat}, RecsV V k a L → (∀ i, a ≤ i → i < a + recsLen L → V' i = V i) → RecsV V' k a L
  | [], _, _, _, _, _, _ => trivial
  | l :: r, V, V', k, a, h, hv => by
    obtain ⟨⟨h1, h2⟩, h3⟩ := h
    rw [recsLen] at hv
    refine ⟨⟨by rw [hv a (by omega) (by omega)]; exact h1, fun i w hi => ?_⟩, h3.frame fun i h4 h5 => hv i (by omega) (by omega)⟩
    have hl := (List.getElem?_eq_some_iff.1 hi).1
    rw [hv _ (by omega) (by omega)]
    exact h2 i w hi
theorem RecsV.snoc : ∀ {L : List (List Wr)} {V : View} {k a : Nat} {l : List Wr}, RecsV V k a L → (V (a + recsLen L) = blk (recD l) (k + L.length) ∧ ∀ (i : Nat) (w : Wr), l[i]? = some w → V (a + recsLen L + 1 + i) = blk w.data.data.toList (k + L.length)) → RecsV V k a (L ++ [l])
  | [], V, k, a, l, _, h => ⟨h, trivial⟩
  | x :: r, V, k, a, l, ⟨h1, h2⟩, h => by
    refine ⟨h1, h2.snoc ?_⟩
    rw [recsLen, List.length_cons] at h
    rw [show a + 1 + x.length + recsLen r = a + (1 + x.length + recsLen r) from by omega, show k + 1 + r.length = k + (r.length + 1) from by omega]
    exact h
/-- The record at a place in the row. -/
theorem RecsV.get : ∀ {L : List (List Wr)} {V : View} {k a : Nat}, RecsV V k a L → ∀ {t : Nat} {l : List Wr}, L[t]? = some l → V (a + recsLen (L.take t)) = blk (recD l) (k + t) ∧ ∀ (i : Nat) (w : Wr), l[i]? = some w → V (a + recsLen (L.take t) + 1 + i) = blk w.data.data.toList (k + t)
  | x :: r, V, k, a, ⟨h1, h2⟩, 0, l, ht => by
    have e : x = l := by simpa using ht
    subst e
    exact h1
  | x :: r, V, k, a, ⟨h1, h2⟩, t + 1, l, ht => by
    have h := h2.get (t := t) (l := l) (by simpa using ht)
    rw [List.take_succ_cons, recsLen]
    rw [show a + 1 + x.length + recsLen (r.take t) = a + (1 + x.length + recsLen (r.take t)) from by omega, show k + 1 + t = k + (t + 1) from by omega] at h
    exact h
theorem recsLen_take {L : List (List Wr)} {t : Nat} {l : List Wr} (h : L[t]? = some l) : recsLen (L.take (t + 1)) = recsLen (L.take t) + (1 + l.length) := by
  rw [List.take_add_one, h]
  exact recsLen_app _ _
theorem recsLen_le : ∀ (L : List (List Wr)) (t : Nat), recsLen (L.take t) ≤ recsLen L
  | [], t => by simp [recsLen]
  | x :: r, 0 => by simp [recsLen]
  | x :: r, t + 1 => by rw [List.take_succ_cons, recsLen, recsLen]; have := recsLen_le r t; omega
/-- A journal whose cells are those of its records. -/
structure Jn.Whole (J : Jn) (L : List (List Wr)) : Prop where
  next : J.next = J.first + L.length
  at' : J.at' = 2 + recsLen L
  C : J.C = L.foldl putsW (fun _ => none)
  recs : RecsV J.V J.first 2 L
  each : ∀ l ∈ L, RecOK (J.n - J.area) l
theorem Jn.Whole.none {J : Jn} (h : J.OK) (hf : J.first = J.next) : J.Whole [] := by
  obtain ⟨h1, h2⟩ := h.clean hf
  exact ⟨by rw [hf]; rfl, by rw [h1]; rfl, funext h2, trivial, fun l hl => by cases hl⟩
theorem apart_seen {n : Int} : ∀ {l : List Wr} {seen : List Int}, apartW n seen l = true → ∀ (j : Nat) (x : Wr), l[j]? = some x → ¬ x.cell ∈ seen
  | w :: r, seen, h, j, x, hj => by
    unfold apartW at h
    simp only [Bool.and_eq_true, decide_eq_true_eq, Bool.not_eq_true', List.contains_eq_mem, decide_eq_false_iff_not] at h
    cases j with
    | zero => have e : w = x := by simpa using hj
              subst e
              exact h.1.2
    | succ j => exact fun e => apart_seen h.2 j x (by simpa using hj) (List.mem_cons_of_mem _ e)
theorem apart_once {n : Int} : ∀ {l : List Wr} {seen : List Int}, apartW n seen l = true → ∀ (i j : Nat) (x y : Wr), l[i]? = some x → l[j]? = some y → x.cell = y.cell → i = j
  | w :: r, seen, h, i, j, x, y, hi, hj, e => by
    unfold apartW at h
    simp only [Bool.and_eq_true] at h
    have hs := apart_seen h.2
    cases i with
    | zero =>
      cases j with
      | zero => rfl
      | succ j =>
        have e1 : w = x := by simpa using hi
        subst e1
        exact absurd (by rw [← e]; exact List.mem_cons_self ..) (hs j y (by simpa using hj))
    | succ i =>
      cases j with
      | zero =>
        have e1 : w = y := by simpa using hj
        subst e1
        exact absurd (by rw [e]; exact List.mem_cons_self ..) (hs i x (by simpa using hi))
      | succ j => rw [apart_once h.2 i j x y (by simpa using hi) (by simpa using hj) e]
theorem may_rec {n area : Nat} {l : List Wr} (hl : l ≠ []) (h : mayI n area l = 0) : RecOK n l := by
  obtain ⟨h1, h2, h3⟩ := may_ok h
  refine ⟨by cases l with | nil => exact absurd rfl hl | cons _ _ => simp, h1, h3, ?_⟩
  unfold mayI at h
  split at h
  · exact absurd h (by decide)
  · split at h
    · rename_i ha
      exact apart_once ha
    · exact absurd h (by decide)
theorem wrV_get {st : Nat} : ∀ (l : List Wr) (V : View) (i j : Nat) (w : Wr), l[j]? = some w → wrV st V i l (i + j) = blk w.data.data.toList st
  | x :: r, V, i, 0, w, h => by
    have e : x = w := by simpa using h
    subst e
    rw [wrV, wrV_out r _ _ _ (.inl (by omega)), Nat.add_zero, setS_same]
  | x :: r, V, i, j + 1, w, h => by
    rw [wrV, show i + (j + 1) = i + 1 + j from by omega]
    exact wrV_get r _ (i + 1) j w (by simpa using h)
theorem Jn.Whole.put {J : Jn} {L : List (List Wr)} (h : J.Whole L) {l : List Wr} (hl : RecOK (J.n - J.area) l) : (J.put l).Whole (L ++ [l]) := by
  have ha := h.at'
  refine ⟨?_, ?_, ?_, ?_, ?_⟩
  · show J.next + 1 = J.first + (L ++ [l]).length
    rw [h.next, List.length_append]; simp; omega
  · show J.at' + 1 + l.length = _
    rw [recsLen_app, ha]; omega
  · show putsW J.C l = _
    rw [List.foldl_append, h.C]; rfl
  · show RecsV (wrV J.next (setS J.V J.at' (blk (recD l) J.next)) (J.at' + 1) l) J.first 2 (L ++ [l])
    refine RecsV.snoc (h.recs.frame fun i h1 h2 => ?_) ?_
    · rw [wrV_out _ _ _ _ (.inl (by omega)), setS_other (by omega)]
    · rw [← ha, ← h.next]
      refine ⟨by rw [wrV_out _ _ _ _ (.inl (by omega)), setS_same], fun i w hi => wrV_get l _ _ i w hi⟩
  · intro x hx
    rcases List.mem_append.1 hx with hx | hx
    · exact h.each x hx
    · rw [List.mem_singleton.1 hx]; exact hl
theorem Jn.Whole.home {J : Jn} : J.home.Whole [] := ⟨rfl, rfl, rfl, trivial, fun l hl => by cases hl⟩
theorem Jn.Whole.safe {J : Jn} {L : List (List Wr)} (h : J.Whole L) (S : View) : ({ J with S := S } : Jn).Whole L := ⟨h.next, h.at', h.C, h.recs, h.each⟩
theorem Jn.Whole.commit {J : Jn} {L : List (List Wr)} (h : J.Whole L) {l : List Wr} (hl : RecOK (J.n - J.area) l) : ∃ L', (J.commit l).Whole L' := by
  unfold Jn.commit
  split
  · exact ⟨_, Jn.Whole.home.put hl⟩
  · exact ⟨_, h.put hl⟩
/-- The last record's stamp. -/
theorem Jn.Whole.last {J : Jn} {L : List (List Wr)} (h : J.Whole L) (hok : J.OK) (hL : L ≠ []) : ∃ i d, 2 ≤ i ∧ i < J.area ∧ J.V i = blk d (J.next - 1) ∧ d.length ≤ 116 ∧ J.first < J.next := by
  have hl : 1 ≤ L.length := by cases L with | nil => exact absurd rfl hL | cons _ _ => simp
  obtain ⟨l, hlt⟩ : ∃ l, L[L.length - 1]? = some l := ⟨_, List.getElem?_eq_getElem (by omega)⟩
  obtain ⟨h1, h2⟩ := h.recs.get hlt
  have hr := h.each l (List.mem_of_getElem? hlt)
  have ht := recsLen_take hlt
  rw [show L.length - 1 + 1 = L.length from by omega, List.take_of_length_le (Nat.le_refl _)] at ht
  have hA := hok.atA
  have ha := h.at'
  have hn := h.next
  refine ⟨_, _, by omega, by have := hr.ne; omega, h1.trans (by rw [show J.first + (L.length - 1) = J.next - 1 from by omega]), by rw [recD_len]; have := hr.h40; omega, by omega⟩
end Go.Proofs.YtfpbocjmlhcgiaaGreatDoor
