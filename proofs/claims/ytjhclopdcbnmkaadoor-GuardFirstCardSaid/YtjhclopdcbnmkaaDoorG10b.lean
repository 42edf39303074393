/- The own rules of GuardFirst, as they lie in memory. -/
import Derived.Test.YtjhclopdcbnmkaaDoorG8
import Derived.Test.YtjhclopdcbnmkaaDoorG10
import Derived.Laws.OwnMore
import Derived.Deep.AppendLies
set_option linter.unusedSimpArgs false
set_option linter.unusedVariables false
namespace Go.Proofs.YtjhclopdcbnmkaaDoor
open Go.RowKit PX

def firstI : Option (Nat × Rul) → Int
  | none => -1
  | some (k, _) => k
def ruCells (l : List RuV) : List Value := l.flatMap RuV.cells
theorem ruCells_snoc (l : List RuV) (r : RuV) : ruCells (l ++ [r]) = ruCells l ++ [.int .i64 r.fr, .int .i64 r.tu, .int .i64 r.act, .string r.pat, .string r.wth] := by
  simp [ruCells, RuV.cells]
theorem ruCells_length (l : List RuV) : (ruCells l).length = l.length * 5 := by
  induction l with
  | nil => rfl
  | cons r l ih => simp only [ruCells, List.flatMap_cons, List.length_append, List.length_cons] at ih ⊢; rw [ih]; simp [RuV.cells]; omega
theorem ruCells_get : ∀ (l : List RuV) (i : Nat) (h : i < l.length) (j : Nat), j < 5 → (ruCells l)[i * 5 + j]? = l[i].cells[j]?
  | r :: l, 0, _, j, hj => by
    simp only [ruCells, List.flatMap_cons, Nat.zero_mul, Nat.zero_add, List.getElem_cons_zero]
    rw [List.getElem?_append_left (by simp [RuV.cells]; omega)]
  | r :: l, i + 1, h, j, hj => by
    have ih := ruCells_get l i (by simpa using h) j hj
    simp only [ruCells, List.flatMap_cons, List.getElem_cons_succ] at ih ⊢
    rw [List.getElem?_append_right (by simp [RuV.cells]; omega), ← ih]
    congr 1
    simp [RuV.cells]
    omega
/-- A row of rules that is owned holds rules. -/
theorem rules_of_row {w : World} {base : Nat} {v : Value} {l : List RuV} (h : w.ownsRow base 50 5 v l.length (ruCells l)) : ∃ a cap, v = .slice a l.length cap ∧ RulesIn w a cap l := by
  rcases h.2 with ⟨rfl, h0⟩ | ⟨g, cap, cur, rfl, hg, hh, hcap, hmax, -, -⟩
  · refine ⟨none, 0, by rw [h0], by omega, by omega, .inl (List.eq_nil_of_length_eq_zero h0)⟩
  · refine ⟨some ⟨g, 0, none⟩, cap, rfl, hcap, hmax, .inr ⟨g, 0, rfl, lt_of_block hh, fun i hi j hj => ?_⟩⟩
    rw [Nat.zero_add, h.cellAt (i * 5 + j) (by omega), ruCells_get l i hi j hj]
/-- Where the loop over the rules stands. -/
def OwnAt (fr tu : Int) (s : List UInt8) (base : Nat) (l : List RuV) (vf vo vi : Value) (wr : World) : Prop :=
  ∃ k : Nat, k ≤ l.length ∧ vi = .int .i64 k ∧ vf = .int .i64 (firstI (firstG fr tu s 0 ((l.take k).map RuV.bare))) ∧
    ∃ ol : List RuV, ol.map RuV.bare = ownG fr tu s ((l.take k).map RuV.bare) ∧ wr.ownsRow base 50 5 vo ol.length (ruCells ol)
theorem take_bare {l : List RuV} {k : Nat} (hk : k < l.length) : (l.take (k + 1)).map RuV.bare = (l.take k).map RuV.bare ++ [l[k].bare] := by
  rw [List.take_succ_eq_append_getElem hk, List.map_append]
  rfl
theorem ownsRow_later {w w' : World} {base : Nat} {v : Value} {n : Nat} {xs : List Value} (h : w.ownsRow base 50 5 v n xs) (hl : Later w w') : w'.ownsRow base 50 5 v n xs := by
  refine ⟨h.1, ?_⟩
  rcases h.2 with h0 | ⟨g, cap, cur, hv, hg, hh, hr⟩
  · exact .inl h0
  · exact .inr ⟨g, cap, cur, hv, hg, hl.block hh, hr⟩
theorem firstI_skip {fr tu : Int} {s : List UInt8} {l : List Rul} {r : Rul} (h : r.takes fr tu s = false ∨ (firstG fr tu s 0 l).isSome = true) : firstG fr tu s 0 (l ++ [r]) = firstG fr tu s 0 l := by
  rw [firstG_append]
  cases hf : firstG fr tu s 0 l with
  | some x => rfl
  | none =>
    rw [hf] at h
    simp only [Option.isSome_none, Bool.false_eq_true, or_false] at h
    show firstG fr tu s (0 + l.length) [r] = none
    rw [firstG_one, h]
    rfl
theorem ownG_skip {fr tu : Int} {s : List UInt8} {l : List Rul} {r : Rul} (h : r.of fr tu = false ∨ (firstG fr tu s 0 l).isSome = true) : ownG fr tu s (l ++ [r]) = ownG fr tu s l := by
  rw [ownG_snoc fr tu s r l 0]
  cases hf : firstG fr tu s 0 l with
  | some x => rfl
  | none =>
    rw [hf] at h
    simp only [Option.isSome_none, Bool.false_eq_true, or_false] at h
    rw [h]
    rfl
theorem ownG_push {fr tu : Int} {s : List UInt8} {l : List Rul} {r : Rul} (h : r.of fr tu = true) (hf : firstG fr tu s 0 l = none) : ownG fr tu s (l ++ [r]) = ownG fr tu s l ++ [r] := by
  rw [ownG_snoc fr tu s r l 0, hf, h]
  rfl
/-- A rule that makes no difference: of other levels, or behind the first. -/
theorem own_skip {fr tu : Int} {s : List UInt8} {base : Nat} {l : List RuV} {k : Nat} {vo : Value} {ol : List RuV} {w w' : World} (hk : k < l.length)
    (ho : ol.map RuV.bare = ownG fr tu s ((l.take k).map RuV.bare)) (hr : w.ownsRow base 50 5 vo ol.length (ruCells ol))
    (h : l[k].bare.of fr tu = false ∨ (firstG fr tu s 0 ((l.take k).map RuV.bare)).isSome = true) (hl : Later w w') :
    OwnAt fr tu s base l (.int .i64 (firstI (firstG fr tu s 0 ((l.take k).map RuV.bare)))) vo (.int .i64 ((k : Int) + 1)) w' := by
  refine ⟨k + 1, by omega, by simp, ?_, ol, ?_, ownsRow_later hr hl⟩
  · rw [take_bare hk, firstI_skip]
    rcases h with h | h
    · refine .inl ?_
      cases ht : l[k].bare.takes fr tu s with
      | false => rfl
      | true => rw [takes_of ht] at h; cases h
    · exact .inr h
  · rw [take_bare hk, ownG_skip h, ho]
/-- A rule of those levels ahead of the first: put to the own ones. -/
theorem own_push {fr tu : Int} {s : List UInt8} {base : Nat} {l : List RuV} {k : Nat} {v' : Value} {ol : List RuV} {w' : World} (hk : k < l.length)
    (ho : ol.map RuV.bare = ownG fr tu s ((l.take k).map RuV.bare)) (h : l[k].bare.of fr tu = true) (hf : firstG fr tu s 0 ((l.take k).map RuV.bare) = none)
    (hr : w'.ownsRow base 50 5 v' (ol.length + 1) (ruCells ol ++ [.int .i64 l[k].fr, .int .i64 l[k].tu, .int .i64 l[k].act, .string l[k].pat, .string l[k].wth])) :
    OwnAt fr tu s base l (.int .i64 (if l[k].bare.takes fr tu s then (k : Int) else -1)) v' (.int .i64 ((k : Int) + 1)) w' := by
  refine ⟨k + 1, by omega, by simp, ?_, ol ++ [l[k]], ?_, ?_⟩
  · rw [take_bare hk, firstG_append, hf]
    show Value.int .i64 _ = .int .i64 (firstI (firstG fr tu s (0 + _) [l[k].bare]))
    rw [firstG_one]
    split
    · simp [firstI]
      omega
    · rfl
  · rw [take_bare hk, ownG_push h hf, List.map_append, ho]
    rfl
  · rw [ruCells_snoc, List.length_append]
    exact hr
end Go.Proofs.YtjhclopdcbnmkaaDoor
