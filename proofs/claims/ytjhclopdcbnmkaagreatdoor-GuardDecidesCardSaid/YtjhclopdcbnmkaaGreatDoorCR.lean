/- Rules among the arguments. -/
import Derived.Test.YtjhclopdcbnmkaaGreatDoorCB
import Derived.Test.YtjhclopdcbnmkaaGreatDoorG3
set_option linter.unusedSimpArgs false
set_option linter.unusedVariables false
namespace Go.Proofs.YtjhclopdcbnmkaaGreatDoor
open Go.ChangeShapes Go.WideShapes Go.ChangeAt Go.RowKit

theorem cellsRule : Tryz.prog.cellsOf 56 = 5 := by kernel_rfl
theorem cellsI : Tryz.prog.cellsOf 3 = 1 := by kernel_rfl
theorem cellsS : Tryz.prog.cellsOf 9 = 1 := by kernel_rfl
theorem bytesRule : Tryz.prog.bytesOf 56 = 56 := by kernel_rfl
theorem lst5 {α : Type} {l : List α} (h : l.length = 5) : ∃ a b c d e, l = [a, b, c, d, e] := by
  match l, h with
  | [a, b, c, d, e], _ => exact ⟨a, b, c, d, e, rfl⟩
section
variable {H : Type} {enc : TypeId × Value → H} {w : World} {sp : Nat → Bool} {held : Bool}
set_option maxRecDepth 100000 in
/-- A rule's cells. -/
theorem open_rule_cells {fuel : Nat} {cs : List Value} {x : DataW H × List MemPlace} (h : DataW.trod enc Tryz.prog w 0 sp held fuel 56 cs = some x) :
    ∃ r : RuV, cs = r.cells := by
  obtain ⟨xs, n, -, rfl, hl, hlen, hf⟩ := DataW.trod_struct Tryz.underlying56 h
  have f0 : DataW.trod enc Tryz.prog w 0 sp held n 3 ((cs.drop 0).take (Tryz.prog.cellsOf 3)) = xs[0]? := hf 0 _ rfl
  have f1 : DataW.trod enc Tryz.prog w 0 sp held n 3 ((cs.drop 1).take (Tryz.prog.cellsOf 3)) = xs[1]? := hf 1 _ rfl
  have f2 : DataW.trod enc Tryz.prog w 0 sp held n 3 ((cs.drop 2).take (Tryz.prog.cellsOf 3)) = xs[2]? := hf 2 _ rfl
  have f3 : DataW.trod enc Tryz.prog w 0 sp held n 9 ((cs.drop 3).take (Tryz.prog.cellsOf 9)) = xs[3]? := hf 3 _ rfl
  have f4 : DataW.trod enc Tryz.prog w 0 sp held n 9 ((cs.drop 4).take (Tryz.prog.cellsOf 9)) = xs[4]? := hf 4 _ rfl
  clear hf h
  obtain ⟨y0, y1, y2, y3, y4, rfl⟩ := lst5 hlen
  rw [cellsRule] at hl
  obtain ⟨c0, c1, c2, c3, c4, rfl⟩ := lst5 hl
  simp only [cellsI, cellsS, List.drop_zero, List.drop_succ_cons, List.take_succ_cons, List.take_zero, List.getElem?_cons_zero, List.getElem?_cons_succ] at f0 f1 f2 f3 f4
  obtain ⟨a, ha, -, -⟩ := DataW.trod_int Tryz.underlying3 f0
  obtain ⟨b, hb, -, -⟩ := DataW.trod_int Tryz.underlying3 f1
  obtain ⟨c, hc, -, -⟩ := DataW.trod_int Tryz.underlying3 f2
  obtain ⟨p, hp, -, -⟩ := DataW.trod_string Tryz.underlying9 f3
  obtain ⟨q, hq, -, -⟩ := DataW.trod_string Tryz.underlying9 f4
  simp only [List.cons.injEq, and_true] at ha hb hc hp hq
  subst ha; subst hb; subst hc; subst hp; subst hq
  exact ⟨⟨a, b, c, p, q⟩, rfl⟩
/-- A row of rules. -/
theorem open_rule_row {m : Nat} (b o : Nat) : ∀ (elems : List (DataW H × List MemPlace)) (k : Nat), (∀ i, i < elems.length → (w.cells? 0 (⟨b, o + (k + i) * 5, none⟩) 5).bind (DataW.trod enc Tryz.prog w 0 sp held m 56) = elems[i]?) →
    ∃ l : List RuV, l.length = elems.length ∧ ∀ i (h : i < l.length) j, j < 5 → w.cell? ⟨b, o + (k + i) * 5 + j, none⟩ = l[i].cells[j]?
  | [], k, _ => ⟨[], rfl, fun i h => by simp at h⟩
  | y :: ys, k, h => by
    have h0 := h 0 (by simp)
    simp only [List.getElem?_cons_zero, Option.bind_eq_some_iff] at h0
    obtain ⟨cs, hcs, ht⟩ := h0
    obtain ⟨r, rfl⟩ := open_rule_cells ht
    obtain ⟨l, hl, hL⟩ := open_rule_row b o ys (k + 1) (fun i hi => by
      have := h (i + 1) (by simp; omega)
      rw [List.getElem?_cons_succ] at this
      rw [← this, show k + (i + 1) = k + 1 + i by omega])
    refine ⟨r :: l, by simp [hl], fun i hi j hj => ?_⟩
    match i, hi with
    | 0, _ =>
      have := (World.cells?_some hcs).2.2 j hj
      rw [addr_add_none] at this
      simpa using this
    | i + 1, hi =>
      have := hL i (by simpa using hi) j hj
      rw [show k + (i + 1) = k + 1 + i by omega]
      exact this
set_option maxRecDepth 100000 in
/-- Rules among the arguments. -/
theorem open_rules {base : Nat} {v : Value} {d : DataW H} {p : List MemPlace} (hok : Value.okWide Tryz.prog w .any base 38 v) (h : DataW.Trod enc Tryz.prog w 0 sp held 38 v d p) (hw : ∀ n ∈ d.weights Tryz.prog 38, n ≤ reachBytes) :
    ∃ (a : Option Addr) (cap : Nat) (l : List RuV), v = .slice a l.length cap ∧ RulesIn w a cap l ∧ l.length * 56 ≤ reachBytes := by
  obtain ⟨fuel, hf⟩ := h
  obtain ⟨a0, len0, cap0, rfl⟩ := okWide_slice Tryz.underlying38 hok
  simp only [Value.cells] at hf
  rcases DataW.trod_slice Tryz.underlying38 hf with ⟨hc, -⟩ | ⟨a, len, cap, elems, rest, m, hm, hc, hy, -, hlc, hcm, hel, hee, -⟩
  · simp only [List.cons.injEq, and_true, Value.slice.injEq] at hc
    obtain ⟨rfl, rfl, rfl⟩ := hc
    exact ⟨none, 0, [], rfl, ⟨by simp, by simp, .inl rfl⟩, by simp⟩
  · simp only [List.cons.injEq, and_true, Value.slice.injEq] at hc
    obtain ⟨rfl, rfl, rfl⟩ := hc
    have hbytes : elems.length * 56 ≤ reachBytes := by
      obtain ⟨rfl, -⟩ := Prod.mk.inj hy
      simp only [DataW.weights, Tryz.underlying38, bytesRule, List.mem_cons, List.mem_append, List.length_map] at hw
      have := hw _ (.inl rfl)
      exact Nat.le_trans (Nat.mul_le_mul_right _ (Nat.le_add_right _ _)) this
    · by_cases h0 : len0 = 0
      · subst h0
        exact ⟨some a, cap0, [], rfl, ⟨by simp, hcm, .inl rfl⟩, by simp⟩
      · have hb0 := hee 0 (by omega)
        rw [cellsRule] at hee hb0
        obtain ⟨y, hy0⟩ : ∃ y, elems[0]? = some y := ⟨elems[0]'(by omega), List.getElem?_eq_getElem _⟩
        rw [hy0, Option.bind_eq_some_iff] at hb0
        obtain ⟨cs0, hcs0, -⟩ := hb0
        have hc0 := (World.cells?_some hcs0).2.2 0 (by omega)
        have hlen0 := (World.cells?_some hcs0).2.1
        obtain ⟨b, o, spot⟩ := a
        have hsp : spot = none := by
          cases spot with
          | none => rfl
          | some q =>
            rw [List.getElem?_eq_getElem (by omega)] at hc0
            simp only [Nat.zero_mul, Addr.add, if_true, World.cell?] at hc0
            split at hc0
            · simp at hc0
            · cases hc0
        subst hsp
        have hc0' : w.cell? ⟨b, o, none⟩ = some (cs0[0]'(by omega)) := by
          rw [List.getElem?_eq_getElem (by omega)] at hc0
          simpa [Addr.add] using hc0
        have hblt := World.block_lt_of_cell? _ _ hc0'
        obtain ⟨l, hll, hL⟩ := open_rule_row (enc := enc) (sp := sp) (held := held) (m := m) b o elems 0 (fun i hi => by
          have := hee i (by omega)
          rw [addr_add_none] at this
          rw [← this, Nat.zero_add])
        refine ⟨some ⟨b, o, none⟩, cap0, l, by rw [hll, hel], ⟨by omega, hcm, .inr ⟨b, o, rfl, hblt, fun i hi j hj => ?_⟩⟩, by rw [hll]; exact hbytes⟩
        have := hL i hi j hj
        rw [Nat.zero_add] at this
        exact this
set_option maxRecDepth 100000 in
/-- A rule among the arguments. -/
theorem open_rule {base : Nat} {v : Value} {d : DataW H} {p : List MemPlace} (hok : Value.okWide Tryz.prog w .any base 56 v) (h : DataW.Trod enc Tryz.prog w 0 sp held 56 v d p) :
    ∃ r : RuV, v = r.val := by
  obtain ⟨fuel, hf⟩ := h
  obtain ⟨r, hr⟩ := open_rule_cells hf
  simp only [Value.okWide, Tryz.underlying56] at hok
  obtain ⟨cs, rfl, -, -⟩ := hok
  refine ⟨r, ?_⟩
  simp only [Value.cells] at hr
  unfold RuV.val
  congr 1
  apply Array.toList_inj.1
  exact hr
theorem cellsPair : Tryz.prog.cellsOf 40 = 3 := by kernel_rfl
theorem lst3 {α : Type} {l : List α} (h : l.length = 3) : ∃ a b c, l = [a, b, c] := by
  match l, h with
  | [a, b, c], _ => exact ⟨a, b, c, rfl⟩
set_option maxRecDepth 100000 in
/-- A pair of levels among the arguments. -/
theorem open_pair3 {base : Nat} {v : Value} {d : DataW H} {p : List MemPlace} (hok : Value.okWide Tryz.prog w .any base 40 v) (h : DataW.Trod enc Tryz.prog w 0 sp held 40 v d p) :
    ∃ a b c : Int, v = .agg #[.int .i64 a, .int .i64 b, .int .i64 c] := by
  obtain ⟨fuel, hf0⟩ := h
  obtain ⟨xs, n, -, -, hl, hlen, hf⟩ := DataW.trod_struct Tryz.underlying40 hf0
  have f0 : DataW.trod enc Tryz.prog w 0 sp held n 3 ((v.cells.toList.drop 0).take (Tryz.prog.cellsOf 3)) = xs[0]? := hf 0 _ rfl
  have f1 : DataW.trod enc Tryz.prog w 0 sp held n 3 ((v.cells.toList.drop 1).take (Tryz.prog.cellsOf 3)) = xs[1]? := hf 1 _ rfl
  have f2 : DataW.trod enc Tryz.prog w 0 sp held n 3 ((v.cells.toList.drop 2).take (Tryz.prog.cellsOf 3)) = xs[2]? := hf 2 _ rfl
  clear hf hf0
  obtain ⟨y0, y1, y2, rfl⟩ := lst3 hlen
  rw [cellsPair] at hl
  obtain ⟨c0, c1, c2, hcs⟩ := lst3 hl
  rw [hcs] at f0 f1 f2
  simp only [cellsI, List.drop_zero, List.drop_succ_cons, List.take_succ_cons, List.take_zero, List.getElem?_cons_zero, List.getElem?_cons_succ] at f0 f1 f2
  obtain ⟨a, ha, -, -⟩ := DataW.trod_int Tryz.underlying3 f0
  obtain ⟨b, hb, -, -⟩ := DataW.trod_int Tryz.underlying3 f1
  obtain ⟨c, hc, -, -⟩ := DataW.trod_int Tryz.underlying3 f2
  simp only [List.cons.injEq, and_true] at ha hb hc
  subst ha; subst hb; subst hc
  simp only [Value.okWide, Tryz.underlying40] at hok
  obtain ⟨cs, rfl, -, -⟩ := hok
  simp only [Value.cells] at hcs
  refine ⟨a, b, c, ?_⟩
  congr 1
  apply Array.toList_inj.1
  exact hcs
end
end Go.Proofs.YtjhclopdcbnmkaaGreatDoor
