/- PROVED HERE: 'TopPatterns' of castellantop answers true for any rules by expressions and any payload: what is meant is what goes out, ends without a panic, and changes nothing that its arguments reach (theorem 'topPatterns.card'; it is the given 'TopPatternsCardSaid'). CONDITIONS: those of the given row and card alone: its loops and its recursion are followed to their end, the package-level tables and error values hold what their texts lay, and what the arguments hold is of a size that a machine can hold. -/
import Derived.Test.YtjhclopdcbnmkaaGreatDoorCB
import Derived.Test.YtjhclopdcbnmkaaGreatDoorW4
set_option linter.unusedSimpArgs false
set_option linter.unusedVariables false
/- CP. -/
namespace Go.Proofs.YtjhclopdcbnmkaaGreatDoor
open Go.ChangeShapes Go.WideShapes Go.ChangeAt Go.RowKit

theorem pow_laid {W : World} (h : laidMetH Tryz.prog rowLaid W) : PowAt W := by
  have h1 : laidMet Tryz.prog rowLaid W := h
  have h2 := laidMet_tail (laidMet_tail h1)
  exact Lib.tabIs_of_head (g := 2) (t := 172) (e := 22) (n := 20) (by kernel_rfl) (by kernel_rfl) Tryz.underlying172 Tryz.underlying22 (by kernel_rfl) (by kernel_rfl) h2
end Go.Proofs.YtjhclopdcbnmkaaGreatDoor
/- CR. -/
namespace Go.Proofs.YtjhclopdcbnmkaaGreatDoor
open Go.ChangeShapes Go.WideShapes Go.ChangeAt Go.RowKit

theorem cellsRule : Tryz.prog.cellsOf 56 = 5 := by kernel_rfl
theorem cellsI : Tryz.prog.cellsOf 3 = 1 := by kernel_rfl
theorem cellsS : Tryz.prog.cellsOf 9 = 1 := by kernel_rfl
theorem bytesRule : Tryz.prog.bytesOf 56 = 56 := by kernel_rfl
theorem lst5 {α : Type} {l : List α} (h : l.length = 5) : ∃ a b c d e, l = [a, b, c, d, e] := by
  match l, h with
  | [a, b, c, d, e], _ => exact ⟨a, b, c, d, e, rfl⟩
section
variable {H : Type} {enc : TypeId × Value → H} {w : World} {sp : Nat → Bool} {held : Bool}
set_option maxRecDepth 100000 in
/-- A rule's cells. -/
theorem open_rule_cells {fuel : Nat} {cs : List Value} {x : DataW H × List MemPlace} (h : DataW.trod enc Tryz.prog w 0 sp held fuel 56 cs = some x) :
    ∃ r : RuV, cs = r.cells := by
  obtain ⟨xs, n, -, rfl, hl, hlen, hf⟩ := DataW.trod_struct Tryz.underlying56 h
  have f0 : DataW.trod enc Tryz.prog w 0 sp held n 3 ((cs.drop 0).take (Tryz.prog.cellsOf 3)) = xs[0]? := hf 0 _ rfl
  have f1 : DataW.trod enc Tryz.prog w 0 sp held n 3 ((cs.drop 1).take (Tryz.prog.cellsOf 3)) = xs[1]? := hf 1 _ rfl
  have f2 : DataW.trod enc Tryz.prog w 0 sp held n 3 ((cs.drop 2).take (Tryz.prog.cellsOf 3)) = xs[2]? := hf 2 _ rfl
  have f3 : DataW.trod enc Tryz.prog w 0 sp held n 9 ((cs.drop 3).take (Tryz.prog.cellsOf 9)) = xs[3]? := hf 3 _ rfl
  have f4 : DataW.trod enc Tryz.prog w 0 sp held n 9 ((cs.drop 4).take (Tryz.prog.cellsOf 9)) = xs[4]? := hf 4 _ rfl
  clear hf h
  obtain ⟨y0, y1, y2, y3, y4, rfl⟩ := lst5 hlen
  rw [cellsRule] at hl
  obtain ⟨c0, c1, c2, c3, c4, rfl⟩ := lst5 hl
  simp only [cellsI, cellsS, List.drop_zero, List.drop_succ_cons, List.take_succ_cons, List.take_zero, List.getElem?_cons_zero, List.getElem?_cons_succ] at f0 f1 f2 f3 f4
  obtain ⟨a, ha, -, -⟩ := DataW.trod_int Tryz.underlying3 f0
  obtain ⟨b, hb, -, -⟩ := DataW.trod_int Tryz.underlying3 f1
  obtain ⟨c, hc, -, -⟩ := DataW.trod_int Tryz.underlying3 f2
  obtain ⟨p, hp, -, -⟩ := DataW.trod_string Tryz.underlying9 f3
  obtain ⟨q, hq, -, -⟩ := DataW.trod_string Tryz.underlying9 f4
  simp only [List.cons.injEq, and_true] at ha hb hc hp hq
  subst ha; subst hb; subst hc; subst hp; subst hq
  exact ⟨⟨a, b, c, p, q⟩, rfl⟩
/-- A row of rules. -/
theorem open_rule_row {m : Nat} (b o : Nat) : ∀ (elems : List (DataW H × List MemPlace)) (k : Nat), (∀ i, i < elems.length → (w.cells? 0 (⟨b, o + (k + i) * 5, none⟩) 5).bind (DataW.trod enc Tryz.prog w 0 sp held m 56) = elems[i]?) →
    ∃ l : List RuV, l.length = elems.length ∧ ∀ i (h : i < l.length) j, j < 5 → w.cell? ⟨b, o + (k + i) * 5 + j, none⟩ = l[i].cells[j]?
  | [], k, _ => ⟨[], rfl, fun i h => by simp at h⟩
  | y :: ys, k, h => by
    have h0 := h 0 (by simp)
    simp only [List.getElem?_cons_zero, Option.bind_eq_some_iff] at h0
    obtain ⟨cs, hcs, ht⟩ := h0
    obtain ⟨r, rfl⟩ := open_rule_cells ht
    obtain ⟨l, hl, hL⟩ := open_rule_row b o ys (k + 1) (fun i hi => by
      have := h (i + 1) (by simp; omega)
      rw [List.getElem?_cons_succ] at this
      rw [← this, show k + (i + 1) = k + 1 + i by omega])
    refine ⟨r :: l, by simp [hl], fun i hi j hj => ?_⟩
    match i, hi with
    | 0, _ =>
      have := (World.cells?_some hcs).2.2 j hj
      rw [addr_add_none] at this
      simpa using this
    | i + 1, hi =>
      have := hL i (by simpa using hi) j hj
      rw [show k + (i + 1) = k + 1 + i by omega]
      exact this
set_option maxRecDepth 100000 in
/-- Rules among the arguments. -/
theorem open_rules {base : Nat} {v : Value} {d : DataW H} {p : List MemPlace} (hok : Value.okWide Tryz.prog w .any base 38 v) (h : DataW.Trod enc Tryz.prog w 0 sp held 38 v d p) (hw : ∀ n ∈ d.weights Tryz.prog 38, n ≤ reachBytes) :
    ∃ (a : Option Addr) (cap : Nat) (l : List RuV), v = .slice a l.length cap ∧ RulesIn w a cap l ∧ l.length * 56 ≤ reachBytes := by
  obtain ⟨fuel, hf⟩ := h
  obtain ⟨a0, len0, cap0, rfl⟩ := okWide_slice Tryz.underlying38 hok
  simp only [Value.cells] at hf
  rcases DataW.trod_slice Tryz.underlying38 hf with ⟨hc, -⟩ | ⟨a, len, cap, elems, rest, m, hm, hc, hy, -, hlc, hcm, hel, hee, -⟩
  · simp only [List.cons.injEq, and_true, Value.slice.injEq] at hc
    obtain ⟨rfl, rfl, rfl⟩ := hc
    exact ⟨none, 0, [], rfl, ⟨by simp, by simp, .inl rfl⟩, by simp⟩
  · simp only [List.cons.injEq, and_true, Value.slice.injEq] at hc
    obtain ⟨rfl, rfl, rfl⟩ := hc
    have hbytes : elems.length * 56 ≤ reachBytes := by
      obtain ⟨rfl, -⟩ := Prod.mk.inj hy
      simp only [DataW.weights, Tryz.underlying38, bytesRule, List.mem_cons, List.mem_append, List.length_map] at hw
      have := hw _ (.inl rfl)
      exact Nat.le_trans (Nat.mul_le_mul_right _ (Nat.le_add_right _ _)) this
    · by_cases h0 : len0 = 0
      · subst h0
        exact ⟨some a, cap0, [], rfl, ⟨by simp, hcm, .inl rfl⟩, by simp⟩
      · have hb0 := hee 0 (by omega)
        rw [cellsRule] at hee hb0
        obtain ⟨y, hy0⟩ : ∃ y, elems[0]? = some y := ⟨elems[0]'(by omega), List.getElem?_eq_getElem _⟩
        rw [hy0, Option.bind_eq_some_iff] at hb0
        obtain ⟨cs0, hcs0, -⟩ := hb0
        have hc0 := (World.cells?_some hcs0).2.2 0 (by omega)
        have hlen0 := (World.cells?_some hcs0).2.1
        obtain ⟨b, o, spot⟩ := a
        have hsp : spot = none := by
          cases spot with
          | none => rfl
          | some q =>
            rw [List.getElem?_eq_getElem (by omega)] at hc0
            simp only [Nat.zero_mul, Addr.add, if_true, World.cell?] at hc0
            split at hc0
            · simp at hc0
            · cases hc0
        subst hsp
        have hc0' : w.cell? ⟨b, o, none⟩ = some (cs0[0]'(by omega)) := by
          rw [List.getElem?_eq_getElem (by omega)] at hc0
          simpa [Addr.add] using hc0
        have hblt := World.block_lt_of_cell? _ _ hc0'
        obtain ⟨l, hll, hL⟩ := open_rule_row (enc := enc) (sp := sp) (held := held) (m := m) b o elems 0 (fun i hi => by
          have := hee i (by omega)
          rw [addr_add_none] at this
          rw [← this, Nat.zero_add])
        refine ⟨some ⟨b, o, none⟩, cap0, l, by rw [hll, hel], ⟨by omega, hcm, .inr ⟨b, o, rfl, hblt, fun i hi j hj => ?_⟩⟩, by rw [hll]; exact hbytes⟩
        have := hL i hi j hj
        rw [Nat.zero_add] at this
        exact this
set_option maxRecDepth 100000 in
/-- A rule among the arguments. -/
theorem open_rule {base : Nat} {v : Value} {d : DataW H} {p : List MemPlace} (hok : Value.okWide Tryz.prog w .any base 56 v) (h : DataW.Trod enc Tryz.prog w 0 sp held 56 v d p) :
    ∃ r : RuV, v = r.val := by
  obtain ⟨fuel, hf⟩ := h
  obtain ⟨r, hr⟩ := open_rule_cells hf
  simp only [Value.okWide, Tryz.underlying56] at hok
  obtain ⟨cs, rfl, -, -⟩ := hok
  refine ⟨r, ?_⟩
  simp only [Value.cells] at hr
  unfold RuV.val
  congr 1
  apply Array.toList_inj.1
  exact hr
theorem cellsPair : Tryz.prog.cellsOf 40 = 3 := by kernel_rfl
theorem lst3 {α : Type} {l : List α} (h : l.length = 3) : ∃ a b c, l = [a, b, c] := by
  match l, h with
  | [a, b, c], _ => exact ⟨a, b, c, rfl⟩
set_option maxRecDepth 100000 in
/-- A pair of levels among the arguments. -/
theorem open_pair3 {base : Nat} {v : Value} {d : DataW H} {p : List MemPlace} (hok : Value.okWide Tryz.prog w .any base 40 v) (h : DataW.Trod enc Tryz.prog w 0 sp held 40 v d p) :
    ∃ a b c : Int, v = .agg #[.int .i64 a, .int .i64 b, .int .i64 c] := by
  obtain ⟨fuel, hf0⟩ := h
  obtain ⟨xs, n, -, -, hl, hlen, hf⟩ := DataW.trod_struct Tryz.underlying40 hf0
  have f0 : DataW.trod enc Tryz.prog w 0 sp held n 3 ((v.cells.toList.drop 0).take (Tryz.prog.cellsOf 3)) = xs[0]? := hf 0 _ rfl
  have f1 : DataW.trod enc Tryz.prog w 0 sp held n 3 ((v.cells.toList.drop 1).take (Tryz.prog.cellsOf 3)) = xs[1]? := hf 1 _ rfl
  have f2 : DataW.trod enc Tryz.prog w 0 sp held n 3 ((v.cells.toList.drop 2).take (Tryz.prog.cellsOf 3)) = xs[2]? := hf 2 _ rfl
  clear hf hf0
  obtain ⟨y0, y1, y2, rfl⟩ := lst3 hlen
  rw [cellsPair] at hl
  obtain ⟨c0, c1, c2, hcs⟩ := lst3 hl
  rw [hcs] at f0 f1 f2
  simp only [cellsI, List.drop_zero, List.drop_succ_cons, List.take_succ_cons, List.take_zero, List.getElem?_cons_zero, List.getElem?_cons_succ] at f0 f1 f2
  obtain ⟨a, ha, -, -⟩ := DataW.trod_int Tryz.underlying3 f0
  obtain ⟨b, hb, -, -⟩ := DataW.trod_int Tryz.underlying3 f1
  obtain ⟨c, hc, -, -⟩ := DataW.trod_int Tryz.underlying3 f2
  simp only [List.cons.injEq, and_true] at ha hb hc
  subst ha; subst hb; subst hc
  simp only [Value.okWide, Tryz.underlying40] at hok
  obtain ⟨cs, rfl, -, -⟩ := hok
  simp only [Value.cells] at hcs
  refine ⟨a, b, c, ?_⟩
  congr 1
  apply Array.toList_inj.1
  exact hcs
end
end Go.Proofs.YtjhclopdcbnmkaaGreatDoor
/- W6. -/
namespace Go.Proofs.YtjhclopdcbnmkaaGreatDoor
open Go.ChangeShapes Go.WideShapes Go.ChangeAt Go.RowKit

theorem cellsMeant : Tryz.prog.cellsOf 53 = 19 := by kernel_rfl
theorem cellsAsked : Tryz.prog.cellsOf 51 = 3 := by kernel_rfl
theorem lst19 {α : Type} {l : List α} (h : l.length = 19) : ∃ c0 c1 c2 c3 c4 c5 c6 c7 c8 c9 c10 c11 c12 c13 c14 c15 c16 c17 c18, l = [c0, c1, c2, c3, c4, c5, c6, c7, c8, c9, c10, c11, c12, c13, c14, c15, c16, c17, c18] := by
  match l, h with
  | [c0, c1, c2, c3, c4, c5, c6, c7, c8, c9, c10, c11, c12, c13, c14, c15, c16, c17, c18], _ => exact ⟨c0, c1, c2, c3, c4, c5, c6, c7, c8, c9, c10, c11, c12, c13, c14, c15, c16, c17, c18, rfl⟩
section
variable {H : Type} {enc : TypeId × Value → H} {w : World} {sp : Nat → Bool} {held : Bool}
set_option maxRecDepth 100000 in
theorem open_meant_cells {fuel : Nat} {cs : List Value} {x : DataW H × List MemPlace} (h : DataW.trod enc Tryz.prog w 0 sp held fuel 53 cs = some x)
    (hwt : ∀ n ∈ x.1.weights Tryz.prog 53, n ≤ reachBytes) : ∃ m : MeV, cs = m.cells ∧ m.In w ∧ I64 m.fr ∧ I64 m.tu ∧ I64 m.act := by
  obtain ⟨xs, n, -, rfl, hl, hlen, hf⟩ := DataW.trod_struct Tryz.underlying53 h
  have f0 : DataW.trod enc Tryz.prog w 0 sp held n 3 ((cs.drop 0).take (Tryz.prog.cellsOf 3)) = xs[0]? := hf 0 _ rfl
  have f1 : DataW.trod enc Tryz.prog w 0 sp held n 3 ((cs.drop 1).take (Tryz.prog.cellsOf 3)) = xs[1]? := hf 1 _ rfl
  have f2 : DataW.trod enc Tryz.prog w 0 sp held n 26 ((cs.drop 2).take (Tryz.prog.cellsOf 26)) = xs[2]? := hf 2 _ rfl
  have f3 : DataW.trod enc Tryz.prog w 0 sp held n 3 ((cs.drop 10).take (Tryz.prog.cellsOf 3)) = xs[3]? := hf 3 _ rfl
  have f4 : DataW.trod enc Tryz.prog w 0 sp held n 26 ((cs.drop 11).take (Tryz.prog.cellsOf 26)) = xs[4]? := hf 4 _ rfl
  clear hf h
  obtain ⟨y0, y1, y2, y3, y4, rfl⟩ := lst5 hlen
  rw [cellsMeant] at hl
  obtain ⟨c0, c1, c2, c3, c4, c5, c6, c7, c8, c9, c10, c11, c12, c13, c14, c15, c16, c17, c18, rfl⟩ := lst19 hl
  simp only [cellsI, cellsRx, List.drop_zero, List.drop_succ_cons, List.take_succ_cons, List.take_zero, List.getElem?_cons_zero, List.getElem?_cons_succ] at f0 f1 f2 f3 f4
  obtain ⟨a, ha, -, ha'⟩ := DataW.trod_int Tryz.underlying3 f0
  obtain ⟨b, hb, -, hb'⟩ := DataW.trod_int Tryz.underlying3 f1
  obtain ⟨c, hc, -, hc'⟩ := DataW.trod_int Tryz.underlying3 f3
  simp only [List.cons.injEq, and_true] at ha hb hc
  obtain ⟨X, hX, hinX⟩ := open_regex n _ _ f2 (fun n hn => by
    apply hwt
    simp only [DataW.weights, Tryz.underlying53]
    exact DataW.weights_mem_each (j := 2) (t := 26) (d := y2.1) rfl rfl n hn)
  obtain ⟨Y, hY, hinY⟩ := open_regex n _ _ f4 (fun n hn => by
    apply hwt
    simp only [DataW.weights, Tryz.underlying53]
    exact DataW.weights_mem_each (j := 4) (t := 26) (d := y4.1) rfl rfl n hn)
  subst ha; subst hb; subst hc
  refine ⟨⟨a, b, c, X, Y⟩, ?_, ⟨hinX, hinY⟩, i64_of_wf ha', i64_of_wf hb', i64_of_wf hc'⟩
  unfold MeV.cells
  simp only
  rw [← hX, ← hY]
  rfl
/-- A row of what is meant. -/
theorem open_meant_row {m : Nat} (b o : Nat) : ∀ (elems : List (DataW H × List MemPlace)) (k : Nat), (∀ i, i < elems.length → (w.cells? 0 (⟨b, o + (k + i) * 19, none⟩) 19).bind (DataW.trod enc Tryz.prog w 0 sp held m 53) = elems[i]?) →
    (∀ n ∈ DataW.weightsAll Tryz.prog 53 (elems.map (·.1)), n ≤ reachBytes) →
    ∃ l : List MeV, l.length = elems.length ∧ ∀ i (h : i < l.length), (∀ j, j < 19 → w.cell? ⟨b, o + (k + i) * 19 + j, none⟩ = l[i].cells[j]?) ∧ l[i].In w ∧ I64 l[i].fr ∧ I64 l[i].tu ∧ I64 l[i].act
  | [], k, _, _ => ⟨[], rfl, fun i h => by simp at h⟩
  | y :: ys, k, h, hw => by
    have h0 := h 0 (by simp)
    simp only [List.getElem?_cons_zero, Option.bind_eq_some_iff] at h0
    obtain ⟨cs, hcs, ht⟩ := h0
    simp only [List.map_cons, DataW.weightsAll, List.mem_append] at hw
    obtain ⟨r, rfl, hr⟩ := open_meant_cells ht (fun n hn => hw n (.inl hn))
    obtain ⟨l, hl, hL⟩ := open_meant_row b o ys (k + 1) (fun i hi => by
      have := h (i + 1) (by simp; omega)
      rw [List.getElem?_cons_succ] at this
      rw [← this, show k + (i + 1) = k + 1 + i by omega]) (fun n hn => hw n (.inr hn))
    refine ⟨r :: l, by simp [hl], fun i hi => ?_⟩
    match i, hi with
    | 0, _ =>
      refine ⟨fun j hj => ?_, hr⟩
      have := (World.cells?_some hcs).2.2 j hj
      rw [addr_add_none] at this
      simpa using this
    | i + 1, hi =>
      have := hL i (by simpa using hi)
      rw [show k + (i + 1) = k + 1 + i by omega]
      exact this
set_option maxRecDepth 100000 in
/-- What is meant, among the arguments. -/
theorem open_meants {base : Nat} {v : Value} {d : DataW H} {p : List MemPlace} (hok : Value.okWide Tryz.prog w .any base 49 v) (h : DataW.Trod enc Tryz.prog w 0 sp held 49 v d p) (hw : ∀ n ∈ d.weights Tryz.prog 49, n ≤ reachBytes) :
    ∃ (a : Option Addr) (cap : Nat) (l : List MeV), v = .slice a l.length cap ∧ MeIn w a cap l := by
  obtain ⟨fuel, hf⟩ := h
  obtain ⟨a0, len0, cap0, rfl⟩ := okWide_slice Tryz.underlying49 hok
  simp only [Value.cells] at hf
  rcases DataW.trod_slice Tryz.underlying49 hf with ⟨hc, -⟩ | ⟨a, len, cap, elems, rest, m, hm, hc, hy, -, hlc, hcm, hel, hee, -⟩
  · simp only [List.cons.injEq, and_true, Value.slice.injEq] at hc
    obtain ⟨rfl, rfl, rfl⟩ := hc
    exact ⟨none, 0, [], rfl, ⟨by simp, by simp, .inl rfl⟩⟩
  · simp only [List.cons.injEq, and_true, Value.slice.injEq] at hc
    obtain ⟨rfl, rfl, rfl⟩ := hc
    obtain ⟨rfl, -⟩ := Prod.mk.inj hy
    simp only [DataW.weights, Tryz.underlying49, List.mem_cons, List.mem_append] at hw
    by_cases h0 : len0 = 0
    · subst h0
      exact ⟨some a, cap0, [], rfl, ⟨by simp, hcm, .inl rfl⟩⟩
    · have hb0 := hee 0 (by omega)
      rw [cellsMeant] at hee hb0
      obtain ⟨y, hy0⟩ : ∃ y, elems[0]? = some y := ⟨elems[0]'(by omega), List.getElem?_eq_getElem _⟩
      rw [hy0, Option.bind_eq_some_iff] at hb0
      obtain ⟨cs0, hcs0, -⟩ := hb0
      have hc0 := (World.cells?_some hcs0).2.2 0 (by omega)
      have hlen0 := (World.cells?_some hcs0).2.1
      obtain ⟨b, o, spot⟩ := a
      have hsp : spot = none := by
        cases spot with
        | none => rfl
        | some q =>
          rw [List.getElem?_eq_getElem (by omega)] at hc0
          simp only [Nat.zero_mul, Addr.add, if_true, World.cell?] at hc0
          split at hc0
          · simp at hc0
          · cases hc0
      subst hsp
      have hc0' : w.cell? ⟨b, o, none⟩ = some (cs0[0]'(by omega)) := by
        rw [List.getElem?_eq_getElem (by omega)] at hc0
        simpa [Addr.add] using hc0
      have hblt := World.block_lt_of_cell? _ _ hc0'
      obtain ⟨l, hll, hL⟩ := open_meant_row (enc := enc) (sp := sp) (held := held) (m := m) b o elems 0 (fun i hi => by
        have := hee i (by omega)
        rw [addr_add_none] at this
        rw [← this, Nat.zero_add]) (fun n hn => hw n (.inr (.inl hn)))
      refine ⟨some ⟨b, o, none⟩, cap0, l, by rw [hll, hel], ⟨by omega, hcm, .inr ⟨b, o, rfl, hblt, fun i hi => ?_⟩⟩⟩
      have := hL i hi
      rw [Nat.zero_add] at this
      exact this
set_option maxRecDepth 100000 in
/-- What is asked, among the arguments. -/
theorem open_asked {base : Nat} {v : Value} {d : DataW H} {p : List MemPlace} (hok : Value.okWide Tryz.prog w .any base 51 v) (h : DataW.Trod enc Tryz.prog w 0 sp held 51 v d p) :
    ∃ (a b : Int) (s : ByteArray), v = .agg #[.int .i64 a, .int .i64 b, .string s] ∧ I64 a ∧ I64 b := by
  obtain ⟨fuel, hf0⟩ := h
  obtain ⟨xs, n, -, -, hl, hlen, hf⟩ := DataW.trod_struct Tryz.underlying51 hf0
  have f0 : DataW.trod enc Tryz.prog w 0 sp held n 3 ((v.cells.toList.drop 0).take (Tryz.prog.cellsOf 3)) = xs[0]? := hf 0 _ rfl
  have f1 : DataW.trod enc Tryz.prog w 0 sp held n 3 ((v.cells.toList.drop 1).take (Tryz.prog.cellsOf 3)) = xs[1]? := hf 1 _ rfl
  have f2 : DataW.trod enc Tryz.prog w 0 sp held n 9 ((v.cells.toList.drop 2).take (Tryz.prog.cellsOf 9)) = xs[2]? := hf 2 _ rfl
  clear hf hf0
  obtain ⟨y0, y1, y2, rfl⟩ := lst3 hlen
  rw [cellsAsked] at hl
  obtain ⟨c0, c1, c2, hcs⟩ := lst3 hl
  rw [hcs] at f0 f1 f2
  simp only [cellsI, cellsS, List.drop_zero, List.drop_succ_cons, List.take_succ_cons, List.take_zero, List.getElem?_cons_zero, List.getElem?_cons_succ] at f0 f1 f2
  obtain ⟨a, ha, -, ha'⟩ := DataW.trod_int Tryz.underlying3 f0
  obtain ⟨b, hb, -, hb'⟩ := DataW.trod_int Tryz.underlying3 f1
  obtain ⟨c, hc, -, -⟩ := DataW.trod_string Tryz.underlying9 f2
  simp only [List.cons.injEq, and_true] at ha hb hc
  subst ha; subst hb; subst hc
  simp only [Value.okWide, Tryz.underlying51] at hok
  obtain ⟨cs, rfl, -, -⟩ := hok
  simp only [Value.cells] at hcs
  refine ⟨a, b, c, ?_, i64_of_wf ha', i64_of_wf hb'⟩
  congr 1
  apply Array.toList_inj.1
  exact hcs
end
end Go.Proofs.YtjhclopdcbnmkaaGreatDoor
/- TopCard. -/
namespace Go.Proofs.YtjhclopdcbnmkaaGreatDoor
open Go.ChangeShapes Go.WideShapes Go.ChangeAt Go.RowKit
open Go.ChangeMaps (open_string shut_string)

namespace topPatterns
set_option maxRecDepth 100000 in
theorem contract (H : Type) (enc : TypeId × Value → H) (W : World) (base : Nat) (args : Array Value) (ds gs : List (DataW H)) (before : List MemPlace)
    (hval : ∀ (j : Nat) t v, Tryz.f6.params[j]? = some t → args[j]? = some v → Value.okWide Tryz.prog W .any base t v)
    (hW : DataW.Whole enc Tryz.prog Tryz.f6.params.toList Rows.topPatternsSpec.vars false W args.toList ds gs before)
    (hsz : (DataW.weightsEach Tryz.prog (Tryz.f6.params.toList ++ (OpenSpec.ofChange Rows.topPatternsSpec).bare.plain.varTypes Tryz.prog) (ds ++ gs)).all (· ≤ reachBytes) = true)
    (hL : laidMetH Tryz.prog rowLaid W) :
    Calls Tryz.prog 6 args W fun e W' => ∃ v, e = .returned v ∧ Rows.topPatternsSpec.post enc Tryz.prog Tryz.f6 false true false false W args v W' := by
  have hW' := hW
  have hlt := hW.lt
  obtain ⟨p, q, hA0, hV, rfl, hfz, hnd⟩ := hW
  have hA : DataW.TrodAll enc Tryz.prog W 0 (fun _ => true) true Tryz.f6.params.toList args.toList ds p := hA0
  rw [Tryz.params6] at hA hval hsz
  obtain ⟨v0, vs0, d0, ds0, p0, q0, hargs, rfl, rfl, h0, r0⟩ := trodAll_cons hA
  obtain ⟨v1, vs1, d1, ds1, p1, q1, rfl, rfl, rfl, h1, r1⟩ := trodAll_cons r0
  obtain ⟨rfl, rfl, rfl⟩ := trodAll_nil r1
  obtain rfl : args = #[v0, v1] := by cases args; simp_all
  obtain ⟨rfl, rfl⟩ := trodVars_none hV
  have g0 : Value.okWide Tryz.prog W .any base 49 v0 := hval 0 _ v0 rfl rfl
  obtain ⟨a0, c0, l0, rfl, hin0⟩ := open_meants g0 h0 (fun n hn => by
    have := List.all_eq_true.1 hsz n (DataW.weights_mem_each (j := 0) (t := 49) (d := d0) rfl rfl n hn)
    simpa using this)
  obtain ⟨n1, m1, s1, rfl, hn1, hm1⟩ := open_asked (hval 1 _ v1 rfl rfl) h1
  clear hA0
  refine (top_any W a0 c0 l0 n1 m1 s1 hin0 hn1 hm1 (tab_laid hL) (pow_laid hL)).mono fun e W' ⟨he, hb⟩ => ?_
  subst he
  refine ⟨_, rfl, [d0, d1], [], _, [], p0 ++ (p1 ++ ([])), [], hW', trodAll_cons_mk (shut_bool Tryz.underlying4 _) trodAll_mk0, ?_, rfl, hb.frame _, fun h => by cases h⟩
  show DataW.TrodAll enc Tryz.prog W' 0 _ true Tryz.f6.params.toList [.slice a0 l0.length c0, .agg #[.int .i64 n1, .int .i64 m1, .string s1]] [d0, d1] _
  rw [Tryz.params6]
  exact trodAll_cons_mk (back (by kernel_rfl) (of_decide_eq_true (by kernel_rfl)) h0 hb (fun x hx => hlt x (by simp [hx])))
    (trodAll_cons_mk (back (by kernel_rfl) (of_decide_eq_true (by kernel_rfl)) h1 hb (fun x hx => hlt x (by simp [hx]))) trodAll_mk0)

abbrev witness : Array Value := #[.slice none 0 0, .agg #[.int .i64 0, .int .i64 0, .string ⟨#[]⟩]]
theorem laid_met (os : Os) : laidMet Tryz.prog rowLaid ((laidWorld os).forCall (fun _ _ => 0) ⟨#[], witness, []⟩).memory :=
  laidMet_of_run' 8 (by kernel_rfl) (by kernel_rfl)
theorem reads (os : Os) {H : Type} (enc : TypeId × Value → H) : ∃ places, DataW.whole enc Tryz.prog ((laidWorld os).forCall (fun _ _ => 0) ⟨#[], witness, []⟩).memory Tryz.f6.params.toList Rows.topPatternsSpec.vars false witness.toList 8
    = some ([.nil, .agg [.lit (.int .i64 0), .lit (.int .i64 0), .lit (.string [])]], [], places) :=
  ⟨[], by kernel_rfl⟩

set_option maxRecDepth 100000 in
theorem lifted (os : Os) (started : os.Started) (H : Type) (enc : TypeId × Value → H) (F : Stop.Interp) :
    ReturnsInHanded {} Tryz.checked os 6 .any ((OpenSpec.ofChange Rows.topPatternsSpec).preRow enc Tryz.prog Tryz.f6 Rows.topPatternsRow.domain false Rows.topPatternsRow.laid) (((OpenSpec.ofChange Rows.topPatternsSpec).at F).post enc Tryz.prog Tryz.f6 false true false false) := by
  obtain ⟨places, hx⟩ := reads os enc
  refine returnsInHanded_of_row (C := Tryz.checked) (s := OpenSpec.ofChange Rows.topPatternsSpec) own started (by kernel_rfl) Tryz.func6
    (witness_row_at (enc := enc) (C := Tryz.checked) false (laidWorld os) witness rfl (by kernel_rfl) (by kernel_rfl) (by kernel_rfl)
      (OpenSpec.preRow_of_cond 8 hx (by kernel_rfl) (fun k hk => by cases hk) (by kernel_rfl) (laid_met os))) ?_
  intro W base args ds gs before hval hW _ _ hsz hL _ _
  exact contract H enc W base args ds gs before hval hW hsz hL

theorem said : Rows.TopPatternsSaid :=
  OpenClaim.holds_of_cond 6 Tryz.f6 rfl rfl rfl rfl rfl rfl rfl ⟨rfl, rfl, rfl, rfl, rfl⟩ rfl rfl rfl rfl rfl (by kernel_rfl) Tryz.func6 (by kernel_rfl)
    (of_decide_eq_true (by kernel_rfl)) (by unfold Func.isWrapper; first | (rw [if_pos (by decide +kernel)]; kernel_rfl) | (rw [if_neg (by decide +kernel)]; exact ⟨rfl, rfl⟩))
    (fun os started H enc _ F => by rw [OpenClaim.pre_eq_preRow]; exact lifted os started H enc F)

theorem plain (f : FuncId) (fn : Func) (hf : Tryz.pinned.checked.prog.funcNamed "castellan/castellantop.TopPatterns" = some f) (hfn : Tryz.pinned.checked.prog.funcs[f]? = some fn) :
    true = Tryz.pinned.checked.prog.looks [] ∧ ∀ (j : Nat) t, fn.params[j]? = some t → Tryz.pinned.checked.prog.wantsStandIn t = false := by
  obtain rfl : f = 6 := Option.some.inj ((show Tryz.prog.funcNamed "castellan/castellantop.TopPatterns" = some 6 by kernel_rfl).symm.trans hf) |>.symm
  obtain rfl : fn = Tryz.f6 := (Option.some.inj (Tryz.func6.symm.trans hfn)).symm
  refine ⟨by kernel_rfl, fun j t ht => ?_⟩
  rw [Tryz.params6] at ht
  have ht := Array.mem_of_getElem? ht
  simp only [List.mem_toArray, List.mem_cons, List.not_mem_nil, or_false] at ht
  rcases ht with rfl | rfl
  · exact (show Tryz.prog.wantsStandIn 49 = false by kernel_rfl)
  · exact (show Tryz.prog.wantsStandIn 51 = false by kernel_rfl)

/-- THE CARD. -/
theorem card : Rows.TopPatternsCardSaid :=
  Claim7.holds_tied_plain_at .later [] _ _ _ _ said (fun _ h => by cases h) (by kernel_rfl) (fun _ h => by cases h) topPatterns_row_tie rfl ⟨rfl, rfl⟩ (by kernel_rfl) rfl plain (by kernel_rfl)
end topPatterns
end Go.Proofs.YtjhclopdcbnmkaaGreatDoor
