/- What the journal's cards share: the laid tables, an argument that reads as before, a shape and deeds among the arguments. -/
import Derived.Test.YtjgkhdanhglgeaaGreatDoorCards
import Derived.Test.YtjgkhdanhglgeaaGreatDoorTie
import Derived.Test.YtjgkhdanhglgeaaGreatDoorJg20
import Derived.WalkKit
import Derived.ProofKit
import Derived.OpenShut
import Derived.Deep.DeepHandedRow
import Derived.Lib.LaidTab
import Derived.ChangeMaps5
import Derived.Carry
set_option linter.unusedSimpArgs false
set_option linter.unusedVariables false
namespace Go.Proofs.YtjgkhdanhglgeaaGreatDoor
open Go.ChangeShapes Go.WideShapes Go.ChangeAt Go.RowKit PJ Go.Maps

/-- The rows' list. -/
abbrev rowLaid : List (String × DataW Unit) := [("unicode/utf8.acceptRanges", Rows.laid_unicode_utf8_acceptRanges), ("unicode/utf8.first", Rows.laid_unicode_utf8_first)]
/-- The cells of a datum that is laid: numbers, and arrays and structs of numbers. -/
def cellsOfData : Nat → DataW Unit → List Value
  | 0, _ => []
  | _ + 1, .lit (.int k n) => [.int k n]
  | f + 1, .agg l => l.flatMap (cellsOfData f)
  | _ + 1, _ => []
def putCells (g : Nat) (cs : List Value) (h : Array Obj) : Array Obj := h.modify g fun
  | .cells _ t frozen => .cells cs.toArray t frozen
  | o => o
/-- The settled world; the tables hold what their initialisers lay. -/
noncomputable def laidWorld (os : Os) : World :=
  let w0 := World.holding Tryz.prog os ⟨#[], #[], []⟩
  { w0 with heap := putCells 1 (cellsOfData 3 Rows.laid_unicode_utf8_first) (putCells 2 (cellsOfData 3 Rows.laid_unicode_utf8_acceptRanges) w0.heap) }
theorem own : ownKnob Tryz.prog.godebug = none := by kernel_rfl
theorem laidOut : laidOutB Tryz.prog = true := by kernel_rfl
/-- An argument reads as before. -/
theorem back {H : Type} {enc : TypeId × Value → H} {W W' : World} {t : TypeId} {v : Value} {d : DataW H} {p : List MemPlace} (hr : Tryz.prog.readableRec t = true) (hrow : t < Tryz.prog.types.size)
    (h : DataW.Trod enc Tryz.prog W 0 (fun _ => true) true t v d p) (hb : Below W.heap.size W W') (hlt : ∀ x ∈ p, x.block < W.heap.size) : DataW.Trod enc Tryz.prog W' 0 (fun b => decide (b < W.heap.size)) true t v d p :=
  Below.trod laidOut hr hrow h hb hlt
def I64 (n : Int) : Prop := -9223372036854775808 ≤ n ∧ n ≤ 9223372036854775807
theorem i64_of_wf {n : Int} (h : (Lit.int .i64 n).wf = true) : I64 n := by
  simp [Lit.wf, IntKind.min, IntKind.max, IntKind.signed, IntKind.bits] at h
  unfold I64; omega
theorem jcellsI : Tryz.prog.cellsOf 3 = 1 := by kernel_rfl
theorem jcellsS : Tryz.prog.cellsOf 9 = 1 := by kernel_rfl
theorem jcellsShape : Tryz.prog.cellsOf 23 = 3 := by kernel_rfl
theorem jcellsW : Tryz.prog.cellsOf 82 = 2 := by kernel_rfl
theorem jcellsD : Tryz.prog.cellsOf 37 = 1 := by kernel_rfl
theorem jbytesW : Tryz.prog.bytesOf 82 = 24 := by kernel_rfl
theorem jbytesD : Tryz.prog.bytesOf 37 = 24 := by kernel_rfl
theorem jl2 {α : Type} {l : List α} (h : l.length = 2) : ∃ a b, l = [a, b] := by
  match l, h with
  | [a, b], _ => exact ⟨a, b, rfl⟩
theorem jl3 {α : Type} {l : List α} (h : l.length = 3) : ∃ a b c, l = [a, b, c] := by
  match l, h with
  | [a, b, c], _ => exact ⟨a, b, c, rfl⟩
theorem jl1 {α : Type} {l : List α} (h : l.length = 1) : ∃ a, l = [a] := by
  match l, h with
  | [a], _ => exact ⟨a, rfl⟩
section
variable {H : Type} {enc : TypeId × Value → H} {w : World} {sp : Nat → Bool} {held : Bool}
set_option maxRecDepth 100000 in
theorem open_shape {base : Nat} {v : Value} {d : DataW H} {p : List MemPlace} (hok : Value.okWide Tryz.prog w .any base 23 v) (h : DataW.Trod enc Tryz.prog w 0 sp held 23 v d p) :
    ∃ a b c : Int, v = .agg #[.int .i64 a, .int .i64 b, .int .i64 c] ∧ I64 a ∧ I64 b ∧ I64 c := by
  obtain ⟨fuel, hf0⟩ := h
  obtain ⟨xs, n, -, -, hl, hlen, hf⟩ := DataW.trod_struct Tryz.underlying23 hf0
  have f0 : DataW.trod enc Tryz.prog w 0 sp held n 3 ((v.cells.toList.drop 0).take (Tryz.prog.cellsOf 3)) = xs[0]? := hf 0 _ rfl
  have f1 : DataW.trod enc Tryz.prog w 0 sp held n 3 ((v.cells.toList.drop 1).take (Tryz.prog.cellsOf 3)) = xs[1]? := hf 1 _ rfl
  have f2 : DataW.trod enc Tryz.prog w 0 sp held n 3 ((v.cells.toList.drop 2).take (Tryz.prog.cellsOf 3)) = xs[2]? := hf 2 _ rfl
  clear hf hf0
  obtain ⟨y0, y1, y2, rfl⟩ := jl3 hlen
  rw [jcellsShape] at hl
  obtain ⟨c0, c1, c2, hcs⟩ := jl3 hl
  rw [hcs] at f0 f1 f2
  simp only [jcellsI, List.drop_zero, List.drop_succ_cons, List.take_succ_cons, List.take_zero, List.getElem?_cons_zero, List.getElem?_cons_succ] at f0 f1 f2
  obtain ⟨a, ha, -, ha'⟩ := DataW.trod_int Tryz.underlying3 f0
  obtain ⟨b, hb, -, hb'⟩ := DataW.trod_int Tryz.underlying3 f1
  obtain ⟨c, hc, -, hc'⟩ := DataW.trod_int Tryz.underlying3 f2
  simp only [List.cons.injEq, and_true] at ha hb hc
  subst ha; subst hb; subst hc
  simp only [Value.okWide, Tryz.underlying23] at hok
  obtain ⟨cs, rfl, -, -⟩ := hok
  simp only [Value.cells] at hcs
  refine ⟨a, b, c, ?_, i64_of_wf ha', i64_of_wf hb', i64_of_wf hc'⟩
  congr 1
  apply Array.toList_inj.1
  exact hcs
set_option maxRecDepth 100000 in
theorem jcs_write {fuel : Nat} {cs : List Value} {x : DataW H × List MemPlace} (h : DataW.trod enc Tryz.prog w 0 sp held fuel 82 cs = some x) :
    ∃ r : Wr, cs = [.int .i64 r.cell, .string r.data] ∧ r.data.size ≤ 9223372036854775807 := by
  obtain ⟨xs, n, -, rfl, hl, hlen, hf⟩ := DataW.trod_struct Tryz.underlying82 h
  have f0 : DataW.trod enc Tryz.prog w 0 sp held n 3 ((cs.drop 0).take (Tryz.prog.cellsOf 3)) = xs[0]? := hf 0 _ rfl
  have f1 : DataW.trod enc Tryz.prog w 0 sp held n 9 ((cs.drop 1).take (Tryz.prog.cellsOf 9)) = xs[1]? := hf 1 _ rfl
  clear hf h
  rw [jcellsW] at hl
  obtain ⟨y0, y1, rfl⟩ := jl2 hlen
  obtain ⟨c0, c1, rfl⟩ := jl2 hl
  simp only [jcellsI, jcellsS, List.drop_zero, List.drop_succ_cons, List.take_succ_cons, List.take_zero, List.getElem?_cons_zero, List.getElem?_cons_succ] at f0 f1
  obtain ⟨a, h0, -, -⟩ := DataW.trod_int Tryz.underlying3 f0
  obtain ⟨s, h1, -, hs⟩ := DataW.trod_string Tryz.underlying9 f1
  simp only [List.cons.injEq, and_true] at h0 h1
  subst h0; subst h1
  exact ⟨⟨a, s⟩, rfl, by have := hs; simpa [maxLen] using this⟩
theorem jrow_write {m : Nat} (b o : Nat) : ∀ (elems : List (DataW H × List MemPlace)) (k : Nat), (∀ i, i < elems.length → (w.cells? 0 (⟨b, o + (k + i) * 2, none⟩) 2).bind (DataW.trod enc Tryz.prog w 0 sp held m 82) = elems[i]?) →
    ∃ l : List Wr, l.length = elems.length ∧ (∀ j x, l[j]? = some x → WrCells w b (o + (k + j) * 2) x) ∧ ∀ x ∈ l, x.data.size ≤ 9223372036854775807
  | [], k, _ => ⟨[], rfl, fun i x h => by simp at h, fun x hx => by cases hx⟩
  | y :: ys, k, h => by
    have h0 := h 0 (by simp)
    simp only [List.getElem?_cons_zero, Option.bind_eq_some_iff] at h0
    obtain ⟨cs, hcs, ht⟩ := h0
    obtain ⟨r, rfl, hr⟩ := jcs_write ht
    obtain ⟨l, hl, hL, hI⟩ := jrow_write b o ys (k + 1) (fun i hi => by
      have := h (i + 1) (by simp; omega)
      rw [List.getElem?_cons_succ] at this
      rw [← this, show k + (i + 1) = k + 1 + i by omega])
    refine ⟨r :: l, by simp [hl], fun j x hx => ?_, fun x hx => by rcases List.mem_cons.1 hx with rfl | hx; exact hr; exact hI x hx⟩
    match j, hx with
    | 0, hx =>
      obtain rfl : r = x := by simpa using hx
      have t0 := (World.cells?_some hcs).2.2 0 (by simp)
      have t1 := (World.cells?_some hcs).2.2 1 (by simp)
      rw [addr_none] at t0 t1
      exact ⟨t0, t1⟩
    | j + 1, hx =>
      have := hL j x (by simpa using hx)
      rw [show k + (j + 1) = k + 1 + j by omega]
      exact this
theorem spot_none {a : Addr} {n : Nat} {cs : List Value} (hcs : w.cells? 0 (a.add (0 * n)) n = some cs) (hn : 1 ≤ n) : ∃ b o, a = ⟨b, o, none⟩ := by
  obtain ⟨b, o, spot⟩ := a
  cases spot with
  | none => exact ⟨b, o, rfl⟩
  | some q =>
    have hl := (World.cells?_some hcs).2.1
    have hc0 := (World.cells?_some hcs).2.2 0 (by omega)
    rw [List.getElem?_eq_getElem (by omega)] at hc0
    simp only [Nat.zero_mul, Addr.add, if_true, World.cell?] at hc0
    split at hc0
    · simp at hc0
    · cases hc0
theorem weights_in {d : DataW H} {t : TypeId} {n : Nat} : ∀ {l : List (DataW H)}, d ∈ l → n ∈ d.weights Tryz.prog t → n ∈ DataW.weightsAll Tryz.prog t l
  | x :: r, hd, hn => by
    simp only [DataW.weightsAll, List.mem_append]
    rcases List.mem_cons.1 hd with rfl | hd
    · exact .inl hn
    · exact .inr (weights_in hd hn)
set_option maxRecDepth 100000 in
theorem open_deed {fuel : Nat} {c : Value} {x : DataW H × List MemPlace} (hf : DataW.trod enc Tryz.prog w 0 sp held fuel 37 [c] = some x) (hw : ∀ n ∈ x.1.weights Tryz.prog 37, n ≤ reachBytes) :
    ∃ l : List Wr, DeedAt w c l ∧ ∀ x ∈ l, x.data.size ≤ 9223372036854775807 := by
  have hrb : reachBytes ≤ 140737488355328 := by decide
  rcases DataW.trod_slice Tryz.underlying37 hf with ⟨hc, -⟩ | ⟨a, len, cap, elems, rest, m, hm, hc, hy, -, hlc, hcm, hel, hee, -⟩
  · simp only [List.cons.injEq, and_true] at hc
    subst hc
    exact ⟨[], ⟨none, 0, rfl, by simp, by simp, .inl rfl⟩, fun x hx => by cases hx⟩
  · simp only [List.cons.injEq, and_true] at hc
    subst hc
    have hbytes : elems.length * 24 ≤ reachBytes := by
      subst hy
      simp only [DataW.weights, Tryz.underlying37, jbytesW, List.mem_cons, List.mem_append, List.length_map] at hw
      have := hw _ (.inl rfl)
      exact Nat.le_trans (Nat.mul_le_mul_right _ (Nat.le_add_right _ _)) this
    by_cases h0 : len = 0
    · subst h0
      exact ⟨[], ⟨some a, cap, rfl, by simp, by simp, .inl rfl⟩, fun x hx => by cases hx⟩
    · have hb0 := hee 0 (by omega)
      rw [jcellsW] at hee hb0
      obtain ⟨y, hy0⟩ : ∃ y, elems[0]? = some y := ⟨elems[0]'(by omega), List.getElem?_eq_getElem _⟩
      rw [hy0, Option.bind_eq_some_iff] at hb0
      obtain ⟨cs0, hcs0, -⟩ := hb0
      obtain ⟨b, o, rfl⟩ := spot_none hcs0 (by omega)
      have hl0 := (World.cells?_some hcs0).2.1
      have hc0 := (World.cells?_some hcs0).2.2 0 (by omega)
      rw [List.getElem?_eq_getElem (by omega), addr_none, addr_none] at hc0
      have hblt := World.block_lt_of_cell? _ _ hc0
      obtain ⟨l, hll, hL, hI⟩ := jrow_write (enc := enc) (sp := sp) (held := held) (m := m) b o elems 0 (fun i hi => by
        have := hee i (by omega)
        rw [addr_none] at this
        rw [← this, Nat.zero_add])
      refine ⟨l, ⟨some ⟨b, o, none⟩, cap, by rw [hll, hel], by omega, by omega, .inr ⟨b, o, rfl, hblt, fun j x hx => ?_⟩⟩, hI⟩
      have := hL j x hx
      rw [Nat.zero_add] at this
      exact this
set_option maxRecDepth 100000 in
theorem open_deeds {v : Value} {d : DataW H} {p : List MemPlace} (h : DataW.Trod enc Tryz.prog w 0 sp held 24 v d p) (hone : ∃ a n c, v = .slice a n c) (hw : ∀ n ∈ d.weights Tryz.prog 24, n ≤ reachBytes) :
    ∃ a n cap, v = .slice a n cap ∧ DeedsAt w a n cap := by
  have hrb : reachBytes ≤ 140737488355328 := by decide
  obtain ⟨fuel, hf⟩ := h
  obtain ⟨va, vn, vc, rfl⟩ := hone
  rw [show (Value.slice va vn vc).cells.toList = [.slice va vn vc] from rfl] at hf
  rcases DataW.trod_slice Tryz.underlying24 hf with ⟨hc, -⟩ | ⟨a, len, cap, elems, rest, m, hm, hc, hy, -, hlc, hcm, hel, hee, -⟩
  · simp only [List.cons.injEq, and_true] at hc
    exact ⟨none, 0, 0, hc, by omega, by omega, .inl rfl⟩
  · simp only [List.cons.injEq, and_true] at hc
    refine ⟨some a, len, cap, hc, hlc, ?_, ?_⟩
    · obtain ⟨hy1, -⟩ := Prod.mk.inj hy
      subst hy1
      simp only [DataW.weights, Tryz.underlying24, jbytesD, List.mem_cons, List.mem_append, List.length_map] at hw
      have := hw _ (.inl rfl)
      omega
    · by_cases h0 : len = 0
      · exact .inl h0
      · right
        have hb0 := hee 0 (by omega)
        rw [jcellsD] at hee hb0
        obtain ⟨y, hy0⟩ : ∃ y, elems[0]? = some y := ⟨elems[0]'(by omega), List.getElem?_eq_getElem _⟩
        rw [hy0, Option.bind_eq_some_iff] at hb0
        obtain ⟨cs0, hcs0, -⟩ := hb0
        obtain ⟨b, o, rfl⟩ := spot_none hcs0 (by omega)
        refine ⟨b, o, rfl, fun i hi => ?_⟩
        have hbi := hee i hi
        obtain ⟨y, hyi⟩ : ∃ y, elems[i]? = some y := ⟨elems[i]'(by omega), List.getElem?_eq_getElem _⟩
        rw [hyi, Option.bind_eq_some_iff] at hbi
        obtain ⟨cs, hcs, ht⟩ := hbi
        have hl1 := (World.cells?_some hcs).2.1
        obtain ⟨c, rfl⟩ := jl1 hl1
        have hc0 := (World.cells?_some hcs).2.2 0 (by omega)
        rw [addr_none, addr_none, Nat.mul_one, Nat.add_zero] at hc0
        obtain ⟨l, hd, hsz⟩ := open_deed ht (fun n hn => by
          obtain ⟨hy1, -⟩ := Prod.mk.inj hy
          subst hy1
          simp only [DataW.weights, Tryz.underlying24, List.mem_cons, List.mem_append] at hw
          exact hw n (.inr (.inl (weights_in (List.mem_map.2 ⟨y, List.mem_of_getElem? hyi, rfl⟩) hn))))
        exact ⟨c, l, hc0, hd, hsz⟩
end
end Go.Proofs.YtjgkhdanhglgeaaGreatDoor
