/- What the audit's cards share: the laid tables, an argument that reads as before, a record, a shape and texts among the arguments. -/
import Derived.Test.YtfpbocjmlhcgiaaGreatDoorCards
import Derived.Test.YtfpbocjmlhcgiaaGreatDoorTie
import Derived.Test.YtfpbocjmlhcgiaaGreatDoorAg2
import Derived.WalkKit
import Derived.ProofKit
import Derived.OpenShut
import Derived.Deep.DeepHandedRow
import Derived.Lib.LaidTab
import Derived.ChangeMaps5
import Derived.Carry
set_option linter.unusedSimpArgs false
set_option linter.unusedVariables false
namespace Go.Proofs.YtfpbocjmlhcgiaaGreatDoor
open Go.ChangeShapes Go.WideShapes Go.ChangeAt Go.RowKit PJ Go.Maps

/-- The rows' list. -/
abbrev rowLaid : List (String × DataW Unit) := [("unicode/utf8.acceptRanges", Rows.laid_unicode_utf8_acceptRanges), ("unicode/utf8.first", Rows.laid_unicode_utf8_first)]
/-- The cells of a datum that is laid: numbers, and arrays and structs of numbers. -/
def cellsOfData : Nat → DataW Unit → List Value
  | 0, _ => []
  | _ + 1, .lit (.int k n) => [.int k n]
  | f + 1, .agg l => l.flatMap (cellsOfData f)
  | _ + 1, _ => []
def putCells (g : Nat) (cs : List Value) (h : Array Obj) : Array Obj := h.modify g fun
  | .cells _ t frozen => .cells cs.toArray t frozen
  | o => o
/-- The settled world; the tables hold what their initialisers lay. -/
noncomputable def laidWorld (os : Os) : World :=
  let w0 := World.holding Tryz.prog os ⟨#[], #[], []⟩
  { w0 with heap := putCells 1 (cellsOfData 3 Rows.laid_unicode_utf8_first) (putCells 2 (cellsOfData 3 Rows.laid_unicode_utf8_acceptRanges) w0.heap) }
theorem own : ownKnob Tryz.prog.godebug = none := by kernel_rfl
theorem laidOut : laidOutB Tryz.prog = true := by kernel_rfl
/-- An argument reads as before. -/
theorem back {H : Type} {enc : TypeId × Value → H} {W W' : World} {t : TypeId} {v : Value} {d : DataW H} {p : List MemPlace} (hr : Tryz.prog.readableRec t = true) (hrow : t < Tryz.prog.types.size)
    (h : DataW.Trod enc Tryz.prog W 0 (fun _ => true) true t v d p) (hb : Below W.heap.size W W') (hlt : ∀ x ∈ p, x.block < W.heap.size) : DataW.Trod enc Tryz.prog W' 0 (fun b => decide (b < W.heap.size)) true t v d p :=
  Below.trod laidOut hr hrow h hb hlt
def I64 (n : Int) : Prop := -9223372036854775808 ≤ n ∧ n ≤ 9223372036854775807
theorem i64_of_wf {n : Int} (h : (Lit.int .i64 n).wf = true) : I64 n := by
  simp [Lit.wf, IntKind.min, IntKind.max, IntKind.signed, IntKind.bits] at h
  unfold I64; omega
theorem kcellsI : Tryz.prog.cellsOf 3 = 1 := by kernel_rfl
theorem kcellsS : Tryz.prog.cellsOf 9 = 1 := by kernel_rfl
theorem kcellsR : Tryz.prog.cellsOf 49 = 5 := by kernel_rfl
theorem kcellsH : Tryz.prog.cellsOf 23 = 2 := by kernel_rfl
theorem kbytesS : Tryz.prog.bytesOf 9 = 16 := by kernel_rfl
theorem kl2 {α : Type} {l : List α} (h : l.length = 2) : ∃ a b, l = [a, b] := by
  match l, h with
  | [a, b], _ => exact ⟨a, b, rfl⟩
theorem kl5 {α : Type} {l : List α} (h : l.length = 5) : ∃ a b c d e, l = [a, b, c, d, e] := by
  match l, h with
  | [a, b, c, d, e], _ => exact ⟨a, b, c, d, e, rfl⟩
section
variable {H : Type} {enc : TypeId × Value → H} {w : World} {sp : Nat → Bool} {held : Bool}
set_option maxRecDepth 100000 in
/-- A record among the arguments. -/
theorem open_rec {base : Nat} {v : Value} {d : DataW H} {p : List MemPlace} (hok : Value.okWide Tryz.prog w .any base 49 v) (h : DataW.Trod enc Tryz.prog w 0 sp held 49 v d p) :
    ∃ (n f t r : Int) (s : ByteArray), v = .agg #[.int .i64 n, .int .i64 f, .int .i64 t, .int .i64 r, .string s] := by
  obtain ⟨fuel, hf0⟩ := h
  obtain ⟨xs, m, -, -, hl, hlen, hf⟩ := DataW.trod_struct Tryz.underlying49 hf0
  have f0 : DataW.trod enc Tryz.prog w 0 sp held m 3 ((v.cells.toList.drop 0).take (Tryz.prog.cellsOf 3)) = xs[0]? := hf 0 _ rfl
  have f1 : DataW.trod enc Tryz.prog w 0 sp held m 3 ((v.cells.toList.drop 1).take (Tryz.prog.cellsOf 3)) = xs[1]? := hf 1 _ rfl
  have f2 : DataW.trod enc Tryz.prog w 0 sp held m 3 ((v.cells.toList.drop 2).take (Tryz.prog.cellsOf 3)) = xs[2]? := hf 2 _ rfl
  have f3 : DataW.trod enc Tryz.prog w 0 sp held m 3 ((v.cells.toList.drop 3).take (Tryz.prog.cellsOf 3)) = xs[3]? := hf 3 _ rfl
  have f4 : DataW.trod enc Tryz.prog w 0 sp held m 9 ((v.cells.toList.drop 4).take (Tryz.prog.cellsOf 9)) = xs[4]? := hf 4 _ rfl
  clear hf hf0
  obtain ⟨y0, y1, y2, y3, y4, rfl⟩ := kl5 hlen
  rw [kcellsR] at hl
  obtain ⟨c0, c1, c2, c3, c4, hcs⟩ := kl5 hl
  rw [hcs] at f0 f1 f2 f3 f4
  simp only [kcellsI, kcellsS, List.drop_zero, List.drop_succ_cons, List.take_succ_cons, List.take_zero, List.getElem?_cons_zero, List.getElem?_cons_succ] at f0 f1 f2 f3 f4
  obtain ⟨n, h0, -, -⟩ := DataW.trod_int Tryz.underlying3 f0
  obtain ⟨f, h1, -, -⟩ := DataW.trod_int Tryz.underlying3 f1
  obtain ⟨t, h2, -, -⟩ := DataW.trod_int Tryz.underlying3 f2
  obtain ⟨r, h3, -, -⟩ := DataW.trod_int Tryz.underlying3 f3
  obtain ⟨s, h4, -, -⟩ := DataW.trod_string Tryz.underlying9 f4
  simp only [List.cons.injEq, and_true] at h0 h1 h2 h3 h4
  subst h0; subst h1; subst h2; subst h3; subst h4
  simp only [Value.okWide, Tryz.underlying49] at hok
  obtain ⟨cs, rfl, -, -⟩ := hok
  simp only [Value.cells] at hcs
  refine ⟨n, f, t, r, s, ?_⟩
  congr 1
  apply Array.toList_inj.1
  exact hcs
set_option maxRecDepth 100000 in
/-- A shape among the arguments. -/
theorem open_ashape {base : Nat} {v : Value} {d : DataW H} {p : List MemPlace} (hok : Value.okWide Tryz.prog w .any base 23 v) (h : DataW.Trod enc Tryz.prog w 0 sp held 23 v d p) :
    ∃ a b : Int, v = .agg #[.int .i64 a, .int .i64 b] ∧ I64 a ∧ I64 b := by
  obtain ⟨fuel, hf0⟩ := h
  obtain ⟨xs, n, -, -, hl, hlen, hf⟩ := DataW.trod_struct Tryz.underlying23 hf0
  have f0 : DataW.trod enc Tryz.prog w 0 sp held n 3 ((v.cells.toList.drop 0).take (Tryz.prog.cellsOf 3)) = xs[0]? := hf 0 _ rfl
  have f1 : DataW.trod enc Tryz.prog w 0 sp held n 3 ((v.cells.toList.drop 1).take (Tryz.prog.cellsOf 3)) = xs[1]? := hf 1 _ rfl
  clear hf hf0
  obtain ⟨y0, y1, rfl⟩ := kl2 hlen
  rw [kcellsH] at hl
  obtain ⟨c0, c1, hcs⟩ := kl2 hl
  rw [hcs] at f0 f1
  simp only [kcellsI, List.drop_zero, List.drop_succ_cons, List.take_succ_cons, List.take_zero, List.getElem?_cons_zero, List.getElem?_cons_succ] at f0 f1
  obtain ⟨a, ha, -, ha'⟩ := DataW.trod_int Tryz.underlying3 f0
  obtain ⟨b, hb, -, hb'⟩ := DataW.trod_int Tryz.underlying3 f1
  simp only [List.cons.injEq, and_true] at ha hb
  subst ha; subst hb
  simp only [Value.okWide, Tryz.underlying23] at hok
  obtain ⟨cs, rfl, -, -⟩ := hok
  simp only [Value.cells] at hcs
  refine ⟨a, b, ?_, i64_of_wf ha', i64_of_wf hb'⟩
  congr 1
  apply Array.toList_inj.1
  exact hcs
theorem spot_none {a : Addr} {n : Nat} {cs : List Value} (hcs : w.cells? 0 (a.add (0 * n)) n = some cs) (hn : 1 ≤ n) : ∃ b o, a = ⟨b, o, none⟩ := by
  obtain ⟨b, o, spot⟩ := a
  cases spot with
  | none => exact ⟨b, o, rfl⟩
  | some q =>
    have hl := (World.cells?_some hcs).2.1
    have hc0 := (World.cells?_some hcs).2.2 0 (by omega)
    rw [List.getElem?_eq_getElem (by omega)] at hc0
    simp only [Nat.zero_mul, Addr.add, if_true, World.cell?] at hc0
    split at hc0
    · simp at hc0
    · cases hc0
theorem weights_in {d : DataW H} {t : TypeId} {n : Nat} : ∀ {l : List (DataW H)}, d ∈ l → n ∈ d.weights Tryz.prog t → n ∈ DataW.weightsAll Tryz.prog t l
  | x :: r, hd, hn => by
    simp only [DataW.weightsAll, List.mem_append]
    rcases List.mem_cons.1 hd with rfl | hd
    · exact .inl hn
    · exact .inr (weights_in hd hn)
theorem krow_str {m : Nat} (b o : Nat) : ∀ (elems : List (DataW H × List MemPlace)) (k : Nat), (∀ i, i < elems.length → (w.cells? 0 (⟨b, o + (k + i) * 1, none⟩) 1).bind (DataW.trod enc Tryz.prog w 0 sp held m 9) = elems[i]?) →
    ∃ l : List ByteArray, l.length = elems.length ∧ (∀ j x, l[j]? = some x → w.cell? ⟨b, o + (k + j), none⟩ = some (.string x)) ∧ ∀ x ∈ l, ∃ y ∈ elems, y.1 = .lit (.string x.data.toList)
  | [], k, _ => ⟨[], rfl, fun i x h => by simp at h, fun x hx => by cases hx⟩
  | y :: ys, k, h => by
    have h0 := h 0 (by simp)
    simp only [List.getElem?_cons_zero, Option.bind_eq_some_iff] at h0
    obtain ⟨cs, hcs, ht⟩ := h0
    obtain ⟨s, rfl, hy, -⟩ := DataW.trod_string Tryz.underlying9 ht
    obtain ⟨l, hl, hL, hI⟩ := krow_str b o ys (k + 1) (fun i hi => by
      have := h (i + 1) (by simp; omega)
      rw [List.getElem?_cons_succ] at this
      rw [← this, show k + (i + 1) = k + 1 + i by omega])
    refine ⟨s :: l, by simp [hl], fun j x hx => ?_, fun x hx => ?_⟩
    · match j, hx with
      | 0, hx =>
        obtain rfl : s = x := by simpa using hx
        have t0 := (World.cells?_some hcs).2.2 0 (by simp)
        rw [addr_none] at t0
        simpa using t0
      | j + 1, hx =>
        have := hL j x (by simpa using hx)
        rw [show k + (j + 1) = k + 1 + j by omega]
        exact this
    · rcases List.mem_cons.1 hx with rfl | hx
      · exact ⟨y, List.mem_cons_self .., by rw [hy]⟩
      · obtain ⟨z, hz, e⟩ := hI x hx
        exact ⟨z, List.mem_cons_of_mem _ hz, e⟩
end
section
variable {H : Type} {enc : TypeId × Value → H} {w : World} {sp : Nat → Bool} {held : Bool}
set_option maxRecDepth 100000 in
theorem open_texts {v : Value} {d : DataW H} {p : List MemPlace} (h : DataW.Trod enc Tryz.prog w 0 sp held 24 v d p) (hone : ∃ a n c, v = .slice a n c) (hw : ∀ n ∈ d.weights Tryz.prog 24, n ≤ reachBytes) :
    ∃ a n cap ss, v = .slice a n cap ∧ TextsAt w a n ss := by
  have hrb : reachBytes ≤ 140737488355328 := by decide
  obtain ⟨fuel, hf⟩ := h
  obtain ⟨va, vn, vc, rfl⟩ := hone
  rw [show (Value.slice va vn vc).cells.toList = [.slice va vn vc] from rfl] at hf
  rcases DataW.trod_slice Tryz.underlying24 hf with ⟨hc, -⟩ | ⟨a, len, cap, elems, rest, m, hm, hc, hy, -, hlc, hcm, hel, hee, -⟩
  · simp only [List.cons.injEq, and_true] at hc
    exact ⟨none, 0, 0, [], hc, rfl, by omega, by simp, .inl rfl⟩
  · simp only [List.cons.injEq, and_true] at hc
    obtain ⟨hy1, -⟩ := Prod.mk.inj hy
    subst hy1
    simp only [DataW.weights, Tryz.underlying24, kbytesS, List.mem_cons, List.mem_append, List.length_map] at hw
    have hn := hw _ (.inl rfl)
    by_cases h0 : len = 0
    · subst h0
      exact ⟨some a, 0, cap, [], hc, rfl, by omega, by simp, .inl rfl⟩
    · have hb0 := hee 0 (by omega)
      rw [kcellsS] at hee hb0
      obtain ⟨y, hy0⟩ : ∃ y, elems[0]? = some y := ⟨elems[0]'(by omega), List.getElem?_eq_getElem _⟩
      rw [hy0, Option.bind_eq_some_iff] at hb0
      obtain ⟨cs0, hcs0, -⟩ := hb0
      obtain ⟨b, o, rfl⟩ := spot_none hcs0 (by omega)
      have hl0 := (World.cells?_some hcs0).2.1
      have hc0 := (World.cells?_some hcs0).2.2 0 (by omega)
      rw [List.getElem?_eq_getElem (by omega), addr_none, addr_none] at hc0
      have hblt := World.block_lt_of_cell? _ _ hc0
      obtain ⟨l, hll, hL, hI⟩ := krow_str (enc := enc) (sp := sp) (held := held) (m := m) b o elems 0 (fun i hi => by
        have := hee i (by omega)
        rw [addr_none] at this
        rw [← this, Nat.zero_add])
      refine ⟨some ⟨b, o, none⟩, len, cap, l, hc, by rw [hll, hel], by omega, fun s hs => ?_, .inr ⟨b, o, rfl, hblt, fun j x hx => ?_⟩⟩
      · obtain ⟨y, hy, e⟩ := hI s hs
        have h1 := hw s.data.toList.length (.inr (.inl (weights_in (d := y.1) (List.mem_map_of_mem hy) (by rw [e]; simp [DataW.weights]))))
        rw [Array.length_toList] at h1
        exact Nat.le_trans h1 hrb
      · have := hL j x hx
        rw [Nat.zero_add] at this
        exact this
end
end Go.Proofs.YtfpbocjmlhcgiaaGreatDoor
