/- What the volume's cards share: a shape and texts among the arguments. -/
import Derived.Test.YtfpbocjmlhcgiaaGreatDoorVgd
set_option linter.unusedSimpArgs false
set_option linter.unusedVariables false
namespace Go.Proofs.YtfpbocjmlhcgiaaGreatDoor
open Go.ChangeShapes Go.WideShapes Go.ChangeAt Go.RowKit PJ Go.Maps
def I64 (n : Int) : Prop := -9223372036854775808 ≤ n ∧ n ≤ 9223372036854775807
theorem i64_of_wf {n : Int} (h : (Lit.int .i64 n).wf = true) : I64 n := by
  simp [Lit.wf, IntKind.min, IntKind.max, IntKind.signed, IntKind.bits] at h
  unfold I64; omega

def TextsV (w : World) (a : Option Addr) (n : Nat) (ss : List ByteArray) : Prop :=
  ss.length = n ∧ n ≤ 140737488355328 ∧ (∀ s ∈ ss, s.size ≤ 140737488355328) ∧ (n = 0 ∨ ∃ b o, a = some ⟨b, o, none⟩ ∧ b < w.heap.size ∧ ∀ i s, ss[i]? = some s → w.cell? ⟨b, o + i, none⟩ = some (.string s))
theorem kcellsI : Tryz.prog.cellsOf 3 = 1 := by kernel_rfl
theorem kcellsS : Tryz.prog.cellsOf 9 = 1 := by kernel_rfl
theorem kbytesS : Tryz.prog.bytesOf 9 = 16 := by kernel_rfl
theorem vcellsShape : Tryz.prog.cellsOf 57 = 3 := by kernel_rfl
theorem vl3 {α : Type} {l : List α} (h : l.length = 3) : ∃ a b c, l = [a, b, c] := by
  match l, h with
  | [a, b, c], _ => exact ⟨a, b, c, rfl⟩
section
variable {H : Type} {enc : TypeId × Value → H} {w : World} {sp : Nat → Bool} {held : Bool}
set_option maxRecDepth 100000 in
theorem open_shape17 {base : Nat} {v : Value} {d : DataW H} {p : List MemPlace} (hok : Value.okWide Tryz.prog w .any base 57 v) (h : DataW.Trod enc Tryz.prog w 0 sp held 57 v d p) :
    ∃ a b c : Int, v = .agg #[.int .i64 a, .int .i64 b, .int .i64 c] ∧ I64 a ∧ I64 b ∧ I64 c := by
  obtain ⟨fuel, hf0⟩ := h
  obtain ⟨xs, n, -, -, hl, hlen, hf⟩ := DataW.trod_struct Tryz.underlying57 hf0
  have f0 : DataW.trod enc Tryz.prog w 0 sp held n 3 ((v.cells.toList.drop 0).take (Tryz.prog.cellsOf 3)) = xs[0]? := hf 0 _ rfl
  have f1 : DataW.trod enc Tryz.prog w 0 sp held n 3 ((v.cells.toList.drop 1).take (Tryz.prog.cellsOf 3)) = xs[1]? := hf 1 _ rfl
  have f2 : DataW.trod enc Tryz.prog w 0 sp held n 3 ((v.cells.toList.drop 2).take (Tryz.prog.cellsOf 3)) = xs[2]? := hf 2 _ rfl
  clear hf hf0
  obtain ⟨y0, y1, y2, rfl⟩ := vl3 hlen
  rw [vcellsShape] at hl
  obtain ⟨c0, c1, c2, hcs⟩ := vl3 hl
  rw [hcs] at f0 f1 f2
  simp only [kcellsI, List.drop_zero, List.drop_succ_cons, List.take_succ_cons, List.take_zero, List.getElem?_cons_zero, List.getElem?_cons_succ] at f0 f1 f2
  obtain ⟨a, ha, -, ha'⟩ := DataW.trod_int Tryz.underlying3 f0
  obtain ⟨b, hb, -, hb'⟩ := DataW.trod_int Tryz.underlying3 f1
  obtain ⟨c, hc, -, hc'⟩ := DataW.trod_int Tryz.underlying3 f2
  simp only [List.cons.injEq, and_true] at ha hb hc
  subst ha; subst hb; subst hc
  simp only [Value.okWide, Tryz.underlying57] at hok
  obtain ⟨cs, rfl, -, -⟩ := hok
  simp only [Value.cells] at hcs
  refine ⟨a, b, c, ?_, i64_of_wf ha', i64_of_wf hb', i64_of_wf hc'⟩
  congr 1
  apply Array.toList_inj.1
  exact hcs
theorem spot_none {a : Addr} {n : Nat} {cs : List Value} (hcs : w.cells? 0 (a.add (0 * n)) n = some cs) (hn : 1 ≤ n) : ∃ b o, a = ⟨b, o, none⟩ := by
  obtain ⟨b, o, spot⟩ := a
  cases spot with
  | none => exact ⟨b, o, rfl⟩
  | some q =>
    have hl := (World.cells?_some hcs).2.1
    have hc0 := (World.cells?_some hcs).2.2 0 (by omega)
    rw [List.getElem?_eq_getElem (by omega)] at hc0
    simp only [Nat.zero_mul, Addr.add, if_true, World.cell?] at hc0
    split at hc0
    · simp at hc0
    · cases hc0
theorem weights_in {d : DataW H} {t : TypeId} {n : Nat} : ∀ {l : List (DataW H)}, d ∈ l → n ∈ d.weights Tryz.prog t → n ∈ DataW.weightsAll Tryz.prog t l
  | x :: r, hd, hn => by
    simp only [DataW.weightsAll, List.mem_append]
    rcases List.mem_cons.1 hd with rfl | hd
    · exact .inl hn
    · exact .inr (weights_in hd hn)
theorem krow_str {m : Nat} (b o : Nat) : ∀ (elems : List (DataW H × List MemPlace)) (k : Nat), (∀ i, i < elems.length → (w.cells? 0 (⟨b, o + (k + i) * 1, none⟩) 1).bind (DataW.trod enc Tryz.prog w 0 sp held m 9) = elems[i]?) →
    ∃ l : List ByteArray, l.length = elems.length ∧ (∀ j x, l[j]? = some x → w.cell? ⟨b, o + (k + j), none⟩ = some (.string x)) ∧ ∀ x ∈ l, ∃ y ∈ elems, y.1 = .lit (.string x.data.toList)
  | [], k, _ => ⟨[], rfl, fun i x h => by simp at h, fun x hx => by cases hx⟩
  | y :: ys, k, h => by
    have h0 := h 0 (by simp)
    simp only [List.getElem?_cons_zero, Option.bind_eq_some_iff] at h0
    obtain ⟨cs, hcs, ht⟩ := h0
    obtain ⟨s, rfl, hy, -⟩ := DataW.trod_string Tryz.underlying9 ht
    obtain ⟨l, hl, hL, hI⟩ := krow_str b o ys (k + 1) (fun i hi => by
      have := h (i + 1) (by simp; omega)
      rw [List.getElem?_cons_succ] at this
      rw [← this, show k + (i + 1) = k + 1 + i by omega])
    refine ⟨s :: l, by simp [hl], fun j x hx => ?_, fun x hx => ?_⟩
    · match j, hx with
      | 0, hx =>
        obtain rfl : s = x := by simpa using hx
        have t0 := (World.cells?_some hcs).2.2 0 (by simp)
        rw [addr_none] at t0
        simpa using t0
      | j + 1, hx =>
        have := hL j x (by simpa using hx)
        rw [show k + (j + 1) = k + 1 + j by omega]
        exact this
    · rcases List.mem_cons.1 hx with rfl | hx
      · exact ⟨y, List.mem_cons_self .., by rw [hy]⟩
      · obtain ⟨z, hz, e⟩ := hI x hx
        exact ⟨z, List.mem_cons_of_mem _ hz, e⟩
end
section
variable {H : Type} {enc : TypeId × Value → H} {w : World} {sp : Nat → Bool} {held : Bool}
set_option maxRecDepth 100000 in
theorem open_textsV {v : Value} {d : DataW H} {p : List MemPlace} (h : DataW.Trod enc Tryz.prog w 0 sp held 24 v d p) (hone : ∃ a n c, v = .slice a n c) (hw : ∀ n ∈ d.weights Tryz.prog 24, n ≤ reachBytes) :
    ∃ a n cap ss, v = .slice a n cap ∧ TextsV w a n ss := by
  have hrb : reachBytes ≤ 140737488355328 := by decide
  obtain ⟨fuel, hf⟩ := h
  obtain ⟨va, vn, vc, rfl⟩ := hone
  rw [show (Value.slice va vn vc).cells.toList = [.slice va vn vc] from rfl] at hf
  rcases DataW.trod_slice Tryz.underlying24 hf with ⟨hc, -⟩ | ⟨a, len, cap, elems, rest, m, hm, hc, hy, -, hlc, hcm, hel, hee, -⟩
  · simp only [List.cons.injEq, and_true] at hc
    exact ⟨none, 0, 0, [], hc, rfl, by omega, by simp, .inl rfl⟩
  · simp only [List.cons.injEq, and_true] at hc
    obtain ⟨hy1, -⟩ := Prod.mk.inj hy
    subst hy1
    simp only [DataW.weights, Tryz.underlying24, kbytesS, List.mem_cons, List.mem_append, List.length_map] at hw
    have hn := hw _ (.inl rfl)
    by_cases h0 : len = 0
    · subst h0
      exact ⟨some a, 0, cap, [], hc, rfl, by omega, by simp, .inl rfl⟩
    · have hb0 := hee 0 (by omega)
      rw [kcellsS] at hee hb0
      obtain ⟨y, hy0⟩ : ∃ y, elems[0]? = some y := ⟨elems[0]'(by omega), List.getElem?_eq_getElem _⟩
      rw [hy0, Option.bind_eq_some_iff] at hb0
      obtain ⟨cs0, hcs0, -⟩ := hb0
      obtain ⟨b, o, rfl⟩ := spot_none hcs0 (by omega)
      have hl0 := (World.cells?_some hcs0).2.1
      have hc0 := (World.cells?_some hcs0).2.2 0 (by omega)
      rw [List.getElem?_eq_getElem (by omega), addr_none, addr_none] at hc0
      have hblt := World.block_lt_of_cell? _ _ hc0
      obtain ⟨l, hll, hL, hI⟩ := krow_str (enc := enc) (sp := sp) (held := held) (m := m) b o elems 0 (fun i hi => by
        have := hee i (by omega)
        rw [addr_none] at this
        rw [← this, Nat.zero_add])
      refine ⟨some ⟨b, o, none⟩, len, cap, l, hc, by rw [hll, hel], by omega, fun s hs => ?_, .inr ⟨b, o, rfl, hblt, fun j x hx => ?_⟩⟩
      · obtain ⟨y, hy, e⟩ := hI s hs
        have h1 := hw s.data.toList.length (.inr (.inl (weights_in (d := y.1) (List.mem_map_of_mem hy) (by rw [e]; simp [DataW.weights]))))
        rw [Array.length_toList] at h1
        exact Nat.le_trans h1 hrb
      · have := hL j x hx
        rw [Nat.zero_add] at this
        exact this
end
end Go.Proofs.YtfpbocjmlhcgiaaGreatDoor
