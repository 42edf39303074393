/- An argument that is an expression, opened. -/
import Derived.Test.YtaelkjffidjcjaaDoorMem
import Derived.ProofKit
import Derived.OpenShut
import Derived.SizedLaws
set_option linter.unusedSimpArgs false
set_option linter.unusedVariables false
namespace Go.Proofs.YtaelkjffidjcjaaDoor
open Go.RowKit Go.ChangeShapes Go.WideShapes PX

section
variable {H : Type} {enc : TypeId × Value → H} {w : World} {sp : Nat → Bool} {held : Bool}

theorem i64_of_wf {n : Int} (h : (Lit.int .i64 n).wf = true) : I64 n := by
  simp [Lit.wf, IntKind.min, IntKind.max, IntKind.signed, IntKind.bits] at h
  unfold I64; omega
theorem u64_of_wf {n : Int} (h : (Lit.int .u64 n).wf = true) : U64 n := by
  simp [Lit.wf, IntKind.min, IntKind.max, IntKind.signed, IntKind.bits] at h
  unfold U64; omega
theorem cellsRx : Tryd.prog.cellsOf 26 = 8 := by kernel_rfl
theorem cellsInt : Tryd.prog.cellsOf 3 = 1 := by kernel_rfl
theorem cellsU64 : Tryd.prog.cellsOf 22 = 1 := by kernel_rfl
theorem cellsArr : Tryd.prog.cellsOf 23 = 4 := by kernel_rfl
theorem cellsRow : Tryd.prog.cellsOf 24 = 1 := by kernel_rfl
theorem bytesRx : Tryd.prog.bytesOf 26 = 80 := by kernel_rfl
theorem addr_add_none (b o k : Nat) : (⟨b, o, none⟩ : Addr).add k = ⟨b, o + k, none⟩ := by
  unfold Addr.add
  split
  · rename_i h; subst h; rfl
  · rfl

theorem list4 {α : Type} {l : List α} (h : l.length = 4) : ∃ a b c d, l = [a, b, c, d] := by
  match l, h with
  | [a, b, c, d], _ => exact ⟨a, b, c, d, rfl⟩
theorem list5 {α : Type} {l : List α} (h : l.length = 5) : ∃ a b c d e, l = [a, b, c, d, e] := by
  match l, h with
  | [a, b, c, d, e], _ => exact ⟨a, b, c, d, e, rfl⟩
theorem list8 {α : Type} {l : List α} (h : l.length = 8) : ∃ a b c d e f g i, l = [a, b, c, d, e, f, g, i] := by
  match l, h with
  | [a, b, c, d, e, f, g, i], _ => exact ⟨a, b, c, d, e, f, g, i, rfl⟩
theorem RxA.cells_length (X : RxA) : X.cells.length = 8 := by cases X; rfl

/-- A row of elements. -/
theorem open_row {m : Nat} (ih : ∀ (cs : List Value) (x : DataW H × List MemPlace), DataW.trod enc Tryd.prog w 0 sp held m 26 cs = some x → (∀ n ∈ x.1.weights Tryd.prog 26, n ≤ reachBytes) → ∃ X : RxA, cs = X.cells ∧ X.In w w.heap.size) (b o : Nat) :
    ∀ (elems : List (DataW H × List MemPlace)) (k : Nat), (∀ i, i < elems.length → (w.cells? 0 (⟨b, o + (k + i) * 8, none⟩) 8).bind (DataW.trod enc Tryd.prog w 0 sp held m 26) = elems[i]?) →
      (∀ n ∈ DataW.weightsAll Tryd.prog 26 (elems.map (·.1)), n ≤ reachBytes) → ∃ l : List RxA, l.length = elems.length ∧ InL w w.heap.size b (o + k * 8) l
  | [], k, _, _ => ⟨[], rfl, trivial⟩
  | e :: es, k, h, hw => by
    have h0 := h 0 (by simp)
    simp only [List.getElem?_cons_zero, Option.bind_eq_some_iff] at h0
    obtain ⟨cs, hcs, he⟩ := h0
    simp only [List.map_cons, DataW.weightsAll, List.mem_append] at hw
    obtain ⟨X, rfl, hX⟩ := ih cs e he (fun n hn => hw n (.inl hn))
    obtain ⟨l, hl, hL⟩ := open_row ih b o es (k + 1) (fun i hi => by
      have := h (i + 1) (by simp; omega)
      rw [List.getElem?_cons_succ] at this
      rw [← this, show k + (i + 1) = k + 1 + i by omega]) (fun n hn => hw n (.inr hn))
    refine ⟨X :: l, by simp [hl], ?_⟩
    simp only [InL]
    refine ⟨fun j hj => ?_, hX, ?_⟩
    · have := (World.cells?_some hcs).2.2 j hj
      rw [addr_add_none] at this
      rw [← this]
      simp
    · rw [show o + k * 8 + 8 = o + (k + 1) * 8 by omega]; exact hL

set_option maxRecDepth 100000 in
theorem open_regex (fuel : Nat) : ∀ (cs : List Value) (x : DataW H × List MemPlace), DataW.trod enc Tryd.prog w 0 sp held fuel 26 cs = some x →
    (∀ n ∈ x.1.weights Tryd.prog 26, n ≤ reachBytes) → ∃ X : RxA, cs = X.cells ∧ X.In w w.heap.size := by
  induction fuel using Nat.strongRecOn with
  | _ fuel ih =>
    intro cs x h hwt
    obtain ⟨xs, n, rfl, rfl, hl, hlen, hf⟩ := DataW.trod_struct Tryd.underlying26 h
    have f0 : DataW.trod enc Tryd.prog w 0 sp held n 3 ((cs.drop 0).take (Tryd.prog.cellsOf 3)) = xs[0]? := hf 0 _ rfl
    have f1 : DataW.trod enc Tryd.prog w 0 sp held n 3 ((cs.drop 1).take (Tryd.prog.cellsOf 3)) = xs[1]? := hf 1 _ rfl
    have f2 : DataW.trod enc Tryd.prog w 0 sp held n 3 ((cs.drop 2).take (Tryd.prog.cellsOf 3)) = xs[2]? := hf 2 _ rfl
    have f3 : DataW.trod enc Tryd.prog w 0 sp held n 23 ((cs.drop 3).take (Tryd.prog.cellsOf 23)) = xs[3]? := hf 3 _ rfl
    have f4 : DataW.trod enc Tryd.prog w 0 sp held n 24 ((cs.drop 7).take (Tryd.prog.cellsOf 24)) = xs[4]? := hf 4 _ rfl
    clear hf h
    obtain ⟨y0, y1, y2, y3, y4, rfl⟩ : ∃ y0 y1 y2 y3 y4, xs = [y0, y1, y2, y3, y4] := by
      exact list5 hlen
    rw [cellsRx] at hl
    obtain ⟨c0, c1, c2, c3, c4, c5, c6, c7, rfl⟩ : ∃ c0 c1 c2 c3 c4 c5 c6 c7, cs = [c0, c1, c2, c3, c4, c5, c6, c7] := by
      exact list8 hl
    simp only [cellsInt, cellsArr, cellsRow, List.drop_zero, List.drop_succ_cons, List.take_succ_cons, List.take_zero, List.getElem?_cons_zero, List.getElem?_cons_succ] at f0 f1 f2 f3 f4
    obtain ⟨k, hk, -, hk'⟩ := DataW.trod_int Tryd.underlying3 f0
    obtain ⟨mn, hmn, -, hmn'⟩ := DataW.trod_int Tryd.underlying3 f1
    obtain ⟨mx, hmx, -, hmx'⟩ := DataW.trod_int Tryd.underlying3 f2
    simp only [List.cons.injEq, and_true] at hk hmn hmx
    subst hk; subst hmn; subst hmx
    obtain ⟨zs, m3, hm3, -, -, hzl, hz⟩ := DataW.trod_array Tryd.underlying23 f3
    have z0 := hz 0 (by omega)
    have z1 := hz 1 (by omega)
    have z2 := hz 2 (by omega)
    have z3 := hz 3 (by omega)
    clear hz
    obtain ⟨v0, v1, v2, v3, rfl⟩ : ∃ v0 v1 v2 v3, zs = [v0, v1, v2, v3] := by
      exact list4 hzl
    simp only [cellsU64, Nat.zero_mul, Nat.one_mul, Nat.mul_one, List.drop_zero, List.drop_succ_cons, List.take_succ_cons, List.take_zero, List.getElem?_cons_zero, List.getElem?_cons_succ] at z0 z1 z2 z3
    obtain ⟨s0, hs0, -, hs0'⟩ := DataW.trod_int Tryd.underlying22 z0
    obtain ⟨s1, hs1, -, hs1'⟩ := DataW.trod_int Tryd.underlying22 z1
    obtain ⟨s2, hs2, -, hs2'⟩ := DataW.trod_int Tryd.underlying22 z2
    obtain ⟨s3, hs3, -, hs3'⟩ := DataW.trod_int Tryd.underlying22 z3
    simp only [List.cons.injEq, and_true] at hs0 hs1 hs2 hs3
    subst hs0; subst hs1; subst hs2; subst hs3
    have hw4 : ∀ n ∈ y4.1.weights Tryd.prog 24, n ≤ reachBytes := by
      intro n hn
      apply hwt
      simp only [DataW.weights, Tryd.underlying26]
      exact DataW.weights_mem_each (j := 4) (t := 24) (d := y4.1) rfl rfl n hn
    have hnum : I64 k ∧ I64 mn ∧ I64 mx ∧ U64 s0 ∧ U64 s1 ∧ U64 s2 ∧ U64 s3 :=
      ⟨i64_of_wf hk', i64_of_wf hmn', i64_of_wf hmx', u64_of_wf hs0', u64_of_wf hs1', u64_of_wf hs2', u64_of_wf hs3'⟩
    rcases DataW.trod_slice Tryd.underlying24 f4 with ⟨hc7, -⟩ | ⟨a, len, cap, elems, rest, m, hm, hc7, hy, -, hlc, hcm, hel, hee, -⟩
    · simp only [List.cons.injEq, and_true] at hc7
      subst hc7
      refine ⟨.node k mn mx s0 s1 s2 s3 none 0 [], rfl, ?_⟩
      simp only [RxA.In]
      exact ⟨hnum, by simp, by simp, by simp, .inl trivial⟩
    · simp only [List.cons.injEq, and_true] at hc7
      subst hc7
      subst hy
      simp only [DataW.weights, Tryd.underlying24, bytesRx, List.mem_cons, List.mem_append, List.length_map] at hw4
      have hbig := hw4 _ (.inl rfl)
      have hr := reachBytes_lt
      have hsz : elems.length * 120 ≤ 2 ^ 51 := by omega
      by_cases h0 : len = 0
      · subst h0
        refine ⟨.node k mn mx s0 s1 s2 s3 (some a) cap [], rfl, ?_⟩
        simp only [RxA.In]
        exact ⟨hnum, by simp, hcm, by simp, .inl trivial⟩
      · have hb0 := hee 0 (by omega)
        rw [cellsRx] at hee hb0
        obtain ⟨y, hy0⟩ : ∃ y, elems[0]? = some y := ⟨elems[0]'(by omega), List.getElem?_eq_getElem _⟩
        rw [hy0, Option.bind_eq_some_iff] at hb0
        obtain ⟨cs0, hcs0, -⟩ := hb0
        have hc0 := (World.cells?_some hcs0).2.2 0 (by omega)
        have hlen0 := (World.cells?_some hcs0).2.1
        obtain ⟨b, o, spot⟩ := a
        have hsp : spot = none := by
          cases spot with
          | none => rfl
          | some q =>
            rw [List.getElem?_eq_getElem (by omega)] at hc0
            simp only [Nat.zero_mul, Addr.add, if_true, World.cell?] at hc0
            split at hc0
            · simp at hc0
            · cases hc0
        subst hsp
        have hc0' : w.cell? ⟨b, o, none⟩ = some (cs0[0]'(by omega)) := by
          rw [List.getElem?_eq_getElem (by omega)] at hc0
          simpa [Addr.add] using hc0
        have hblt := World.block_lt_of_cell? _ _ hc0'
        obtain ⟨l, hll, hL⟩ := open_row (enc := enc) (sp := sp) (held := held) (m := m) (ih m (by omega)) b o elems 0 (fun i hi => by
          have := hee i (by omega)
          rw [addr_add_none] at this
          rw [← this, Nat.zero_add]) (fun n hn => hw4 n (.inr (.inl hn)))
        refine ⟨.node k mn mx s0 s1 s2 s3 (some ⟨b, o, none⟩) cap l, ?_, ?_⟩
        · simp only [RxA.cells, hll, hel]
        · simp only [RxA.In]
          refine ⟨hnum, by omega, hcm, by rw [hll]; exact hsz, .inr ⟨b, o, rfl, hblt, ?_⟩⟩
          simpa using hL
end
end Go.Proofs.YtaelkjffidjcjaaDoor
