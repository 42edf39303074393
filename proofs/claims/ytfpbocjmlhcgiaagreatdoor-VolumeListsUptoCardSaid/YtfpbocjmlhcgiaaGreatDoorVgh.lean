/- Vgh, merged: VCC VCD. -/
import Derived.Test.YtfpbocjmlhcgiaaGreatDoorVgd
import Derived.Test.YtfpbocjmlhcgiaaGreatDoorVge
set_option linter.unusedSimpArgs false
set_option linter.unusedVariables false
/- What the volume's cards share: a shape and texts among the arguments. -/
namespace Go.Proofs.YtfpbocjmlhcgiaaGreatDoor
open Go.ChangeShapes Go.WideShapes Go.ChangeAt Go.RowKit PJ Go.Maps

theorem kcellsI : Tryz.prog.cellsOf 3 = 1 := by kernel_rfl
theorem kcellsS : Tryz.prog.cellsOf 9 = 1 := by kernel_rfl
theorem vcellsShape : Tryz.prog.cellsOf 57 = 3 := by kernel_rfl
theorem vl3 {α : Type} {l : List α} (h : l.length = 3) : ∃ a b c, l = [a, b, c] := by
  match l, h with
  | [a, b, c], _ => exact ⟨a, b, c, rfl⟩
section
variable {H : Type} {enc : TypeId × Value → H} {w : World} {sp : Nat → Bool} {held : Bool}
set_option maxRecDepth 100000 in
theorem open_shape17 {base : Nat} {v : Value} {d : DataW H} {p : List MemPlace} (hok : Value.okWide Tryz.prog w .any base 57 v) (h : DataW.Trod enc Tryz.prog w 0 sp held 57 v d p) :
    ∃ a b c : Int, v = .agg #[.int .i64 a, .int .i64 b, .int .i64 c] ∧ I64 a ∧ I64 b ∧ I64 c := by
  obtain ⟨fuel, hf0⟩ := h
  obtain ⟨xs, n, -, -, hl, hlen, hf⟩ := DataW.trod_struct Tryz.underlying57 hf0
  have f0 : DataW.trod enc Tryz.prog w 0 sp held n 3 ((v.cells.toList.drop 0).take (Tryz.prog.cellsOf 3)) = xs[0]? := hf 0 _ rfl
  have f1 : DataW.trod enc Tryz.prog w 0 sp held n 3 ((v.cells.toList.drop 1).take (Tryz.prog.cellsOf 3)) = xs[1]? := hf 1 _ rfl
  have f2 : DataW.trod enc Tryz.prog w 0 sp held n 3 ((v.cells.toList.drop 2).take (Tryz.prog.cellsOf 3)) = xs[2]? := hf 2 _ rfl
  clear hf hf0
  obtain ⟨y0, y1, y2, rfl⟩ := vl3 hlen
  rw [vcellsShape] at hl
  obtain ⟨c0, c1, c2, hcs⟩ := vl3 hl
  rw [hcs] at f0 f1 f2
  simp only [kcellsI, List.drop_zero, List.drop_succ_cons, List.take_succ_cons, List.take_zero, List.getElem?_cons_zero, List.getElem?_cons_succ] at f0 f1 f2
  obtain ⟨a, ha, -, ha'⟩ := DataW.trod_int Tryz.underlying3 f0
  obtain ⟨b, hb, -, hb'⟩ := DataW.trod_int Tryz.underlying3 f1
  obtain ⟨c, hc, -, hc'⟩ := DataW.trod_int Tryz.underlying3 f2
  simp only [List.cons.injEq, and_true] at ha hb hc
  subst ha; subst hb; subst hc
  simp only [Value.okWide, Tryz.underlying57] at hok
  obtain ⟨cs, rfl, -, -⟩ := hok
  simp only [Value.cells] at hcs
  refine ⟨a, b, c, ?_, i64_of_wf ha', i64_of_wf hb', i64_of_wf hc'⟩
  congr 1
  apply Array.toList_inj.1
  exact hcs
theorem spot_none {a : Addr} {n : Nat} {cs : List Value} (hcs : w.cells? 0 (a.add (0 * n)) n = some cs) (hn : 1 ≤ n) : ∃ b o, a = ⟨b, o, none⟩ := by
  obtain ⟨b, o, spot⟩ := a
  cases spot with
  | none => exact ⟨b, o, rfl⟩
  | some q =>
    have hl := (World.cells?_some hcs).2.1
    have hc0 := (World.cells?_some hcs).2.2 0 (by omega)
    rw [List.getElem?_eq_getElem (by omega)] at hc0
    simp only [Nat.zero_mul, Addr.add, if_true, World.cell?] at hc0
    split at hc0
    · simp at hc0
    · cases hc0
end
section
variable {H : Type} {enc : TypeId × Value → H} {w : World} {sp : Nat → Bool} {held : Bool}
end
end Go.Proofs.YtfpbocjmlhcgiaaGreatDoor
/- What the volume's cards share: a script among the arguments. -/
namespace Go.Proofs.YtfpbocjmlhcgiaaGreatDoor
open Go.ChangeShapes Go.WideShapes Go.ChangeAt Go.RowKit PJ Go.Maps

theorem kcellsOp : Tryz.prog.cellsOf 66 = 7 := by kernel_rfl
theorem kcellsSl : Tryz.prog.cellsOf 64 = 1 := by kernel_rfl
theorem vl7 {α : Type} {l : List α} (h : l.length = 7) : ∃ a b c d e f g, l = [a, b, c, d, e, f, g] := by
  match l, h with
  | [a, b, c, d, e, f, g], _ => exact ⟨a, b, c, d, e, f, g, rfl⟩
theorem vl2 {α : Type} {l : List α} (h : l.length = 2) : ∃ a b, l = [a, b] := by
  match l, h with
  | [a, b], _ => exact ⟨a, b, rfl⟩
theorem bulk_part {H : Type} {d : DataW H} {l : List (DataW H)} (h : d ∈ l) : Rows.uptoBulk d ≤ Rows.uptoBulkAll l := by
  induction l with
  | nil => cases h
  | cons x r ih =>
    simp only [Rows.uptoBulkAll]
    cases List.mem_cons.1 h with
    | inl e => subst e; omega
    | inr e => have := ih e; omega
theorem bulk_one {H : Type} (d : DataW H) : 1 ≤ Rows.uptoBulk d := by
  cases d with
  | lit l => cases l <;> simp [Rows.uptoBulk]
  | nil => simp [Rows.uptoBulk]
  | ptr d => simp [Rows.uptoBulk]
  | slice elems spare => simp [Rows.uptoBulk]
  | agg parts => simp [Rows.uptoBulk]
  | iface t d => simp [Rows.uptoBulk]
  | map entries => simp [Rows.uptoBulk]
  | held h => simp [Rows.uptoBulk]
theorem bulk_len {H : Type} (l : List (DataW H)) : l.length ≤ Rows.uptoBulkAll l := by
  induction l with
  | nil => simp [Rows.uptoBulkAll]
  | cons x r ih => have := bulk_one x; simp only [Rows.uptoBulkAll, List.length_cons]; omega
section
variable {H : Type} {enc : TypeId × Value → H} {w : World} {sp : Nat → Bool} {held : Bool}
set_option maxRecDepth 100000 in
theorem kcs_op {fuel : Nat} {cs : List Value} {x : DataW H × List MemPlace} (h : DataW.trod enc Tryz.prog w 0 sp held fuel 66 cs = some x) (hk : Rows.uptoBulk x.1 ≤ 1048576) :
    ∃ r : OpV, r.OK ∧ cs = [.int .i64 r.on, .int .i64 r.kd, .int .i64 r.a, .int .i64 r.b, .string r.P, .string r.Q, .slice r.ca r.cn r.cc] := by
  obtain ⟨xs, n, hx, rfl, hl, hlen, hf⟩ := DataW.trod_struct Tryz.underlying66 h
  have f0 : DataW.trod enc Tryz.prog w 0 sp held n 3 ((cs.drop 0).take (Tryz.prog.cellsOf 3)) = xs[0]? := hf 0 _ rfl
  have f1 : DataW.trod enc Tryz.prog w 0 sp held n 3 ((cs.drop 1).take (Tryz.prog.cellsOf 3)) = xs[1]? := hf 1 _ rfl
  have f2 : DataW.trod enc Tryz.prog w 0 sp held n 3 ((cs.drop 2).take (Tryz.prog.cellsOf 3)) = xs[2]? := hf 2 _ rfl
  have f3 : DataW.trod enc Tryz.prog w 0 sp held n 3 ((cs.drop 3).take (Tryz.prog.cellsOf 3)) = xs[3]? := hf 3 _ rfl
  have f4 : DataW.trod enc Tryz.prog w 0 sp held n 9 ((cs.drop 4).take (Tryz.prog.cellsOf 9)) = xs[4]? := hf 4 _ rfl
  have f5 : DataW.trod enc Tryz.prog w 0 sp held n 9 ((cs.drop 5).take (Tryz.prog.cellsOf 9)) = xs[5]? := hf 5 _ rfl
  have f6 : DataW.trod enc Tryz.prog w 0 sp held n 64 ((cs.drop 6).take (Tryz.prog.cellsOf 64)) = xs[6]? := hf 6 _ rfl
  clear hf h
  rw [kcellsOp] at hl
  obtain ⟨y0, y1, y2, y3, y4, y5, y6, rfl⟩ := vl7 hlen
  obtain ⟨c0, c1, c2, c3, c4, c5, c6, rfl⟩ := vl7 hl
  simp only [kcellsI, kcellsS, kcellsSl, List.drop_zero, List.drop_succ_cons, List.take_succ_cons, List.take_zero, List.getElem?_cons_zero, List.getElem?_cons_succ] at f0 f1 f2 f3 f4 f5 f6
  obtain ⟨on, h0, -, -⟩ := DataW.trod_int Tryz.underlying3 f0
  obtain ⟨kd, h1, -, -⟩ := DataW.trod_int Tryz.underlying3 f1
  obtain ⟨a, h2, -, ha⟩ := DataW.trod_int Tryz.underlying3 f2
  obtain ⟨b, h3, -, hb⟩ := DataW.trod_int Tryz.underlying3 f3
  obtain ⟨P, h4, hP, -⟩ := DataW.trod_string Tryz.underlying9 f4
  obtain ⟨Q, h5, hQ, -⟩ := DataW.trod_string Tryz.underlying9 f5
  have h6 : ∃ ca cn cc, c6 = .slice ca cn cc := by
    rcases DataW.trod_slice Tryz.underlying64 f6 with ⟨hc, -⟩ | ⟨a, len, cap, elems, rest, m, hm, hc, -⟩
    · simp only [List.cons.injEq, and_true] at hc
      exact ⟨_, _, _, hc⟩
    · simp only [List.cons.injEq, and_true] at hc
      exact ⟨_, _, _, hc⟩
  obtain ⟨ca, cn, cc, rfl⟩ := h6
  simp only [List.cons.injEq, and_true] at h0 h1 h2 h3 h4 h5
  subst h0; subst h1; subst h2; subst h3; subst h4; subst h5
  have hPs : P.size ≤ 1048576 ∧ Q.size ≤ 1048576 := by
    subst hP; subst hQ
    simp only [Rows.uptoBulk, Rows.uptoBulkAll, List.map_cons, List.map_nil] at hk
    have e1 : P.data.toList.length = P.size := by rw [Array.length_toList]; rfl
    have e2 : Q.data.toList.length = Q.size := by rw [Array.length_toList]; rfl
    omega
  have ga := i64_of_wf ha
  have gb := i64_of_wf hb
  exact ⟨⟨on, kd, a, b, P, Q, ca, cn, cc⟩, ⟨hPs.1, hPs.2, ga, gb⟩, rfl⟩
theorem krow_op {m : Nat} (b o : Nat) : ∀ (elems : List (DataW H × List MemPlace)) (k : Nat), (∀ i, i < elems.length → (w.cells? 0 (⟨b, o + (k + i) * 7, none⟩) 7).bind (DataW.trod enc Tryz.prog w 0 sp held m 66) = elems[i]?) → (∀ x ∈ elems, Rows.uptoBulk x.1 ≤ 1048576) →
    ∃ l : List OpV, l.length = elems.length ∧ (∀ j x, l[j]? = some x → OpCells w b (o + (k + j) * 7) x) ∧ ∀ x ∈ l, x.OK
  | [], k, _, _ => ⟨[], rfl, fun i x h => by simp at h, fun x hx => by cases hx⟩
  | y :: ys, k, h, hk => by
    have h0 := h 0 (by simp)
    simp only [List.getElem?_cons_zero, Option.bind_eq_some_iff] at h0
    obtain ⟨cs, hcs, ht⟩ := h0
    obtain ⟨r, hr, rfl⟩ := kcs_op ht (hk y (List.mem_cons_self ..))
    obtain ⟨l, hl, hL, hI⟩ := krow_op b o ys (k + 1) (fun i hi => by
      have := h (i + 1) (by simp; omega)
      rw [List.getElem?_cons_succ] at this
      rw [← this, show k + (i + 1) = k + 1 + i by omega]) (fun x hx => hk x (List.mem_cons_of_mem _ hx))
    refine ⟨r :: l, by simp [hl], fun j x hx => ?_, fun x hx => by rcases List.mem_cons.1 hx with rfl | hx; exact hr; exact hI x hx⟩
    match j, hx with
    | 0, hx =>
      obtain rfl : r = x := by simpa using hx
      have t := (World.cells?_some hcs).2.2
      have t0 := t 0 (by simp)
      have t1 := t 1 (by simp)
      have t2 := t 2 (by simp)
      have t3 := t 3 (by simp)
      have t4 := t 4 (by simp)
      have t5 := t 5 (by simp)
      have t6 := t 6 (by simp)
      rw [addr_none] at t0 t1 t2 t3 t4 t5 t6
      exact ⟨t0, t1, t2, t3, t4, t5, t6⟩
    | j + 1, hx =>
      have := hL j x (by simpa using hx)
      rw [show k + (j + 1) = k + 1 + j by omega]
      exact this
set_option maxRecDepth 100000 in
theorem open_ops {v : Value} {d : DataW H} {p : List MemPlace} (h : DataW.Trod enc Tryz.prog w 0 sp held 58 v d p) (hone : ∃ a n c, v = .slice a n c) (hk : Rows.uptoBulk d ≤ 1048576) :
    ∃ a n cap l, v = .slice a n cap ∧ OpsAt w a n l := by
  obtain ⟨fuel, hf⟩ := h
  obtain ⟨va, vn, vc, rfl⟩ := hone
  rw [show (Value.slice va vn vc).cells.toList = [.slice va vn vc] from rfl] at hf
  rcases DataW.trod_slice Tryz.underlying58 hf with ⟨hc, -⟩ | ⟨a, len, cap, elems, rest, m, hm, hc, hy, -, hlc, hcm, hel, hee, -⟩
  · simp only [List.cons.injEq, and_true] at hc
    exact ⟨none, 0, 0, [], hc, rfl, by omega, by simp, .inl rfl⟩
  · simp only [List.cons.injEq, and_true] at hc
    obtain ⟨hy1, -⟩ := Prod.mk.inj hy
    subst hy1
    simp only [Rows.uptoBulk] at hk
    have hlen := bulk_len (elems.map (·.1))
    rw [List.length_map] at hlen
    by_cases h0 : len = 0
    · subst h0
      exact ⟨some a, 0, cap, [], hc, rfl, by omega, by simp, .inl rfl⟩
    · have hb0 := hee 0 (by omega)
      rw [kcellsOp] at hee hb0
      obtain ⟨y, hy0⟩ : ∃ y, elems[0]? = some y := ⟨elems[0]'(by omega), List.getElem?_eq_getElem _⟩
      rw [hy0, Option.bind_eq_some_iff] at hb0
      obtain ⟨cs0, hcs0, -⟩ := hb0
      obtain ⟨b, o, rfl⟩ := spot_none hcs0 (by omega)
      obtain ⟨l, hll, hL, hI⟩ := krow_op (enc := enc) (sp := sp) (held := held) (m := m) b o elems 0 (fun i hi => by
        have := hee i (by omega)
        rw [addr_none] at this
        rw [← this, Nat.zero_add]) (fun x hx => by
          have := bulk_part (List.mem_map_of_mem (f := (·.1)) hx)
          omega)
      refine ⟨some ⟨b, o, none⟩, len, cap, l, hc, by rw [hll, hel], by omega, hI, .inr ⟨b, o, rfl, fun j x hx => ?_⟩⟩
      have := hL j x hx
      rw [Nat.zero_add] at this
      exact this
theorem kcells2s : Tryz.prog.cellsOf 59 = 2 := by kernel_rfl
set_option maxRecDepth 100000 in
theorem open_str2 {base : Nat} {v : Value} {d : DataW H} {p : List MemPlace} (hok : Value.okWide Tryz.prog w .any base 59 v) (h : DataW.Trod enc Tryz.prog w 0 sp held 59 v d p) (hk : Rows.uptoBulk d ≤ 1048576) :
    ∃ P Q : ByteArray, v = .agg #[.string P, .string Q] ∧ P.size ≤ 1048576 ∧ Q.size ≤ 1048576 := by
  obtain ⟨fuel, hf⟩ := h
  obtain ⟨xs, m, -, hxd, hl, hxl, hx⟩ := DataW.trod_array Tryz.underlying59 hf
  have z0 := hx 0 (by omega)
  have z1 := hx 1 (by omega)
  clear hx hf
  simp only [Value.okWide, Tryz.underlying59] at hok
  obtain ⟨cs, rfl, hcs, -⟩ := hok
  simp only [Value.cells] at z0 z1 hl
  rw [kcells2s] at hl
  obtain ⟨c0, c1, hc⟩ := vl2 hl
  rw [hc] at z0 z1
  obtain ⟨y0, y1, rfl⟩ := vl2 hxl
  simp only [kcellsS, Nat.zero_mul, Nat.one_mul, List.drop_zero, List.drop_succ_cons, List.take_succ_cons, List.take_zero, List.getElem?_cons_zero, List.getElem?_cons_succ] at z0 z1
  obtain ⟨P, ha, hP, -⟩ := DataW.trod_string Tryz.underlying9 z0
  obtain ⟨Q, hb, hQ, -⟩ := DataW.trod_string Tryz.underlying9 z1
  simp only [List.cons.injEq, and_true] at ha hb
  subst ha; subst hb
  have hPs : P.size ≤ 1048576 ∧ Q.size ≤ 1048576 := by
    subst hP; subst hQ
    have e1 : P.data.toList.length = P.size := by rw [Array.length_toList]; rfl
    have e2 : Q.data.toList.length = Q.size := by rw [Array.length_toList]; rfl
    obtain ⟨hd, -⟩ := Prod.mk.inj hxd
    subst hd
    simp only [Rows.uptoBulk, Rows.uptoBulkAll, List.map_cons, List.map_nil] at hk
    omega
  refine ⟨P, Q, ?_, hPs.1, hPs.2⟩
  congr 1
  apply Array.toList_inj.1
  exact hc
end
end Go.Proofs.YtfpbocjmlhcgiaaGreatDoor
