/- B2b, merged: Or Size Form FormP FormQ Check. -/
import Derived.Test.YtjhclopdcbnmkaaGreatDoorB2
import Derived.ProofKit
import Derived.OpenShut
import Derived.SizedLaws
import Derived.BigGuardPart
import Derived.Deep.QuietTactic
import Derived.BigQuiet
set_option linter.unusedSimpArgs false
set_option linter.unusedVariables false
/- An argument that is an expression, opened. -/
namespace Go.Proofs.YtjhclopdcbnmkaaGreatDoor
open Go.RowKit Go.ChangeShapes Go.WideShapes PX

section
variable {H : Type} {enc : TypeId × Value → H} {w : World} {sp : Nat → Bool} {held : Bool}

theorem i64_of_wf {n : Int} (h : (Lit.int .i64 n).wf = true) : I64 n := by
  simp [Lit.wf, IntKind.min, IntKind.max, IntKind.signed, IntKind.bits] at h
  unfold I64; omega
theorem u64_of_wf {n : Int} (h : (Lit.int .u64 n).wf = true) : U64 n := by
  simp [Lit.wf, IntKind.min, IntKind.max, IntKind.signed, IntKind.bits] at h
  unfold U64; omega
theorem cellsRx : Tryz.prog.cellsOf 26 = 8 := by kernel_rfl
theorem cellsInt : Tryz.prog.cellsOf 3 = 1 := by kernel_rfl
theorem cellsU64 : Tryz.prog.cellsOf 22 = 1 := by kernel_rfl
theorem cellsArr : Tryz.prog.cellsOf 23 = 4 := by kernel_rfl
theorem cellsRow : Tryz.prog.cellsOf 24 = 1 := by kernel_rfl
theorem bytesRx : Tryz.prog.bytesOf 26 = 80 := by kernel_rfl
theorem addr_add_none (b o k : Nat) : (⟨b, o, none⟩ : Addr).add k = ⟨b, o + k, none⟩ := by
  unfold Addr.add
  split
  · rename_i h; subst h; rfl
  · rfl

theorem list4 {α : Type} {l : List α} (h : l.length = 4) : ∃ a b c d, l = [a, b, c, d] := by
  match l, h with
  | [a, b, c, d], _ => exact ⟨a, b, c, d, rfl⟩
theorem list5 {α : Type} {l : List α} (h : l.length = 5) : ∃ a b c d e, l = [a, b, c, d, e] := by
  match l, h with
  | [a, b, c, d, e], _ => exact ⟨a, b, c, d, e, rfl⟩
theorem list8 {α : Type} {l : List α} (h : l.length = 8) : ∃ a b c d e f g i, l = [a, b, c, d, e, f, g, i] := by
  match l, h with
  | [a, b, c, d, e, f, g, i], _ => exact ⟨a, b, c, d, e, f, g, i, rfl⟩
theorem RxA.cells_length (X : RxA) : X.cells.length = 8 := by cases X; rfl

/-- A row of elements. -/
theorem open_row {m : Nat} (ih : ∀ (cs : List Value) (x : DataW H × List MemPlace), DataW.trod enc Tryz.prog w 0 sp held m 26 cs = some x → (∀ n ∈ x.1.weights Tryz.prog 26, n ≤ reachBytes) → ∃ X : RxA, cs = X.cells ∧ X.In w w.heap.size) (b o : Nat) :
    ∀ (elems : List (DataW H × List MemPlace)) (k : Nat), (∀ i, i < elems.length → (w.cells? 0 (⟨b, o + (k + i) * 8, none⟩) 8).bind (DataW.trod enc Tryz.prog w 0 sp held m 26) = elems[i]?) →
      (∀ n ∈ DataW.weightsAll Tryz.prog 26 (elems.map (·.1)), n ≤ reachBytes) → ∃ l : List RxA, l.length = elems.length ∧ InL w w.heap.size b (o + k * 8) l
  | [], k, _, _ => ⟨[], rfl, trivial⟩
  | e :: es, k, h, hw => by
    have h0 := h 0 (by simp)
    simp only [List.getElem?_cons_zero, Option.bind_eq_some_iff] at h0
    obtain ⟨cs, hcs, he⟩ := h0
    simp only [List.map_cons, DataW.weightsAll, List.mem_append] at hw
    obtain ⟨X, rfl, hX⟩ := ih cs e he (fun n hn => hw n (.inl hn))
    obtain ⟨l, hl, hL⟩ := open_row ih b o es (k + 1) (fun i hi => by
      have := h (i + 1) (by simp; omega)
      rw [List.getElem?_cons_succ] at this
      rw [← this, show k + (i + 1) = k + 1 + i by omega]) (fun n hn => hw n (.inr hn))
    refine ⟨X :: l, by simp [hl], ?_⟩
    simp only [InL]
    refine ⟨fun j hj => ?_, hX, ?_⟩
    · have := (World.cells?_some hcs).2.2 j hj
      rw [addr_add_none] at this
      rw [← this]
      simp
    · rw [show o + k * 8 + 8 = o + (k + 1) * 8 by omega]; exact hL

set_option maxRecDepth 100000 in
theorem open_regex (fuel : Nat) : ∀ (cs : List Value) (x : DataW H × List MemPlace), DataW.trod enc Tryz.prog w 0 sp held fuel 26 cs = some x →
    (∀ n ∈ x.1.weights Tryz.prog 26, n ≤ reachBytes) → ∃ X : RxA, cs = X.cells ∧ X.In w w.heap.size := by
  induction fuel using Nat.strongRecOn with
  | _ fuel ih =>
    intro cs x h hwt
    obtain ⟨xs, n, rfl, rfl, hl, hlen, hf⟩ := DataW.trod_struct Tryz.underlying26 h
    have f0 : DataW.trod enc Tryz.prog w 0 sp held n 3 ((cs.drop 0).take (Tryz.prog.cellsOf 3)) = xs[0]? := hf 0 _ rfl
    have f1 : DataW.trod enc Tryz.prog w 0 sp held n 3 ((cs.drop 1).take (Tryz.prog.cellsOf 3)) = xs[1]? := hf 1 _ rfl
    have f2 : DataW.trod enc Tryz.prog w 0 sp held n 3 ((cs.drop 2).take (Tryz.prog.cellsOf 3)) = xs[2]? := hf 2 _ rfl
    have f3 : DataW.trod enc Tryz.prog w 0 sp held n 23 ((cs.drop 3).take (Tryz.prog.cellsOf 23)) = xs[3]? := hf 3 _ rfl
    have f4 : DataW.trod enc Tryz.prog w 0 sp held n 24 ((cs.drop 7).take (Tryz.prog.cellsOf 24)) = xs[4]? := hf 4 _ rfl
    clear hf h
    obtain ⟨y0, y1, y2, y3, y4, rfl⟩ : ∃ y0 y1 y2 y3 y4, xs = [y0, y1, y2, y3, y4] := by
      exact list5 hlen
    rw [cellsRx] at hl
    obtain ⟨c0, c1, c2, c3, c4, c5, c6, c7, rfl⟩ : ∃ c0 c1 c2 c3 c4 c5 c6 c7, cs = [c0, c1, c2, c3, c4, c5, c6, c7] := by
      exact list8 hl
    simp only [cellsInt, cellsArr, cellsRow, List.drop_zero, List.drop_succ_cons, List.take_succ_cons, List.take_zero, List.getElem?_cons_zero, List.getElem?_cons_succ] at f0 f1 f2 f3 f4
    obtain ⟨k, hk, -, hk'⟩ := DataW.trod_int Tryz.underlying3 f0
    obtain ⟨mn, hmn, -, hmn'⟩ := DataW.trod_int Tryz.underlying3 f1
    obtain ⟨mx, hmx, -, hmx'⟩ := DataW.trod_int Tryz.underlying3 f2
    simp only [List.cons.injEq, and_true] at hk hmn hmx
    subst hk; subst hmn; subst hmx
    obtain ⟨zs, m3, hm3, -, -, hzl, hz⟩ := DataW.trod_array Tryz.underlying23 f3
    have z0 := hz 0 (by omega)
    have z1 := hz 1 (by omega)
    have z2 := hz 2 (by omega)
    have z3 := hz 3 (by omega)
    clear hz
    obtain ⟨v0, v1, v2, v3, rfl⟩ : ∃ v0 v1 v2 v3, zs = [v0, v1, v2, v3] := by
      exact list4 hzl
    simp only [cellsU64, Nat.zero_mul, Nat.one_mul, Nat.mul_one, List.drop_zero, List.drop_succ_cons, List.take_succ_cons, List.take_zero, List.getElem?_cons_zero, List.getElem?_cons_succ] at z0 z1 z2 z3
    obtain ⟨s0, hs0, -, hs0'⟩ := DataW.trod_int Tryz.underlying22 z0
    obtain ⟨s1, hs1, -, hs1'⟩ := DataW.trod_int Tryz.underlying22 z1
    obtain ⟨s2, hs2, -, hs2'⟩ := DataW.trod_int Tryz.underlying22 z2
    obtain ⟨s3, hs3, -, hs3'⟩ := DataW.trod_int Tryz.underlying22 z3
    simp only [List.cons.injEq, and_true] at hs0 hs1 hs2 hs3
    subst hs0; subst hs1; subst hs2; subst hs3
    have hw4 : ∀ n ∈ y4.1.weights Tryz.prog 24, n ≤ reachBytes := by
      intro n hn
      apply hwt
      simp only [DataW.weights, Tryz.underlying26]
      exact DataW.weights_mem_each (j := 4) (t := 24) (d := y4.1) rfl rfl n hn
    have hnum : I64 k ∧ I64 mn ∧ I64 mx ∧ U64 s0 ∧ U64 s1 ∧ U64 s2 ∧ U64 s3 :=
      ⟨i64_of_wf hk', i64_of_wf hmn', i64_of_wf hmx', u64_of_wf hs0', u64_of_wf hs1', u64_of_wf hs2', u64_of_wf hs3'⟩
    rcases DataW.trod_slice Tryz.underlying24 f4 with ⟨hc7, -⟩ | ⟨a, len, cap, elems, rest, m, hm, hc7, hy, -, hlc, hcm, hel, hee, -⟩
    · simp only [List.cons.injEq, and_true] at hc7
      subst hc7
      refine ⟨.node k mn mx s0 s1 s2 s3 none 0 [], rfl, ?_⟩
      simp only [RxA.In]
      exact ⟨hnum, by simp, by simp, by simp, .inl trivial⟩
    · simp only [List.cons.injEq, and_true] at hc7
      subst hc7
      subst hy
      simp only [DataW.weights, Tryz.underlying24, bytesRx, List.mem_cons, List.mem_append, List.length_map] at hw4
      have hbig := hw4 _ (.inl rfl)
      have hr := reachBytes_lt
      have hsz : elems.length * 120 ≤ 2 ^ 51 := by omega
      by_cases h0 : len = 0
      · subst h0
        refine ⟨.node k mn mx s0 s1 s2 s3 (some a) cap [], rfl, ?_⟩
        simp only [RxA.In]
        exact ⟨hnum, by simp, hcm, by simp, .inl trivial⟩
      · have hb0 := hee 0 (by omega)
        rw [cellsRx] at hee hb0
        obtain ⟨y, hy0⟩ : ∃ y, elems[0]? = some y := ⟨elems[0]'(by omega), List.getElem?_eq_getElem _⟩
        rw [hy0, Option.bind_eq_some_iff] at hb0
        obtain ⟨cs0, hcs0, -⟩ := hb0
        have hc0 := (World.cells?_some hcs0).2.2 0 (by omega)
        have hlen0 := (World.cells?_some hcs0).2.1
        obtain ⟨b, o, spot⟩ := a
        have hsp : spot = none := by
          cases spot with
          | none => rfl
          | some q =>
            rw [List.getElem?_eq_getElem (by omega)] at hc0
            simp only [Nat.zero_mul, Addr.add, if_true, World.cell?] at hc0
            split at hc0
            · simp at hc0
            · cases hc0
        subst hsp
        have hc0' : w.cell? ⟨b, o, none⟩ = some (cs0[0]'(by omega)) := by
          rw [List.getElem?_eq_getElem (by omega)] at hc0
          simpa [Addr.add] using hc0
        have hblt := World.block_lt_of_cell? _ _ hc0'
        obtain ⟨l, hll, hL⟩ := open_row (enc := enc) (sp := sp) (held := held) (m := m) (ih m (by omega)) b o elems 0 (fun i hi => by
          have := hee i (by omega)
          rw [addr_add_none] at this
          rw [← this, Nat.zero_add]) (fun n hn => hw4 n (.inr (.inl hn)))
        refine ⟨.node k mn mx s0 s1 s2 s3 (some ⟨b, o, none⟩) cap l, ?_, ?_⟩
        · simp only [RxA.cells, hll, hel]
        · simp only [RxA.In]
          refine ⟨hnum, by omega, hcm, by rw [hll]; exact hsz, .inr ⟨b, o, rfl, hblt, ?_⟩⟩
          simpa using hL
end
end Go.Proofs.YtjhclopdcbnmkaaGreatDoor

/- The walks of size: the reference's and the program's tell Rx.sizeI. -/
namespace Go.Proofs.YtjhclopdcbnmkaaGreatDoor
open Go.RowKit PX

mutual
/-- No count is great. -/
def tame : Rx → Prop
  | .node _ mn mx _ _ _ _ l => (-15 ≤ mn ∧ mn ≤ 15) ∧ (-15 ≤ mx ∧ mx ≤ 15) ∧ tameAll l
def tameAll : List Rx → Prop
  | [] => True
  | x :: xs => tame x ∧ tameAll xs
end
mutual
theorem tame_of_form : ∀ x : Rx, x.formB = true → tame x
  | .node k mn mx _ _ _ _ l, h => by
    simp only [Rx.formB, Bool.and_eq_true] at h
    have hl := tameAll_of_form l h.2
    simp only [tame]
    have h1 := h.1
    refine ⟨?_, ?_, hl⟩
    all_goals
      repeat' split at h1
      all_goals
        simp only [Bool.and_eq_true, decide_eq_true_eq] at h1
        omega
theorem tameAll_of_form : ∀ l : List Rx, formAll l = true → tameAll l
  | [], _ => trivial
  | x :: xs, h => by
    simp only [formAll, Bool.and_eq_true] at h
    exact ⟨tame_of_form x h.1, tameAll_of_form xs h.2⟩
end
theorem tameAll_mem {x : RxA} : ∀ {l : List RxA}, tameAll (bareAll l) → x ∈ l → tame x.bare
  | y :: ys, h, hx => by
    simp only [bareAll, tameAll] at h
    cases hx with
    | head => exact h.1
    | tail _ h' => exact tameAll_mem h.2 h'

/-- The sizes of the first ones. -/
def sizeTo (t : Int) (l : List RxA) (k : Nat) : Int := sizeFrom t 1 (bareAll (l.take k))
theorem sizeTo_def (t : Int) (l : List RxA) (k : Nat) : sizeTo t l k = sizeFrom t 1 (bareAll (l.take k)) := rfl
theorem sizeFrom_append (t : Int) : ∀ (l : List Rx) (n : Int) (x : Rx), sizeFrom t n (l ++ [x]) = min 257 (sizeFrom t n l + t * x.sizeI)
  | [], n, x => rfl
  | y :: ys, n, x => by simp only [List.cons_append, sizeFrom]; rw [sizeFrom_append t ys]
theorem sizeTo_succ (t : Int) (l : List RxA) (k : Nat) (h : k < l.length) : sizeTo t l (k + 1) = min 257 (sizeTo t l k + t * l[k].bare.sizeI) := by
  unfold sizeTo
  rw [List.take_succ_eq_append_getElem h, bareAll_eq, bareAll_eq, List.map_append]
  exact sizeFrom_append t _ 1 _
theorem sizeFrom_bd (t : Int) (ht : 1 ≤ t) (l : List Rx) : 1 ≤ sizeFrom t 1 l ∧ sizeFrom t 1 l ≤ 257 := by
  rw [sizeFrom_eq t ht l 1 (by omega) (by omega)]
  have : 0 ≤ t * bigAll l := Int.mul_nonneg (by omega) (bigAll_nonneg l)
  omega
theorem sizeI_bd (x : Rx) : 1 ≤ x.sizeI ∧ x.sizeI ≤ 257 := by rw [Rx.sizeI_eq]; have := x.big_pos; omega
theorem mul_bd {t s : Int} (h1 : 1 ≤ t) (h2 : t ≤ 15) (h3 : 1 ≤ s) (h4 : s ≤ 257) : 1 ≤ t * s ∧ t * s ≤ 3855 := by
  have a : 1 * 1 ≤ t * s := Int.mul_le_mul h1 h3 (by omega) (by omega)
  have b : t * s ≤ 15 * 257 := Int.mul_le_mul h2 h4 (by omega) (by omega)
  omega

def SizeOf (f : Nat) : Prop := ∀ (x : RxA) (w : World) (B : Nat), B ≤ w.heap.size → x.In w B → tame x.bare →
    Calls Tryz.prog f #[x.val] w fun e w' => e = .returned (.int .i64 x.bare.sizeI) ∧ Below w.heap.size w w'

set_option maxHeartbeats 1000000 in
theorem rsize_any : SizeOf 29 := by
  intro x
  induction x using RxA.ind with
  | h k mn mx s0 s1 s2 s3 a cap l ih =>
    intro w B hB hin ht
    have hin' := hin
    simp only [RxA.In] at hin'
    obtain ⟨⟨bk, bmn, bmx, -⟩, hl1, hl2, hl3, hl⟩ := hin'
    clear hin
    simp only [RxA.bare, tame] at ht
    obtain ⟨t1, t2, t3⟩ := ht
    have t4 : ∀ x ∈ l, tame x.bare := fun x hx => tameAll_mem t3 hx
    clear t3
    unfold maxLen at hl2
    have hT : times k mn mx = if k = 3 then max (max 1 mn) mx else 1 := rfl
    have hTb := times_pos k mn mx
    have hTc : times k mn mx ≤ 15 := by unfold times; split <;> omega
    have HT := Lib.hid hT; clear hT
    have IH := Lib.hid ih; clear ih
    have hg : ∀ j (h : j < l.length), ∃ b o, a = some ⟨b, o, none⟩ ∧ b < w.heap.size ∧ (∀ i, i < 8 → (w.alloc (.cells #[.int .i64 k, .int .i64 mn, .int .i64 mx, .int .u64 s0, .int .u64 s1, .int .u64 s2, .int .u64 s3, .slice a l.length cap] 26)).cell? ⟨b, o + j * 8 + i, none⟩ = l[j].cells[i]?) ∧ l[j].In w B := by
      intro j hj
      rcases hl with rfl | ⟨b, o, rfl, hb, hl⟩
      · simp at hj
      · have := RxA.In.get hl j hj
        exact ⟨b, o, rfl, by omega, fun i hi => (World.cell?_alloc_past _ _ _ (by show b < w.heap.size; omega)).trans (this.1 i hi), this.2⟩
    have HG := Lib.hid hg; clear hg hl
    have T4 := Lib.hid t4; clear t4
    have hgo : ∀ t : Int, 1 ≤ t → t ≤ 15 → times k mn mx = t → (RxA.node k mn mx s0 s1 s2 s3 a cap l).bare.sizeI = sizeTo t l l.length := by
      intro t _ _ h
      simp only [RxA.bare, Rx.sizeI, sizeTo, h, List.take_length]
    have HGO := Lib.hid hgo; clear hgo
    show Calls Tryz.prog 29 #[.agg #[.int .i64 k, .int .i64 mn, .int .i64 mx, .int .u64 s0, .int .u64 s1, .int .u64 s2, .int .u64 s3, .slice a l.length cap]] w _
    have hcase : ((k == 3) = true ∧ times k mn mx = max 1 (max mn mx)) ∨ ((k == 3) = false ∧ times k mn mx = 1) := by
      by_cases hk : k = 3
      · exact .inl ⟨by simp [hk], by rw [HT.out, if_pos hk]; omega⟩
      · exact .inr ⟨by simp [hk], by rw [HT.out, if_neg hk]⟩
    clear HT
    rcases hcase with ⟨hk, hT1⟩ | ⟨hk, hT1⟩
    all_goals
      have HT1 := Lib.hid hT1; clear hT1
      go_enter Tryz.func29, Tryz.ntmps29
      go_wp2_with fail
      go_loopw [3, 5] (fun n i wr => ∃ j : Nat, j ≤ l.length ∧ i = .int .i64 j ∧ n = .int .i64 (sizeTo (times k mn mx) l j) ∧
          Below (w.heap.size + 1) (w.alloc (.cells #[.int .i64 k, .int .i64 mn, .int .i64 mx, .int .u64 s0, .int .u64 s1, .int .u64 s2, .int .u64 s3, .slice a l.length cap] 26)) wr) (fun _ i _ => l.length - (intOf i).toNat)
      case atStart => exact ⟨0, Nat.zero_le _, rfl, by simp [sizeTo, bareAll, sizeFrom], Below.refl _ _⟩
      case round =>
        obtain ⟨j, hj, rfl, rfl, hbel⟩ := hrel
        have c7 := laid_cell hbel (by omega) 7 (.slice a l.length cap) rfl
        by_cases hlt : j < l.length
        · obtain ⟨b, o, rfl, hb, hcs, hxin⟩ := HG.out j hlt
          have hxt := T4.out l[j] (List.getElem_mem hlt)
          have hih := IH.out l[j] (List.getElem_mem hlt)
          have hss := sizeTo_succ (times k mn mx) l j hlt
          have hsb := sizeI_bd l[j].bare
          have hst := sizeFrom_bd (times k mn mx) hTb (bareAll (l.take j))
          have hsv := sizeTo_def (times k mn mx) l j
          rw [← hsv] at hst
          clear hsv
          generalize hxe : l[j] = x at *
          have HXE := Lib.hid hxe; clear hxe
          have HSS := Lib.hid hss; clear hss
          have HIH := Lib.hid hih; clear hih
          obtain ⟨k', mn', mx', s0', s1', s2', s3', a', cap', l'⟩ := x
          obtain ⟨d0, d1, d2, d3, d4, d5, d6, d7⟩ := node_cells (o := o + j * 8) (fun i hi => (hbel.cell (p := ⟨b, o + j * 8 + i, none⟩) (by show b < w.heap.size + 1; omega)).trans (hcs i hi))
          clear hcs
          have hbw : Below w.heap.size w wr := ((Below.refl _ _).alloc (Nat.le_refl _) _).trans (hbel.mono (by omega))
          have hws := hbel.size
          simp only [World.size_alloc] at hws
          have hmb := mul_bd (t := max 1 (max mn mx)) (s := (RxA.node k' mn' mx' s0' s1' s2' s3' a' cap' l').bare.sizeI) (by omega) (by omega) hsb.1 hsb.2
          go_wp2_with fail
          refine (HIH.out wr B (by omega) (hxin.below hbw hB) hxt).mono ?_
          rintro e w1 ⟨rfl, hb1⟩
          go_wp2_with fail
          go_roundw
          case rel => exact ⟨j + 1, by omega, by go_num, by first | (rw [HSS.out, HT1.out]; done) | rw [HSS.out, HT1.out, Int.one_mul], hbel.trans (hb1.mono (by omega))⟩
          case measure => simp [intOf]; omega
        · have hje : j = l.length := by omega
          go_wp2_with fail
          go_ret
          refine ⟨ret_int ?_, ?_⟩
          · rw [HGO.out _ hTb hTc rfl, hje]
          · exact ((Below.refl _ _).alloc (Nat.le_refl _) _).trans (hbel.mono (by omega))
set_option maxHeartbeats 1000000 in
theorem psize_any : SizeOf 31 := by
  intro x
  induction x using RxA.ind with
  | h k mn mx s0 s1 s2 s3 a cap l ih =>
    intro w B hB hin ht
    have hin' := hin
    simp only [RxA.In] at hin'
    obtain ⟨⟨bk, bmn, bmx, -⟩, hl1, hl2, hl3, hl⟩ := hin'
    clear hin
    simp only [RxA.bare, tame] at ht
    obtain ⟨t1, t2, t3⟩ := ht
    have t4 : ∀ x ∈ l, tame x.bare := fun x hx => tameAll_mem t3 hx
    clear t3
    unfold maxLen at hl2
    have hT : times k mn mx = if k = 3 then max (max 1 mn) mx else 1 := rfl
    have hTb := times_pos k mn mx
    have hTc : times k mn mx ≤ 15 := by unfold times; split <;> omega
    have HT := Lib.hid hT; clear hT
    have IH := Lib.hid ih; clear ih
    have hg : ∀ j (h : j < l.length), ∃ b o, a = some ⟨b, o, none⟩ ∧ b < w.heap.size ∧ (∀ i, i < 8 → (w.alloc (.cells #[.int .i64 k, .int .i64 mn, .int .i64 mx, .int .u64 s0, .int .u64 s1, .int .u64 s2, .int .u64 s3, .slice a l.length cap] 26)).cell? ⟨b, o + j * 8 + i, none⟩ = l[j].cells[i]?) ∧ l[j].In w B := by
      intro j hj
      rcases hl with rfl | ⟨b, o, rfl, hb, hl⟩
      · simp at hj
      · have := RxA.In.get hl j hj
        exact ⟨b, o, rfl, by omega, fun i hi => (World.cell?_alloc_past _ _ _ (by show b < w.heap.size; omega)).trans (this.1 i hi), this.2⟩
    have HG := Lib.hid hg; clear hg hl
    have T4 := Lib.hid t4; clear t4
    have hgo : ∀ t : Int, 1 ≤ t → t ≤ 15 → times k mn mx = t → (RxA.node k mn mx s0 s1 s2 s3 a cap l).bare.sizeI = sizeTo t l l.length := by
      intro t _ _ h
      simp only [RxA.bare, Rx.sizeI, sizeTo, h, List.take_length]
    have HGO := Lib.hid hgo; clear hgo
    show Calls Tryz.prog 31 #[.agg #[.int .i64 k, .int .i64 mn, .int .i64 mx, .int .u64 s0, .int .u64 s1, .int .u64 s2, .int .u64 s3, .slice a l.length cap]] w _
    have hcase : ((k == 3) = true ∧ times k mn mx = max 1 (max mn mx)) ∨ ((k == 3) = false ∧ times k mn mx = 1) := by
      by_cases hk : k = 3
      · exact .inl ⟨by simp [hk], by rw [HT.out, if_pos hk]; omega⟩
      · exact .inr ⟨by simp [hk], by rw [HT.out, if_neg hk]⟩
    clear HT
    rcases hcase with ⟨hk, hT1⟩ | ⟨hk, hT1⟩
    all_goals
      have HT1 := Lib.hid hT1; clear hT1
      go_enter Tryz.func31, Tryz.ntmps31
      go_wp2_with fail
      go_loopw [3, 18] (fun n i wr => ∃ j : Nat, j ≤ l.length ∧ i = .int .i64 j ∧ n = .int .i64 (sizeTo (times k mn mx) l j) ∧
          Below (w.heap.size + 1) (w.alloc (.cells #[.int .i64 k, .int .i64 mn, .int .i64 mx, .int .u64 s0, .int .u64 s1, .int .u64 s2, .int .u64 s3, .slice a l.length cap] 26)) wr) (fun _ i _ => l.length - (intOf i).toNat)
      case atStart => exact ⟨0, Nat.zero_le _, rfl, by simp [sizeTo, bareAll, sizeFrom], Below.refl _ _⟩
      case round =>
        obtain ⟨j, hj, rfl, rfl, hbel⟩ := hrel
        have c7 := laid_cell hbel (by omega) 7 (.slice a l.length cap) rfl
        by_cases hlt : j < l.length
        · obtain ⟨b, o, rfl, hb, hcs, hxin⟩ := HG.out j hlt
          have hxt := T4.out l[j] (List.getElem_mem hlt)
          have hih := IH.out l[j] (List.getElem_mem hlt)
          have hss := sizeTo_succ (times k mn mx) l j hlt
          have hsb := sizeI_bd l[j].bare
          have hst := sizeFrom_bd (times k mn mx) hTb (bareAll (l.take j))
          have hsv := sizeTo_def (times k mn mx) l j
          rw [← hsv] at hst
          clear hsv
          generalize hxe : l[j] = x at *
          have HXE := Lib.hid hxe; clear hxe
          have HSS := Lib.hid hss; clear hss
          have HIH := Lib.hid hih; clear hih
          obtain ⟨k', mn', mx', s0', s1', s2', s3', a', cap', l'⟩ := x
          obtain ⟨d0, d1, d2, d3, d4, d5, d6, d7⟩ := node_cells (o := o + j * 8) (fun i hi => (hbel.cell (p := ⟨b, o + j * 8 + i, none⟩) (by show b < w.heap.size + 1; omega)).trans (hcs i hi))
          clear hcs
          have hbw : Below w.heap.size w wr := ((Below.refl _ _).alloc (Nat.le_refl _) _).trans (hbel.mono (by omega))
          have hws := hbel.size
          simp only [World.size_alloc] at hws
          have hmb := mul_bd (t := max 1 (max mn mx)) (s := (RxA.node k' mn' mx' s0' s1' s2' s3' a' cap' l').bare.sizeI) (by omega) (by omega) hsb.1 hsb.2
          go_wp2_with fail
          refine (HIH.out _ B (by simp; omega) ((hxin.below hbw hB).below ((Below.refl wr.heap.size wr).alloc (Nat.le_refl _) _) (by omega)) hxt).mono ?_
          rintro e w1 ⟨rfl, hb1⟩
          go_wp2_with fail
          go_roundw
          case rel => exact ⟨j + 1, by omega, by go_num, by first | (rw [HSS.out, HT1.out]; done) | rw [HSS.out, HT1.out, Int.one_mul], (hbel.alloc (by omega) _).trans (hb1.mono (by simp; omega))⟩
          case measure => simp [intOf]; omega
        · have hje : j = l.length := by omega
          go_wp2_with fail
          go_ret
          refine ⟨ret_int ?_, ?_⟩
          · rw [HGO.out _ hTb hTc rfl, hje]
          · exact ((Below.refl _ _).alloc (Nat.le_refl _) _).trans (hbel.mono (by omega))
end Go.Proofs.YtjhclopdcbnmkaaGreatDoor

/- The walks of form: the reference's and the program's tell Rx.formB. -/
namespace Go.Proofs.YtjhclopdcbnmkaaGreatDoor
open Go.RowKit PX

def FormOf (f : Nat) : Prop := ∀ (x : RxA) (w : World) (B : Nat), B ≤ w.heap.size → x.In w B →
    Calls Tryz.prog f #[x.val] w fun e w' => e = .returned (.bool x.bare.formB) ∧ Below w.heap.size w w'

theorem below_two (w : World) (o o' : Obj) : Below (w.heap.size + 1) (w.alloc o) ((w.alloc o).alloc o') := (Below.refl _ _).alloc (by simp) _
theorem formAll_mem {x : RxA} : ∀ {l : List RxA}, formAll (bareAll l) = true → x ∈ l → x.bare.formB = true
  | y :: ys, h, hx => by
    simp only [bareAll, formAll, Bool.and_eq_true] at h
    cases hx with
    | head => exact h.1
    | tail _ h' => exact formAll_mem h.2 h'
theorem formAll_append : ∀ (l : List Rx) (x : Rx), formAll (l ++ [x]) = (formAll l && x.formB)
  | [], x => by simp [formAll]
  | y :: ys, x => by simp only [List.cons_append, formAll]; rw [formAll_append ys, Bool.and_assoc]
theorem formTo_succ (l : List RxA) (k : Nat) (h : k < l.length) : formAll (bareAll (l.take (k + 1))) = (formAll (bareAll (l.take k)) && l[k].bare.formB) := by
  rw [List.take_succ_eq_append_getElem h, bareAll_eq, bareAll_eq, List.map_append]
  exact formAll_append _ _
theorem form_no {k mn mx s0 s1 s2 s3 : Int} {a : Option Addr} {cap : Nat} {l : List RxA} (h : ¬ Shape k mn mx s0 s1 s2 s3 l.length) : false = (RxA.node k mn mx s0 s1 s2 s3 a cap l).bare.formB := by
  rw [eq_comm, Bool.eq_false_iff]
  intro h'
  rw [RxA.bare, formB_iff, bareAll_length] at h'
  exact h h'.1
theorem form_bad {k mn mx s0 s1 s2 s3 : Int} {a : Option Addr} {cap : Nat} {l : List RxA} {x : RxA} (hx : x ∈ l) (h : x.bare.formB = false) : false = (RxA.node k mn mx s0 s1 s2 s3 a cap l).bare.formB := by
  rw [eq_comm, Bool.eq_false_iff]
  intro h'
  rw [RxA.bare, formB_iff, bareAll_length] at h'
  rw [formAll_mem h'.2 hx] at h
  cases h
theorem form_yes {k mn mx s0 s1 s2 s3 : Int} {a : Option Addr} {cap : Nat} {l : List RxA} (h : Shape k mn mx s0 s1 s2 s3 l.length) (hl : formAll (bareAll l) = true) : true = (RxA.node k mn mx s0 s1 s2 s3 a cap l).bare.formB := by
  rw [eq_comm, RxA.bare, formB_iff, bareAll_length]
  exact ⟨h, hl⟩

theorem form_set {k mn mx s0 s1 s2 s3 : Int} {a : Option Addr} {cap : Nat} {l : List RxA} (h : k = 0 ∧ mn = 0 ∧ mx = 0) (h' : ¬(s0 = 0 ∧ s1 = 0 ∧ s2 = 0 ∧ s3 = 0)) :
    ((l.length : Int) == 0) = (RxA.node k mn mx s0 s1 s2 s3 a cap l).bare.formB := by
  cases l with
  | nil => exact form_yes (.inl ⟨h.1, rfl, h', h.2.1, h.2.2⟩) rfl
  | cons x l =>
    have e : (((x :: l).length : Int) == 0) = false := by rw [beq_eq_false_iff_ne]; simp only [List.length_cons]; omega
    rw [e]
    exact form_no (by unfold Shape; simp only [List.length_cons]; omega)

set_option maxRecDepth 100000 in
set_option maxHeartbeats 1000000 in
theorem rform_any : FormOf 28 := by
  intro x
  induction x using RxA.ind with
  | h k mn mx s0 s1 s2 s3 a cap l ih =>
    intro w B hB hin
    have hin' := hin
    simp only [RxA.In] at hin'
    obtain ⟨⟨bk, bmn, bmx, b0, b1, b2, b3⟩, hl1, hl2, hl3, hl⟩ := hin'
    clear hin
    unfold maxLen at hl2
    obtain ⟨C, HC⟩ : ∃ C, Hid (C = #[Value.int .i64 k, .int .i64 mn, .int .i64 mx, .int .u64 s0, .int .u64 s1, .int .u64 s2, .int .u64 s3, .slice a l.length cap]) := ⟨_, rfl⟩
    have hg : ∀ j (h : j < l.length), ∃ b o, a = some ⟨b, o, none⟩ ∧ b < w.heap.size ∧ (∀ i, i < 8 → (w.alloc (.cells C 26)).cell? ⟨b, o + j * 8 + i, none⟩ = l[j].cells[i]?) ∧ l[j].In w B := by
      intro j hj
      rcases hl with rfl | ⟨b, o, rfl, hb, hl⟩
      · simp at hj
      · have := RxA.In.get hl j hj
        exact ⟨b, o, rfl, by omega, fun i hi => (World.cell?_alloc_past _ _ _ (by show b < w.heap.size; omega)).trans (this.1 i hi), this.2⟩
    have HG := Lib.hid hg; clear hg hl
    have IH := Lib.hid ih; clear ih
    show Calls Tryz.prog 28 #[.agg #[.int .i64 k, .int .i64 mn, .int .i64 mx, .int .u64 s0, .int .u64 s1, .int .u64 s2, .int .u64 s3, .slice a l.length cap]] w _
    go_enter Tryz.func28, Tryz.ntmps28
    go_wp2_with fail
    all_goals first
      | (go_ret
         refine ⟨ret_bool (form_no ?_), ((Below.refl _ _).alloc (Nat.le_refl _) _).alloc (by simp) _⟩
         clear HG IH
         try simp only [bne_iff_ne, ne_eq, beq_iff_eq, bne_eq_false_iff_eq, beq_eq_false_iff_ne, same4, decide_eq_true_eq, decide_eq_false_iff_not] at *
         unfold Shape
         omega)
      | (go_ret
         refine ⟨ret_bool (form_set ?_ ?_), ((Below.refl _ _).alloc (Nat.le_refl _) _).alloc (by simp) _⟩
         all_goals
           clear HG IH
           try simp only [bne_iff_ne, ne_eq, beq_iff_eq, bne_eq_false_iff_eq, beq_eq_false_iff_ne, same4, decide_eq_true_eq, decide_eq_false_iff_not] at *
           omega)
      | skip
    all_goals
      have hshape : Shape k mn mx s0 s1 s2 s3 l.length := by
        clear HG IH
        try simp only [bne_iff_ne, ne_eq, beq_iff_eq, bne_eq_false_iff_eq, beq_eq_false_iff_ne, same4, decide_eq_true_eq, decide_eq_false_iff_not] at *
        unfold Shape
        omega
      have HS := Lib.hid hshape; clear hshape
      try (rename ((l.length : Int) = 1) => hlen1; clear hlen1)
      try (rename (mn = 0) => hmn0; subst hmn0)
      try (rename (mx = -1) => hmx0; subst hmx0)
      try (rename (k = 3) => hk3; subst hk3)
      repeat (rename ((_ : Bool) = _) => hbb; clear hbb)
      go_loopw [4] (fun i wr => ∃ j : Nat, j ≤ l.length ∧ i = .int .i64 j ∧ formAll (bareAll (l.take j)) = true ∧
          Below (w.heap.size + 1) (w.alloc (.cells C 26)) wr) (fun i _ => l.length - (intOf i).toNat)
      case atStart => exact ⟨0, Nat.zero_le _, rfl, rfl, by rw [HC.out]; exact below_two _ _ _⟩
      case round =>
        obtain ⟨j, hj, rfl, hfa, hbel⟩ := hrel
        have HFA := Lib.hid hfa; clear hfa
        have hbw : Below w.heap.size w wr := ((Below.refl _ _).alloc (Nat.le_refl _) _).trans (hbel.mono (by omega))
        have c7 := laid_cell hbel (by omega) 7 (.slice a l.length cap) (by rw [HC.out]; rfl)
        by_cases hlt : j < l.length
        · obtain ⟨b, o, rfl, hb, hcs, hxin⟩ := HG.out j hlt
          have hih := IH.out l[j] (List.getElem_mem hlt)
          have hss := formTo_succ l j hlt
          have hxm : l[j] ∈ l := List.getElem_mem hlt
          generalize hxe : l[j] = x at *
          have HXE := Lib.hid hxe; clear hxe
          have HSS := Lib.hid hss; clear hss
          have HIH := Lib.hid hih; clear hih
          have HXM := Lib.hid hxm; clear hxm
          obtain ⟨k', mn', mx', s0', s1', s2', s3', a', cap', l'⟩ := x
          obtain ⟨d0, d1, d2, d3, d4, d5, d6, d7⟩ := node_cells (o := o + j * 8) (fun i hi => (hbel.cell (p := ⟨b, o + j * 8 + i, none⟩) (by show b < w.heap.size + 1; omega)).trans (hcs i hi))
          clear hcs
          have hws := hbel.size
          simp only [World.size_alloc] at hws
          go_wp2_with fail
          refine (HIH.out wr B (by omega) (hxin.below hbw hB)).mono ?_
          rintro e w1 ⟨rfl, hb1⟩
          have HFB : ∃ fb, Hid ((RxA.node k' mn' mx' s0' s1' s2' s3' a' cap' l').bare.formB = fb) := ⟨_, Lib.hid rfl⟩
          obtain ⟨fb, HFB⟩ := HFB
          rw [HFB.out]
          cases fb
          · go_wp2_with fail
            go_ret
            exact ⟨ret_bool (form_bad HXM.out HFB.out), hbw.trans (hb1.mono (by omega))⟩
          · go_wp2_with fail
            go_roundw
            case rel => exact ⟨j + 1, by omega, by go_num, by rw [HSS.out, HFA.out, HFB.out]; rfl, hbel.trans (hb1.mono (by omega))⟩
            case measure => simp [intOf]; omega
        · have hje : j = l.length := by omega
          go_wp2_with fail
          go_ret
          refine ⟨ret_bool (form_yes HS.out ?_), hbw⟩
          rw [← List.take_length (l := l), ← hje]; exact HFA.out
end Go.Proofs.YtjhclopdcbnmkaaGreatDoor

/- The walks of the program's form (its tests' tree is printed by a program of ours, gen_formp.py). -/
namespace Go.Proofs.YtjhclopdcbnmkaaGreatDoor
open Go.RowKit PX
theorem form_same {k mn mx s0 s1 s2 s3 : Int} {a : Option Addr} {cap : Nat} {l : List RxA} (h : Shape k mn mx s0 s1 s2 s3 l.length) : formAll (bareAll l) = (RxA.node k mn mx s0 s1 s2 s3 a cap l).bare.formB := by
  rw [Bool.eq_iff_iff, RxA.bare, formB_iff, bareAll_length]
  exact ⟨fun h' => ⟨h, h'⟩, fun h' => h'.2⟩

set_option maxRecDepth 100000 in
set_option maxHeartbeats 2000000 in
theorem pform_0 (mn mx s0 s1 s2 s3 : Int) (a : Option Addr) (cap : Nat) (l : List RxA) (w : World) (hl1 : l.length ≤ cap) (hl2 : cap ≤ 9223372036854775807)
    (hc : ∀ w', Below w.heap.size w w' → Calls Tryz.prog 49 #[.slice a l.length cap, .func (.func 50) #[] #[]] w' fun e w'' => e = .returned (.bool (!formAll (bareAll l))) ∧ Below w'.heap.size w' w'') :
    Calls Tryz.prog 30 #[(RxA.node 0 mn mx s0 s1 s2 s3 a cap l).val] w fun e w' => e = .returned (.bool (RxA.node 0 mn mx s0 s1 s2 s3 a cap l).bare.formB) ∧ Below w.heap.size w w' := by
  have HC := Lib.hid hc; clear hc
  have hl0 : decide ((l.length : Int) < 0) = false := by simp
  show Calls Tryz.prog 30 #[.agg #[.int .i64 0, .int .i64 mn, .int .i64 mx, .int .u64 s0, .int .u64 s1, .int .u64 s2, .int .u64 s3, .slice a l.length cap]] w _
  cases hmn : (mn != 0)
  · cases hmx : (mx != 0)
    · cases hs : same4 s0 s1 s2 s3 0 0 0 0
      · cases hB : decide (0 < l.length)
        · go_enter Tryz.func30, Tryz.ntmps30
          go_wp2_with fail
          go_quiet (fail)
          go_wp2_with fail
          go_quiet (fail)
          go_wp2_with fail
          refine (HC.out _ (by repeat (first | exact Below.refl _ _ | refine below_drewN ?_ _ | refine Below.alloc ?_ (by simp) _ | refine Below.alloc ?_ (Nat.le_refl _) _))).mono ?_
          rintro e w1 ⟨rfl, hb1⟩
          go_wp2_with fail
          go_ret
          refine ⟨ret_bool (form_same ?_), Below.trans (by repeat (first | exact Below.refl _ _ | refine below_drewN ?_ _ | refine Below.alloc ?_ (by simp) _ | refine Below.alloc ?_ (Nat.le_refl _) _)) (hb1.mono (by simp))⟩
          clear HC; (try simp only [bne_iff_ne, ne_eq, beq_iff_eq, bne_eq_false_iff_eq, beq_eq_false_iff_ne, same4, decide_eq_true_eq, decide_eq_false_iff_not] at *); unfold Shape; omega
        · go_enter Tryz.func30, Tryz.ntmps30
          go_wp2_with fail
          go_quiet (fail)
          go_wp2_with fail
          go_quiet (fail)
          go_wp2_with fail
          go_ret
          refine ⟨ret_bool (form_no ?_), by repeat (first | exact Below.refl _ _ | refine below_drewN ?_ _ | refine Below.alloc ?_ (by simp) _ | refine Below.alloc ?_ (Nat.le_refl _) _)⟩
          clear HC; (try simp only [bne_iff_ne, ne_eq, beq_iff_eq, bne_eq_false_iff_eq, beq_eq_false_iff_ne, same4, decide_eq_true_eq, decide_eq_false_iff_not] at *); unfold Shape; omega
      · go_enter Tryz.func30, Tryz.ntmps30
        go_wp2_with fail
        go_quiet (fail)
        go_wp2_with fail
        go_quiet (fail)
        go_wp2_with fail
        go_ret
        refine ⟨ret_bool (form_no ?_), by repeat (first | exact Below.refl _ _ | refine below_drewN ?_ _ | refine Below.alloc ?_ (by simp) _ | refine Below.alloc ?_ (Nat.le_refl _) _)⟩
        clear HC; (try simp only [bne_iff_ne, ne_eq, beq_iff_eq, bne_eq_false_iff_eq, beq_eq_false_iff_ne, same4, decide_eq_true_eq, decide_eq_false_iff_not] at *); unfold Shape; omega
    · go_enter Tryz.func30, Tryz.ntmps30
      go_wp2_with fail
      go_quiet (fail)
      go_wp2_with fail
      go_quiet (fail)
      go_wp2_with fail
      go_ret
      refine ⟨ret_bool (form_no ?_), by repeat (first | exact Below.refl _ _ | refine below_drewN ?_ _ | refine Below.alloc ?_ (by simp) _ | refine Below.alloc ?_ (Nat.le_refl _) _)⟩
      clear HC; (try simp only [bne_iff_ne, ne_eq, beq_iff_eq, bne_eq_false_iff_eq, beq_eq_false_iff_ne, same4, decide_eq_true_eq, decide_eq_false_iff_not] at *); unfold Shape; omega
  · go_enter Tryz.func30, Tryz.ntmps30
    go_wp2_with fail
    go_quiet (fail)
    go_wp2_with fail
    go_quiet (fail)
    go_wp2_with fail
    go_ret
    refine ⟨ret_bool (form_no ?_), by repeat (first | exact Below.refl _ _ | refine below_drewN ?_ _ | refine Below.alloc ?_ (by simp) _ | refine Below.alloc ?_ (Nat.le_refl _) _)⟩
    clear HC; (try simp only [bne_iff_ne, ne_eq, beq_iff_eq, bne_eq_false_iff_eq, beq_eq_false_iff_ne, same4, decide_eq_true_eq, decide_eq_false_iff_not] at *); unfold Shape; omega
set_option maxRecDepth 100000 in
set_option maxHeartbeats 2000000 in
theorem pform_1 (mn mx s0 s1 s2 s3 : Int) (a : Option Addr) (cap : Nat) (l : List RxA) (w : World) (hl1 : l.length ≤ cap) (hl2 : cap ≤ 9223372036854775807)
    (hc : ∀ w', Below w.heap.size w w' → Calls Tryz.prog 49 #[.slice a l.length cap, .func (.func 50) #[] #[]] w' fun e w'' => e = .returned (.bool (!formAll (bareAll l))) ∧ Below w'.heap.size w' w'') :
    Calls Tryz.prog 30 #[(RxA.node 1 mn mx s0 s1 s2 s3 a cap l).val] w fun e w' => e = .returned (.bool (RxA.node 1 mn mx s0 s1 s2 s3 a cap l).bare.formB) ∧ Below w.heap.size w w' := by
  have HC := Lib.hid hc; clear hc
  have hl0 : decide ((l.length : Int) < 0) = false := by simp
  show Calls Tryz.prog 30 #[.agg #[.int .i64 1, .int .i64 mn, .int .i64 mx, .int .u64 s0, .int .u64 s1, .int .u64 s2, .int .u64 s3, .slice a l.length cap]] w _
  cases hA : ((l.length : Int) == 1)
  · cases hmn : (mn != 0)
    · cases hmx : (mx != 0)
      · cases hs : same4 s0 s1 s2 s3 0 0 0 0
        · go_enter Tryz.func30, Tryz.ntmps30
          go_wp2_with fail
          go_quiet (fail)
          go_wp2_with fail
          go_quiet (fail)
          go_wp2_with fail
          go_ret
          refine ⟨ret_bool (form_no ?_), by repeat (first | exact Below.refl _ _ | refine below_drewN ?_ _ | refine Below.alloc ?_ (by simp) _ | refine Below.alloc ?_ (Nat.le_refl _) _)⟩
          clear HC; (try simp only [bne_iff_ne, ne_eq, beq_iff_eq, bne_eq_false_iff_eq, beq_eq_false_iff_ne, same4, decide_eq_true_eq, decide_eq_false_iff_not] at *); unfold Shape; omega
        · go_enter Tryz.func30, Tryz.ntmps30
          go_wp2_with fail
          go_quiet (fail)
          go_wp2_with fail
          go_quiet (fail)
          go_wp2_with fail
          refine (HC.out _ (by repeat (first | exact Below.refl _ _ | refine below_drewN ?_ _ | refine Below.alloc ?_ (by simp) _ | refine Below.alloc ?_ (Nat.le_refl _) _))).mono ?_
          rintro e w1 ⟨rfl, hb1⟩
          go_wp2_with fail
          go_ret
          refine ⟨ret_bool (form_same ?_), Below.trans (by repeat (first | exact Below.refl _ _ | refine below_drewN ?_ _ | refine Below.alloc ?_ (by simp) _ | refine Below.alloc ?_ (Nat.le_refl _) _)) (hb1.mono (by simp))⟩
          clear HC; (try simp only [bne_iff_ne, ne_eq, beq_iff_eq, bne_eq_false_iff_eq, beq_eq_false_iff_ne, same4, decide_eq_true_eq, decide_eq_false_iff_not] at *); unfold Shape; omega
      · go_enter Tryz.func30, Tryz.ntmps30
        go_wp2_with fail
        go_quiet (fail)
        go_wp2_with fail
        go_quiet (fail)
        go_wp2_with fail
        go_ret
        refine ⟨ret_bool (form_no ?_), by repeat (first | exact Below.refl _ _ | refine below_drewN ?_ _ | refine Below.alloc ?_ (by simp) _ | refine Below.alloc ?_ (Nat.le_refl _) _)⟩
        clear HC; (try simp only [bne_iff_ne, ne_eq, beq_iff_eq, bne_eq_false_iff_eq, beq_eq_false_iff_ne, same4, decide_eq_true_eq, decide_eq_false_iff_not] at *); unfold Shape; omega
    · go_enter Tryz.func30, Tryz.ntmps30
      go_wp2_with fail
      go_quiet (fail)
      go_wp2_with fail
      go_quiet (fail)
      go_wp2_with fail
      go_ret
      refine ⟨ret_bool (form_no ?_), by repeat (first | exact Below.refl _ _ | refine below_drewN ?_ _ | refine Below.alloc ?_ (by simp) _ | refine Below.alloc ?_ (Nat.le_refl _) _)⟩
      clear HC; (try simp only [bne_iff_ne, ne_eq, beq_iff_eq, bne_eq_false_iff_eq, beq_eq_false_iff_ne, same4, decide_eq_true_eq, decide_eq_false_iff_not] at *); unfold Shape; omega
  · go_enter Tryz.func30, Tryz.ntmps30
    go_wp2_with fail
    go_quiet (fail)
    go_wp2_with fail
    go_ret
    refine ⟨ret_bool (form_no ?_), by repeat (first | exact Below.refl _ _ | refine below_drewN ?_ _ | refine Below.alloc ?_ (by simp) _ | refine Below.alloc ?_ (Nat.le_refl _) _)⟩
    clear HC; (try simp only [bne_iff_ne, ne_eq, beq_iff_eq, bne_eq_false_iff_eq, beq_eq_false_iff_ne, same4, decide_eq_true_eq, decide_eq_false_iff_not] at *); unfold Shape; omega
set_option maxRecDepth 100000 in
set_option maxHeartbeats 2000000 in
theorem pform_2 (mn mx s0 s1 s2 s3 : Int) (a : Option Addr) (cap : Nat) (l : List RxA) (w : World) (hl1 : l.length ≤ cap) (hl2 : cap ≤ 9223372036854775807)
    (hc : ∀ w', Below w.heap.size w w' → Calls Tryz.prog 49 #[.slice a l.length cap, .func (.func 50) #[] #[]] w' fun e w'' => e = .returned (.bool (!formAll (bareAll l))) ∧ Below w'.heap.size w' w'') :
    Calls Tryz.prog 30 #[(RxA.node 2 mn mx s0 s1 s2 s3 a cap l).val] w fun e w' => e = .returned (.bool (RxA.node 2 mn mx s0 s1 s2 s3 a cap l).bare.formB) ∧ Below w.heap.size w w' := by
  have HC := Lib.hid hc; clear hc
  have hl0 : decide ((l.length : Int) < 0) = false := by simp
  show Calls Tryz.prog 30 #[.agg #[.int .i64 2, .int .i64 mn, .int .i64 mx, .int .u64 s0, .int .u64 s1, .int .u64 s2, .int .u64 s3, .slice a l.length cap]] w _
  cases hmn : (mn != 0)
  · cases hmx : (mx != 0)
    · cases hs : same4 s0 s1 s2 s3 0 0 0 0
      · go_enter Tryz.func30, Tryz.ntmps30
        go_wp2_with fail
        go_quiet (fail)
        go_wp2_with fail
        go_quiet (fail)
        go_wp2_with fail
        go_ret
        refine ⟨ret_bool (form_no ?_), by repeat (first | exact Below.refl _ _ | refine below_drewN ?_ _ | refine Below.alloc ?_ (by simp) _ | refine Below.alloc ?_ (Nat.le_refl _) _)⟩
        clear HC; (try simp only [bne_iff_ne, ne_eq, beq_iff_eq, bne_eq_false_iff_eq, beq_eq_false_iff_ne, same4, decide_eq_true_eq, decide_eq_false_iff_not] at *); unfold Shape; omega
      · cases hC : decide ((l.length : Int) < 2)
        · go_enter Tryz.func30, Tryz.ntmps30
          go_wp2_with fail
          go_quiet (fail)
          go_wp2_with fail
          go_quiet (fail)
          go_wp2_with fail
          refine (HC.out _ (by repeat (first | exact Below.refl _ _ | refine below_drewN ?_ _ | refine Below.alloc ?_ (by simp) _ | refine Below.alloc ?_ (Nat.le_refl _) _))).mono ?_
          rintro e w1 ⟨rfl, hb1⟩
          go_wp2_with fail
          go_ret
          refine ⟨ret_bool (form_same ?_), Below.trans (by repeat (first | exact Below.refl _ _ | refine below_drewN ?_ _ | refine Below.alloc ?_ (by simp) _ | refine Below.alloc ?_ (Nat.le_refl _) _)) (hb1.mono (by simp))⟩
          clear HC; (try simp only [bne_iff_ne, ne_eq, beq_iff_eq, bne_eq_false_iff_eq, beq_eq_false_iff_ne, same4, decide_eq_true_eq, decide_eq_false_iff_not] at *); unfold Shape; omega
        · go_enter Tryz.func30, Tryz.ntmps30
          go_wp2_with fail
          go_quiet (fail)
          go_wp2_with fail
          go_quiet (fail)
          go_wp2_with fail
          go_ret
          refine ⟨ret_bool (form_no ?_), by repeat (first | exact Below.refl _ _ | refine below_drewN ?_ _ | refine Below.alloc ?_ (by simp) _ | refine Below.alloc ?_ (Nat.le_refl _) _)⟩
          clear HC; (try simp only [bne_iff_ne, ne_eq, beq_iff_eq, bne_eq_false_iff_eq, beq_eq_false_iff_ne, same4, decide_eq_true_eq, decide_eq_false_iff_not] at *); unfold Shape; omega
    · go_enter Tryz.func30, Tryz.ntmps30
      go_wp2_with fail
      go_quiet (fail)
      go_wp2_with fail
      go_quiet (fail)
      go_wp2_with fail
      go_ret
      refine ⟨ret_bool (form_no ?_), by repeat (first | exact Below.refl _ _ | refine below_drewN ?_ _ | refine Below.alloc ?_ (by simp) _ | refine Below.alloc ?_ (Nat.le_refl _) _)⟩
      clear HC; (try simp only [bne_iff_ne, ne_eq, beq_iff_eq, bne_eq_false_iff_eq, beq_eq_false_iff_ne, same4, decide_eq_true_eq, decide_eq_false_iff_not] at *); unfold Shape; omega
  · go_enter Tryz.func30, Tryz.ntmps30
    go_wp2_with fail
    go_quiet (fail)
    go_wp2_with fail
    go_quiet (fail)
    go_wp2_with fail
    go_ret
    refine ⟨ret_bool (form_no ?_), by repeat (first | exact Below.refl _ _ | refine below_drewN ?_ _ | refine Below.alloc ?_ (by simp) _ | refine Below.alloc ?_ (Nat.le_refl _) _)⟩
    clear HC; (try simp only [bne_iff_ne, ne_eq, beq_iff_eq, bne_eq_false_iff_eq, beq_eq_false_iff_ne, same4, decide_eq_true_eq, decide_eq_false_iff_not] at *); unfold Shape; omega
set_option maxRecDepth 100000 in
set_option maxHeartbeats 2000000 in
theorem pform_3 (mn mx s0 s1 s2 s3 : Int) (a : Option Addr) (cap : Nat) (l : List RxA) (w : World) (hl1 : l.length ≤ cap) (hl2 : cap ≤ 9223372036854775807)
    (hc : ∀ w', Below w.heap.size w w' → Calls Tryz.prog 49 #[.slice a l.length cap, .func (.func 50) #[] #[]] w' fun e w'' => e = .returned (.bool (!formAll (bareAll l))) ∧ Below w'.heap.size w' w'') :
    Calls Tryz.prog 30 #[(RxA.node 3 mn mx s0 s1 s2 s3 a cap l).val] w fun e w' => e = .returned (.bool (RxA.node 3 mn mx s0 s1 s2 s3 a cap l).bare.formB) ∧ Below w.heap.size w w' := by
  have HC := Lib.hid hc; clear hc
  have hl0 : decide ((l.length : Int) < 0) = false := by simp
  show Calls Tryz.prog 30 #[.agg #[.int .i64 3, .int .i64 mn, .int .i64 mx, .int .u64 s0, .int .u64 s1, .int .u64 s2, .int .u64 s3, .slice a l.length cap]] w _
  cases h1 : decide (mn < 0)
  · cases h2 : decide (15 < mn)
    · cases h3 : decide (15 < mx)
      · cases h4 : (mx != -1)
        · cases hs : same4 s0 s1 s2 s3 0 0 0 0
          · go_enter Tryz.func30, Tryz.ntmps30
            go_wp2_with fail
            go_quiet (fail)
            go_wp2_with fail
            go_quiet (fail)
            go_wp2_with fail
            go_ret
            refine ⟨ret_bool (form_no ?_), by repeat (first | exact Below.refl _ _ | refine below_drewN ?_ _ | refine Below.alloc ?_ (by simp) _ | refine Below.alloc ?_ (Nat.le_refl _) _)⟩
            clear HC; (try simp only [bne_iff_ne, ne_eq, beq_iff_eq, bne_eq_false_iff_eq, beq_eq_false_iff_ne, same4, decide_eq_true_eq, decide_eq_false_iff_not] at *); unfold Shape; omega
          · cases hD : decide ((l.length : Int) < 1)
            · cases hE : decide ((1 : Int) < l.length)
              · go_enter Tryz.func30, Tryz.ntmps30
                go_wp2_with fail
                go_quiet (fail)
                go_wp2_with fail
                go_quiet (fail)
                go_wp2_with fail
                refine (HC.out _ (by repeat (first | exact Below.refl _ _ | refine below_drewN ?_ _ | refine Below.alloc ?_ (by simp) _ | refine Below.alloc ?_ (Nat.le_refl _) _))).mono ?_
                rintro e w1 ⟨rfl, hb1⟩
                go_wp2_with fail
                go_ret
                refine ⟨ret_bool (form_same ?_), Below.trans (by repeat (first | exact Below.refl _ _ | refine below_drewN ?_ _ | refine Below.alloc ?_ (by simp) _ | refine Below.alloc ?_ (Nat.le_refl _) _)) (hb1.mono (by simp))⟩
                clear HC; (try simp only [bne_iff_ne, ne_eq, beq_iff_eq, bne_eq_false_iff_eq, beq_eq_false_iff_ne, same4, decide_eq_true_eq, decide_eq_false_iff_not] at *); unfold Shape; omega
              · go_enter Tryz.func30, Tryz.ntmps30
                go_wp2_with fail
                go_quiet (fail)
                go_wp2_with fail
                go_quiet (fail)
                go_wp2_with fail
                go_ret
                refine ⟨ret_bool (form_no ?_), by repeat (first | exact Below.refl _ _ | refine below_drewN ?_ _ | refine Below.alloc ?_ (by simp) _ | refine Below.alloc ?_ (Nat.le_refl _) _)⟩
                clear HC; (try simp only [bne_iff_ne, ne_eq, beq_iff_eq, bne_eq_false_iff_eq, beq_eq_false_iff_ne, same4, decide_eq_true_eq, decide_eq_false_iff_not] at *); unfold Shape; omega
            · go_enter Tryz.func30, Tryz.ntmps30
              go_wp2_with fail
              go_quiet (fail)
              go_wp2_with fail
              go_quiet (fail)
              go_wp2_with fail
              go_ret
              refine ⟨ret_bool (form_no ?_), by repeat (first | exact Below.refl _ _ | refine below_drewN ?_ _ | refine Below.alloc ?_ (by simp) _ | refine Below.alloc ?_ (Nat.le_refl _) _)⟩
              clear HC; (try simp only [bne_iff_ne, ne_eq, beq_iff_eq, bne_eq_false_iff_eq, beq_eq_false_iff_ne, same4, decide_eq_true_eq, decide_eq_false_iff_not] at *); unfold Shape; omega
        · cases h5 : decide (mx < mn)
          · cases hs : same4 s0 s1 s2 s3 0 0 0 0
            · go_enter Tryz.func30, Tryz.ntmps30
              go_wp2_with fail
              go_quiet (fail)
              go_wp2_with fail
              go_quiet (fail)
              go_wp2_with fail
              go_ret
              refine ⟨ret_bool (form_no ?_), by repeat (first | exact Below.refl _ _ | refine below_drewN ?_ _ | refine Below.alloc ?_ (by simp) _ | refine Below.alloc ?_ (Nat.le_refl _) _)⟩
              clear HC; (try simp only [bne_iff_ne, ne_eq, beq_iff_eq, bne_eq_false_iff_eq, beq_eq_false_iff_ne, same4, decide_eq_true_eq, decide_eq_false_iff_not] at *); unfold Shape; omega
            · cases hD : decide ((l.length : Int) < 1)
              · cases hE : decide ((1 : Int) < l.length)
                · go_enter Tryz.func30, Tryz.ntmps30
                  go_wp2_with fail
                  go_quiet (fail)
                  go_wp2_with fail
                  go_quiet (fail)
                  go_wp2_with fail
                  refine (HC.out _ (by repeat (first | exact Below.refl _ _ | refine below_drewN ?_ _ | refine Below.alloc ?_ (by simp) _ | refine Below.alloc ?_ (Nat.le_refl _) _))).mono ?_
                  rintro e w1 ⟨rfl, hb1⟩
                  go_wp2_with fail
                  go_ret
                  refine ⟨ret_bool (form_same ?_), Below.trans (by repeat (first | exact Below.refl _ _ | refine below_drewN ?_ _ | refine Below.alloc ?_ (by simp) _ | refine Below.alloc ?_ (Nat.le_refl _) _)) (hb1.mono (by simp))⟩
                  clear HC; (try simp only [bne_iff_ne, ne_eq, beq_iff_eq, bne_eq_false_iff_eq, beq_eq_false_iff_ne, same4, decide_eq_true_eq, decide_eq_false_iff_not] at *); unfold Shape; omega
                · go_enter Tryz.func30, Tryz.ntmps30
                  go_wp2_with fail
                  go_quiet (fail)
                  go_wp2_with fail
                  go_quiet (fail)
                  go_wp2_with fail
                  go_ret
                  refine ⟨ret_bool (form_no ?_), by repeat (first | exact Below.refl _ _ | refine below_drewN ?_ _ | refine Below.alloc ?_ (by simp) _ | refine Below.alloc ?_ (Nat.le_refl _) _)⟩
                  clear HC; (try simp only [bne_iff_ne, ne_eq, beq_iff_eq, bne_eq_false_iff_eq, beq_eq_false_iff_ne, same4, decide_eq_true_eq, decide_eq_false_iff_not] at *); unfold Shape; omega
              · go_enter Tryz.func30, Tryz.ntmps30
                go_wp2_with fail
                go_quiet (fail)
                go_wp2_with fail
                go_quiet (fail)
                go_wp2_with fail
                go_ret
                refine ⟨ret_bool (form_no ?_), by repeat (first | exact Below.refl _ _ | refine below_drewN ?_ _ | refine Below.alloc ?_ (by simp) _ | refine Below.alloc ?_ (Nat.le_refl _) _)⟩
                clear HC; (try simp only [bne_iff_ne, ne_eq, beq_iff_eq, bne_eq_false_iff_eq, beq_eq_false_iff_ne, same4, decide_eq_true_eq, decide_eq_false_iff_not] at *); unfold Shape; omega
          · go_enter Tryz.func30, Tryz.ntmps30
            go_wp2_with fail
            go_quiet (fail)
            go_wp2_with fail
            go_ret
            refine ⟨ret_bool (form_no ?_), by repeat (first | exact Below.refl _ _ | refine below_drewN ?_ _ | refine Below.alloc ?_ (by simp) _ | refine Below.alloc ?_ (Nat.le_refl _) _)⟩
            clear HC; (try simp only [bne_iff_ne, ne_eq, beq_iff_eq, bne_eq_false_iff_eq, beq_eq_false_iff_ne, same4, decide_eq_true_eq, decide_eq_false_iff_not] at *); unfold Shape; omega
      · go_enter Tryz.func30, Tryz.ntmps30
        go_wp2_with fail
        go_quiet (fail)
        go_wp2_with fail
        go_ret
        refine ⟨ret_bool (form_no ?_), by repeat (first | exact Below.refl _ _ | refine below_drewN ?_ _ | refine Below.alloc ?_ (by simp) _ | refine Below.alloc ?_ (Nat.le_refl _) _)⟩
        clear HC; (try simp only [bne_iff_ne, ne_eq, beq_iff_eq, bne_eq_false_iff_eq, beq_eq_false_iff_ne, same4, decide_eq_true_eq, decide_eq_false_iff_not] at *); unfold Shape; omega
    · go_enter Tryz.func30, Tryz.ntmps30
      go_wp2_with fail
      go_quiet (fail)
      go_wp2_with fail
      go_ret
      refine ⟨ret_bool (form_no ?_), by repeat (first | exact Below.refl _ _ | refine below_drewN ?_ _ | refine Below.alloc ?_ (by simp) _ | refine Below.alloc ?_ (Nat.le_refl _) _)⟩
      clear HC; (try simp only [bne_iff_ne, ne_eq, beq_iff_eq, bne_eq_false_iff_eq, beq_eq_false_iff_ne, same4, decide_eq_true_eq, decide_eq_false_iff_not] at *); unfold Shape; omega
  · go_enter Tryz.func30, Tryz.ntmps30
    go_wp2_with fail
    go_quiet (fail)
    go_wp2_with fail
    go_ret
    refine ⟨ret_bool (form_no ?_), by repeat (first | exact Below.refl _ _ | refine below_drewN ?_ _ | refine Below.alloc ?_ (by simp) _ | refine Below.alloc ?_ (Nat.le_refl _) _)⟩
    clear HC; (try simp only [bne_iff_ne, ne_eq, beq_iff_eq, bne_eq_false_iff_eq, beq_eq_false_iff_ne, same4, decide_eq_true_eq, decide_eq_false_iff_not] at *); unfold Shape; omega
set_option maxRecDepth 100000 in
set_option maxHeartbeats 2000000 in
theorem pform_x (k mn mx s0 s1 s2 s3 : Int) (a : Option Addr) (cap : Nat) (l : List RxA) (w : World) (hl1 : l.length ≤ cap) (hl2 : cap ≤ 9223372036854775807) (e0 : (k == 0) = false) (e1 : (k == 1) = false) (e2 : (k == 2) = false) (e3 : (k == 3) = false)
    (hc : ∀ w', Below w.heap.size w w' → Calls Tryz.prog 49 #[.slice a l.length cap, .func (.func 50) #[] #[]] w' fun e w'' => e = .returned (.bool (!formAll (bareAll l))) ∧ Below w'.heap.size w' w'') :
    Calls Tryz.prog 30 #[(RxA.node k mn mx s0 s1 s2 s3 a cap l).val] w fun e w' => e = .returned (.bool (RxA.node k mn mx s0 s1 s2 s3 a cap l).bare.formB) ∧ Below w.heap.size w w' := by
  have HC := Lib.hid hc; clear hc
  have hl0 : decide ((l.length : Int) < 0) = false := by simp
  show Calls Tryz.prog 30 #[.agg #[.int .i64 k, .int .i64 mn, .int .i64 mx, .int .u64 s0, .int .u64 s1, .int .u64 s2, .int .u64 s3, .slice a l.length cap]] w _
  go_enter Tryz.func30, Tryz.ntmps30
  go_wp2_with fail
  go_quiet (fail)
  go_wp2_with fail
  go_ret
  refine ⟨ret_bool (form_no ?_), by repeat (first | exact Below.refl _ _ | refine below_drewN ?_ _ | refine Below.alloc ?_ (by simp) _ | refine Below.alloc ?_ (Nat.le_refl _) _)⟩
  clear HC; (try simp only [bne_iff_ne, ne_eq, beq_iff_eq, bne_eq_false_iff_eq, beq_eq_false_iff_ne, same4, decide_eq_true_eq, decide_eq_false_iff_not] at *); unfold Shape; omega
end Go.Proofs.YtjhclopdcbnmkaaGreatDoor

/- The program's form, whole; Size and Check of both. -/
namespace Go.Proofs.YtjhclopdcbnmkaaGreatDoor
open Go.RowKit PX

def NotForm (x : RxA) : Prop := ∀ (w : World) (B : Nat), B ≤ w.heap.size → x.In w B →
    Calls Tryz.prog 50 #[x.val] w fun e w' => e = .returned (.bool (!x.bare.formB)) ∧ Below w.heap.size w w'

set_option maxHeartbeats 1000000 in
theorem notForm_of (x : RxA) (h : ∀ (w : World) (B : Nat), B ≤ w.heap.size → x.In w B →
    Calls Tryz.prog 30 #[x.val] w fun e w' => e = .returned (.bool x.bare.formB) ∧ Below w.heap.size w w') : NotForm x := by
  intro w B hB hin
  obtain ⟨k, mn, mx, s0, s1, s2, s3, a, cap, l⟩ := x
  have H := Lib.hid h; clear h
  have hin2 : (RxA.node k mn mx s0 s1 s2 s3 a cap l).In (w.alloc (.cells #[.int .i64 k, .int .i64 mn, .int .i64 mx, .int .u64 s0, .int .u64 s1, .int .u64 s2, .int .u64 s3, .slice a l.length cap] 26)) B :=
    hin.below ((Below.refl w.heap.size w).alloc (Nat.le_refl _) _) hB
  have HIN := Lib.hid hin2; clear hin2 hin
  show Calls Tryz.prog 50 #[.agg #[.int .i64 k, .int .i64 mn, .int .i64 mx, .int .u64 s0, .int .u64 s1, .int .u64 s2, .int .u64 s3, .slice a l.length cap]] w _
  go_enter Tryz.func50, Tryz.ntmps50
  go_wp2_with fail
  refine (H.out _ B (by simp; omega) HIN.out).mono ?_
  rintro e w1 ⟨rfl, hb1⟩
  go_wp2_with fail
  go_ret
  exact ⟨rfl, ((Below.refl _ _).alloc (Nat.le_refl _) _).trans (hb1.mono (by simp))⟩

/-- Elements that lie at a slice. -/
def ListIn (w : World) (B : Nat) (a : Option Addr) (l : List RxA) : Prop := l = [] ∨ ∃ b o, a = some ⟨b, o, none⟩ ∧ b < B ∧ InL w B b o l

set_option maxHeartbeats 1000000 in
theorem indexFunc_any (l : List RxA) (a : Option Addr) (cap : Nat) (w : World) (B : Nat) (hB : B ≤ w.heap.size) (hl1 : l.length ≤ cap) (hl2 : cap ≤ 9223372036854775807) (hin : ListIn w B a l) (hn : ∀ x ∈ l, NotForm x) :
    Calls Tryz.prog 77 #[.slice a l.length cap, .func (.func 50) #[] #[]] w fun e w' => ∃ i : Int, e = .returned (.int .i64 i) ∧ (0 ≤ i ↔ formAll (bareAll l) = false) ∧ Below w.heap.size w w' := by
  have HN := Lib.hid hn; clear hn
  have hg : ∀ j (h : j < l.length), ∃ b o, a = some ⟨b, o, none⟩ ∧ b < w.heap.size ∧ (∀ i, i < 8 → w.cell? ⟨b, o + j * 8 + i, none⟩ = l[j].cells[i]?) ∧ l[j].In w B := by
    intro j hj
    rcases hin with rfl | ⟨b, o, rfl, hb, hl⟩
    · simp at hj
    · have := RxA.In.get hl j hj
      exact ⟨b, o, rfl, by omega, fun i hi => this.1 i hi, this.2⟩
  have HG := Lib.hid hg; clear hg hin
  go_enter Tryz.func77, Tryz.ntmps77
  go_wp2_with fail
  go_loopw [8] (fun i wr => ∃ j : Nat, j ≤ l.length ∧ i = .int .i64 j ∧ formAll (bareAll (l.take j)) = true ∧ Below w.heap.size w wr) (fun i _ => l.length - (intOf i).toNat)
  case atStart => exact ⟨0, Nat.zero_le _, rfl, rfl, Below.refl _ _⟩
  case round =>
    obtain ⟨j, hj, rfl, hfa, hbel⟩ := hrel
    have HFA := Lib.hid hfa; clear hfa
    by_cases hlt : j < l.length
    · obtain ⟨b, o, rfl, hb, hcs, hxin⟩ := HG.out j hlt
      have hnf := HN.out l[j] (List.getElem_mem hlt)
      have hss := formTo_succ l j hlt
      have hxm : l[j] ∈ l := List.getElem_mem hlt
      generalize hxe : l[j] = x at *
      have HXE := Lib.hid hxe; clear hxe
      have HSS := Lib.hid hss; clear hss
      have HNF := Lib.hid hnf; clear hnf
      have HXM := Lib.hid hxm; clear hxm
      obtain ⟨k', mn', mx', s0', s1', s2', s3', a', cap', l'⟩ := x
      obtain ⟨d0, d1, d2, d3, d4, d5, d6, d7⟩ := node_cells (o := o + j * 8) (fun i hi => (hbel.cell (p := ⟨b, o + j * 8 + i, none⟩) hb).trans (hcs i hi))
      clear hcs
      have hws := hbel.size
      go_wp2_with fail
      refine (HNF.out wr B (by omega) (hxin.below hbel hB)).mono ?_
      rintro e w1 ⟨rfl, hb1⟩
      obtain ⟨fb, HFB⟩ : ∃ fb, Hid ((RxA.node k' mn' mx' s0' s1' s2' s3' a' cap' l').bare.formB = fb) := ⟨_, Lib.hid rfl⟩
      rw [HFB.out]
      cases fb
      · go_wp2_with fail
        go_ret
        refine ⟨_, rfl, ⟨fun _ => ?_, fun _ => by omega⟩, hbel.trans (hb1.mono (by omega))⟩
        cases hf : formAll (bareAll l) with
        | false => rfl
        | true => have := formAll_mem hf HXM.out; rw [HFB.out] at this; cases this
      · go_wp2_with fail
        go_roundw
        case rel => exact ⟨j + 1, by omega, by go_num, by rw [HSS.out, HFA.out, HFB.out]; rfl, hbel.trans (hb1.mono (by omega))⟩
        case measure => simp [intOf]; omega
    · have hje : j = l.length := by omega
      go_wp2_with fail
      go_ret
      refine ⟨_, rfl, ⟨fun h => by omega, fun h => ?_⟩, hbel⟩
      have := HFA.out
      rw [hje, List.take_length, h] at this
      cases this

set_option maxHeartbeats 1000000 in
theorem containsFunc_any (l : List RxA) (a : Option Addr) (cap : Nat) (w : World) (B : Nat) (hB : B ≤ w.heap.size) (hl1 : l.length ≤ cap) (hl2 : cap ≤ 9223372036854775807) (hin : ListIn w B a l) (hn : ∀ x ∈ l, NotForm x) :
    Calls Tryz.prog 49 #[.slice a l.length cap, .func (.func 50) #[] #[]] w fun e w' => e = .returned (.bool (!formAll (bareAll l))) ∧ Below w.heap.size w w' := by
  have H := Lib.hid (indexFunc_any l a cap w B hB hl1 hl2 hin hn); clear hin hn
  go_enter Tryz.func49, Tryz.ntmps49
  go_wp2_with fail
  refine H.out.mono ?_
  rintro e w1 ⟨i, rfl, hi, hb1⟩
  have HI := Lib.hid hi; clear hi
  go_wp2_with fail
  go_ret
  refine ⟨ret_bool ?_, hb1⟩
  cases hf : formAll (bareAll l) with
  | false => simpa using HI.out.2 hf
  | true =>
    have : ¬ 0 ≤ i := fun h => by rw [HI.out.1 h] at hf; cases hf
    simpa using this

theorem pform_any : FormOf 30 := by
  intro x
  induction x using RxA.ind with
  | h k mn mx s0 s1 s2 s3 a cap l ih =>
    intro w B hB hin
    have hin' := hin
    simp only [RxA.In] at hin'
    obtain ⟨-, hl1, hl2, hl3, hl⟩ := hin'
    unfold maxLen at hl2
    have hc : ∀ w', Below w.heap.size w w' → Calls Tryz.prog 49 #[.slice a l.length cap, .func (.func 50) #[] #[]] w' fun e w'' => e = .returned (.bool (!formAll (bareAll l))) ∧ Below w'.heap.size w' w'' := by
      intro w' hb
      refine containsFunc_any l a cap w' B (by have := hb.size; omega) hl1 (by omega) ?_ (fun x hx => notForm_of x (ih x hx))
      rcases hl with h | ⟨b, o, e, hbb, hl⟩
      · exact .inl h
      · exact .inr ⟨b, o, e, hbb, hl.later (Nat.le_refl _) (fun b' o' hb' => hb.cell (p := ⟨b', o', none⟩) (by show b' < w.heap.size; omega)) hbb⟩
    by_cases h0 : k = 0
    · subst h0; exact pform_0 mn mx s0 s1 s2 s3 a cap l w hl1 (by omega) hc
    by_cases h1 : k = 1
    · subst h1; exact pform_1 mn mx s0 s1 s2 s3 a cap l w hl1 (by omega) hc
    by_cases h2 : k = 2
    · subst h2; exact pform_2 mn mx s0 s1 s2 s3 a cap l w hl1 (by omega) hc
    by_cases h3 : k = 3
    · subst h3; exact pform_3 mn mx s0 s1 s2 s3 a cap l w hl1 (by omega) hc
    exact pform_x k mn mx s0 s1 s2 s3 a cap l w hl1 (by omega) (beq_eq_false_iff_ne.2 h0) (beq_eq_false_iff_ne.2 h1) (beq_eq_false_iff_ne.2 h2) (beq_eq_false_iff_ne.2 h3) hc
end Go.Proofs.YtjhclopdcbnmkaaGreatDoor

/- Size and Check, the program's and the reference's. -/
namespace Go.Proofs.YtjhclopdcbnmkaaGreatDoor
open Go.RowKit PX

def sizeR (x : Rx) : Int := if x.formB then x.sizeI else 0
def checkR (x : Rx) : Int := if x.formB then (if 256 < x.sizeI then 51 else 0) else 52

/-- One cell-wise box of a node keeps what lies below. -/
theorem in_boxed {w : World} {B : Nat} {x : RxA} (o : Obj) (hB : B ≤ w.heap.size) (h : x.In w B) : x.In (w.alloc o) B :=
  h.below ((Below.refl w.heap.size w).alloc (Nat.le_refl _) _) hB

def SizeFOf (f : Nat) : Prop := ∀ (x : RxA) (w : World) (B : Nat), B ≤ w.heap.size → x.In w B →
    Calls Tryz.prog f #[x.val] w fun e w' => e = .returned (.int .i64 (sizeR x.bare)) ∧ Below w.heap.size w w'
def CheckOf (f : Nat) : Prop := ∀ (x : RxA) (w : World) (B : Nat), B ≤ w.heap.size → x.In w B →
    Calls Tryz.prog f #[x.val] w fun e w' => e = .returned (.int .i64 (checkR x.bare)) ∧ Below w.heap.size w w'

set_option maxHeartbeats 1000000 in
theorem psizeF_any : SizeFOf 12 := by
  intro x w B hB hin
  cases hf : x.bare.formB
  all_goals
    have HF := Lib.hid hf; clear hf
    obtain ⟨k, mn, mx, s0, s1, s2, s3, a, cap, l⟩ := x
    have HIN := Lib.hid (in_boxed (.cells #[.int .i64 k, .int .i64 mn, .int .i64 mx, .int .u64 s0, .int .u64 s1, .int .u64 s2, .int .u64 s3, .slice a l.length cap] 26) hB hin); clear hin
    show Calls Tryz.prog 12 #[.agg #[.int .i64 k, .int .i64 mn, .int .i64 mx, .int .u64 s0, .int .u64 s1, .int .u64 s2, .int .u64 s3, .slice a l.length cap]] w _
    go_enter Tryz.func12, Tryz.ntmps12
    go_wp2_with fail
    refine (pform_any _ _ B (by simp; omega) HIN.out).mono ?_
    rintro e w1 ⟨rfl, hb1⟩
    rw [HF.out]
    have hws := hb1.size
    simp only [World.size_alloc] at hws
    have hbw : Below w.heap.size w w1 := ((Below.refl _ _).alloc (Nat.le_refl _) _).trans (hb1.mono (by simp))
    have c0 := laid_cell hb1 (by simp) 0 (.int .i64 k) rfl
    have c1 := laid_cell hb1 (by simp) 1 (.int .i64 mn) rfl
    have c2 := laid_cell hb1 (by simp) 2 (.int .i64 mx) rfl
    have c3 := laid_cell hb1 (by simp) 3 (.int .u64 s0) rfl
    have c4 := laid_cell hb1 (by simp) 4 (.int .u64 s1) rfl
    have c5 := laid_cell hb1 (by simp) 5 (.int .u64 s2) rfl
    have c6 := laid_cell hb1 (by simp) 6 (.int .u64 s3) rfl
    have c7 := laid_cell hb1 (by simp) 7 (.slice a l.length cap) rfl
    go_wp2_with fail
  · go_ret
    exact ⟨ret_int (by rw [sizeR, HF.out]; rfl), hbw⟩
  · refine (psize_any _ w1 B (by omega) (HIN.out.below hb1 (by simp; omega)) (tame_of_form _ HF.out)).mono ?_
    rintro e w2 ⟨rfl, hb2⟩
    go_wp2_with fail
    go_ret
    exact ⟨ret_int (by rw [sizeR, HF.out]; rfl), hbw.trans (hb2.mono (by omega))⟩

set_option maxHeartbeats 1000000 in
theorem pcheck_any : CheckOf 10 := by
  intro x w B hB hin
  have hbd := sizeI_bd x.bare
  have hcase : (sizeR x.bare = 0 ∧ checkR x.bare = 52) ∨ (∃ n : Int, sizeR x.bare = n ∧ (n == 0) = false ∧ decide (256 < n) = true ∧ checkR x.bare = 51) ∨ (∃ n : Int, sizeR x.bare = n ∧ (n == 0) = false ∧ decide (256 < n) = false ∧ checkR x.bare = 0) := by
    unfold sizeR checkR
    cases x.bare.formB
    · exact .inl ⟨rfl, rfl⟩
    · simp only [if_true]
      by_cases h : 256 < x.bare.sizeI
      · exact .inr (.inl ⟨_, rfl, by rw [beq_eq_false_iff_ne]; omega, by simpa using h, by rw [if_pos h]⟩)
      · exact .inr (.inr ⟨_, rfl, by rw [beq_eq_false_iff_ne]; omega, by simpa using h, by rw [if_neg h]⟩)
  clear hbd
  have hs := Lib.hid (psizeF_any x)
  rcases hcase with ⟨h1, h2⟩ | ⟨n, h1, n1, n2, h2⟩ | ⟨n, h1, n1, n2, h2⟩
  all_goals
    have H1 := Lib.hid h1; clear h1
    have H2 := Lib.hid h2; clear h2
    obtain ⟨k, mn, mx, s0, s1, s2, s3, a, cap, l⟩ := x
    have HIN := Lib.hid (in_boxed (.cells #[.int .i64 k, .int .i64 mn, .int .i64 mx, .int .u64 s0, .int .u64 s1, .int .u64 s2, .int .u64 s3, .slice a l.length cap] 26) hB hin); clear hin
    show Calls Tryz.prog 10 #[.agg #[.int .i64 k, .int .i64 mn, .int .i64 mx, .int .u64 s0, .int .u64 s1, .int .u64 s2, .int .u64 s3, .slice a l.length cap]] w _
    go_enter Tryz.func10, Tryz.ntmps10
    go_wp2_with fail
    refine (hs.out _ B (by simp; omega) HIN.out).mono ?_
    rintro e w1 ⟨rfl, hb1⟩
    rw [H1.out]
    have hbw : Below w.heap.size w w1 := ((Below.refl _ _).alloc (Nat.le_refl _) _).trans (hb1.mono (by simp))
    clear hb1
    go_wp2_with fail
    go_ret
    exact ⟨ret_int H2.out.symm, hbw⟩

set_option maxHeartbeats 1000000 in
theorem rcheck_any : CheckOf 11 := by
  intro x w B hB hin
  have hcase : (x.bare.formB = false ∧ checkR x.bare = 52) ∨ (x.bare.formB = true ∧ decide (256 < x.bare.sizeI) = true ∧ checkR x.bare = 51) ∨ (x.bare.formB = true ∧ decide (256 < x.bare.sizeI) = false ∧ checkR x.bare = 0) := by
    unfold checkR
    cases x.bare.formB
    · exact .inl ⟨rfl, rfl⟩
    · simp only [if_true]
      by_cases h : 256 < x.bare.sizeI
      · exact .inr (.inl ⟨by trivial, by simpa using h, by rw [if_pos h]⟩)
      · exact .inr (.inr ⟨by trivial, by simpa using h, by rw [if_neg h]⟩)
  rcases hcase with ⟨hf, h2⟩ | ⟨hf, hn, h2⟩ | ⟨hf, hn, h2⟩
  all_goals
    have HF := Lib.hid hf; clear hf
    have H2 := Lib.hid h2; clear h2
    obtain ⟨k, mn, mx, s0, s1, s2, s3, a, cap, l⟩ := x
    have HIN := Lib.hid (in_boxed (.cells #[.int .i64 k, .int .i64 mn, .int .i64 mx, .int .u64 s0, .int .u64 s1, .int .u64 s2, .int .u64 s3, .slice a l.length cap] 26) hB hin); clear hin
    show Calls Tryz.prog 11 #[.agg #[.int .i64 k, .int .i64 mn, .int .i64 mx, .int .u64 s0, .int .u64 s1, .int .u64 s2, .int .u64 s3, .slice a l.length cap]] w _
    go_enter Tryz.func11, Tryz.ntmps11
    go_wp2_with fail
    refine (rform_any _ _ B (by simp; omega) HIN.out).mono ?_
    rintro e w1 ⟨rfl, hb1⟩
    rw [HF.out]
    have hws := hb1.size
    simp only [World.size_alloc] at hws
    have hbw : Below w.heap.size w w1 := ((Below.refl _ _).alloc (Nat.le_refl _) _).trans (hb1.mono (by simp))
    have c0 := laid_cell hb1 (by simp) 0 (.int .i64 k) rfl
    have c1 := laid_cell hb1 (by simp) 1 (.int .i64 mn) rfl
    have c2 := laid_cell hb1 (by simp) 2 (.int .i64 mx) rfl
    have c3 := laid_cell hb1 (by simp) 3 (.int .u64 s0) rfl
    have c4 := laid_cell hb1 (by simp) 4 (.int .u64 s1) rfl
    have c5 := laid_cell hb1 (by simp) 5 (.int .u64 s2) rfl
    have c6 := laid_cell hb1 (by simp) 6 (.int .u64 s3) rfl
    have c7 := laid_cell hb1 (by simp) 7 (.slice a l.length cap) rfl
    go_wp2_with fail
  · go_ret
    exact ⟨ret_int H2.out.symm, hbw⟩
  all_goals
    refine (rsize_any _ w1 B (by omega) (HIN.out.below hb1 (by simp; omega)) (tame_of_form _ HF.out)).mono ?_
    rintro e w2 ⟨rfl, hb2⟩
    go_wp2_with fail
    go_ret
    exact ⟨ret_int H2.out.symm, hbw.trans (hb2.mono (by omega))⟩
end Go.Proofs.YtjhclopdcbnmkaaGreatDoor
