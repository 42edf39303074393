/- Jgx, merged: J81 J82. -/
import Derived.Test.YtfpbocjmlhcgiaaGreatDoorJ80
import Derived.Test.YtfpbocjmlhcgiaaGreatDoorJg17
import Derived.ScopeJumps
import Derived.Maps.OwnSet
import Derived.Deep.AppendLies
set_option linter.unusedSimpArgs false
set_option linter.unusedVariables false
/- The journal's record: its closure; where no record stands. -/
namespace Go.Proofs.YtfpbocjmlhcgiaaGreatDoor
open Go.RowKit PJ Go.Maps

theorem wp_scope_jumps1 {P : Program} {a : Act} {w : World} {Q : Exit → Act → World → Prop} {c rest : Code} (l : Nat) (J : Act → World → Prop) (μ : Act → World → Nat) (hf : findLabel c l = some rest)
    (pass : ∀ a w, J a w → rest.wp P (Exit.jump l (fun a' w' => J a' w' ∧ μ a' w' < μ a w) Q) a w)
    (first : (∀ a w, J a w → rest.wp P (Exit.jump l J Q) a w) → c.wp P (Exit.jump l J Q) a w) : (Code.scope c).wp P Q a w :=
  wp_scope_jumps l J μ hf (first fun a w hJ => wp_mono (pass a w hJ) fun e a' w' h => by
    cases e with
    | goto l' => exact ⟨h.1, h.2.1⟩
    | normal => exact h
    | exit id => exact h
    | ret => exact h
    | panic ch => exact h
    | outgrown => exact h) pass
theorem wp_scope_jumps2 {P : Program} {a : Act} {w : World} {Q : Exit → Act → World → Prop} {c rest : Code} (l : Nat) (J : Act → World → Prop) (μ : Act → World → Nat) (hf : findLabel c l = some (.seq .skip rest))
    (pass : ∀ a w, J a w → rest.wp P (Exit.jump l (fun a' w' => J a' w' ∧ μ a' w' < μ a w) Q) a w)
    (first : (∀ a w, J a w → rest.wp P (Exit.jump l J Q) a w) → c.wp P (Exit.jump l J Q) a w) : (Code.scope c).wp P Q a w := by
  refine wp_scope_jumps1 l J μ hf (fun a w hJ => wp_seq (wp_skip (pass a w hJ))) (fun h => first fun a w hJ => wp_mono (pass a w hJ) fun e a' w' h => ?_)
  cases e with
  | goto l' => exact ⟨h.1, h.2.1⟩
  | normal => exact h
  | exit id => exact h
  | ret => exact h
  | panic ch => exact h
  | outgrown => exact h
set_option maxRecDepth 100000 in
theorem rec1_no (w : World) (q3 q4 jb : Nat) (area : Nat) (number i : Nat) (h3 : w.cell? ⟨q3, 0, none⟩ = some (.pointer (some ⟨jb, 0, none⟩))) (h1 : w.cell? ⟨jb, 1, none⟩ = some (.int .i64 area)) (hi : area ≤ i) :
    Calls Tryz.prog 226 #[.int .i64 i, .pointer (some ⟨q3, 0, none⟩), .pointer (some ⟨q4, 0, none⟩)] w fun e w' => e = .returned (.tuple #[.string ⟨#[]⟩, .bool false]) ∧ w = w' := by
  have g1 : (area : Int) ≤ (i : Int) := by omega
  go_enter Tryz.func226, Tryz.ntmps226
  go_wp2_with fail
  go_ret2
  exact ⟨rfl, rfl⟩
set_option maxRecDepth 100000 in
theorem rec1_yes (w : World) (a : JA) (F : Nat → Prop) (V S : View) (dt : Bool) (head first next at' : Nat) (C : Cells) (h : JC w a F V S dt head first next at' C) (q3 q4 : Nat) (number i : Nat)
    (h3 : w.cell? ⟨q3, 0, none⟩ = some (.pointer (some ⟨a.jb, 0, none⟩))) (h4 : w.cell? ⟨q4, 0, none⟩ = some (.int .i64 number)) (hR4 : ¬ a.R q4) (hi : i < a.area) (hin : i < a.n) (d : List UInt8) (st : Nat) (hv : V i = blk d st) (hd : d.length ≤ 116) (hst : st ≤ 4611686018427387904) :
    Calls Tryz.prog 226 #[.int .i64 i, .pointer (some ⟨q3, 0, none⟩), .pointer (some ⟨q4, 0, none⟩)] w fun e w' => e = .returned (.tuple #[.string ⟨(padT d 116).toArray⟩, .bool (decide (st = number))]) ∧
      JC w' a (grow F w w') V S dt head first next at' C ∧ OnlyJ a.R w w' := by
  have g1 : ¬ (a.area : Int) ≤ (i : Int) := by omega
  have g1' : decide ((a.area : Int) ≤ (i : Int)) = false := by simp; omega
  have c1 : w.cell? ⟨a.jb, 1, none⟩ = some (.int .i64 a.area) := cell_blk h.cells 1
  have c0 : w.cell? ⟨a.jb, 0, none⟩ = some (.pointer (some ⟨a.b, 0, none⟩)) := cell_blk h.cells 0
  have hl4 : q4 < w.heap.size := World.block_lt_of_cell? _ _ h4
  obtain ⟨D, hD⟩ : ∃ D : ByteArray, (⟨(padT d 116).toArray⟩ : ByteArray) = D := ⟨_, rfl⟩
  have hr := jread_at w a F V S dt head first next at' C h i hin d st hv hd hst
  rw [hD] at hr ⊢
  have HRD := Lib.hid hr
  have H4 := Lib.hid (fun w' (ho : OnlyJ a.R w w') => show w'.cell? ⟨q4, 0, none⟩ = some (.int .i64 number) from (World.cell?_of_block (a := ⟨q4, 0, none⟩) (ho.block q4 hl4 hR4)).trans h4)
  clear hr hD h hv hd hst hR4 h4
  obtain ⟨AR, hAR⟩ : ∃ AR, a.area = AR := ⟨_, rfl⟩
  rw [hAR] at g1 g1' c1 hi
  go_enter Tryz.func226, Tryz.ntmps226
  go_upto_region 4 with (first
    | (go_at_call 125; (with_reducible refine HRD.out.mono ?_); rintro e w5 ⟨rfl, hj5, ho5⟩; have HJ5 := Lib.hid hj5; have HO5 := Lib.hid ho5; clear hj5 ho5)
    | fail)
  have c4 := H4.out w5 HO5.out
  go_quiet (fail)
  go_wp2_with fail
  go_ret2
  refine ⟨?_, HJ5.out.drewN _, HO5.out.drewN _⟩
  have hdd : decide ((st : Int) = (number : Int)) = decide (st = number) := by rw [decide_eq_decide]; omega
  rw [← hdd]
  rfl
set_option maxRecDepth 100000 in
set_option maxHeartbeats 2000000 in
theorem record_no (w : World) (a : JA) (F : Nat → Prop) (V S : View) (dt : Bool) (head first next at' : Nat) (C : Cells) (h : JC w a F V S dt head first next at' C) (number pos : Nat)
    (hno : a.area ≤ pos ∨ (pos < a.n ∧ ∃ d st, V pos = blk d st ∧ d.length ≤ 116 ∧ st ≤ 4611686018427387904 ∧ st ≠ number)) :
    Calls Tryz.prog 200 #[.pointer (some ⟨a.jb, 0, none⟩), .int .i64 number, .int .i64 pos] w fun e w' => e = .returned (.tuple #[.slice none 0 0, .bool false]) ∧
      JC w' a (grow F w w') V S dt head first next at' C ∧ OnlyJ a.R w w' := by
  have hmf : ∀ (fn : Fn) (first cap : Array Value) (w : World), (Instr.makeFunc fn first cap).run Tryz.prog w = .ok (.func fn first cap) w := fun _ _ _ _ => rfl
  obtain ⟨w1, hw1⟩ : ∃ w1, (w.alloc (.cells #[.pointer (some ⟨a.jb, 0, none⟩)] 34)).alloc (.cells #[.int .i64 number] 3) = w1 := ⟨_, rfl⟩
  have hl1 : LJ w w1 := by rw [← hw1]; exact ((LJ.refl w).alloc _).alloc _
  have x1 : w1.cell? ⟨w.heap.size, 0, none⟩ = some (.pointer (some ⟨a.jb, 0, none⟩)) := by
    rw [← hw1]; exact LJ.cell ((LJ.refl _).alloc _) (cell_blk (alloc_blk w _) 0)
  have x0 : w1.cell? ⟨w.heap.size + 1, 0, none⟩ = some (.int .i64 number) := by
    have := alloc_blk (w.alloc (.cells #[.pointer (some ⟨a.jb, 0, none⟩)] 34)) (.cells #[.int .i64 number] 3)
    rw [World.size_alloc, hw1] at this
    exact cell_blk this 0
  have hj1 := h.later hl1
  have hF4 : ¬ F (w.heap.size + 1) := fun e => by have := h.dev.lt _ e; omega
  have hlt := h.dev.lt
  rcases Nat.lt_or_ge pos a.area with hpa | hpa
  · obtain ⟨hpn, d, st, hv, hd, hst, hne⟩ : pos < a.n ∧ ∃ d st, V pos = blk d st ∧ d.length ≤ 116 ∧ st ≤ 4611686018427387904 ∧ st ≠ number := by
      rcases hno with e | e
      · omega
      · exact e
    have hc := rec1_yes w1 a F V S dt head first next at' C hj1 w.heap.size (w.heap.size + 1) number pos x1 x0 (fun e => hF4 (h.dev.sub _ e)) hpa hpn d st hv hd hst
    obtain ⟨D, hD⟩ : ∃ D : ByteArray, (⟨(padT d 116).toArray⟩ : ByteArray) = D := ⟨_, rfl⟩
    rw [hD, decide_eq_false hne] at hc
    have HC := Lib.hid hc
    have HW1 := Lib.hid hw1
    have HL1 := Lib.hid hl1
    have HLT := Lib.hid hlt
    clear hc hD hv hd hst hne hw1 hl1 hj1 hF4 hlt h hno x1 x0
    go_enter Tryz.func200, Tryz.ntmps200
    go_wp2_with fail
    go_step3
    go_upto_region 1 with fail
    rw [HW1.out]
    go_wp2_with (first
      | (go_at_call 226; (with_reducible refine HC.out.mono ?_); rintro e w5 ⟨rfl, hj5, ho5⟩; have HJ5 := Lib.hid hj5; have HO5 := Lib.hid ho5; clear hj5 ho5)
      | fail)
    rw [Exit.noGoto_ret]
    go_ret2
    exact ⟨rfl, HJ5.out.wide (fun q hq => hq.elim .inl fun e => .inr ⟨Nat.le_trans (Below.size HL1.out) e.1, e.2⟩) (grow_lt HLT.out (Nat.le_trans (Below.size HL1.out) HO5.out.size)), (OnlyJ.of_below HL1.out).trans HO5.out⟩
  · have c1 : w1.cell? ⟨a.jb, 1, none⟩ = some (.int .i64 a.area) := cell_blk hj1.cells 1
    have HC := Lib.hid (rec1_no w1 w.heap.size (w.heap.size + 1) a.jb a.area number pos x1 c1 hpa)
    have HW1 := Lib.hid hw1
    have HJ1 := Lib.hid (hj1.wide (F' := grow F w w1) grow_sub (grow_lt hlt (Below.size hl1)))
    have HL1 := Lib.hid hl1
    clear hw1 hl1 hj1 hF4 hlt h hno x1 x0 c1
    go_enter Tryz.func200, Tryz.ntmps200
    go_wp2_with fail
    go_step3
    go_upto_region 1 with fail
    rw [HW1.out]
    go_wp2_with (first
      | (go_at_call 226; (with_reducible refine HC.out.mono ?_); rintro e w5 ⟨rfl, hw5⟩; subst hw5)
      | fail)
    rw [Exit.noGoto_ret]
    go_ret2
    exact ⟨rfl, HJ1.out, OnlyJ.of_below HL1.out⟩
end Go.Proofs.YtfpbocjmlhcgiaaGreatDoor
/- The journal's record, where one stands whole. -/
namespace Go.Proofs.YtfpbocjmlhcgiaaGreatDoor
open Go.RowKit PJ Go.Maps

/-- A set of cells in memory. -/
def SetAt (w : World) (sb m : Nat) (ks : List Int) : Prop :=
  ∃ D : DataW Unit, w.ownsMap Tryz.prog 3 unitElem sb m D ∧ ∀ c : Int, Maps.has D (.int .i64 c) = decide (c ∈ ks)
theorem SetAt.kept {w w' : World} {sb m : Nat} {ks : List Int} (h : SetAt w sb m ks) (hb : w'.heap[sb]? = w.heap[sb]?) : SetAt w' sb m ks := by
  obtain ⟨D, ⟨es, clock, h4, h5⟩, h2⟩ := h
  exact ⟨D, ⟨es, clock, hb.trans h4, h5⟩, h2⟩
/-- What stands beside a row. -/
def besideF (F : Nat → Prop) (w w' : World) (lv : Value) (sb : Nat) : Nat → Prop := fun q => (F q ∨ (w.heap.size ≤ q ∧ q < w'.heap.size)) ∧ lv.ownBlock ≠ some q ∧ q ≠ sb
def frR (jb q3 q4 number pos : Nat) (D : ByteArray) (n : Nat) (lv : Value) (sb i : Nat) (A : Array Value) : Array Value := #[.pointer (some ⟨jb, 0, none⟩), .int .i64 number, .int .i64 pos, .pointer (some ⟨q3, 0, none⟩), .pointer (some ⟨q4, 0, none⟩), A.getD 5 undef, A.getD 6 undef, A.getD 7 undef, .func (.func 226) #[] #[.pointer (some ⟨q3, 0, none⟩), .pointer (some ⟨q4, 0, none⟩)], .string D, A.getD 10 undef, .int .i64 n, lv, .map (some sb), .int .i64 i, A.getD 15 undef, A.getD 16 undef, A.getD 17 undef, A.getD 18 undef, A.getD 19 undef, A.getD 20 undef, A.getD 21 undef, A.getD 22 undef, A.getD 23 undef, A.getD 24 undef, A.getD 25 undef, A.getD 26 undef, A.getD 27 undef, A.getD 28 undef, A.getD 29 undef, A.getD 30 undef, A.getD 31 undef, A.getD 32 undef, A.getD 33 undef, A.getD 34 undef, A.getD 35 undef, A.getD 36 undef, A.getD 37 undef, A.getD 38 undef, A.getD 39 undef, A.getD 40 undef, A.getD 41 undef, A.getD 42 undef, A.getD 43 undef, A.getD 44 undef, A.getD 45 undef, A.getD 46 undef, A.getD 47 undef, A.getD 48 undef, A.getD 49 undef, A.getD 50 undef, A.getD 51 undef, A.getD 52 undef, A.getD 53 undef, A.getD 54 undef, A.getD 55 undef, A.getD 56 undef, A.getD 57 undef, A.getD 58 undef, A.getD 59 undef, A.getD 60 undef, A.getD 61 undef, A.getD 62 undef, A.getD 63 undef, A.getD 64 undef, A.getD 65 undef, A.getD 66 undef, A.getD 67 undef, A.getD 68 undef, A.getD 69 undef, A.getD 70 undef, A.getD 71 undef, A.getD 72 undef, A.getD 73 undef, A.getD 74 undef, A.getD 75 undef, A.getD 76 undef, A.getD 77 undef, A.getD 78 undef, A.getD 79 undef, A.getD 80 undef, A.getD 81 undef, A.getD 82 undef, A.getD 83 undef, A.getD 84 undef, A.getD 85 undef, A.getD 86 undef, A.getD 87 undef, A.getD 88 undef, A.getD 89 undef, A.getD 90 undef, A.getD 91 undef, A.getD 92 undef, A.getD 93 undef, A.getD 94 undef, A.getD 95 undef]
theorem frR_act {jb q3 q4 number pos : Nat} {D : ByteArray} {n : Nat} {lv : Value} {sb i : Nat} {A : Array Value} (h : A = frR jb q3 q4 number pos D n lv sb i A) : ({ tmps := A, defers := [] } : Act) = { tmps := frR jb q3 q4 number pos D n lv sb i A, defers := [] } := by rw [← h]
theorem jcells_at (w : World) (a : JA) (F : Nat → Prop) (V S : View) (dt : Bool) (head first next at' : Nat) (C : Cells) (h : JC w a F V S dt head first next at' C) (ha : a.area ≤ a.n) :
    Calls Tryz.prog 62 #[.pointer (some ⟨a.jb, 0, none⟩)] w fun e w' => e = .returned (.int .i64 ((a.n - a.area : Nat) : Int)) ∧ ∃ n, w' = w.drewN n := by
  have HC := Lib.hid (fun n => bcount_at (w.drewN n) a.p a.g a.mb a.b a.n a.cached a.R F V S dt (h.dev.drewN n))
  have c0 : w.cell? ⟨a.jb, 0, none⟩ = some (.pointer (some ⟨a.b, 0, none⟩)) := cell_blk h.cells 0
  have c1 : w.cell? ⟨a.jb, 1, none⟩ = some (.int .i64 a.area) := cell_blk h.cells 1
  have hn := h.dev.n12.1
  have hwr : IntKind.i64.wrap ((a.n : Int) - (a.area : Int)) = ((a.n - a.area : Nat) : Int) := by rw [IntKind.wrap_i64]; omega
  clear h
  go_enter Tryz.func62, Tryz.ntmps62
  go_upto_region 1 with fail
  go_quiet ((go_at_call 57; exact Calls.quiet_of_same ((HC.out _).mono (by rintro e w1 ⟨rfl, rfl⟩; exact ⟨rfl, rfl⟩))))
  go_wp2_with fail
  go_ret
  exact ⟨rfl, _, rfl⟩
theorem wsC_app (xs ys : List Wr) : wsC (xs ++ ys) = wsC xs ++ wsC ys := by unfold wsC; exact List.flatMap_append
theorem JC.fit {w w' : World} {a : JA} {F F' : Nat → Prop} {V S : View} {dt : Bool} {head first next at' : Nat} {C : Cells} (h : JC w a F V S dt head first next at' C) (hs : w.heap.size ≤ w'.heap.size) (ho : ∀ k, k < w.heap.size → F k → w'.heap[k]? = w.heap[k]?) (hF : ∀ q, F q → F' q) (hF' : ∀ q, F' q → q < w'.heap.size) : JC w' a F' V S dt head first next at' C :=
  h.kept hs (fun k hk => ho k (h.dev.lt k hk) hk) hF hF'
theorem recD_cell {l : List Wr} {i : Nat} {x : Wr} (h : l[i]? = some x) : ((recD l).drop (1 + 2 * i)).take 2 = be x.cell.toNat 2 := by
  have key : ∀ (l : List Wr) (i : Nat) (x : Wr), l[i]? = some x → ((l.flatMap fun w => be w.cell.toNat 2).drop (2 * i)).take 2 = be x.cell.toNat 2 := by
    intro l
    induction l with
    | nil => intro i x h; simp at h
    | cons y r ih =>
      intro i x h
      cases i with
      | zero =>
        have e : y = x := by simpa using h
        subst e
        rw [List.flatMap_cons, Nat.mul_zero, List.drop_zero, List.take_left' (be_len _ _)]
      | succ i =>
        rw [List.flatMap_cons, show 2 * (i + 1) = 2 + 2 * i from by omega, ← List.drop_drop, List.drop_left' (be_len _ _)]
        exact ih i x (by simpa using h)
  rw [recD, ← List.drop_drop, List.drop_left' (be_len _ _)]
  exact key l i x h
theorem slice_str (W : World) (D : ByteArray) (lo hi : Nat) (h1 : lo ≤ hi) (h2 : hi ≤ D.size) : (Instr.slice 9 (.string D) (some (.int .i64 (lo : Int))) (some (.int .i64 (hi : Int))) none).run Tryz.prog W = .ok (.string (D.extract lo hi)) W := by
  have := run_slice_string (P := Tryz.prog) W 9 D .i64 .i64 (lo : Int) (hi : Int) Tryz.underlying9 (by omega) (by omega) (by omega)
  rw [Int.toNat_natCast, Int.toNat_natCast] at this
  exact this
theorem slice_from (W : World) (D : ByteArray) (lo : Nat) (h1 : lo ≤ D.size) : (Instr.slice 9 (.string D) (some (.int .i64 (lo : Int))) none none).run Tryz.prog W = .ok (.string (D.extract lo D.size)) W := by
  have := run_slice_string_l (P := Tryz.prog) W 9 D Tryz.underlying9 .i64 (lo : Int) (by omega) (by omega)
  rw [Int.toNat_natCast] at this
  exact this
theorem zero_unit (w : World) : (zeroValue 172).run Tryz.prog w = .ok (.agg #[]) w := by kernel_rfl
set_option maxRecDepth 100000 in
set_option maxHeartbeats 8000000 in
theorem record_yes (w : World) (a : JA) (F : Nat → Prop) (V S : View) (dt : Bool) (head first next at' : Nat) (C : Cells) (h : JC w a F V S dt head first next at' C) (number pos : Nat) (l : List Wr) (hr : RecOK (a.n - a.area) l)
    (hpa : pos + 1 + l.length ≤ a.area) (han : a.area ≤ a.n) (hnum : number ≤ 4611686018427387904) (hv : V pos = blk (recD l) number) (hvs : ∀ i x, l[i]? = some x → V (pos + 1 + i) = blk x.data.data.toList number) :
    Calls Tryz.prog 200 #[.pointer (some ⟨a.jb, 0, none⟩), .int .i64 number, .int .i64 pos] w fun e w' => ∃ lv F', e = .returned (.tuple #[lv, .bool true]) ∧
      JC w' a F' V S dt head first next at' C ∧ LAt w' F' lv (l.map padW) ∧ (∀ q, F q → F' q) ∧ (∀ q, F' q → grow F w w' q) ∧ OnlyJ a.R w w' := by
  have hmf : ∀ (fn : Fn) (first cap : Array Value) (w : World), (Instr.makeFunc fn first cap).run Tryz.prog w = .ok (.func fn first cap) w := fun _ _ _ _ => rfl
  obtain ⟨iW, hiW, hzW, hsW, hbW⟩ := info_parts info_write
  obtain ⟨w1, hw1⟩ : ∃ w1, (w.alloc (.cells #[.pointer (some ⟨a.jb, 0, none⟩)] 34)).alloc (.cells #[.int .i64 number] 3) = w1 := ⟨_, rfl⟩
  have hl1 : LJ w w1 := by rw [← hw1]; exact ((LJ.refl w).alloc _).alloc _
  have x3 : w1.cell? ⟨w.heap.size, 0, none⟩ = some (.pointer (some ⟨a.jb, 0, none⟩)) := by
    rw [← hw1]; exact LJ.cell ((LJ.refl _).alloc _) (cell_blk (alloc_blk w _) 0)
  have x4 : w1.cell? ⟨w.heap.size + 1, 0, none⟩ = some (.int .i64 number) := by
    have := alloc_blk (w.alloc (.cells #[.pointer (some ⟨a.jb, 0, none⟩)] 34)) (.cells #[.int .i64 number] 3)
    rw [World.size_alloc, hw1] at this
    exact cell_blk this 0
  have hlt := h.dev.lt
  have hn12 := h.dev.n12.1
  have hRF := h.dev.sub
  have hF3 : ¬ a.R (w.heap.size) := fun e => by have := hlt _ (hRF _ e); omega
  have hF4 : ¬ a.R (w.heap.size + 1) := fun e => by have := hlt _ (hRF _ e); omega
  have hj1 := h.later hl1
  obtain ⟨n, hnn⟩ : ∃ n, l.length = n := ⟨_, rfl⟩
  have h40 := hr.h40
  have hne := hr.ne
  have hrl := recD_len l
  rw [hnn] at h40 hne hpa hrl
  have hc := rec1_yes w1 a F V S dt head first next at' C hj1 w.heap.size (w.heap.size + 1) number pos x3 x4 hF4 (by omega) (by omega) (recD l) number hv (by omega) hnum
  obtain ⟨D, hD⟩ : ∃ D : ByteArray, (⟨(padT (recD l) 116).toArray⟩ : ByteArray) = D := ⟨_, rfl⟩
  rw [hD, decide_eq_true rfl] at hc
  have hDd : D.data.toList = padT (recD l) 116 := by rw [← hD]
  have hDs : D.size = 116 := by
    have : D.data.toList.length = 116 := by rw [hDd, pad_len (by omega)]
    rw [← this, Array.length_toList]; rfl
  obtain ⟨TL, hTL⟩ : ∃ TL : ByteArray, D.extract (1 + 2 * n) D.size = TL := ⟨_, rfl⟩
  have hTd : TL.data.toList = List.replicate (116 - (1 + 2 * n)) 0 := by
    rw [← hTL, ex_list, hDs, hDd, padT, hrl, List.drop_left' hrl]
    rw [List.take_of_length_le (by simp)]
  have hTs : TL.size ≤ 200 := by
    have : TL.data.toList.length = 116 - (1 + 2 * n) := by rw [hTd]; simp
    rw [Array.length_toList] at this
    have h2 : TL.size = TL.data.size := rfl
    omega
  have HBL := Lib.hid (fun W => blank_any TL W hTs (by rw [hTd]; intro c hc; exact List.eq_of_mem_replicate hc))
  have hix : ∀ W : World, (Instr.index 9 (.string D) (.int .i64 0)).run Tryz.prog W = .ok (.int .u8 n) W := by
    intro W
    have e : ((D.data.toList.getD 0 0).toNat : Int) = (n : Int) := by
      rw [hDd, padT, recD]
      show (((UInt8.ofNat (l.length / 256 ^ 0))).toNat : Int) = _
      rw [UInt8.toNat_ofNat', hnn]
      omega
    have := str_byte D (k := 0) (by omega) W
    rw [e] at this
    exact this
  have hsl : ∀ W : World, (Instr.slice 9 (.string D) (some (.int .i64 (1 + 2 * (n : Int)))) none none).run Tryz.prog W = .ok (.string TL) W := by
    intro W
    have := slice_from W D (1 + 2 * n) (by omega)
    rw [hTL] at this
    rw [← this]
    congr 4
  have HW1S0 := Lib.hid (show w1.heap.size = w.heap.size + 2 from by rw [← hw1]; simp)
  have HW1 := Lib.hid hw1
  have HL1 := Lib.hid hl1
  have HC := Lib.hid hc
  have HLT := Lib.hid hlt
  have HRF := Lib.hid hRF
  have HX3 := Lib.hid x3
  have HX4 := Lib.hid x4
  have HF3 := Lib.hid hF3
  have HF4 := Lib.hid hF4
  have HN := Lib.hid hnn
  have HDD := Lib.hid hDd
  have HDS := Lib.hid hDs
  have HVS := Lib.hid hvs
  have HOK := Lib.hid hr
  have HNU := Lib.hid hnum
  clear hD hv hvs hr hw1 hl1 hj1 hlt hRF hnum hc hTL hTd hTs hrl hF3 hF4 x3 x4 h hnn hDd
  go_enter Tryz.func200, Tryz.ntmps200
  go_wp2_with fail
  refine wp_scope_jumps2 0 (fun a' wr => ∃ (i : Nat) (lv : Value) (sb : Nat) (A : Array Value), a' = { tmps := frR a.jb w.heap.size (w.heap.size + 1) number pos D n lv sb i A, defers := [] } ∧ i ≤ n ∧ Hid (JC wr a (besideF F w wr lv sb) V S dt head first next at' C) ∧ Hid (wr.ownsRow w1.heap.size 130 2 lv i (wsC ((l.take i).map padW))) ∧ Hid (SetAt wr sb i ((l.take i).map (·.cell))) ∧ Hid (OnlyJ a.R w1 wr) ∧ Hid (w1.heap.size ≤ sb ∧ sb < wr.heap.size ∧ lv.ownBlock ≠ some sb)) (fun a' _ => n - (intOf (a'.tmps.getD 14 undef)).toNat) (by rfl) ?_ ?_
  · rintro a' wr ⟨i, lv, sb, A, rfl, hi, HJ, HOW, HSE, HO, HSB⟩
    unfold frR
    obtain ⟨U, hU⟩ : ∃ U : Nat → Value, ∀ k, A.getD k undef = U k := ⟨_, fun _ => rfl⟩
    simp only [hU]
    clear hU
    by_cases hin : i < n
    · obtain ⟨x, hx⟩ : ∃ x, l[i]? = some x := ⟨_, List.getElem?_eq_getElem (by have := HN.out; omega)⟩
      obtain ⟨x0, x1, x2⟩ := HOK.out.ok x (List.mem_of_getElem? hx)
      obtain ⟨k, hk⟩ := Int.eq_ofNat_of_zero_le x0
      have hk4 : k ≤ 4096 := by omega
      obtain ⟨KC, hKC⟩ : ∃ KC : ByteArray, D.extract (1 + 2 * i) (3 + 2 * i) = KC := ⟨_, rfl⟩
      have hrl := recD_len l
      rw [HN.out] at hrl
      have hKd : KC.data.toList = be k 2 := by
        rw [← hKC, ex_list, HDD.out, show 3 + 2 * i - (1 + 2 * i) = 2 from by omega, padT, List.drop_append_of_le_length (by rw [hrl]; omega), List.take_append_of_le_length (by rw [List.length_drop, hrl]; omega), recD_cell hx, hk, Int.toNat_natCast]
      have hKs : KC.size ≤ 8 := by
        have : KC.data.toList.length = 2 := by rw [hKd, be_len]
        rw [Array.length_toList] at this
        have h2 : KC.size = KC.data.size := rfl
        omega
      have hof := fun W => jof_any KC W hKs
      rw [hKd, ofL_be_lt (k := 2) (by omega)] at hof
      have HOF := Lib.hid hof
      have hsl2 : ∀ W : World, (Instr.slice 9 (.string D) (some (.int .i64 (1 + 2 * (i : Int)))) (some (.int .i64 (3 + 2 * (i : Int)))) none).run Tryz.prog W = .ok (.string KC) W := by
        intro W
        have := slice_str W D (1 + 2 * i) (3 + 2 * i) (by omega) (by have := HDS.out; omega)
        rw [hKC] at this
        rw [← this]
        congr 4
      obtain ⟨Dm, hom, hhas⟩ := HSE.out
      have hkey : keyOf Tryz.prog 3 (.int .i64 (k : Int)) = some (.int .i64 (k : Int)) := keyOf_int_mk Tryz.underlying3 (WalkArith.wf_i64 (by omega))
      obtain ⟨v, ps, hrun, hvv⟩ := hom.look_ok law_int Tryz.underlying267 (zero_unit wr) unitElem_mk hkey
      obtain ⟨rfl, -⟩ := unitElem_inv hvv
      have hnot : ¬ (k : Int) ∈ (l.take i).map (·.cell) := by
        intro e
        obtain ⟨y, hy, he⟩ := List.mem_map.1 e
        obtain ⟨j, hj⟩ := List.getElem?_of_mem hy
        have hji : j < i := by have := (List.getElem?_eq_some_iff.1 hj).1; rw [List.length_take] at this; omega
        rw [List.getElem?_take_of_lt hji] at hj
        have := HOK.out.once j i y x hj hx (by rw [he, hk])
        omega
      rw [hhas, decide_eq_false hnot] at hrun
      have hwk : IntKind.i64.wrap (k : Int) = (k : Int) := by rw [IntKind.wrap_i64]; omega
      have HX := Lib.hid (And.intro hx (And.intro hk x2))
      have HX1 := Lib.hid x1
      have HHAS := Lib.hid hhas
      have HOM := Lib.hid hom
      have HKEY := Lib.hid hkey
      clear hx x0 x1 x2 hk hKC hKd hKs hof hrl hvv hnot hhas hom hkey
      go_upto_region 15 with (first
        | (go_at_call 225; (with_reducible refine (HOF.out _).mono ?_); rintro e wm ⟨rfl, hwm⟩; subst hwm)
        | fail)
      obtain ⟨w2, hw2⟩ : ∃ w2, wr.alloc (.cells #[] 172) = w2 := ⟨_, rfl⟩
      rw [hw2]
      have hl2 : LJ wr w2 := by rw [← hw2]; exact (LJ.refl wr).alloc _
      have hsr := HO.out.size
      have hw1s : w1.heap.size = w.heap.size + 2 := by rw [← HW1.out]; simp
      have y3 : w2.cell? ⟨w.heap.size, 0, none⟩ = some (.pointer (some ⟨a.jb, 0, none⟩)) := LJ.cell hl2 ((World.cell?_of_block (a := ⟨w.heap.size, 0, none⟩) (HO.out.block _ (by show w.heap.size < w1.heap.size; omega) HF3.out)).trans HX3.out)
      have hj2 := HJ.out.later hl2
      have HCE := Lib.hid (jcells_at w2 a _ V S dt head first next at' C hj2 han)
      obtain ⟨m, hm⟩ : ∃ m, a.n - a.area = m := ⟨_, rfl⟩
      rw [hm] at HCE
      have hkm : k < m := by have := HX1.out; have := HX.out.2.1; omega
      have gk : decide ((m : Int) ≤ (k : Int)) = false := by simp; omega
      have HJ2 := Lib.hid hj2
      have HL2 := Lib.hid hl2
      have HM := Lib.hid hm
      have HW1S := Lib.hid hw1s
      have HSR := Lib.hid hsr
      clear hw2 hl2 hj2 hm hrun hsl2 hsr hw1s
      go_upto_region 17 with (first
        | (go_at_call 62; (with_reducible refine HCE.out.mono ?_); rintro e w3 ⟨rfl, nq, rfl⟩)
        | fail)
      obtain ⟨w3, hw3⟩ : ∃ w3, w2.drewN nq = w3 := ⟨_, rfl⟩
      rw [hw3]
      have hl23 : LJ wr w3 := by rw [← hw3]; exact HL2.out.drewN nq
      have hom3 : w3.ownsMap Tryz.prog 3 (unitElem (H := Unit)) sb i Dm := by
        obtain ⟨es, clock, h4, h5⟩ := HOM.out
        exact ⟨es, clock, (Below.block hl23 sb HSB.out.2.1).trans h4, h5⟩
      obtain ⟨w4, hst, hom4, hturn⟩ := hom3.store law_int Tryz.underlying267 (by unfold maxLen; omega) HKEY.out unitElem_mk
      have hg4 := hturn.grown
      have ho4 : OnlyJ (fun q => q = sb) w3 w4 := ⟨hg4.os, hg4.tape, hg4.output, hg4.size, fun q hq hne => hg4.block q hq (by simpa using hne)⟩
      have hsb := HSB.out
      have hs23 := Below.size hl23
      have hs34 := ho4.size
      have hlt := HLT.out
      have hj4 : JC w4 a (besideF F w w4 lv sb) V S dt head first next at' C := by
        refine HJ.out.fit (by omega) (fun q hq hF => (ho4.block q (by omega) hF.2.2).trans (Below.block hl23 q hq)) (fun q hq => ⟨hq.1.imp id (fun e => ⟨e.1, by omega⟩), hq.2⟩) (fun q hq => ?_)
        rcases hq.1 with e | e
        · have := hlt q e; have := HW1S.out; have := HSR.out; omega
        · exact e.2
      have how4 : w4.ownsRow w1.heap.size 130 2 lv i (wsC ((l.take i).map padW)) := own_only (own_below HOW.out hl23) ho4 (fun g hg e => hsb.2.2 (by rw [hg, e]))
      have hse4 : SetAt w4 sb (i + 1) ((l.take (i + 1)).map (·.cell)) := by
        refine ⟨_, hom4, fun c => ?_⟩
        rw [List.take_add_one, HX.out.1, Option.toList_some, List.map_append, List.map_singleton, HX.out.2.1]
        by_cases hc : c = (k : Int)
        · subst hc
          rw [Maps.has_put_same (hom3.isMap) (show WideAt.IsKeyLit (.int .i64 (k : Int)) from trivial)]
          simp
        · rw [Maps.has_put_other (by intro e; injection e; exact hc (by assumption)), HHAS.out c]
          simp [hc]
      have hr3 : OnlyJ a.R w1 w3 := HO.out.trans (OnlyJ.of_below hl23)
      have hsr3 := hr3.size
      have hr4 : OnlyJ a.R w1 w4 := ⟨ho4.os.trans hr3.os, ho4.tape.trans hr3.tape, ho4.output.trans hr3.output, by omega, fun q hq hne => (ho4.block q (by omega) (by omega)).trans (hr3.block q hq hne)⟩
      have hw1s := HW1S.out
      have z3 : w4.cell? ⟨w.heap.size, 0, none⟩ = some (.pointer (some ⟨a.jb, 0, none⟩)) := (World.cell?_of_block (a := ⟨w.heap.size, 0, none⟩) (hr4.block _ (by show w.heap.size < w1.heap.size; omega) HF3.out)).trans HX3.out
      have z4 : w4.cell? ⟨w.heap.size + 1, 0, none⟩ = some (.int .i64 number) := (World.cell?_of_block (a := ⟨w.heap.size + 1, 0, none⟩) (hr4.block _ (by show w.heap.size + 1 < w1.heap.size; omega) HF4.out)).trans HX4.out
      have hc2 := rec1_yes w4 a _ V S dt head first next at' C hj4 w.heap.size (w.heap.size + 1) number (pos + 1 + i) z3 z4 HF4.out (by omega) (by omega) x.data.data.toList number (HVS.out i x HX.out.1) (by have h1 : x.data.data.toList.length = x.data.size := (by rw [Array.length_toList]; rfl); have := HX.out.2.2; omega) HNU.out
      obtain ⟨PX, hPX⟩ : ∃ PX : ByteArray, (⟨(padT x.data.data.toList 116).toArray⟩ : ByteArray) = PX := ⟨_, rfl⟩
      rw [hPX, decide_eq_true rfl, show ((pos + 1 + i : Nat) : Int) = (pos : Int) + 1 + (i : Int) from by omega] at hc2
      have HC2 := Lib.hid hc2
      have HPX := Lib.hid (show padW x = ⟨(k : Int), PX⟩ from by rw [← hPX, ← HX.out.2.1]; rfl)
      have hp1 : IntKind.i64.wrap ((pos : Int) + 1) = (pos : Int) + 1 := by rw [IntKind.wrap_i64]; omega
      have hp2 : IntKind.i64.wrap ((pos : Int) + 1 + (i : Int)) = (pos : Int) + 1 + (i : Int) := by rw [IntKind.wrap_i64]; omega
      have HS4 := Lib.hid (And.intro hs23 hs34)
      have HOW4 := Lib.hid how4
      have HSE4 := Lib.hid hse4
      have HR4 := Lib.hid hr4
      have HJ4 := Lib.hid hj4
      clear hom3 hom4 hturn hg4 ho4 hsb hs23 hs34 hlt hj4 how4 hse4 hr3 hsr3 hr4 hw1s z3 z4 hc2 hPX hl23 hw3 y3
      go_upto_region 18 with fail
      go_upto_region 21 with (first
        | (go_at_call 226; (with_reducible refine HC2.out.mono ?_); rintro e w5 ⟨rfl, hj5, ho5⟩; have HJ5 := Lib.hid hj5; have HO5 := Lib.hid ho5; clear hj5 ho5)
        | fail)
      have hs45 := HO5.out.size
      have hs14 := HR4.out.size
      have HO5R := Lib.hid (own_only HOW4.out HO5.out (fun g hg e => by have h1 := (HOW4.out.lt g hg).1; have h2 := HLT.out g (HRF.out g e); have h3 := HW1S.out; omega))
      have h15 : w1.heap.size ≤ w5.heap.size := by omega
      clear hs45 hs14
      go_upto_region 22 with (first
        | (at_builtin; refine wpList_append_lies _ rfl (.tmp 88) (.tmp 92) 131 rfl w1.heap.size 130 iW (.agg #[.int .i64 0, .string ⟨#[]⟩]) 2 24 Tryz.underlying131 hiW hzW hsW hbW rfl (by decide) _ _ _ rfl (HO5R.out.alloc _) ⟨w5.heap.size, 0, none⟩ 1 1 [.int .i64 (k : Int), .string PX] rfl rfl (cells_newJ w5 [.int .i64 (k : Int), .string PX] 130) (by intro u hu; simp only [List.mem_cons, List.not_mem_nil, or_false] at hu; rcases hu with rfl | rfl <;> rfl) (by omega) (by unfold maxLen; omega) (by omega) (by simp; omega) _ rfl ?_; intro g6 cap6 w6 hown6 hgrow6 hat6 hlt6)
        | fail)
      have hrow : wsC ((l.take i).map padW) ++ [.int .i64 (k : Int), .string PX] = wsC ((l.take (i + 1)).map padW) := by
        rw [List.take_add_one, HX.out.1, Option.toList_some, List.map_append, List.map_singleton, HPX.out, wsC_app]
        rfl
      rw [hrow] at hown6
      have HOW6 := Lib.hid hown6
      have HG6 := Lib.hid hgrow6
      have HA6 := Lib.hid hat6
      have HL6 := Lib.hid hlt6
      clear hown6 hgrow6 hat6 hlt6 hrow
      go_wp2_with fail
      go_step3
      rw [show (i : Int) + 1 = ((i + 1 : Nat) : Int) from by omega]
      have hgs := HG6.out.size
      rw [World.size_alloc] at hgs
      have hs4 := HS4.out
      have ho5 := HO5.out
      have hs45 := ho5.size
      have hr4 := HR4.out
      have hs14 := hr4.size
      have hw1s := HW1S.out
      have hsb := HSB.out
      have hsr := HSR.out
      have hl2s := Below.size HL2.out
      have hlo : ∀ g, lv.ownBlock = some g → w1.heap.size ≤ g := fun g hg => (HOW4.out.lt g hg).1
      have hrow : ∀ q, q < w5.heap.size → lv.ownBlock ≠ some q → w6.heap[q]? = w5.heap[q]? := fun q hq hne => (HG6.out.block q (by rw [World.size_alloc]; omega) (fun e => hne e.symm)).trans (Below.heap_alloc _ _ _ hq)
      have hg6 : lv.ownBlock = some g6 ∨ g6 = w5.heap.size + 1 := by rcases HA6.out with e | e; exact .inl e; exact .inr (by rw [e, World.size_alloc])
      have hnR : ∀ q, a.R q → q < w.heap.size := fun q hq => HLT.out q (HRF.out q hq)
      refine ⟨rfl, ⟨i + 1, .slice (some ⟨g6, 0, none⟩) (i + 1) cap6, sb, _, frR_act (by rfl), by omega, Lib.hid ?_, HOW6, Lib.hid ?_, Lib.hid ?_, Lib.hid ⟨hsb.1, by omega, ?_⟩⟩, ?_⟩
      · refine HJ5.out.fit (by omega) (fun q hq hF => hrow q hq ?_) (fun q hq => ?_) (fun q hq => ?_)
        · rcases hF with hF | hF
          · exact hF.2.1
          · intro e
            have := (HOW4.out.lt q e).2
            have := hF.1
            omega
        · rcases hq with hq | hq
          · refine ⟨hq.1.imp id (fun e => ⟨e.1, by omega⟩), ?_, hq.2.2⟩
            intro e
            have e' : g6 = q := Option.some.inj e
            subst e'
            rcases hg6 with h1 | h1
            · exact hq.2.1 h1
            · rcases hq.1 with h2 | h2
              · have := HLT.out _ h2; omega
              · omega
          · refine ⟨.inr ⟨by have := hq.1; omega, by have := hq.2; omega⟩, ?_, by have := hq.1; omega⟩
            intro e
            have e' : g6 = q := Option.some.inj e
            subst e'
            rcases hg6 with h1 | h1
            · have := (HOW4.out.lt _ h1).2; have := hq.1; omega
            · have := hq.2; omega
        · rcases hq.1 with h2 | h2
          · have := HLT.out _ h2; omega
          · exact h2.2
      · refine HSE4.out.kept ((hrow sb (by omega) hsb.2.2).trans (ho5.block sb (by omega) (fun e => by have := hnR _ e; omega)))
      · have h5 := hr4.trans ho5
        exact ⟨HG6.out.os.trans h5.os, HG6.out.tape.trans h5.tape, HG6.out.output.trans h5.output, by omega, fun q hq hne => (hrow q (by omega) (fun e => by have := hlo q e; omega)).trans (h5.block q hq hne)⟩
      · intro e
        have e' : g6 = sb := Option.some.inj e
        subst e'
        rcases hg6 with h1 | h1
        · exact hsb.2.2 h1
        · omega
      · simp [intOf, frR]; omega
    · have hie : i = n := by omega
      subst hie
      go_wp2_with fail
      simp only [Exit.jump]
      go_ret2
      have hw1s := HW1S0.out
      have hsr := HO.out.size
      have hl0 : l.take i = l := List.take_of_length_le (Nat.le_of_eq HN.out)
      have how := HOW.out
      rw [hl0] at how
      have hlm : (l.map padW).length = i := by rw [List.length_map]; exact HN.out
      refine ⟨lv, _, rfl, HJ.out, ?_, fun q hq => ⟨.inl hq, ?_, ?_⟩, fun q hq => hq.1, (OnlyJ.of_below HL1.out).trans HO.out⟩
      · rcases how.2 with ⟨rfl, h0⟩ | ⟨og, ocap, ocur, rfl, hBo, hog, hoc, hom, -⟩
        · omega
        · refine .inr ⟨og, 0, ocap, by rw [hlm], lt_blk hog, fun e => e.2.1 rfl, fun m x hx => ?_⟩
          have hml : m < i := by rw [← hlm]; exact (List.getElem?_eq_some_iff.1 hx).1
          obtain ⟨e1, e2⟩ := wsC_get _ _ _ hx
          rw [Nat.zero_add]
          exact ⟨by rw [how.cellAt _ (by omega)]; exact e1, by rw [how.cellAt _ (by omega)]; exact e2⟩
      · intro e
        have := (how.lt q e).1
        have := HLT.out q hq
        omega
      · have := HSB.out.1
        have := HLT.out q hq
        omega
  · intro hpass
    go_upto_region 1 with fail
    rw [HW1.out]
    go_upto_region 9 with (first
      | (go_at_call 226; (with_reducible refine HC.out.mono ?_); rintro e w5 ⟨rfl, hj5, ho5⟩; have HJ5 := Lib.hid hj5; have HO5 := Lib.hid ho5; clear hj5 ho5)
      | (go_at_call 224; (with_reducible refine (HBL.out _).mono ?_); rintro e w6 ⟨rfl, nq, rfl⟩)
      | fail)
    have hmk := run_makeMap (P := Tryz.prog) 267 (w5.drewN nq)
    obtain ⟨w6, hw6⟩ : ∃ w6, (w5.drewN nq).alloc (.map #[] 0) = w6 := ⟨_, rfl⟩
    rw [hw6] at hmk
    have hl6 : LJ w5 w6 := by rw [← hw6]; exact ((LJ.refl w5).drewN nq).alloc _
    have hset : SetAt w6 w5.heap.size 0 [] := by
      rw [← hw6]
      exact ⟨.map [], World.ownsMap_made (w5.drewN nq) Tryz.prog 3 (unitElem (H := Unit)), fun c => rfl⟩
    have hz6 : w6.heap.size = w5.heap.size + 1 := by rw [← hw6]; exact World.size_alloc _ _
    have HSET := Lib.hid hset
    have HL6 := Lib.hid hl6
    have HZ6 := Lib.hid hz6
    clear hset hl6 hz6 hw6
    go_wp2_with fail
    go_step3
    rename_i hK
    refine hK _ _ (hpass _ _ ?_)
    have hs5 := HO5.out.size
    have hl6s := HZ6.out
    have hw1s := HW1S0.out
    refine ⟨0, .slice none 0 0, w5.heap.size, _, frR_act (by rfl), by omega, Lib.hid ?_, Lib.hid (World.ownsRow_nil _ _ _ _), HSET, Lib.hid (HO5.out.trans (OnlyJ.of_below HL6.out)), Lib.hid ⟨hs5, by omega, by simp [Value.ownBlock]⟩⟩
    refine HJ5.out.fit (by omega) (fun q hq hF => Below.block HL6.out q hq) (fun q hq => ⟨?_, by simp [Value.ownBlock], ?_⟩) (fun q hq => ?_)
    · rcases hq with e | e
      · exact .inl e
      · exact .inr ⟨by have := e.1; omega, by have := e.2; omega⟩
    · rcases hq with e | e
      · have := HLT.out q e; omega
      · have := e.2; omega
    · rcases hq.1 with e | e
      · have := HLT.out q e; omega
      · exact e.2
end Go.Proofs.YtfpbocjmlhcgiaaGreatDoor
