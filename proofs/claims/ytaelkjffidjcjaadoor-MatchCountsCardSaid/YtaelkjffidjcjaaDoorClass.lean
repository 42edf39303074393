/- The walk of class. (Printed by wip/gen_class.py.) -/
import Derived.Test.YtaelkjffidjcjaaDoorNum
import Derived.Test.YtaelkjffidjcjaaDoorIs
import Derived.ScopeJumps
import Derived.Laws.Bits64
import Derived.Deep.LoopGhost
set_option linter.unusedSimpArgs false
set_option linter.unusedVariables false
namespace Go.Proofs.YtaelkjffidjcjaaDoor
open Go.RowKit PX

theorem wp_mono {P : Program} {c : Code} {Q Q' : Exit → Act → World → Prop} {a : Act} {w : World} (h : c.wp P Q a w) (hq : ∀ e a w, Q e a w → Q' e a w) : c.wp P Q' a w :=
  fun b k cs => let ⟨e, a', w', q, r⟩ := h b k cs; ⟨e, a', w', hq _ _ _ q, r⟩
/-- A scope with one label to which the run jumps back: the code behind the label is walked once. -/
theorem wp_scope_back {P : Program} {a : Act} {w : World} {Q : Exit → Act → World → Prop} {c X : Code} (l : Nat) (J : Act → World → Prop) (μ : Act → World → Nat) (hf : findLabel c l = some (Code.skip.seq X))
    (pass : ∀ a w, J a w → X.wp P (Exit.jump l (fun a' w' => J a' w' ∧ μ a' w' < μ a w) Q) a w)
    (first : (∀ a w, J a w → X.wp P (Exit.jump l J Q) a w) → c.wp P (Exit.jump l J Q) a w) : (Code.scope c).wp P Q a w := by
  refine wp_scope_jumps l J μ hf (first fun a w hJ => wp_mono (pass a w hJ) ?_) fun a w hJ => wp_seq (wp_skip (pass a w hJ))
  intro e a' w' h
  cases e with
  | goto l' => exact ⟨h.1, h.2.1⟩
  | _ => exact h
def Q4.cells (q : Q4) : Array Value := #[.int .u64 q.a, .int .u64 q.b, .int .u64 q.c, .int .u64 q.d]
/-- How much is left of a reader's string. -/
def leftOf (rb : Nat) (w : World) : Nat := match w.cell? ⟨rb, 0, none⟩ with | some (.string s) => s.size | _ => 0
theorem leftOf_read {w : World} {rb : Nat} {l : List UInt8} (h : ReadAt w rb l) : leftOf rb w = l.length := by
  have := read_cell h
  unfold leftOf
  rw [this]; simp [ByteArray.size]

def classEnd (nt : Bool) : Option (Q4 × List UInt8) → Option (Q4 × List UInt8)
  | none => none
  | some (q, r) => if (if nt then q.not else q).isNone then none else some (if nt then q.not else q, r)
theorem classR_eq (f : Nat) (l : List UInt8) : classR f l = classEnd (starts 94 l) (classLoop f Q4.none (if starts 94 l then l.tail else l)) := by
  unfold classR
  cases classLoop f Q4.none (if starts 94 l then l.tail else l) with
  | none => rfl
  | some p => rfl
theorem withAll_snoc : ∀ (k : Nat) (q : Q4) (n : Nat), q.withAll n (k + 1) = (q.withAll n k).with (n + k)
  | 0, q, n => rfl
  | k + 1, q, n => by
    show (q.with n).withAll (n + 1) (k + 1) = ((q.with n).withAll (n + 1) k).with (n + (k + 1))
    rw [withAll_snoc k (q.with n) (n + 1), show n + 1 + k = n + (k + 1) by omega]
theorem and63 (n : Nat) (hn : n < 256) : Go.bits .and .i64 (n : Int) 63 = ((n % 64 : Nat) : Int) := by
  have key : ∀ n : Nat, n < 256 → Go.bits .and .i64 (n : Int) 63 = ((n % 64 : Nat) : Int) := by decide +kernel
  exact key n hn
theorem or_bit' (W : Int) (k : Nat) (hW : U64 W) (hk : k < 64) : Go.bits .or .u64 W (IntKind.u64.wrap (2 ^ k)) = orBit W k := or_bit W k ⟨hW.1, by have := hW.2; omega⟩ hk
theorem eq4_none (q : Q4) (w : World) : (Op.equalIn 10000 23 (.agg (Q4.cells q)) (.agg #[.int .u64 0, .int .u64 0, .int .u64 0, .int .u64 0])).run Tryd.prog w = .ok q.isNone w := by
  unfold Q4.cells
  rw [run_eq4]
  rfl
theorem xor1 {x : Int} (h : U64 x) : Go.bits .xor .u64 IntKind.u64.max x = 18446744073709551615 - x := by
  obtain ⟨h1, h2⟩ := h
  obtain ⟨n, rfl⟩ : ∃ n : Nat, x = n := ⟨x.toNat, by omega⟩
  have hn : n < 2 ^ 64 := by omega
  have hb : (BitVec.ofNat 64 n).toNat = n := by simp; omega
  have key : 18446744073709551615 ^^^ n = 18446744073709551615 - n := by
    have h := congrArg BitVec.toNat (BitVec.allOnes_xor (x := BitVec.ofNat 64 n))
    rw [BitVec.toNat_xor, BitVec.toNat_not, BitVec.toNat_allOnes, hb] at h
    exact h
  rw [show IntKind.u64.max = ((18446744073709551615 : Nat) : Int) from rfl, bits_xor_u64_nat _ _ (by omega) (by omega), key]
  omega
theorem set4_other {w : World} {b k : Nat} {o : Obj} {v0 v1 v2 v3 : Value} (h : w.heap[k]? = some o) (hk : k ≠ b) :
    ((((w.setCell ⟨b, 0, none⟩ v0).setCell ⟨b, 1, none⟩ v1).setCell ⟨b, 2, none⟩ v2).setCell ⟨b, 3, none⟩ v3).heap[k]? = some o := by
  rw [Below.heap_setCell _ _ _ _ (by exact fun e => hk e), Below.heap_setCell _ _ _ _ (by exact fun e => hk e), Below.heap_setCell _ _ _ _ (by exact fun e => hk e), Below.heap_setCell _ _ _ _ (by exact fun e => hk e)]
  exact h
theorem only_set4 {r : Nat → Prop} {a w : World} {b : Nat} {v0 v1 v2 v3 : Value} (h : Only r a w) (hb : a.heap.size ≤ b) :
    Only r a ((((w.setCell ⟨b, 0, none⟩ v0).setCell ⟨b, 1, none⟩ v1).setCell ⟨b, 2, none⟩ v2).setCell ⟨b, 3, none⟩ v3) :=
  (((h.setCell (p := ⟨b, 0, none⟩) (.inr hb) _).setCell (p := ⟨b, 1, none⟩) (.inr hb) _).setCell (p := ⟨b, 2, none⟩) (.inr hb) _).setCell (p := ⟨b, 3, none⟩) (.inr hb) _
theorem q4_one (q : Q4) : (Q4.cells q).all (·.oneCell') = true := by simp [Q4.cells, Value.oneCell']
theorem info4 : (Tryd.prog.info? 23).map (·.size) = some 4 := by kernel_rfl
theorem loop_none {f : Nat} {q : Q4} {l : List UInt8} (h : classOne q l = none) : classLoop f q l = none := by
  cases f with
  | zero => rfl
  | succ f => simp [classLoop, h]
theorem loop_some {f : Nat} {q q' : Q4} {l r : List UInt8} (h : classOne q l = some (q', r)) (hf : l.length ≤ f) : ∃ f', f = f' + 1 ∧ r.length ≤ f' ∧ classLoop f q l = if starts 93 r then some (q', r.tail) else classLoop f' q' r := by
  have := classOne_lt h
  cases f with
  | zero => omega
  | succ f => exact ⟨f, rfl, by omega, by simp [classLoop, h]⟩
/-- Where class stands at its label. -/
def ClassJ (rb nb : Nat) (nt : Bool) (w : World) (o : Option (Q4 × List UInt8)) (a : Act) (w' : World) : Prop :=
  (∃ (u1 u5 u6 u7 u8 u9 u10 u11 u12 u13 u14 u15 u16 u17 u18 u19 u20 u21 u22 u23 u24 u25 u26 u27 u28 u29 u30 u31 u32 u33 u34 u35 u36 u37 u38 u39 u40 u41 u42 u43 u44 u45 u46 u47 u48 u49 u50 u51 u52 u53 u54 u55 : Value), a = { tmps := #[.pointer (some ⟨rb, 0, none⟩), u1, .pointer (some ⟨nb, 0, none⟩), .pointer (some ⟨nb + 1, 0, none⟩), .bool nt, u5, u6, u7, u8, u9, u10, u11, u12, u13, u14, u15, u16, u17, u18, u19, u20, u21, u22, u23, u24, u25, u26, u27, u28, u29, u30, u31, u32, u33, u34, u35, u36, u37, u38, u39, u40, u41, u42, u43, u44, u45, u46, u47, u48, u49, u50, u51, u52, u53, u54, u55], defers := [] }) ∧
  ∃ (q : Q4) (l : List UInt8) (f : Nat), ReadAt w' rb l ∧ w'.heap[nb + 1]? = some (.cells (Q4.cells q) 23 (0, 0)) ∧ w'.heap[nb]? = some (.cells (Q4.cells Q4.none) 23 (0, 0)) ∧ Only (fun k => k = rb) w w' ∧ q.Ok ∧
    l.length ≤ f ∧ l.length ≤ 1000 ∧ classLoop f q l = o

theorem alloc_block' (w : World) (o : Obj) (n : Nat) (hn : w.heap.size = n) : (w.alloc o).heap[n]? = some o := by subst hn; exact alloc_block w o
theorem read_old2 {w : World} {rb : Nat} {l : List UInt8} (h : ReadAt w rb l) (a b : Obj) : ReadAt ((w.alloc a).alloc b) rb l := alloc_old (alloc_old h a) b
set_option maxRecDepth 100000 in
set_option maxHeartbeats 2000000 in
theorem class_any (w : World) (rb : Nat) (l : List UInt8) (f : Nat) (h : ReadAt w rb l) (hf : l.length ≤ f) (hl : l.length ≤ 1000) :
    Calls Tryd.prog 80 #[.pointer (some ⟨rb, 0, none⟩)] w fun e w' => Reads rb w (classR f l) (fun q => .agg (Q4.cells q)) e w' := by
  have hlt := lt_of_block h
  obtain ⟨nt, hnt⟩ : ∃ nt, starts 94 l = nt := ⟨_, rfl⟩
  obtain ⟨o, ho⟩ : ∃ o, classLoop f Q4.none (if nt then l.tail else l) = o := ⟨_, rfl⟩
  have hR := classR_eq f l
  rw [hnt, ho] at hR
  have HR := Lib.hid hR; clear hR
  have HO := Lib.hid ho; clear ho
  obtain ⟨l1, hl1⟩ : ∃ l1, (if nt then l.tail else l) = l1 := ⟨_, rfl⟩
  have htake := fun w1 (h1 : ReadAt w1 rb l) => take_any w1 rb l 94 h1
  rw [hnt] at htake
  rw [hl1] at HO htake
  have hl1f : l1.length ≤ f ∧ l1.length ≤ 1000 := by rw [← hl1]; have := tail_le l; split <;> omega
  have HT := Lib.hid htake; clear htake hl1 hnt
  obtain ⟨nb, hnb⟩ : ∃ nb, w.heap.size = nb := ⟨_, rfl⟩
  have HW := Lib.hid h; clear h
  go_enter Tryd.func80, Tryd.ntmps80
  go_wp2_with fail
  refine wp_scope_back 0 (ClassJ rb nb nt w o) (fun _ w' => leftOf rb w') rfl ?_ ?_
  · rintro a w' ⟨⟨u1, u5, u6, u7, u8, u9, u10, u11, u12, u13, u14, u15, u16, u17, u18, u19, u20, u21, u22, u23, u24, u25, u26, u27, u28, u29, u30, u31, u32, u33, u34, u35, u36, u37, u38, u39, u40, u41, u42, u43, u44, u45, u46, u47, u48, u49, u50, u51, u52, u53, u54, u55, rfl⟩, q, l', f', hr, hs, hn, hon, hq, hlf, hl1k, hcl⟩
    clear HT HO HW hl1f hf hl
    have HCL := Lib.hid hcl; clear hcl
    have HQ := Lib.hid hq; clear hq
    have HS := Lib.hid hs; clear hs
    have HN := Lib.hid hn; clear hn
    have HON := Lib.hid hon; clear hon
    have HONE := Lib.hid (one_any w' rb ⟨#[92, 93, 94, 45]⟩ l' hr hl1k)
    have hleft := leftOf_read hr
    clear hr
    have HLEFT := Lib.hid hleft; clear hleft
    cases h1 : one butClass l' with
    | none =>
      have HO1 := Lib.hid ((loop_none (f := f') (q := q) (by simp [classOne, h1])).symm.trans HCL.out)
      have H1 := Lib.hid h1; clear h1
      go_wp2_with (go_at_call 81; refine HONE.out.mono ?_; rintro e w1 hR; obtain ⟨rfl, o1⟩ := hR.none H1.out)
      exact ⟨rfl, HON.out.then o1, .inl ⟨by rw [HR.out, ← HO1.out]; rfl, rfl⟩⟩
    | some ar =>
      obtain ⟨a, r⟩ := ar
      have hra := one_lt h1
      obtain ⟨b45, hb45⟩ : ∃ b45, starts 45 r = b45 := ⟨_, rfl⟩
      obtain ⟨r1, hr1⟩ : ∃ r1, (if b45 then r.tail else r) = r1 := ⟨_, rfl⟩
      have HTK := Lib.hid (fun w1 (h : ReadAt w1 rb r) => by
        have h := take_any w1 rb r 45 h
        rw [hb45, hr1] at h
        exact h)
      have hr1l : r1.length ≤ r.length := by rw [← hr1]; have := tail_le r; split <;> omega
      have H1 := Lib.hid h1; clear h1
      have H45 := Lib.hid hb45; clear hb45
      have HR1 := Lib.hid hr1; clear hr1
      go_upto_if 13 with (first
        | (go_at_call 81; refine HONE.out.mono ?_; rintro e w1 hR; obtain ⟨rfl, hr1', o1⟩ := hR.some H1.out)
        | (go_at_call 62; refine (HTK.out _ hr1').mono ?_; rintro e w2 ⟨rfl, h2, o2⟩))
      go_cut [6] from 12 to 15 (fun v wr => ∃ (b : Nat) (r2 : List UInt8), v = .int .i64 b ∧ ReadAt wr rb r2 ∧ Only (fun k => k = rb) w' wr ∧ b < 256 ∧ classOne q l' = (if a ≤ b then some (q.withAll a (b + 1 - a), r2) else none) ∧ r2.length < l'.length)
      case first =>
        have hO2 := Lib.hid (o1.then o2); clear o1 o2
        cases b45 with
        | false =>
          obtain rfl : r = r1 := HR1.out
          go_wp2_with fail
          go_meet
          case rel =>
            refine ⟨a, r, rfl, h2, hO2.out, hra.2, ?_, hra.1⟩
            unfold classOne
            rw [H1.out]
            simp only [H45.out, Bool.false_eq_true, if_false, Nat.le_refl, if_true]
            rw [show a + 1 - a = 1 by omega]
        | true =>
          obtain rfl : r.tail = r1 := HR1.out
          have HONE2 := Lib.hid (one_any w2 rb ⟨#[92, 93, 94, 45]⟩ r.tail h2 (by omega))
          cases h3 : one butClass r.tail with
          | none =>
            have hc1 : classOne q l' = none := by
              unfold classOne
              rw [H1.out]
              simp only [H45.out, if_true, h3]
            have HO1 := Lib.hid ((loop_none (f := f') hc1).symm.trans HCL.out)
            have H3 := Lib.hid h3; clear h3 hc1
            go_wp2_with (go_at_call 81; refine HONE2.out.mono ?_; rintro e w3 hR; obtain ⟨rfl, o3⟩ := hR.none H3.out)
            exact ⟨rfl, (HON.out.then hO2.out).then o3, .inl ⟨by rw [HR.out, ← HO1.out]; rfl, rfl⟩⟩
          | some br =>
            obtain ⟨b, r2⟩ := br
            have hb := one_lt h3
            have H3 := Lib.hid h3; clear h3
            go_wp2_with (go_at_call 81; refine HONE2.out.mono ?_; rintro e w3 hR; obtain ⟨rfl, hr3, o3⟩ := hR.some H3.out)
            go_meet
            case rel =>
              refine ⟨b, r2, rfl, hr3, hO2.out.then o3, hb.2, ?_, by have := tail_le r; omega⟩
              unfold classOne
              rw [H1.out]
              simp only [H45.out, if_true, H3.out]
      case rest =>
        clear h2 o1 o2
        obtain ⟨b, r2, rfl, hr2, honc, hb256, hc1, hr2l⟩ := hcut
        have HC1 := Lib.hid hc1; clear hc1
        have HR2 := Lib.hid hr2; clear hr2
        have HONC := Lib.hid honc; clear honc
        clear HTK HONE HR1 H45 hr1l H1
        by_cases hab : a ≤ b
        · obtain ⟨f2, rfl, hf2, hcl2⟩ := loop_some (f := f') (HC1.out.trans (if_pos hab)) hlf
          have HCL2 := Lib.hid (hcl2.symm.trans HCL.out); clear hcl2
          have habi : (a : Int) ≤ b := by omega
          have hncw : nb + 1 < w'.heap.size := lt_of_block HS.out
          have hnbr : rb < nb := by omega
          have hsc : wc.heap[nb + 1]? = some (.cells (Q4.cells q) 23 (0, 0)) := by
            rw [HONC.out.block (nb + 1) hncw (by omega)]; exact HS.out
          have HSC := Lib.hid hsc; clear hsc
          go_wp2_with (go_at_call 49; refine (must_yes rfl _).mono ?_; rintro e w4 ⟨rfl, rfl⟩)
          go_loopw [5] (fun v wr => ∃ j : Nat, j ≤ b + 1 - a ∧ v = .int .i64 ((a + j : Nat) : Int) ∧ wr.heap[nb + 1]? = some (.cells (Q4.cells (q.withAll a j)) 23 (0, 0)) ∧ Only (fun k => k = nb + 1) w4 wr) (fun v _ => b + 1 - (intOf v).toNat)
          case atStart => exact ⟨0, by omega, rfl, HSC.out, Only.refl _ _⟩
          case round =>
            obtain ⟨j, hj, rfl, hsr, honr⟩ := hrel
            have hqj := Q4.withAll_ok HQ.out (k := j) (n := a) (by omega)
            obtain ⟨q1, hq1⟩ : ∃ q1, q.withAll a j = q1 := ⟨_, rfl⟩
            rw [hq1] at hsr hqj
            by_cases hje : j = b + 1 - a
            · have hgt : ¬ ((a + j : Nat) : Int) ≤ b := by omega
              subst hje
              rw [show a + (b + 1 - a) = b + 1 by omega] at hgt ⊢
              obtain ⟨b93, hb93⟩ : ∃ b93, starts 93 r2 = b93 := ⟨_, rfl⟩
              have hr2r : ReadAt wr rb r2 := by
                unfold ReadAt
                rw [honr.block rb (by have := HONC.out.size; omega) (by omega)]; exact HR2.out
              have honw := HON.out.then HONC.out
              have honx : Only (fun k => k = rb) w wr := honw.trans (honr.mono fun _ _ h => .inr (by omega))
              have HX := Lib.hid honx; clear honx honw
              have honr0 := honr; clear honr
              have hnr : wr.heap[nb]? = some (.cells (Q4.cells Q4.none) 23 (0, 0)) := by
                rw [honr0.block nb (by have := HONC.out.size; omega) (by omega), HONC.out.block nb (by omega) (by omega)]; exact HN.out
              have HTK := take_any wr rb r2 93 hr2r
              have HQ1 := Lib.hid hq1; clear hq1
              have HQO := Lib.hid hqj; clear hqj
              have HSR := Lib.hid hsr; clear hsr
              have HNR := Lib.hid hnr; clear hnr honr0
              have hnlt := lt_of_block HNR.out
              have hslt := lt_of_block HSR.out
              rw [hb93] at HTK
              clear hr2r
              have HB93 := Lib.hid hb93; clear hb93
              cases b93 with
              | false =>
                simp only [Bool.false_eq_true, if_false] at HTK
                have HT2 := Lib.hid HTK; clear HTK
                go_wp2_with (go_at_call 62; refine HT2.out.mono ?_; rintro e w5 ⟨rfl, h5, o5⟩)
                go_step3
                refine ⟨rfl, ⟨⟨_, _, _, _, _, _, _, _, _, _, _, _, _, _, _, _, _, _, _, _, _, _, _, _, _, _, _, _, _, _, _, _, _, _, _, _, _, _, _, _, _, _, _, _, _, _, _, _, _, _, _, _, rfl⟩, q1, r2, f2, h5, (o5.block _ hslt (by omega)).trans HSR.out, (o5.block _ hnlt (by omega)).trans HNR.out, HX.out.then o5, HQO.out, hf2, by omega, ?_⟩, ?_⟩
                · have h := HCL2.out
                  rw [HB93.out, HQ1.out] at h
                  exact h
                · rw [leftOf_read h5, HLEFT.out]; exact hr2l
              | true =>
                simp only [if_true] at HTK
                have HT2 := Lib.hid HTK; clear HTK
                have ho2 : some (q1, r2.tail) = o := by
                  have h := HCL2.out
                  rw [HB93.out, HQ1.out] at h
                  exact h
                subst ho2
                cases nt with
                | false =>
                  have hEQ := eq4_none q1
                  cases hno : q1.isNone
                  · have HNO := Lib.hid hno
                    rw [hno] at hEQ
                    clear hno
                    go_wp2_with (first
                      | (go_at_call 62; refine HT2.out.mono ?_; rintro e w5 ⟨rfl, h5, o5⟩; have hs5 := (o5.block _ hslt (by omega)).trans HSR.out; have hn5 := (o5.block _ hnlt (by omega)).trans HNR.out; have HS5 := Lib.hid hs5; have HN5 := Lib.hid hn5; clear hs5 hn5)
                      | (go_at_call 49; refine (must_yes rfl _).mono ?_; rintro e w6 ⟨rfl, rfl⟩)
                      | refine wpList_load_row rfl 23 (.tmp 3) rfl (nb + 1) rfl 23 (Q4.cells q1) (0, 0) _ HS5.out Tryd.underlying23 rfl info4 ?_
                      | refine wpList_store_row rfl 23 (.tmp 2) (.tmp 55) rfl nb (Q4.cells q1) rfl rfl 23 _ HN5.out info4 rfl (q4_one _) ?_)
                    refine bodyPost_ret (results_cell_row rfl _ _ nb 23 (Q4.cells q1) (0, 0) _ rfl (setRow_heap _ _ _ _ _ _ HN5.out) Tryd.underlying23 rfl info4) rfl ?_
                    refine ⟨(HX.out.then o5).setRow (q := nb) (.inr (by omega)) _, .inr ⟨q1, r2.tail, by rw [HR.out]; simp [classEnd, HNO.out], rfl, ?_⟩⟩
                    unfold ReadAt at h5 ⊢
                    rw [setRow_other _ _ _ _ (by omega)]
                    exact h5
                  · have HNO := Lib.hid hno
                    rw [hno] at hEQ
                    clear hno
                    go_wp2_with (first
                      | (go_at_call 62; refine HT2.out.mono ?_; rintro e w5 ⟨rfl, h5, o5⟩; have hs5 := (o5.block _ hslt (by omega)).trans HSR.out; have hn5 := (o5.block _ hnlt (by omega)).trans HNR.out; have HS5 := Lib.hid hs5; have HN5 := Lib.hid hn5; clear hs5 hn5)
                      | (go_at_call 49; refine (must_no rfl _).mono ?_; rintro e w6 ⟨rfl, rfl⟩)
                      | refine wpList_load_row rfl 23 (.tmp 3) rfl (nb + 1) rfl 23 (Q4.cells q1) (0, 0) _ HS5.out Tryd.underlying23 rfl info4 ?_)
                    exact ⟨rfl, (HX.out.then o5), .inl ⟨by rw [HR.out]; simp [classEnd, HNO.out], rfl⟩⟩
                | true =>
                  have hsm : same4 q1.not.a q1.not.b q1.not.c q1.not.d 0 0 0 0 = q1.not.isNone := rfl
                  have x0 : Go.bits .xor .u64 (if IntKind.u64.signed = true then -1 else IntKind.u64.max) q1.a = q1.not.a := xor1 HQO.out.1
                  have x1 : Go.bits .xor .u64 (if IntKind.u64.signed = true then -1 else IntKind.u64.max) q1.b = q1.not.b := xor1 HQO.out.2.1
                  have x2 : Go.bits .xor .u64 (if IntKind.u64.signed = true then -1 else IntKind.u64.max) q1.c = q1.not.c := xor1 HQO.out.2.2.1
                  have x3 : Go.bits .xor .u64 (if IntKind.u64.signed = true then -1 else IntKind.u64.max) q1.d = q1.not.d := xor1 HQO.out.2.2.2
                  cases hno : q1.not.isNone
                  · have HNO := Lib.hid hno
                    rw [hno] at hsm
                    have HSM := Lib.hid hsm; clear hsm
                    clear hno
                    go_wp2_with (first
                      | (go_at_call 62; refine HT2.out.mono ?_; rintro e w5 ⟨rfl, h5, o5⟩; have hs5 := (o5.block _ hslt (by omega)).trans HSR.out; have hn5 := (o5.block _ hnlt (by omega)).trans HNR.out; have HS5 := Lib.hid hs5; have HN5 := Lib.hid hn5; have s0 : w5.cell? ⟨nb + 1, 0, none⟩ = some (.int .u64 q1.a) := cell_of_block hs5 0; have t0 := free_of_block hs5 0; have s1 : w5.cell? ⟨nb + 1, 1, none⟩ = some (.int .u64 q1.b) := cell_of_block hs5 1; have t1 := free_of_block hs5 1; have s2 : w5.cell? ⟨nb + 1, 2, none⟩ = some (.int .u64 q1.c) := cell_of_block hs5 2; have t2 := free_of_block hs5 2; have s3 : w5.cell? ⟨nb + 1, 3, none⟩ = some (.int .u64 q1.d) := cell_of_block hs5 3; have t3 := free_of_block hs5 3; clear hs5 hn5)
                      | (go_at_call 49; refine (must_yes (by first | rfl | simp [HSM.out]) _).mono ?_; rintro e w6 ⟨rfl, rfl⟩)
                      | (refine wpList_store_row rfl 23 (.tmp 2) (.tmp 55) ?_ nb (Q4.cells q1.not) ?_ ?_ 23 (Q4.cells Q4.none) ?_ info4 rfl (q4_one _) ?_; (with_reducible rfl); rfl; rfl; exact set4_other HN5.out (by omega)))
                    refine bodyPost_ret (results_cell_row rfl _ _ nb 23 (Q4.cells q1.not) (0, 0) _ rfl (setRow_heap _ _ _ _ _ _ (set4_other HN5.out (by omega))) Tryd.underlying23 rfl info4) rfl ?_
                    refine ⟨(only_set4 (b := nb + 1) (HX.out.then o5) (by omega)).setRow (q := nb) (.inr (by omega)) _, .inr ⟨q1.not, r2.tail, by rw [HR.out]; simp [classEnd, HNO.out], rfl, ?_⟩⟩
                    unfold ReadAt at h5 ⊢
                    rw [setRow_other _ _ _ _ (by omega)]
                    exact set4_other h5 (by omega)
                  · have HNO := Lib.hid hno
                    rw [hno] at hsm
                    have HSM := Lib.hid hsm; clear hsm
                    clear hno
                    go_wp2_with (first
                      | (go_at_call 62; refine HT2.out.mono ?_; rintro e w5 ⟨rfl, h5, o5⟩; have hs5 := (o5.block _ hslt (by omega)).trans HSR.out; have hn5 := (o5.block _ hnlt (by omega)).trans HNR.out; have HS5 := Lib.hid hs5; have HN5 := Lib.hid hn5; have s0 : w5.cell? ⟨nb + 1, 0, none⟩ = some (.int .u64 q1.a) := cell_of_block hs5 0; have t0 := free_of_block hs5 0; have s1 : w5.cell? ⟨nb + 1, 1, none⟩ = some (.int .u64 q1.b) := cell_of_block hs5 1; have t1 := free_of_block hs5 1; have s2 : w5.cell? ⟨nb + 1, 2, none⟩ = some (.int .u64 q1.c) := cell_of_block hs5 2; have t2 := free_of_block hs5 2; have s3 : w5.cell? ⟨nb + 1, 3, none⟩ = some (.int .u64 q1.d) := cell_of_block hs5 3; have t3 := free_of_block hs5 3; clear hs5 hn5)
                      | (go_at_call 49; refine (must_no (by first | rfl | simp [HSM.out]) _).mono ?_; rintro e w6 ⟨rfl, rfl⟩))
                    exact ⟨rfl, (only_set4 (b := nb + 1) (HX.out.then o5) (by omega)), .inl ⟨by rw [HR.out]; simp [classEnd, HNO.out], rfl⟩⟩
            · have hle : ((a + j : Nat) : Int) ≤ b := by omega
              obtain ⟨x, hx⟩ : ∃ x, a + j = x := ⟨_, rfl⟩
              rw [hx] at hle ⊢
              have hx256 : x < 256 := by omega
              have s0 : wr.cell? ⟨nb + 1, 0, none⟩ = some (.int .u64 q1.a) := cell_of_block hsr 0
              have s1 : wr.cell? ⟨nb + 1, 1, none⟩ = some (.int .u64 q1.b) := cell_of_block hsr 1
              have s2 : wr.cell? ⟨nb + 1, 2, none⟩ = some (.int .u64 q1.c) := cell_of_block hsr 2
              have s3 : wr.cell? ⟨nb + 1, 3, none⟩ = some (.int .u64 q1.d) := cell_of_block hsr 3
              have fr0 := free_of_block hsr 0
              have fr1 := free_of_block hsr 1
              have fr2 := free_of_block hsr 2
              have fr3 := free_of_block hsr 3
              have HSR := Lib.hid hsr; clear hsr
              go_wp2_with fail
              have hw4 : x < 64 ∨ (64 ≤ x ∧ x < 128) ∨ (128 ≤ x ∧ x < 192) ∨ 192 ≤ x := by omega
              have h63 := and63 x hx256
              obtain ⟨k, hk⟩ : ∃ k, x % 64 = k := ⟨_, rfl⟩
              have hk64 : k < 64 := by omega
              rw [hk] at h63
              rcases hw4 with h4 | h4 | h4 | h4
              · have hd : (x : Int) / 64 = 0 := by omega
                have hob := or_bit' q1.a k hqj.1 hk64
                go_region
                go_wp2_with fail
                refine ⟨⟨j + 1, by omega, by rw [← hx]; simp; omega, ?_, (honr.setCell (p := ⟨nb + 1, 0, none⟩) (.inl rfl) _).drew⟩, by simp only [intOf]; omega⟩
                show (wr.setCell _ _).heap[nb + 1]? = _
                rw [setCell_block HSR.out, withAll_snoc, hq1, hx]
                simp only [Q4.with, Q4.cells]
                rw [if_pos (by omega)]
                rw [show x = k by omega]
                rfl
              · have hd : (x : Int) / 64 = 1 := by omega
                have hob := or_bit' q1.b k hqj.2.1 hk64
                go_region
                go_wp2_with fail
                refine ⟨⟨j + 1, by omega, by rw [← hx]; simp; omega, ?_, (honr.setCell (p := ⟨nb + 1, 1, none⟩) (.inl rfl) _).drew⟩, by simp only [intOf]; omega⟩
                show (wr.setCell _ _).heap[nb + 1]? = _
                rw [setCell_block HSR.out, withAll_snoc, hq1, hx]
                simp only [Q4.with, Q4.cells]
                rw [if_neg (by omega), if_pos (by omega)]
                rw [show x - 64 = k by omega]
                rfl
              · have hd : (x : Int) / 64 = 2 := by omega
                have hob := or_bit' q1.c k hqj.2.2.1 hk64
                go_region
                go_wp2_with fail
                refine ⟨⟨j + 1, by omega, by rw [← hx]; simp; omega, ?_, (honr.setCell (p := ⟨nb + 1, 2, none⟩) (.inl rfl) _).drew⟩, by simp only [intOf]; omega⟩
                show (wr.setCell _ _).heap[nb + 1]? = _
                rw [setCell_block HSR.out, withAll_snoc, hq1, hx]
                simp only [Q4.with, Q4.cells]
                rw [if_neg (by omega), if_neg (by omega), if_pos (by omega)]
                rw [show x - 128 = k by omega]
                rfl
              · have hd : (x : Int) / 64 = 3 := by omega
                have hob := or_bit' q1.d k hqj.2.2.2 hk64
                go_region
                go_wp2_with fail
                refine ⟨⟨j + 1, by omega, by rw [← hx]; simp; omega, ?_, (honr.setCell (p := ⟨nb + 1, 3, none⟩) (.inl rfl) _).drew⟩, by simp only [intOf]; omega⟩
                show (wr.setCell _ _).heap[nb + 1]? = _
                rw [setCell_block HSR.out, withAll_snoc, hq1, hx]
                simp only [Q4.with, Q4.cells]
                rw [if_neg (by omega), if_neg (by omega), if_neg (by omega)]
                rw [show x - 192 = k by omega]
                rfl
        · have habi : ¬ (a : Int) ≤ b := by omega
          have HO1 := Lib.hid ((loop_none (f := f') (HC1.out.trans (if_neg hab))).symm.trans HCL.out)
          go_wp2_with (go_at_call 49; refine (must_no rfl _).mono ?_; rintro e w4 ⟨rfl, rfl⟩)
          exact ⟨rfl, HON.out.then HONC.out, .inl ⟨by rw [HR.out, ← HO1.out]; rfl, rfl⟩⟩
  · intro hX
    have HX := Lib.hid hX; clear hX
    go_wp2_with (go_at_call 62; refine (HT.out _ (read_old2 HW.out _ _)).mono ?_; rintro e w1 ⟨rfl, h1, o1⟩)
    go_step3
    rename (∀ (a : Act) (w : World), _ → _) => hk
    refine hk _ _ (HX.out _ _ ⟨⟨_, _, _, _, _, _, _, _, _, _, _, _, _, _, _, _, _, _, _, _, _, _, _, _, _, _, _, _, _, _, _, _, _, _, _, _, _, _, _, _, _, _, _, _, _, _, _, _, _, _, _, _, rfl⟩, Q4.none, l1, f, h1, ?_, ?_, ?_, Q4.none_ok, hl1f.1, hl1f.2, HO.out⟩)
    · rw [o1.block (nb + 1) (by simp; omega) (by omega)]
      rw [← hnb]
      exact alloc_block' _ _ _ (by simp)
    · rw [o1.block nb (by simp; omega) (by omega)]
      rw [← hnb]
      exact alloc_old (alloc_block _ _) _
    · exact ((Only.refl _ w).alloc _ |>.alloc _).trans (o1.mono fun _ _ h => .inl h)
end Go.Proofs.YtaelkjffidjcjaaDoor

