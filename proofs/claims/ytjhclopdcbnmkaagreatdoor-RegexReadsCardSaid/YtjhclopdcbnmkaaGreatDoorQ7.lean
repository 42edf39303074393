/- The walk of the document's reader's set. -/
import Derived.Test.YtjhclopdcbnmkaaGreatDoorQ6
set_option linter.unusedSimpArgs false
set_option linter.unusedVariables false
namespace Go.Proofs.YtjhclopdcbnmkaaGreatDoor
open Go.RowKit PX

theorem rest_tail (S : ByteArray) (i : Nat) : rest S (i + 1) = (rest S i).tail := by
  rw [rest_add]; simp
theorem rest_starts {S : ByteArray} {i : Nat} {c : UInt8} (h : starts c (rest S i) = true) : i < S.size := by
  cases hr : rest S i with
  | nil => rw [hr] at h; cases h
  | cons d r => exact (rest_cons hr).1
/-- What the loop of set has come to at its head. -/
def HeadO (O : Option (Q4 × List UInt8)) (S : ByteArray) (first bad : Bool) (q : Q4) (j f : Nat) : Prop :=
  (bad = true ∧ first = false ∧ O = none) ∨ (bad = false ∧ first = true ∧ O = classLoop f q (rest S j)) ∨
    (bad = false ∧ first = false ∧ O = if starts 93 (rest S j) then some (q, (rest S j).tail) else classLoop f q (rest S j))
/-- What has been read of one more of a set. -/
def OneO (S : ByteArray) (q : Q4) (j a b ja : Nat) (bad : Bool) : Prop :=
  (bad = true ∧ classOne q (rest S j) = none) ∨ (bad = false ∧ j < ja ∧ classOne q (rest S j) = if a ≤ b then some (q.withAll a (b + 1 - a), rest S ja) else none)
def badOf (rb : Nat) (w : World) : Nat := match w.cell? ⟨rb, 2, none⟩ with | some (.bool true) => 0 | _ => 1
theorem badOf_eq {w : World} {rb : Nat} {S : ByteArray} {i : Nat} {b : Bool} (h : RefAt w rb S i b) : badOf rb w = if b then 0 else 1 := by
  unfold badOf
  rw [h.cells.2.2.1]; cases b <;> rfl

theorem refAt_setRow {w : World} {rb : Nat} {S : ByteArray} {i : Nat} {b : Bool} (h : RefAt w rb S i b) (q : Nat) (cs : Array Value) (hq : rb ≠ q) : RefAt (w.setRow q cs) rb S i b := (setRow_other _ _ _ _ hq).trans h
theorem OneO.single {S : ByteArray} {q : Q4} {j a ja : Nat} (h1 : one butClass (rest S j) = some (a, rest S ja)) (h45 : starts 45 (rest S ja) = false) (hjj : j < ja) : OneO S q j a a ja false := by
  refine .inr ⟨rfl, hjj, ?_⟩
  unfold classOne
  rw [h1]
  simp only [h45, Nat.le_refl, if_true, Bool.false_eq_true, if_false]
  rw [show a + 1 - a = 1 by omega]
theorem OneO.two {S : ByteArray} {q : Q4} {j a ja b jb : Nat} (h1 : one butClass (rest S j) = some (a, rest S ja)) (h45 : starts 45 (rest S ja) = true) (h2 : one butClass (rest S (ja + 1)) = some (b, rest S jb)) (hjj : j < jb) : OneO S q j a b jb false := by
  refine .inr ⟨rfl, hjj, ?_⟩
  unfold classOne
  rw [rest_tail] at h2
  rw [h1]
  simp only [h45, if_true, h2]
theorem OneO.half {S : ByteArray} {q : Q4} {j a ja b jb : Nat} (h1 : one butClass (rest S j) = some (a, rest S ja)) (h45 : starts 45 (rest S ja) = true) (h2 : one butClass (rest S (ja + 1)) = none) : OneO S q j a b jb true := by
  refine .inl ⟨rfl, ?_⟩
  unfold classOne
  rw [rest_tail] at h2
  rw [h1]
  simp only [h45, if_true, h2]
theorem OneO.wrong {S : ByteArray} {q : Q4} {j a ja : Nat} (h1 : one butClass (rest S j) = none) : OneO S q j a a ja true := by
  refine .inl ⟨rfl, ?_⟩
  unfold classOne
  rw [h1]
/-- What reading a byte has come to. -/
def ByteO (o : Option (Nat × List UInt8)) (S : ByteArray) (a ja : Nat) (ba : Bool) : Prop := (ba = false ∧ o = some (a, rest S ja)) ∨ (ba = true ∧ o = none)
theorem says_byte {rb : Nat} {S : ByteArray} {i : Nat} {w : World} {but : List UInt8} {e : Ending} {w' : World} (h : Says rb S i w (one but (rest S i)) (fun n => .int .i64 (n : Nat)) (fun v => v = .int .i64 0) e w') :
    Only (fun k => k = rb) w w' ∧ ∃ (a ja : Nat) (ba : Bool), e = .returned (.int .i64 a) ∧ a < 256 ∧ i ≤ ja ∧ ja ≤ S.size ∧ RefAt w' rb S ja ba ∧ ByteO (one but (rest S i)) S a ja ba ∧ (ba = false → i < ja) := by
  obtain ⟨ho, v, j, he, hij, hj, ⟨x, h1, rfl, h2⟩ | ⟨h1, rfl, h2⟩⟩ := h
  · have hl := one_lt h1
    have l1 := rest_length S i
    have l2 := rest_length S j
    exact ⟨ho, x, j, false, he, hl.2, hij, hj, h2, .inl ⟨rfl, h1⟩, fun _ => by omega⟩
  · exact ⟨ho, 0, j, true, he, by omega, hij, hj, h2, .inr ⟨rfl, h1⟩, fun h => by cases h⟩
/-- Whether a row of bytes is told. -/
def DashO (S : ByteArray) (ja jy : Nat) (ba p : Bool) : Prop := (p = true ∧ ba = false ∧ starts 45 (rest S ja) = true ∧ jy = ja + 1) ∨ (p = false ∧ jy = ja ∧ (ba = true ∨ starts 45 (rest S ja) = false))
theorem head_next {O : Option (Q4 × List UInt8)} {S : ByteArray} {q : Q4} {j a b jy f : Nat} {by' bz : Bool} (hcl : classLoop f q (rest S j) = O) (hlf : (rest S j).length ≤ f) (hone : OneO S q j a b jy by') (hbz : bz = (by' || decide (b < a))) :
    ∃ f2, (rest S jy).length ≤ f2 ∧ HeadO O S false bz (q.withAll a (b + 1 - a)) jy f2 := by
  have hnone : ∀ (h : classOne q (rest S j) = none), bz = true → ∃ f2, (rest S jy).length ≤ f2 ∧ HeadO O S false bz (q.withAll a (b + 1 - a)) jy f2 := fun h hb =>
    ⟨_, Nat.le_refl _, .inl ⟨hb, rfl, by rw [← hcl]; exact loop_none h⟩⟩
  rcases hone with ⟨rfl, h⟩ | ⟨rfl, -, h⟩
  · exact hnone h (by simpa using hbz)
  · by_cases hab : a ≤ b
    · rw [if_pos hab] at h
      obtain ⟨f2, hf, hf2, he⟩ := loop_some h hlf
      refine ⟨f2, hf2, .inr (.inr ⟨?_, rfl, ?_⟩)⟩
      · rw [hbz]; simp; omega
      · rw [← hcl, he]
    · rw [if_neg hab] at h
      exact hnone h (by rw [hbz]; simp; omega)
/-- The first k words of a set turned. -/
def notTo (q : Q4) (k : Nat) : Q4 := ⟨if 0 < k then q.not.a else q.a, if 1 < k then q.not.b else q.b, if 2 < k then q.not.c else q.c, if 3 < k then q.not.d else q.d⟩
theorem q_not_words {q : Q4} (h : q.Ok) : (Go.bits .xor .u64 (if IntKind.u64.signed = true then -1 else IntKind.u64.max) q.a = q.not.a) ∧ (Go.bits .xor .u64 (if IntKind.u64.signed = true then -1 else IntKind.u64.max) q.b = q.not.b) ∧ (Go.bits .xor .u64 (if IntKind.u64.signed = true then -1 else IntKind.u64.max) q.c = q.not.c) ∧ (Go.bits .xor .u64 (if IntKind.u64.signed = true then -1 else IntKind.u64.max) q.d = q.not.d) :=
  ⟨xor1 h.1, xor1 h.2.1, xor1 h.2.2.1, xor1 h.2.2.2⟩
theorem notTo0 (q : Q4) : notTo q 0 = q := rfl
theorem notTo4 (q : Q4) : notTo q 4 = q.not := rfl
/-- What the loop of set has come to behind it. -/
def FinO (O : Option (Q4 × List UInt8)) (S : ByteArray) (bx : Bool) (q : Q4) (je : Nat) : Prop := (bx = true ∧ O = none) ∨ (bx = false ∧ O = some (q, rest S je))
/-- What set tells at its end. -/
theorem set_says {rb : Nat} {S : ByteArray} {i je : Nat} {w w' : World} {O : Option (Q4 × List UInt8)} {nt bx : Bool} {q q1 : Q4} {e : Ending} {R : Option (Q4 × List UInt8)} (hR : R = classEnd nt O) (ho : Only (fun k => k = rb) w w') (hij : i ≤ je) (hjs : je ≤ S.size)
    (hfin : FinO O S bx q je) (hq1 : (if nt then q.not else q) = q1) (hok : q1.Ok) (he : e = .returned (.agg (cellsA (setA q1)))) (hr : RefAt w' rb S je (bx || q1.isNone)) :
    Says rb S i w R (fun q => .agg (cellsA (setA q))) (fun v => ∃ q : Q4, q.Ok ∧ v = .agg (cellsA (setA q))) e w' := by
  refine ⟨ho, _, je, he, hij, hjs, ?_⟩
  rcases hfin with ⟨rfl, hO⟩ | ⟨rfl, hO⟩
  · right
    refine ⟨by rw [hR, hO]; rfl, ⟨q1, hok, rfl⟩, ?_⟩
    simpa using hr
  · subst hO
    simp only [classEnd] at hR
    rw [hq1] at hR
    cases hn : q1.isNone with
    | true =>
      rw [hn] at hr hR
      exact .inr ⟨by rw [hR]; rfl, ⟨q1, hok, rfl⟩, hr⟩
    | false =>
      rw [hn] at hr hR
      exact .inl ⟨q1, by rw [hR]; rfl, rfl, hr⟩

set_option maxRecDepth 100000 in
set_option maxHeartbeats 4000000 in
theorem rset_any (w : World) (rb : Nat) (S : ByteArray) (i f0 : Nat) (h : RefAt w rb S i false) (hs : S.size ≤ 1000) (hi : i ≤ S.size) (hf : (rest S i).length ≤ f0) :
    Calls Tryz.prog 96 #[.pointer (some ⟨rb, 0, none⟩)] w fun e w' => Says rb S i w (classR f0 (rest S i)) (fun q => .agg (cellsA (setA q))) (fun v => ∃ q : Q4, q.Ok ∧ v = .agg (cellsA (setA q))) e w' := by
  obtain ⟨nt, hnt⟩ : ∃ nt, starts 94 (rest S i) = nt := ⟨_, rfl⟩
  have hR := classR_eq f0 (rest S i)
  rw [hnt] at hR
  obtain ⟨i1, hi1⟩ : ∃ i1, (if nt then i + 1 else i) = i1 := ⟨_, rfl⟩
  have hi1b : i ≤ i1 ∧ i1 ≤ S.size := by
    rw [← hi1]
    cases nt
    · exact ⟨by simp, by simpa using hi⟩
    · have := rest_starts hnt; simp; omega
  have hri : (if nt then (rest S i).tail else rest S i) = rest S i1 := by
    rw [← hi1]; cases nt
    · rfl
    · exact (rest_tail S i).symm
  obtain ⟨O, hO⟩ : ∃ O, classLoop f0 Q4.none (rest S i1) = O := ⟨_, rfl⟩
  rw [hri, hO] at hR
  have hf1 : (rest S i1).length ≤ f0 := by
    have := rest_length S i; have := rest_length S i1; omega
  have htake := fun w1 (h1 : RefAt w1 rb S i false) => at_any w1 rb S i false 94 94 h1 hs rfl
  rw [hnt, hi1] at htake
  have HT := Lib.hid htake
  have HR := Lib.hid hR
  have HO := Lib.hid hO
  have HF1 := Lib.hid hf1
  obtain ⟨nb, hnb⟩ : ∃ nb, w.heap.size = nb := ⟨_, rfl⟩
  have hlt := lt_of_block h
  rw [hnb] at hlt
  have h0 : RefAt (w.alloc (.cells zeroRx 26)) rb S i false := alloc_old h _
  have H0 := Lib.hid h0
  obtain ⟨hi1a, hi1c⟩ := hi1b
  have HSZ := Lib.hid hnb
  clear htake hR hO hf hf1 hi1 hri hnt h h0
  go_enter Tryz.func96, Tryz.ntmps96
  go_wp2_with (go_at_call 56; refine (HT.out _ H0.out).mono ?_; rintro e w1 ⟨rfl, h1, o1⟩)
  have hn1 : w1.heap[nb]? = some (.cells zeroRx 26 (0, 0)) := (o1.block nb (by simp; have := HSZ.out; omega) (by omega)).trans (by rw [← HSZ.out]; exact alloc_block w _)
  have ho0 : Only (fun k => k = rb) w w1 := ((Only.refl _ w).alloc _).then o1
  have hs1 := ho0.size
  rw [HSZ.out] at hs1
  have hnb1 := lt_of_block hn1
  obtain ⟨sb, hsb⟩ : ∃ sb, w1.heap.size = sb := ⟨_, rfl⟩
  rw [hsb] at hnb1
  have hsb1 : (w1.alloc (.cells (Q4.cells Q4.none) 23)).heap[sb]? = some (.cells (Q4.cells Q4.none) 23 (0, 0)) := alloc_block' _ _ _ hsb
  have hn2 : (w1.alloc (.cells (Q4.cells Q4.none) 23)).heap[nb]? = some (.cells zeroRx 26 (0, 0)) := alloc_old hn1 _
  have hr2 : RefAt (w1.alloc (.cells (Q4.cells Q4.none) 23)) rb S i1 false := alloc_old h1 _
  have ho2 : Only (fun k => k = rb) w (w1.alloc (.cells (Q4.cells Q4.none) 23)) := ho0.alloc _
  have HSTART := Lib.hid (show _ ∧ _ ∧ _ ∧ _ from ⟨hsb1, hn2, hr2, ho2⟩)
  have HSB := Lib.hid hsb
  clear hn1 ho0 hs1 hsb hsb1 hn2 hr2 ho2 o1 h1 HT H0
  rw [HSB.out]
  go_loopw [5] (fun v wr => ∃ (first bad : Bool) (q : Q4) (j f : Nat), v = .bool first ∧ RefAt wr rb S j bad ∧ wr.heap[sb]? = some (.cells (Q4.cells q) 23 (0, 0)) ∧ wr.heap[nb]? = some (.cells zeroRx 26 (0, 0)) ∧ Only (fun k => k = rb) w wr ∧
      q.Ok ∧ i ≤ j ∧ j ≤ S.size ∧ (rest S j).length ≤ f ∧ HeadO O S first bad q j f) (fun _ wr => 2 * (S.size - posOf rb wr) + badOf rb wr)
  case atStart =>
    obtain ⟨a1, a2, a3, a4⟩ := HSTART.out
    refine ⟨true, false, Q4.none, i1, f0, rfl, ?_, ?_, ?_, ?_, Q4.none_ok, hi1a, hi1c, HF1.out, .inr (.inl ⟨rfl, rfl, HO.out.symm⟩)⟩
    · exact a3
    · exact a1
    · exact a2
    · exact a4
  case round =>
    obtain ⟨first, bad, q, j, f, rfl, hr, hsc, hnc, hon, hq, hij, hjs, hlf, hhead⟩ := hrel
    clear HSTART HO HF1
    obtain ⟨c0, c1, c2, z1, z2⟩ := hr.cells
    have HRR := Lib.hid hr
    have HS := Lib.hid hsc
    have HN := Lib.hid hnc
    have HON := Lib.hid hon
    have HQ := Lib.hid hq
    have HH := Lib.hid hhead
    clear hr hsc hnc hon hq hhead
    have hsl := lt_of_block HS.out
    have hnl := lt_of_block HN.out
    have hcase : (bad = true ∧ first = false) ∨ (bad = false ∧ first = false ∧ starts 93 (rest S j) = true) ∨ (bad = false ∧ (first = true ∨ (first = false ∧ starts 93 (rest S j) = false))) := by
      cases bad <;> cases first <;> cases starts 93 (rest S j) <;> simp
      all_goals
        rcases HH.out with ⟨h1, h2, -⟩ | ⟨h1, h2, -⟩ | ⟨h1, h2, -⟩ <;> cases h1 <;> cases h2
    rcases hcase with ⟨rfl, rfl⟩ | ⟨rfl, rfl, h93⟩ | ⟨rfl, hcd⟩
    · have hfin : FinO O S true q j := by
        rcases HH.out with ⟨-, -, h3⟩ | ⟨h1, -, -⟩ | ⟨h1, -, -⟩
        · exact .inl ⟨rfl, h3⟩
        · cases h1
        · cases h1
      have HFIN := Lib.hid hfin; clear hfin
      obtain ⟨wx, rfl⟩ : ∃ wx : World, wx = wr := ⟨_, rfl⟩
      have HRX := HRR
      have HSW := HS
      have HNW := HN
      have HOW := HON
      have hsl2 := hsl
      have hnl2 := hnl
      have hje1 := hij
      have hje2 := hjs
      have s0 : wx.cell? ⟨sb, 0, none⟩ = some (.int .u64 q.a) := cell_of_block HSW.out 0
      have s1 : wx.cell? ⟨sb, 1, none⟩ = some (.int .u64 q.b) := cell_of_block HSW.out 1
      have s2 : wx.cell? ⟨sb, 2, none⟩ = some (.int .u64 q.c) := cell_of_block HSW.out 2
      have s3 : wx.cell? ⟨sb, 3, none⟩ = some (.int .u64 q.d) := cell_of_block HSW.out 3
      cases nt with
      | false =>
        cases hno : same4 q.a q.b q.c q.d 0 0 0 0
        all_goals
          have HNO := Lib.hid (show q.isNone = _ from hno)
          go_wp2_with (first | fail | (refine wpList_store_row rfl 26 (.tmp 2) (.tmp 71) ?_ nb (cellsA (setA q)) ?_ ?_ 26 zeroRx ?_ (info_rxA _) (by rw [cellsA_size]; rfl) (cellsA_one _) ?_; (with_reducible rfl); rfl; rfl; first | exact HNW.out | exact (Below.heap_setCell _ _ _ _ (by show nb ≠ rb; omega)).trans HNW.out) | fail)
          refine bodyPost_ret (results_cell_row rfl _ _ nb 26 (cellsA (setA q)) (0, 0) _ rfl (setRow_heap _ _ _ _ _ _ (by first | exact HNW.out | exact (Below.heap_setCell _ _ _ _ (by show nb ≠ rb; omega)).trans HNW.out)) Tryz.underlying26 rfl (info_rxA _)) rfl ?_
          refine set_says HR.out ?_ hje1 hje2 HFIN.out rfl HQ.out rfl ?_
          · first
              | exact (HOW.out.setRow (q := nb) (.inr (by have := HSZ.out; omega)) _)
              | exact ((HOW.out.setCell (p := ⟨rb, 2, none⟩) (.inl rfl) _).setRow (q := nb) (.inr (by have := HSZ.out; omega)) _)
          · simp only [Bool.false_eq_true, if_false]
            rw [HNO.out]
            first
              | exact refAt_setRow HRX.out _ _ (by omega)
              | exact refAt_setRow HRX.out.wrong _ _ (by omega)
      | true =>
        go_wp2_with (first | fail | fail)
        clear s0 s1 s2 s3
        go_loopw [8] (fun v wy => ∃ k : Nat, k ≤ 4 ∧ v = .int .i64 k ∧ wy.heap[sb]? = some (.cells (Q4.cells (notTo q k)) 23 (0, 0)) ∧ Only (fun k => k = sb) wx wy) (fun v _ => 4 - (intOf v).toNat)
        case atStart => exact ⟨0, by omega, rfl, HSW.out, Only.refl _ _⟩
        case round =>
          obtain ⟨k, hk, rfl, hsx, hox⟩ := hrel
          have HSX := Lib.hid hsx
          have HOX := Lib.hid hox
          clear hsx hox
          clear c0 c1 c2 z1 z2
          obtain ⟨x0, x1, x2, x3⟩ := q_not_words HQ.out
          by_cases hk4 : k = 4
          · subst hk4
            have hr4 : RefAt wr rb S j true := (HOX.out.block rb (by omega) (by omega)).trans HRX.out
            have hn4 : wr.heap[nb]? = some (.cells zeroRx 26 (0, 0)) := (HOX.out.block nb (by omega) (by omega)).trans HNW.out
            have ho4 : Only (fun k => k = rb) w wr := HOW.out.trans (HOX.out.mono fun k _ h => .inr (by have := HSZ.out; omega))
            have s0 : wr.cell? ⟨sb, 0, none⟩ = some (.int .u64 q.not.a) := cell_of_block HSX.out 0
            have s1 : wr.cell? ⟨sb, 1, none⟩ = some (.int .u64 q.not.b) := cell_of_block HSX.out 1
            have s2 : wr.cell? ⟨sb, 2, none⟩ = some (.int .u64 q.not.c) := cell_of_block HSX.out 2
            have s3 : wr.cell? ⟨sb, 3, none⟩ = some (.int .u64 q.not.d) := cell_of_block HSX.out 3
            obtain ⟨c0, c1, c2, z1, z2⟩ := hr4.cells
            have HR4 := Lib.hid hr4
            have HN4 := Lib.hid hn4
            have HO4 := Lib.hid ho4
            have hqn := Q4.not_ok HQ.out
            obtain ⟨qn, hqe⟩ : ∃ qn, q.not = qn := ⟨_, rfl⟩
            rw [hqe] at s0 s1 s2 s3 hqn
            have HQE := Lib.hid hqe
            have HQN := Lib.hid hqn
            clear hr4 hn4 ho4 hqe hqn x0 x1 x2 x3
            cases hno : same4 qn.a qn.b qn.c qn.d 0 0 0 0
            all_goals
              have HNO := Lib.hid (show qn.isNone = _ from hno)
              go_wp2_with (first | fail | (refine wpList_store_row rfl 26 (.tmp 2) (.tmp 71) ?_ nb (cellsA (setA qn)) ?_ ?_ 26 zeroRx ?_ (info_rxA _) (by rw [cellsA_size]; rfl) (cellsA_one _) ?_; (with_reducible rfl); rfl; rfl; first | exact HN4.out | exact (Below.heap_setCell _ _ _ _ (by show nb ≠ rb; omega)).trans HN4.out) | fail)
              refine bodyPost_ret (results_cell_row rfl _ _ nb 26 (cellsA (setA qn)) (0, 0) _ rfl (setRow_heap _ _ _ _ _ _ (by first | exact HN4.out | exact (Below.heap_setCell _ _ _ _ (by show nb ≠ rb; omega)).trans HN4.out)) Tryz.underlying26 rfl (info_rxA _)) rfl ?_
              refine set_says HR.out ?_ hje1 hje2 HFIN.out HQE.out HQN.out rfl ?_
              · first
                  | exact (HO4.out.setRow (q := nb) (.inr (by have := HSZ.out; omega)) _)
                  | exact ((HO4.out.setCell (p := ⟨rb, 2, none⟩) (.inl rfl) _).setRow (q := nb) (.inr (by have := HSZ.out; omega)) _)
              · skip
                rw [HNO.out]
                first
                  | exact refAt_setRow HR4.out _ _ (by omega)
                  | exact refAt_setRow HR4.out.wrong _ _ (by omega)
          · have hk3 : k = 0 ∨ k = 1 ∨ k = 2 ∨ k = 3 := by omega
            rcases hk3 with rfl | rfl | rfl | rfl
            · have s0 : wr.cell? ⟨sb, 0, none⟩ = some (.int .u64 q.a) := cell_of_block HSX.out 0
              have t0 := free_of_block HSX.out 0
              go_wp2_with fail
              exact ⟨⟨1, by omega, rfl, (setCell_block HSX.out 0 _).trans rfl, HOX.out.setCell (.inl rfl) _⟩, by decide⟩
            · have s0 : wr.cell? ⟨sb, 1, none⟩ = some (.int .u64 q.b) := cell_of_block HSX.out 1
              have t0 := free_of_block HSX.out 1
              go_wp2_with fail
              exact ⟨⟨2, by omega, rfl, (setCell_block HSX.out 1 _).trans rfl, HOX.out.setCell (.inl rfl) _⟩, by decide⟩
            · have s0 : wr.cell? ⟨sb, 2, none⟩ = some (.int .u64 q.c) := cell_of_block HSX.out 2
              have t0 := free_of_block HSX.out 2
              go_wp2_with fail
              exact ⟨⟨3, by omega, rfl, (setCell_block HSX.out 2 _).trans rfl, HOX.out.setCell (.inl rfl) _⟩, by decide⟩
            · have s0 : wr.cell? ⟨sb, 3, none⟩ = some (.int .u64 q.d) := cell_of_block HSX.out 3
              have t0 := free_of_block HSX.out 3
              go_wp2_with fail
              exact ⟨⟨4, by omega, rfl, (setCell_block HSX.out 3 _).trans rfl, HOX.out.setCell (.inl rfl) _⟩, by decide⟩
    · have hfin : FinO O S false q (j + 1) := by
        rcases HH.out with ⟨h1, -, -⟩ | ⟨-, h1, -⟩ | ⟨-, -, h3⟩
        · cases h1
        · cases h1
        · rw [h93, if_pos rfl, ← rest_tail] at h3; exact .inr ⟨rfl, h3⟩
      have HFIN := Lib.hid hfin; clear hfin
      have hje1 : i ≤ j + 1 := by omega
      have hje2 : j + 1 ≤ S.size := rest_starts h93
      have hat := fun w1 (h1 : RefAt w1 rb S j false) => at_any w1 rb S j false 93 93 h1 hs rfl
      rw [h93] at hat
      have HAT := Lib.hid hat
      clear hat h93
      cases nt with
      | false =>
        cases hno : same4 q.a q.b q.c q.d 0 0 0 0
        all_goals
          have HNO := Lib.hid (show q.isNone = _ from hno)
          go_wp2_with (first | (go_at_call 56; refine (HAT.out _ HRR.out).mono ?_; rintro e wx ⟨rfl, h1, o1⟩; have hsx := (o1.block sb hsl (by omega)).trans HS.out; have hnx := (o1.block nb hnl (by omega)).trans HN.out; have HRX := Lib.hid h1; have HSW := Lib.hid hsx; have HNW := Lib.hid hnx; have HOW := Lib.hid (HON.out.then o1); have hsl2 := lt_of_block hsx; have hnl2 := lt_of_block hnx; obtain ⟨d0, d1, d2, y1, y2⟩ := h1.cells; clear h1 o1 hsx hnx; have s0 : wx.cell? ⟨sb, 0, none⟩ = some (.int .u64 q.a) := cell_of_block HSW.out 0; have s1 : wx.cell? ⟨sb, 1, none⟩ = some (.int .u64 q.b) := cell_of_block HSW.out 1; have s2 : wx.cell? ⟨sb, 2, none⟩ = some (.int .u64 q.c) := cell_of_block HSW.out 2; have s3 : wx.cell? ⟨sb, 3, none⟩ = some (.int .u64 q.d) := cell_of_block HSW.out 3) | (refine wpList_store_row rfl 26 (.tmp 2) (.tmp 71) ?_ nb (cellsA (setA q)) ?_ ?_ 26 zeroRx ?_ (info_rxA _) (by rw [cellsA_size]; rfl) (cellsA_one _) ?_; (with_reducible rfl); rfl; rfl; first | exact HNW.out | exact (Below.heap_setCell _ _ _ _ (by show nb ≠ rb; omega)).trans HNW.out) | fail)
          refine bodyPost_ret (results_cell_row rfl _ _ nb 26 (cellsA (setA q)) (0, 0) _ rfl (setRow_heap _ _ _ _ _ _ (by first | exact HNW.out | exact (Below.heap_setCell _ _ _ _ (by show nb ≠ rb; omega)).trans HNW.out)) Tryz.underlying26 rfl (info_rxA _)) rfl ?_
          refine set_says HR.out ?_ hje1 hje2 HFIN.out rfl HQ.out rfl ?_
          · first
              | exact (HOW.out.setRow (q := nb) (.inr (by have := HSZ.out; omega)) _)
              | exact ((HOW.out.setCell (p := ⟨rb, 2, none⟩) (.inl rfl) _).setRow (q := nb) (.inr (by have := HSZ.out; omega)) _)
          · simp only [Bool.false_eq_true, if_false]
            rw [HNO.out]
            first
              | exact refAt_setRow HRX.out _ _ (by omega)
              | exact refAt_setRow HRX.out.wrong _ _ (by omega)
      | true =>
        go_wp2_with (first | (go_at_call 56; refine (HAT.out _ HRR.out).mono ?_; rintro e wx ⟨rfl, h1, o1⟩; have hsx := (o1.block sb hsl (by omega)).trans HS.out; have hnx := (o1.block nb hnl (by omega)).trans HN.out; have HRX := Lib.hid h1; have HSW := Lib.hid hsx; have HNW := Lib.hid hnx; have HOW := Lib.hid (HON.out.then o1); have hsl2 := lt_of_block hsx; have hnl2 := lt_of_block hnx; obtain ⟨d0, d1, d2, y1, y2⟩ := h1.cells; clear h1 o1 hsx hnx; have s0 : wx.cell? ⟨sb, 0, none⟩ = some (.int .u64 q.a) := cell_of_block HSW.out 0; have s1 : wx.cell? ⟨sb, 1, none⟩ = some (.int .u64 q.b) := cell_of_block HSW.out 1; have s2 : wx.cell? ⟨sb, 2, none⟩ = some (.int .u64 q.c) := cell_of_block HSW.out 2; have s3 : wx.cell? ⟨sb, 3, none⟩ = some (.int .u64 q.d) := cell_of_block HSW.out 3) | fail)
        clear s0 s1 s2 s3
        go_loopw [8] (fun v wy => ∃ k : Nat, k ≤ 4 ∧ v = .int .i64 k ∧ wy.heap[sb]? = some (.cells (Q4.cells (notTo q k)) 23 (0, 0)) ∧ Only (fun k => k = sb) wx wy) (fun v _ => 4 - (intOf v).toNat)
        case atStart => exact ⟨0, by omega, rfl, HSW.out, Only.refl _ _⟩
        case round =>
          obtain ⟨k, hk, rfl, hsx, hox⟩ := hrel
          have HSX := Lib.hid hsx
          have HOX := Lib.hid hox
          clear hsx hox
          clear d0 d1 d2 y1 y2
          obtain ⟨x0, x1, x2, x3⟩ := q_not_words HQ.out
          by_cases hk4 : k = 4
          · subst hk4
            have hr4 : RefAt wr rb S (j + 1) false := (HOX.out.block rb (by omega) (by omega)).trans HRX.out
            have hn4 : wr.heap[nb]? = some (.cells zeroRx 26 (0, 0)) := (HOX.out.block nb (by omega) (by omega)).trans HNW.out
            have ho4 : Only (fun k => k = rb) w wr := HOW.out.trans (HOX.out.mono fun k _ h => .inr (by have := HSZ.out; omega))
            have s0 : wr.cell? ⟨sb, 0, none⟩ = some (.int .u64 q.not.a) := cell_of_block HSX.out 0
            have s1 : wr.cell? ⟨sb, 1, none⟩ = some (.int .u64 q.not.b) := cell_of_block HSX.out 1
            have s2 : wr.cell? ⟨sb, 2, none⟩ = some (.int .u64 q.not.c) := cell_of_block HSX.out 2
            have s3 : wr.cell? ⟨sb, 3, none⟩ = some (.int .u64 q.not.d) := cell_of_block HSX.out 3
            obtain ⟨c0, c1, c2, z1, z2⟩ := hr4.cells
            have HR4 := Lib.hid hr4
            have HN4 := Lib.hid hn4
            have HO4 := Lib.hid ho4
            have hqn := Q4.not_ok HQ.out
            obtain ⟨qn, hqe⟩ : ∃ qn, q.not = qn := ⟨_, rfl⟩
            rw [hqe] at s0 s1 s2 s3 hqn
            have HQE := Lib.hid hqe
            have HQN := Lib.hid hqn
            clear hr4 hn4 ho4 hqe hqn x0 x1 x2 x3
            cases hno : same4 qn.a qn.b qn.c qn.d 0 0 0 0
            all_goals
              have HNO := Lib.hid (show qn.isNone = _ from hno)
              go_wp2_with (first | fail | (refine wpList_store_row rfl 26 (.tmp 2) (.tmp 71) ?_ nb (cellsA (setA qn)) ?_ ?_ 26 zeroRx ?_ (info_rxA _) (by rw [cellsA_size]; rfl) (cellsA_one _) ?_; (with_reducible rfl); rfl; rfl; first | exact HN4.out | exact (Below.heap_setCell _ _ _ _ (by show nb ≠ rb; omega)).trans HN4.out) | fail)
              refine bodyPost_ret (results_cell_row rfl _ _ nb 26 (cellsA (setA qn)) (0, 0) _ rfl (setRow_heap _ _ _ _ _ _ (by first | exact HN4.out | exact (Below.heap_setCell _ _ _ _ (by show nb ≠ rb; omega)).trans HN4.out)) Tryz.underlying26 rfl (info_rxA _)) rfl ?_
              refine set_says HR.out ?_ hje1 hje2 HFIN.out HQE.out HQN.out rfl ?_
              · first
                  | exact (HO4.out.setRow (q := nb) (.inr (by have := HSZ.out; omega)) _)
                  | exact ((HO4.out.setCell (p := ⟨rb, 2, none⟩) (.inl rfl) _).setRow (q := nb) (.inr (by have := HSZ.out; omega)) _)
              · skip
                rw [HNO.out]
                first
                  | exact refAt_setRow HR4.out _ _ (by omega)
                  | exact refAt_setRow HR4.out.wrong _ _ (by omega)
          · have hk3 : k = 0 ∨ k = 1 ∨ k = 2 ∨ k = 3 := by omega
            rcases hk3 with rfl | rfl | rfl | rfl
            · have s0 : wr.cell? ⟨sb, 0, none⟩ = some (.int .u64 q.a) := cell_of_block HSX.out 0
              have t0 := free_of_block HSX.out 0
              go_wp2_with fail
              exact ⟨⟨1, by omega, rfl, (setCell_block HSX.out 0 _).trans rfl, HOX.out.setCell (.inl rfl) _⟩, by decide⟩
            · have s0 : wr.cell? ⟨sb, 1, none⟩ = some (.int .u64 q.b) := cell_of_block HSX.out 1
              have t0 := free_of_block HSX.out 1
              go_wp2_with fail
              exact ⟨⟨2, by omega, rfl, (setCell_block HSX.out 1 _).trans rfl, HOX.out.setCell (.inl rfl) _⟩, by decide⟩
            · have s0 : wr.cell? ⟨sb, 2, none⟩ = some (.int .u64 q.c) := cell_of_block HSX.out 2
              have t0 := free_of_block HSX.out 2
              go_wp2_with fail
              exact ⟨⟨3, by omega, rfl, (setCell_block HSX.out 2 _).trans rfl, HOX.out.setCell (.inl rfl) _⟩, by decide⟩
            · have s0 : wr.cell? ⟨sb, 3, none⟩ = some (.int .u64 q.d) := cell_of_block HSX.out 3
              have t0 := free_of_block HSX.out 3
              go_wp2_with fail
              exact ⟨⟨4, by omega, rfl, (setCell_block HSX.out 3 _).trans rfl, HOX.out.setCell (.inl rfl) _⟩, by decide⟩
    · have hcl : classLoop f q (rest S j) = O := by
        rcases hcd with rfl | ⟨rfl, h93⟩
        · rcases HH.out with ⟨h1, -, -⟩ | ⟨-, -, h3⟩ | ⟨-, h1, -⟩
          · cases h1
          · exact h3.symm
          · cases h1
        · rcases HH.out with ⟨h1, -, -⟩ | ⟨-, h1, -⟩ | ⟨-, -, h3⟩
          · cases h1
          · cases h1
          · rw [h93] at h3; exact h3.symm
      have HCL := Lib.hid hcl; clear hcl
      have hat := fun w1 (h1 : RefAt w1 rb S j false) => at_any w1 rb S j false 93 93 h1 hs rfl
      have HAT := Lib.hid hat; clear hat
      go_upto_region 4 with fail
      go_cut [24] from 12 to 24 (fun v wx => v = .bool true ∧ RefAt wx rb S j false ∧ Only (fun k => k = rb) wr wx)
      case first =>
        rcases hcd with rfl | ⟨rfl, h93⟩
        · go_wp2_with fail
          go_meet
          case rel => exact ⟨rfl, HRR.out, Only.refl _ _⟩
        · have hat := HAT.out
          rw [h93] at hat
          have HAT2 := Lib.hid hat
          clear hat h93
          go_wp2_with (go_at_call 56; refine (HAT2.out _ HRR.out).mono ?_; rintro e w2 ⟨rfl, h1, o1⟩)
          go_meet
          case rel => exact ⟨rfl, h1, o1⟩
      case rest =>
        obtain ⟨rfl, hrx, hox⟩ := hcut
        have HSW := Lib.hid ((hox.block sb hsl (by omega)).trans HS.out)
        have HNW := Lib.hid ((hox.block nb hnl (by omega)).trans HN.out)
        have HOW := Lib.hid (HON.out.then hox)
        have HRX := Lib.hid hrx
        have hsl2 := lt_of_block HSW.out
        have hnl2 := lt_of_block HNW.out
        have HONE1 := Lib.hid (rone_any wc rb S j ⟨#[92, 93, 94, 45]⟩ hrx hs hjs (by decide))
        clear hrx hox HAT c0 c1 c2 z1 z2
        obtain ⟨wx, rfl⟩ : ∃ wx : World, wx = wc := ⟨_, rfl⟩
        go_upto_region 8 with (go_at_call 98; refine HONE1.out.mono ?_; rintro e w3 hS1; obtain ⟨o3, a, ja, ba, rfl, ha256, hja, hjas, hra, hba, hjj⟩ := says_byte hS1; have HRA := Lib.hid hra; have HBA := Lib.hid hba; have HJJ := Lib.hid hjj; have HO3 := Lib.hid (HOW.out.then o3); have HS3 := Lib.hid ((o3.block sb hsl2 (by omega)).trans HSW.out); have HN3 := Lib.hid ((o3.block nb hnl2 (by omega)).trans HNW.out); have hsl3 := lt_of_block HS3.out; have hnl3 := lt_of_block HN3.out; clear hS1 hra hba hjj o3)
        go_cut [36] from 28 to 36 (fun v wd => ∃ (p : Bool) (jy : Nat), v = .bool p ∧ RefAt wd rb S jy ba ∧ Only (fun k => k = rb) w3 wd ∧ ja ≤ jy ∧ jy ≤ S.size ∧ DashO S ja jy ba p)
        case first =>
          have hat := fun w1 (h1 : RefAt w1 rb S ja ba) => at_any w1 rb S ja ba 45 45 h1 hs rfl
          obtain ⟨d0, d1, d2, y1, y2⟩ := HRA.out.cells
          cases ba with
          | true =>
            clear hat
            go_wp2_with fail
            go_meet
            case rel => exact ⟨false, ja, rfl, HRA.out, Only.refl _ _, Nat.le_refl _, hjas, .inr ⟨rfl, rfl, .inl rfl⟩⟩
          | false =>
            cases h45 : starts 45 (rest S ja) with
            | false =>
              rw [h45] at hat
              have HAT := Lib.hid hat
              have H45 := Lib.hid h45
              clear hat h45
              go_wp2_with (go_at_call 56; refine (HAT.out _ HRA.out).mono ?_; rintro e w4 ⟨rfl, h4, o4⟩)
              go_meet
              case rel => exact ⟨false, ja, rfl, h4, o4, Nat.le_refl _, hjas, .inr ⟨rfl, rfl, .inr H45.out⟩⟩
            | true =>
              rw [h45] at hat
              have HAT := Lib.hid hat
              have H45 := Lib.hid h45
              clear hat h45
              go_wp2_with (go_at_call 56; refine (HAT.out _ HRA.out).mono ?_; rintro e w4 ⟨rfl, h4, o4⟩)
              go_meet
              case rel => exact ⟨true, ja + 1, rfl, h4, o4, by omega, rest_starts H45.out, .inl ⟨rfl, rfl, H45.out, rfl⟩⟩
        case rest =>
          obtain ⟨p, jy, rfl, hrd, hod, hjy1, hjy2, hdash⟩ := hcut
          have HS4 := Lib.hid ((hod.block sb hsl3 (by omega)).trans HS3.out)
          have HN4 := Lib.hid ((hod.block nb hnl3 (by omega)).trans HN3.out)
          have HO4 := Lib.hid (HO3.out.then hod)
          have HR4 := Lib.hid hrd
          have HDASH := Lib.hid hdash
          have hsl4 := lt_of_block HS4.out
          have hnl4 := lt_of_block HN4.out
          clear hrd hod hdash
          obtain ⟨w4, rfl⟩ : ∃ w4 : World, w4 = wc := ⟨_, rfl⟩
          go_upto_if 36 with fail
          go_cut [7] from 37 to 38 (fun v we => ∃ (b jz : Nat) (bz : Bool), v = .int .i64 b ∧ b < 256 ∧ RefAt we rb S jz bz ∧ Only (fun k => k = rb) w4 we ∧ jy ≤ jz ∧ jz ≤ S.size ∧ OneO S q j a b jz bz)
          case first =>
            cases p with
            | false =>
              go_wp2_with fail
              go_meet
              case rel =>
                rcases HDASH.out with ⟨h1, -⟩ | ⟨-, rfl, h45⟩
                · cases h1
                · refine ⟨a, jy, ba, rfl, ha256, HR4.out, Only.refl _ _, Nat.le_refl _, hjy2, ?_⟩
                  rcases HBA.out with ⟨rfl, h1⟩ | ⟨rfl, h1⟩
                  · rcases h45 with h45 | h45
                    · cases h45
                    · exact OneO.single h1 h45 (HJJ.out rfl)
                  · exact OneO.wrong h1
            | true =>
              obtain ⟨rfl, h45, rfl⟩ : ba = false ∧ starts 45 (rest S ja) = true ∧ jy = ja + 1 := by
                rcases HDASH.out with ⟨-, h1, h2, h3⟩ | ⟨h1, -⟩
                · exact ⟨h1, h2, h3⟩
                · cases h1
              have H45 := Lib.hid h45
              have HONE2 := Lib.hid (rone_any w4 rb S (ja + 1) ⟨#[92, 93, 94, 45]⟩ HR4.out hs hjy2 (by decide))
              clear h45
              go_wp2_with (go_at_call 98; refine HONE2.out.mono ?_; rintro e w5 hS2; obtain ⟨o5, b, jb, bb, rfl, hb256, hjb, hjbs, hrb, hbb, hjj2⟩ := says_byte hS2; have HRB := Lib.hid hrb; have HBB := Lib.hid hbb; have HO5 := Lib.hid o5; have HJ2 := Lib.hid hjj2; clear hS2 hrb hbb o5 hjj2)
              go_meet
              case rel =>
                refine ⟨b, jb, bb, rfl, hb256, HRB.out, HO5.out, hjb, hjbs, ?_⟩
                have h1 : one butClass (rest S j) = some (a, rest S ja) := by
                  rcases HBA.out with ⟨-, h1⟩ | ⟨h1, -⟩
                  · exact h1
                  · cases h1
                rcases HBB.out with ⟨rfl, h2⟩ | ⟨rfl, h2⟩
                · exact OneO.two h1 H45.out h2 (by omega)
                · exact OneO.half h1 H45.out h2
          case rest =>
            obtain ⟨b, jz, bz, rfl, hb256, hre, hoe, hjz1, hjz2, hone⟩ := hcut
            have HS5 := Lib.hid ((hoe.block sb hsl4 (by omega)).trans HS4.out)
            have HN5 := Lib.hid ((hoe.block nb hnl4 (by omega)).trans HN4.out)
            have HO5 := Lib.hid (HO4.out.then hoe)
            have HR5 := Lib.hid hre
            have HONE := Lib.hid hone
            have hsl5 := lt_of_block HS5.out
            have hnl5 := lt_of_block HN5.out
            clear hre hoe hone
            obtain ⟨w5, rfl⟩ : ∃ w5 : World, w5 = wc := ⟨_, rfl⟩
            go_upto_if 41 with fail
            go_cut [] from 39 to 44 (fun wf => ∃ bf : Bool, Hid (bf = (bz || decide (b < a))) ∧ RefAt wf rb S jz bf ∧ Only (fun k => k = rb) w5 wf)
            case first =>
              obtain ⟨d0, d1, d2, y1, y2⟩ := HR5.out.cells
              by_cases hab : (b : Int) < (a : Int)
              · go_wp2_with fail
                go_meet
                case rel => exact ⟨true, Lib.hid (by rw [decide_eq_true (by omega)]; simp), HR5.out.wrong, (Only.refl (fun k => k = rb) w5).setCell (p := ⟨rb, 2, none⟩) (.inl rfl) _⟩
              · go_wp2_with fail
                go_meet
                case rel => exact ⟨bz, Lib.hid (by rw [decide_eq_false (by omega)]; simp), HR5.out, Only.refl _ _⟩
            case rest =>
              obtain ⟨bf, hbf, hrf, hof⟩ := hcut
              have HS6 := Lib.hid ((hof.block sb hsl5 (by omega)).trans HS5.out)
              have HN6 := Lib.hid ((hof.block nb hnl5 (by omega)).trans HN5.out)
              have HO6 := Lib.hid (HO5.out.then hof)
              have HR6 := Lib.hid hrf
              have hsl6 := lt_of_block HS6.out
              have hnl6 := lt_of_block HN6.out
              clear hrf hof
              obtain ⟨w6, rfl⟩ : ∃ w6 : World, w6 = wc := ⟨_, rfl⟩
              go_wp2_with fail
              go_loopw [6] (fun v wl => ∃ k : Nat, k ≤ b + 1 - a ∧ v = .int .i64 ((a + k : Nat) : Int) ∧ wl.heap[sb]? = some (.cells (Q4.cells (q.withAll a k)) 23 (0, 0)) ∧ Only (fun k => k = sb) w6 wl) (fun v _ => b + 1 - (intOf v).toNat)
              case atStart => exact ⟨0, by omega, rfl, HS6.out, Only.refl _ _⟩
              case round =>
                obtain ⟨k, hk, rfl, hsx, hox⟩ := hrel
                have HSL := Lib.hid hsx; have HOL := Lib.hid hox; clear hsx hox
                obtain ⟨x, hx⟩ : ∃ x, a + k = x := ⟨_, rfl⟩
                rw [hx]
                by_cases hkc : k = b + 1 - a
                · have hgt : ¬ (x : Int) ≤ (b : Int) := by omega
                  have HKC := Lib.hid hkc
                  have HX := Lib.hid hx
                  have hr4 : RefAt wr rb S jz bf := (HOL.out.block rb (by omega) (by omega)).trans HR6.out
                  have hn4 : wr.heap[nb]? = some (.cells zeroRx 26 (0, 0)) := (HOL.out.block nb (by omega) (by omega)).trans HN6.out
                  have ho4 : Only (fun k => k = rb) w wr := HO6.out.trans (HOL.out.mono fun k _ h => .inr (by have := HSZ.out; omega))
                  have hnext := head_next (bz := bf) HCL.out hlf HONE.out hbf.out
                  have HNEXT := Lib.hid hnext; have HR7 := Lib.hid hr4; have HN7 := Lib.hid hn4; have HO7 := Lib.hid ho4
                  clear hnext hr4 hn4 ho4 hx hkc
                  go_wp2_with fail
                  obtain ⟨f2, hf2, hh2⟩ := HNEXT.out
                  rw [← HKC.out] at hh2
                  refine ⟨⟨false, bf, q.withAll a k, jz, f2, rfl, HR7.out, HSL.out, HN7.out, HO7.out, Q4.withAll_ok HQ.out (by have := HKC.out; omega), by omega, hjz2, hf2, hh2⟩, ?_⟩
                  rw [posOf_eq HR7.out, badOf_eq HR7.out, posOf_eq HRR.out, badOf_eq HRR.out]
                  have hbf' := hbf.out
                  rcases HONE.out with ⟨h1, -⟩ | ⟨-, h1, -⟩
                  · rw [h1] at hbf'
                    rw [hbf']
                    simp; omega
                  · cases bf <;> simp <;> omega
                · have hle : (x : Int) ≤ (b : Int) := by omega
                  have hx256 : x < 256 := by omega
                  have hqk := Q4.withAll_ok HQ.out (k := k) (n := a) (by omega)
                  obtain ⟨q1, hq1⟩ : ∃ q1, q.withAll a k = q1 := ⟨_, rfl⟩
                  rw [hq1] at HSL hqk
                  have HQS := Lib.hid (show q.withAll a (k + 1) = q1.with x by rw [withAll_snoc, hq1, hx])
                  have s0 : wr.cell? ⟨sb, 0, none⟩ = some (.int .u64 q1.a) := cell_of_block HSL.out 0
                  have s1 : wr.cell? ⟨sb, 1, none⟩ = some (.int .u64 q1.b) := cell_of_block HSL.out 1
                  have s2 : wr.cell? ⟨sb, 2, none⟩ = some (.int .u64 q1.c) := cell_of_block HSL.out 2
                  have s3 : wr.cell? ⟨sb, 3, none⟩ = some (.int .u64 q1.d) := cell_of_block HSL.out 3
                  have hsll := lt_of_block HSL.out
                  have HW4 := Lib.hid (with_any q1 hqk x hx256 wr)
                  have HX := Lib.hid hx
                  clear hq1 hqk hx
                  go_wp2_with (first | (go_at_call 97; refine HW4.out.mono ?_; rintro e w7 ⟨rfl, hb5⟩; have HS7 := Lib.hid ((hb5.block sb hsll).trans HSL.out); have HO7 := Lib.hid (HOL.out.trans (Only.of_below hb5)); clear hb5) | (refine wpList_store_row rfl 23 (.tmp 4) (.tmp 52) ?_ sb (Q4.cells (q1.with x)) ?_ ?_ 23 (Q4.cells q1) ?_ info4 rfl (q4_one _) ?_; (with_reducible rfl); rfl; rfl; exact HS7.out) | fail)
                  refine ⟨⟨k + 1, by omega, by have := HX.out; simp; omega, ?_, HO7.out.setRow (q := sb) (.inl rfl) _⟩, by have := HX.out; simp only [intOf]; omega⟩
                  rw [HQS.out]
                  exact setRow_heap _ _ _ _ _ _ HS7.out
end Go.Proofs.YtjhclopdcbnmkaaGreatDoor
