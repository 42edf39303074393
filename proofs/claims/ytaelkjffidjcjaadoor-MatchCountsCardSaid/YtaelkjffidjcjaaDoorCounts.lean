/- The walk of MatchCounts. -/
import Derived.Test.YtaelkjffidjcjaaDoorJoins
import Derived.Deep.AppendLies
set_option linter.unusedSimpArgs false
set_option linter.unusedVariables false
namespace Go.Proofs.YtaelkjffidjcjaaDoor
open Go.RowKit PX

theorem checkR_zero (x : Rx) : checkR x = 0 ↔ x.formB = true ∧ x.big ≤ 256 := by
  unfold checkR
  rw [Rx.sizeI_eq]
  cases x.formB with
  | false => simp
  | true =>
    simp only [if_true, true_and]
    split <;> constructor <;> intro h <;> first | omega | (exfalso; omega) | rfl
theorem MaybeX.good {w : World} {v : Value} {x : Rx} (h : MaybeX w v x) (hc : checkR x = 0) : ∃ p, v = .pointer (some ⟨p, 0, none⟩) ∧ MX w p x := by
  rcases h with ⟨-, h⟩ | ⟨h, -⟩
  · exact h
  · exact absurd hc h
theorem mul_mono {a b c : Int} (h : a ≤ b) (hc : 0 ≤ c) : a * c ≤ b * c := Int.mul_le_mul_of_nonneg_right h hc
theorem Later.drewN {a b : World} (h : Later a b) (n : Nat) : Later a (b.drewN n) := below_drewN h n
/-- Of a number of times that may be, so many times may be; and a row of as many. -/
theorem check_kk {x : Rx} {lo hi k : Nat} (h : checkR (.node 3 lo hi 0 0 0 0 [x]) = 0) (h1 : lo ≤ k) (h2 : k ≤ hi) : checkR (.node 3 k k 0 0 0 0 [x]) = 0 := by
  rw [checkR_zero, rep_form, rep_big] at h ⊢
  obtain ⟨⟨h3, h4⟩, h5⟩ := h
  have hp := x.big_pos
  have := mul_mono (show max (max (1 : Int) (k : Int)) (k : Int) ≤ max (max (1 : Int) (lo : Int)) (hi : Int) by omega) (show 0 ≤ x.big by omega)
  exact ⟨⟨by omega, h4⟩, Int.le_trans (Int.add_le_add_left this 1) h5⟩
theorem check_row {x : Rx} {lo hi k : Nat} (h : checkR (.node 3 lo hi 0 0 0 0 [x]) = 0) (h1 : 2 ≤ k) (h2 : k ≤ hi) : checkR (.node 1 0 0 0 0 0 0 (List.replicate k x)) = 0 := by
  rw [checkR_zero] at h ⊢
  rw [rep_form, rep_big] at h
  obtain ⟨⟨h3, h4⟩, h5⟩ := h
  rw [row_big]
  have hp := x.big_pos
  have := mul_mono (show (k : Int) ≤ max (max (1 : Int) (lo : Int)) (hi : Int) by omega) (show 0 ≤ x.big by omega)
  exact ⟨row_form h4 h1, Int.le_trans (Int.add_le_add_left this 1) h5⟩
theorem rep_kk (x : Rx) (k : Nat) (s : List UInt8) : (Rx.node 3 k k 0 0 0 0 [x]).lang s ↔ Pow x.lang k s := by
  rw [rep_lang]
  constructor
  · rintro ⟨j, h1, h2, h⟩
    obtain rfl : j = k := by omega
    exact h
  · intro h; exact ⟨k, by omega, .inr (by omega), h⟩
/-- Is a text, that is not too long, in a language? -/
noncomputable def inT (S : ByteArray) (L : List UInt8 → Prop) : Bool := decide (S.size ≤ 256) && inB L S.data.toList
theorem inT_iff {S : ByteArray} {L : List UInt8 → Prop} : inT S L = true ↔ S.size ≤ 256 ∧ L S.data.toList := by
  unfold inT; rw [Bool.and_eq_true, inB_iff, decide_eq_true_iff]
theorem in_tells (w : World) (p : Nat) (x : Rx) (h : MX w p x) (S : ByteArray) :
    Calls Tryd.prog 21 #[.pointer (some ⟨p, 0, none⟩), .string S] w fun e w' => e = .returned (.bool (inT S x.lang)) ∧ Later w w' := by
  refine (in_any w p x S h.m h.t).mono ?_
  rintro e w' ⟨hb, r, rfl, hr⟩
  refine ⟨?_, hb⟩
  rw [show r = inT S x.lang from by rw [Bool.eq_iff_iff, hr, inT_iff]]
theorem inT_row_kk (x : Rx) (k : Nat) (S : ByteArray) : inT S (Rx.node 1 0 0 0 0 0 0 (List.replicate k x)).lang = inT S (Rx.node 3 k k 0 0 0 0 [x]).lang := by
  rw [Bool.eq_iff_iff, inT_iff, inT_iff, row_lang, langSeq_replicate, rep_kk]
/-- What the loop over the numbers of times has found. -/
noncomputable def oneB (x : Rx) (S : ByteArray) (lo : Nat) : Nat → Bool
  | 0 => false
  | n + 1 => oneB x S lo n || inT S (Rx.node 3 (lo + n : Nat) (lo + n : Nat) 0 0 0 0 [x]).lang
theorem oneB_iff (x : Rx) (S : ByteArray) (lo : Nat) : ∀ n, oneB x S lo n = true ↔ S.size ≤ 256 ∧ ∃ k, lo ≤ k ∧ k < lo + n ∧ Pow x.lang k S.data.toList
  | 0 => by simp [oneB]; intro _ k h1 h2; omega
  | n + 1 => by
    simp only [oneB, Bool.or_eq_true, inT_iff, rep_kk, oneB_iff x S lo n]
    constructor
    · rintro (⟨hs, k, h1, h2, h⟩ | ⟨hs, h⟩)
      · exact ⟨hs, k, h1, by omega, h⟩
      · exact ⟨hs, lo + n, by omega, by omega, h⟩
    · rintro ⟨hs, k, h1, h2, h⟩
      by_cases hk : k < lo + n
      · exact .inl ⟨hs, k, h1, hk, h⟩
      · obtain rfl : k = lo + n := by omega
        exact .inr ⟨hs, h⟩
theorem oneB_all (x : Rx) (S : ByteArray) (lo hi : Nat) (h : lo ≤ hi) : oneB x S lo (hi + 1 - lo) = inT S (Rx.node 3 lo hi 0 0 0 0 [x]).lang := by
  rw [Bool.eq_iff_iff, inT_iff, oneB_iff, rep_lang]
  refine and_congr Iff.rfl (exists_congr fun k => ?_)
  constructor
  · rintro ⟨h1, h2, h3⟩; exact ⟨by omega, .inr (by omega), h3⟩
  · rintro ⟨h1, h2, h3⟩; exact ⟨by omega, by omega, h3⟩

def lenOf : Option Value → Nat
  | some (.slice _ n _) => n
  | _ => 0

theorem bareAll_replicate (X : RxA) (k : Nat) : bareAll (List.replicate k X) = List.replicate k X.bare := by rw [bareAll_eq, List.map_replicate]
theorem rxCells_snoc (l : List RxA) (X : RxA) : rxCells (l ++ [X]) = rxCells l ++ X.cells := by rw [rxCells_append]; simp [rxCells]

/-- A call of fits, of a row of equal expressions. -/
theorem fits_rowof {w : World} {X : RxA} {base k cap : Nat} {a : Option Addr} (hT : TabAt 0 Lib.deBruijn64tab w) (hX : X.In w w.heap.size) (hown : w.ownsRow base 26 8 (.slice a k cap) k (rxCells (List.replicate k X))) (hk : k ≤ 15) (hk2 : 2 ≤ k) :
    Calls Tryd.prog 20 #[.agg #[.int .i64 1, .int .i64 0, .int .i64 0, .int .u64 0, .int .u64 0, .int .u64 0, .int .u64 0, .slice a k cap]] w fun e w' => ∃ v, e = .returned v ∧ Later w w' ∧ MaybeX w' v (.node 1 0 0 0 0 0 0 (List.replicate k X.bare)) := by
  obtain ⟨a', cap', he, h1, h2, h3⟩ := row_value hown
  simp only [Value.slice.injEq, true_and] at he
  obtain ⟨rfl, rfl⟩ := he
  rcases h3 with ⟨h0, -⟩ | ⟨g, rfl, hg, hg2, -⟩
  · omega
  have := fits_of w (.node 1 0 0 0 0 0 0 (some ⟨g, 0, none⟩) cap (List.replicate k X)) ?_ hT
  · simp only [RxA.val, RxA.cells, List.length_replicate, RxA.bare, bareAll_replicate] at this
    exact this
  · simp only [RxA.In, List.length_replicate]
    refine ⟨⟨⟨by omega, by omega⟩, ⟨by omega, by omega⟩, ⟨by omega, by omega⟩, ⟨by omega, by omega⟩, ⟨by omega, by omega⟩, ⟨by omega, by omega⟩, ⟨by omega, by omega⟩⟩, h1, h2, by omega, .inr ⟨g, 0, rfl, hg2, ?_⟩⟩
    refine inL_of_row (fun j u hu => ?_) (fun Z hZ => ?_)
    · have hj : j < (rxCells (List.replicate k X)).length := (List.getElem?_eq_some_iff.1 hu).1
      rw [rxCells_length, List.length_replicate] at hj
      rw [Nat.zero_add, hown.cellAt j hj]; exact hu
    · rw [(List.mem_replicate.1 hZ).2]; exact hX

set_option maxRecDepth 100000 in
set_option maxHeartbeats 4000000 in
theorem counts_any (w : World) (X : RxA) (low high : Int) (hlo : I64 low) (hhi : I64 high) (S : ByteArray) (hJ : JW w X X) :
    Calls Tryd.prog 7 #[X.val, .agg #[.int .i64 low, .int .i64 high], .string S] w fun e w' => e = .returned (.bool true) ∧ Later w w' := by
  obtain ⟨w0, hw0⟩ : ∃ w0, (w.alloc (.cells X.cells.toArray 26)).alloc (.cells #[.int .i64 low, .int .i64 high] 41) = w0 := ⟨_, rfl⟩
  have hl0 : Later w w0 := by rw [← hw0]; exact ((Later.refl w).alloc _).alloc _
  have hJ0 := hJ.later hl0
  have hx0 : w0.heap[w.heap.size]? = some (.cells X.cells.toArray 26 (0, 0)) := by rw [← hw0]; exact alloc_old (alloc_block w _) _
  have hy0 : w0.heap[w.heap.size + 1]? = some (.cells #[.int .i64 low, .int .i64 high] 41 (0, 0)) := by
    have := alloc_block (w.alloc (.cells X.cells.toArray 26)) (.cells #[.int .i64 low, .int .i64 high] 41)
    rw [World.size_alloc] at this
    rw [← hw0]; exact this
  have hf1 := fun w1 (h1 : Later w0 w1) => @fits_of1 w0 w1 X X hJ0 h1
  have hfr := fun w1 (h1 : Later w0 w1) base k cap a => @fits_rowof w1 X base k cap a (hJ0.later h1).t (hJ0.later h1).x
  have hfix := fun w1 (h1 : Later w0 w1) => fixed_any w1 (hJ0.later h1).t
  obtain ⟨x, hx⟩ : ∃ x, X.bare = x := ⟨_, rfl⟩
  rw [hx] at hf1 hfr
  obtain ⟨i0, hif, hz0, hz1, hz2⟩ := info_parts info_rx3
  have h1x := rx_one X
  clear hJ hJ0 hx
  obtain ⟨XX, hXX⟩ : ∃ XX, XX = X := ⟨_, rfl⟩
  rw [← hXX] at hfr
  have hxc : XX.cells = X.cells := by rw [hXX]
  clear hXX
  obtain ⟨k, mn, mx, s0, s1, s2, s3, a, cap, l⟩ := X
  simp only [RxA.val, RxA.cells, List.cons_append, List.nil_append] at hf1 hx0 hy0 hw0 h1x ⊢
  have hxc : XX.cells = [.int .i64 k, .int .i64 mn, .int .i64 mx, .int .u64 s0, .int .u64 s1, .int .u64 s2, .int .u64 s3, .slice a l.length cap] := hxc
  obtain ⟨b0, hb0⟩ : ∃ b0, w.heap.size = b0 := ⟨_, rfl⟩
  obtain ⟨n, hn⟩ : ∃ n, l.length = n := ⟨_, rfl⟩
  rw [hn] at hf1 hx0 hw0 hxc h1x ⊢
  rw [hb0] at hx0 hy0
  have HX0 := Lib.hid hx0
  have HF1 := Lib.hid hf1; clear hf1
  have HFR := Lib.hid hfr; clear hfr
  have HXC := Lib.hid hxc; clear hxc
  have H1X := Lib.hid h1x; clear h1x
  have HFIX := Lib.hid hfix; clear hfix
  have HL0 := Lib.hid hl0; clear hl0
  have HW0 := Lib.hid hw0; clear hw0 hn
  have p0 : w0.cell? ⟨b0 + 1, 0, none⟩ = some (.int .i64 low) := by rw [cell_of_block hy0]; rfl
  have p1 : w0.cell? ⟨b0 + 1, 1, none⟩ = some (.int .i64 high) := by rw [cell_of_block hy0]; rfl
  have hsx : ∀ w', Later w0 w' → w'.cell? ⟨b0, 0, none⟩ = some (.int .i64 k) ∧ w'.cell? ⟨b0, 1, none⟩ = some (.int .i64 mn) ∧ w'.cell? ⟨b0, 2, none⟩ = some (.int .i64 mx) ∧ w'.cell? ⟨b0, 3, none⟩ = some (.int .u64 s0) ∧ w'.cell? ⟨b0, 4, none⟩ = some (.int .u64 s1) ∧ w'.cell? ⟨b0, 5, none⟩ = some (.int .u64 s2) ∧ w'.cell? ⟨b0, 6, none⟩ = some (.int .u64 s3) ∧ w'.cell? ⟨b0, 7, none⟩ = some (.slice a n cap) := by
    intro w' h'
    have h1 := h'.block hx0
    refine ⟨?_, ?_, ?_, ?_, ?_, ?_, ?_, ?_⟩ <;> exact cell_of_block h1 _
  have HSX := Lib.hid hsx
  clear hx0 hy0 hsx HX0
  have hq : ∀ n, Later w0 (w0.drewN n) := fun n => (Later.refl w0).drewN n
  have HQ := Lib.hid hq
  clear hq
  by_cases hg : 0 ≤ low ∧ low ≤ high ∧ high ≤ 15
  · obtain ⟨lo, rfl⟩ : ∃ lo : Nat, low = lo := ⟨low.toNat, by omega⟩
    obtain ⟨hi, rfl⟩ : ∃ hi : Nat, high = hi := ⟨high.toNat, by omega⟩
    obtain ⟨hg1, hg2, hg3⟩ := hg
    have hlh : lo ≤ hi := by omega
    have hi15 : hi ≤ 15 := by omega
    have t1 : ¬ (lo : Int) < 0 := by omega
    have t2 : decide (hi < lo) = false := by simp; omega
    have t3 : ¬ (15 : Int) < hi := by omega
    have HB0 := Lib.hid hb0
    go_enter Tryd.func7, Tryd.ntmps7
    go_wp2_with fail
    rw [HW0.out]
    clear HW0 hb0
    go_quiet (fail)
    go_wp2_with (first
      | (go_at_call 15; (with_reducible refine (HFIX.out _ (by repeat (first | assumption | exact Later.refl _ | refine Later.drew ?_ | refine Later.drewN ?_ _ | refine Later.alloc ?_ _ | refine Later.trans ?_ (by assumption)))).mono ?_); rintro e w3 ⟨rfl, hb3⟩; have hl3 := Later.of hb3; clear hb3; have hq := HSX.out w3 (by repeat (first | assumption | exact Later.refl _ | refine Later.drew ?_ | refine Later.drewN ?_ _ | refine Later.alloc ?_ _ | refine Later.trans ?_ (by assumption))); obtain ⟨q0, q1, q2, q3, q4, q5, q6, q7⟩ := hq)
      | (go_at_call 20; (with_reducible refine (HF1.out _ (by repeat (first | assumption | exact Later.refl _ | refine Later.drew ?_ | refine Later.drewN ?_ _ | refine Later.alloc ?_ _ | refine Later.trans ?_ (by assumption))) _ _ _ (by repeat (first | assumption | refine drew_block ?_ | (refine alloc_at ?_; (simp; done)) | refine alloc_old ?_ _ | refine Later.block (by assumption) ?_)) (by rfl) _ _ (by unfold I64; omega) (by unfold I64; omega)).mono ?_); rintro e w4 ⟨v, rfl, hl4, ⟨hc, pa, rfl, hpa⟩ | ⟨hc, rfl⟩⟩)
      | fail)
    · have hlw4 : Later w0 w4 := (by repeat (first | assumption | exact Later.refl _ | refine Later.drew ?_ | refine Later.drewN ?_ _ | refine Later.alloc ?_ _ | refine Later.trans ?_ (by assumption)))
      have HLW4 := Lib.hid hlw4
      have HPA := Lib.hid hpa
      have HC := Lib.hid hc
      clear hl3 hl4 hlw4 q0 q1 q2 q3 q4 q5 q6 q7 p0 p1 hpa hc t1 t2 t3
      go_loopw [10, 11] (fun o_ k_ wx => ∃ j : Nat, lo ≤ j ∧ j ≤ hi + 1 ∧ k_ = .int .i64 j ∧ o_ = .bool (oneB x S lo (j - lo)) ∧ Later w4 wx) (fun _ k_ _ => hi + 1 - (intOf k_).toNat)
      case atStart => exact ⟨lo, Nat.le_refl _, by omega, rfl, by rw [Nat.sub_self]; rfl, Later.refl _⟩
      case round =>
        obtain ⟨j, hlj, hjh, rfl, rfl, hlr⟩ := hrel
        by_cases hje : j = hi + 1
        · subst hje
          have hall := in_tells wr pa _ (HPA.out.later hlr) S
          rw [oneB_all x S lo hi hlh]
          obtain ⟨o, ho⟩ : ∃ o, inT S (Rx.node 3 lo hi 0 0 0 0 [x]).lang = o := ⟨_, rfl⟩
          rw [ho] at hall ⊢
          have HALL := Lib.hid hall
          clear hall ho
          go_wp2_with (first
            | (go_at_call 21; (with_reducible refine HALL.out.mono ?_); rintro e w6 ⟨rfl, hl6⟩)
            | fail)
          go_ret
          exact ⟨by simp, (HL0.out.trans HLW4.out).trans (hlr.trans hl6)⟩
        · have hjh2 : (j : Int) ≤ hi := by omega
          have hck := check_kk HC.out hlj (by omega : j ≤ hi)
          have hcr := fun h2 : 2 ≤ j => check_row HC.out h2 (by omega : j ≤ hi)
          have hin := fun w1 p (h1 : MX w1 p (.node 3 j j 0 0 0 0 [x])) => in_tells w1 p _ h1 S
          have hir := fun w1 p (h1 : MX w1 p (.node 1 0 0 0 0 0 0 (List.replicate j x))) => in_tells w1 p _ h1 S
          have hone : oneB x S lo (j + 1 - lo) = (oneB x S lo (j - lo) || inT S (Rx.node 3 j j 0 0 0 0 [x]).lang) := by
            rw [show j + 1 - lo = (j - lo) + 1 by omega, oneB, show lo + (j - lo) = j by omega]
          rw [inT_row_kk] at hir
          obtain ⟨o, ho⟩ : ∃ o, oneB x S lo (j - lo) = o := ⟨_, rfl⟩
          obtain ⟨ij, hij⟩ : ∃ ij, inT S (Rx.node 3 j j 0 0 0 0 [x]).lang = ij := ⟨_, rfl⟩
          rw [hij] at hin hir hone
          rw [ho] at hone ⊢
          have HIN := Lib.hid hin
          have HIR := Lib.hid hir
          have HONE := Lib.hid hone
          have HCK := Lib.hid hck
          have HCR := Lib.hid hcr
          clear hin hir hone hck hcr ho hij
          have hlr0 := HLW4.out.trans hlr
          obtain ⟨q0, q1, q2, q3, q4, q5, q6, q7⟩ := HSX.out wr hlr0
          have HLR := Lib.hid hlr; clear hlr
          go_upto_region 17 with (first
            | (go_at_call 20; (with_reducible refine (HF1.out _ (by repeat (first | assumption | exact Later.refl _ | refine Later.drew ?_ | refine Later.drewN ?_ _ | refine Later.alloc ?_ _ | refine Later.trans ?_ (by assumption))) _ _ _ (by repeat (first | assumption | refine drew_block ?_ | (refine alloc_at ?_; (simp; done)) | refine alloc_old ?_ _ | refine Later.block (by assumption) ?_)) (by rfl) _ _ (by unfold I64; omega) (by unfold I64; omega)).mono ?_); rintro e w5 ⟨v, rfl, hl5, hm5⟩; obtain ⟨pk, rfl, hpk⟩ := hm5.good HCK.out; clear hm5; have HPK := Lib.hid hpk; clear hpk)
            | (go_at_call 21; (with_reducible refine (HIN.out _ _ HPK.out).mono ?_); rintro e w6 ⟨rfl, hl6⟩)
            | fail)
          have hlw6 : Later wr w6 := (by repeat (first | assumption | exact Later.refl _ | refine Later.drew ?_ | refine Later.drewN ?_ _ | refine Later.alloc ?_ _ | refine Later.trans ?_ (by assumption)))
          go_cut [10] from 58 to 61 (fun v wx => v = .bool (o || ij) ∧ wx = w6)
          case first =>
            cases o <;> (
              go_wp2_with fail
              go_meet
              case rel => exact ⟨rfl, rfl⟩)
          case rest =>
            obtain ⟨rfl, rfl⟩ := hcut
            by_cases hj2 : j < 2
            · have hj3 : (j : Int) < 2 := by omega
              go_wp2_with fail
              go_roundw
              case measure => simp only [intOf]; omega
              case rel => exact ⟨j + 1, by omega, by omega, by simp, by rw [HONE.out], HLR.out.trans hlw6⟩
            · have hj3 : ¬ (j : Int) < 2 := by omega
              have hj4 : 2 ≤ j := by omega
              obtain ⟨W7, hW7⟩ : ∃ W7, wc.alloc (.cells #[.int .i64 1, .int .i64 0, .int .i64 0, .int .u64 0, .int .u64 0, .int .u64 0, .int .u64 0, .slice none 0 0] 26) = W7 := ⟨_, rfl⟩
              have hl67 : Later wc W7 := by rw [← hW7]; exact (Later.refl _).alloc _
              have hr7 : W7.heap[wc.heap.size]? = some (.cells #[.int .i64 1, .int .i64 0, .int .i64 0, .int .u64 0, .int .u64 0, .int .u64 0, .int .u64 0, .slice none 0 0] 26 (0, 0)) := by rw [← hW7]; exact alloc_block _ _
              have hs7 : W7.heap.size = wc.heap.size + 1 := by rw [← hW7]; simp
              obtain ⟨r, hr⟩ : ∃ r, wc.heap.size = r := ⟨_, rfl⟩
              rw [hr] at hr7 hs7
              have HR7 := Lib.hid hr7; clear hr7
              have HS7 := Lib.hid hs7; clear hs7
              have HW7 := Lib.hid hW7; clear hW7
              have HL67 := Lib.hid ((hlr0.trans hlw6).trans hl67)
              have HLW7 := Lib.hid (hlw6.trans hl67)
              have HBR : Hid (w0.heap.size ≤ r) := Lib.hid (by have := Below.size (hlr0.trans hlw6); omega)
              have HBK : Hid (wr.heap.size ≤ r) := Lib.hid (by have := Below.size hlw6; omega)
              clear hl67 hl5 hl6 hlw6 hlr0 q0 q1 q2 q3 q4 q5 q6 q7
              go_wp2_with fail
              rw [HW7.out]
              clear HW7 hr HPK
              obtain ⟨wk, hwk⟩ : ∃ v, v = wr := ⟨_, rfl⟩
              subst hwk
              go_loopw [] (fun wx => ∃ (jj cp : Nat) (ad : Option Addr), jj ≤ j ∧ wx.heap[r]? = some (.cells #[.int .i64 1, .int .i64 0, .int .i64 0, .int .u64 0, .int .u64 0, .int .u64 0, .int .u64 0, .slice ad jj cp] 26 (0, 0)) ∧ wx.ownsRow (r + 1) 26 8 (.slice ad jj cp) jj (rxCells (List.replicate jj XX)) ∧ Only (fun q => q = r) W7 wx) (fun wx => j - lenOf (wx.cell? ⟨r, 7, none⟩))
              case atStart =>
                exact ⟨0, 0, none, by omega, HR7.out, ⟨rfl, .inl ⟨rfl, rfl⟩⟩, Only.refl _ _⟩
              case round =>
                obtain ⟨jj, cp, ad, hjj, hbr, hown, hon⟩ := hrel
                have hsz := hon.size
                rw [HS7.out] at hsz
                have hl7 : Later w0 wr := Below.trans HL67.out (hon.below (by have := HBR.out; rw [HS7.out]; omega) (by rintro q rfl; exact HBR.out))
                have hlk : Later wk wr := Below.trans HLW7.out (hon.below (by have := HBK.out; rw [HS7.out]; omega) (by rintro q rfl; exact HBK.out))
                have HON := Lib.hid hon
                have HLK := Lib.hid hlk
                have HL7 := Lib.hid hl7
                clear hon hlk
                obtain ⟨ad', cp', hv, hcv1, hcv2, -⟩ := row_value hown
                simp only [Value.slice.injEq, true_and] at hv
                obtain ⟨rfl, rfl⟩ := hv
                have hcv2 : cp ≤ 9223372036854775807 := by unfold maxLen at hcv2; omega
                have HOWN := Lib.hid hown
                clear hown
                by_cases hje : jj = j
                · subst hje
                  have r0 : wr.cell? ⟨r, 0, none⟩ = some (.int .i64 1) := by rw [cell_of_block hbr]; rfl
                  have r1 : wr.cell? ⟨r, 1, none⟩ = some (.int .i64 0) := by rw [cell_of_block hbr]; rfl
                  have r2 : wr.cell? ⟨r, 2, none⟩ = some (.int .i64 0) := by rw [cell_of_block hbr]; rfl
                  have r3 : wr.cell? ⟨r, 3, none⟩ = some (.int .u64 0) := by rw [cell_of_block hbr]; rfl
                  have r4 : wr.cell? ⟨r, 4, none⟩ = some (.int .u64 0) := by rw [cell_of_block hbr]; rfl
                  have r5 : wr.cell? ⟨r, 5, none⟩ = some (.int .u64 0) := by rw [cell_of_block hbr]; rfl
                  have r6 : wr.cell? ⟨r, 6, none⟩ = some (.int .u64 0) := by rw [cell_of_block hbr]; rfl
                  have r7 : wr.cell? ⟨r, 7, none⟩ = some (.slice ad jj cp) := by rw [cell_of_block hbr]; rfl
                  have HBRW := Lib.hid hbr; clear hbr
                  have hjj15 : jj ≤ 15 := by omega
                  go_wp2_with (first
                    | (go_at_call 20; (with_reducible refine (HFR.out wr hl7 _ _ _ _ HOWN.out hjj15 hj4).mono ?_); rintro e w8 ⟨v, rfl, hl8, hm8⟩; obtain ⟨pn, rfl, hpn⟩ := hm8.good (HCR.out hj4); clear hm8; have HPN := Lib.hid hpn; clear hpn)
                    | (go_at_call 21; (with_reducible refine (HIR.out _ _ HPN.out).mono ?_); rintro e w9 ⟨rfl, hl9⟩)
                    | fail)
                  go_roundw
                  case measure => simp only [intOf]; omega
                  case rel => exact ⟨jj + 1, by omega, by omega, by simp, by rw [HONE.out], (HLR.out.trans HLK.out).trans (hl8.trans hl9)⟩
                · have hjj2 : (jj : Int) < j := by omega
                  have hjj3 : jj + 1 ≤ 15 := by omega
                  obtain ⟨q0, q1, q2, q3, q4, q5, q6, q7⟩ := HSX.out wr hl7
                  have r7 : wr.cell? ⟨r, 7, none⟩ = some (.slice ad jj cp) := by rw [cell_of_block hbr]; rfl
                  have hrlt := lt_of_block hbr
                  have HBRW := Lib.hid hbr; clear hbr
                  have HOW2 := Lib.hid (HOWN.out.alloc (.cells ([.int .i64 k, .int .i64 mn, .int .i64 mx, .int .u64 s0, .int .u64 s1, .int .u64 s2, .int .u64 s3, .slice a n cap] : List Value).toArray 26))
                  have hb2 := alloc_old HBRW.out (.cells ([.int .i64 k, .int .i64 mn, .int .i64 mx, .int .u64 s0, .int .u64 s1, .int .u64 s2, .int .u64 s3, .slice a n cap] : List Value).toArray 26)
                  have HB2 := Lib.hid hb2
                  have hnb : some r ≠ (Value.slice ad jj cp).ownBlock := by
                    intro he
                    have := (HOWN.out.lt r he.symm).1
                    omega
                  have HNB := Lib.hid hnb
                  clear hb2 hnb
                  go_wp2_with (first
                    | (refine wpList_append_lies _ rfl (.tmp 71) (.tmp 73) 24 rfl (r + 1) 26 i0 _ 8 80 Tryd.underlying24 hif hz0 hz1 hz2 rfl (by decide) (.slice ad jj cp) jj (rxCells (List.replicate jj XX)) rfl HOW2.out ⟨wr.heap.size, 0, none⟩ 1 1 [.int .i64 k, .int .i64 mn, .int .i64 mx, .int .u64 s0, .int .u64 s1, .int .u64 s2, .int .u64 s3, .slice a n cap] rfl rfl (cells_new wr [.int .i64 k, .int .i64 mn, .int .i64 mx, .int .u64 s0, .int .u64 s1, .int .u64 s2, .int .u64 s3, .slice a n cap] 26) H1X.out (by decide) (by unfold maxLen; omega) (by omega) (by simp; omega) _ rfl ?_
                       intro g cp2 w3 hown3 hgrow hgat hglt
                       have hv3 := (hgrow.block r (by simp; omega) HNB.out).trans HB2.out
                       have hf3 : w3.frozen? ⟨r, 7, none⟩ = false := free_of_block hv3 7
                       have hc3 : w3.cell? ⟨r, 7, none⟩ = some (.slice ad jj cp) := cell_of_block hv3 7
                       have HV3 := Lib.hid hv3
                       clear hv3)
                    | fail)
                  have hblk := setCell_block HV3.out 7 (.slice (some ⟨g, 0, none⟩) (jj + 1) cp2)
                  have hon3 : Only (fun q => q = r) w3 (w3.setCell ⟨r, 7, none⟩ (.slice (some ⟨g, 0, none⟩) (jj + 1) cp2)) := (Only.refl (fun q => q = r) w3).setCell (.inl rfl) _
                  refine ⟨⟨jj + 1, cp2, some ⟨g, 0, none⟩, by omega, hblk, ?_, ?_⟩, ?_⟩
                  · have := hon3.ownsRow hown3 (fun q hq hqr => by
                      have := (hown3.lt q hq).1
                      omega)
                    rw [List.replicate_succ', rxCells_snoc, HXC.out]
                    exact this
                  · refine ((HON.out.alloc _).grown hgrow (fun q hq => .inr ?_)).setCell (.inl rfl) _
                    have := (HOWN.out.lt q hq).1
                    rw [HS7.out]
                    exact this
                  · rw [cell_of_block hblk 7, r7]
                    show j - (jj + 1) < j - jj
                    omega
    · go_ret
      exact ⟨rfl, HL0.out.trans (by repeat (first | assumption | exact Later.refl _ | refine Later.drew ?_ | refine Later.drewN ?_ _ | refine Later.alloc ?_ _ | refine Later.trans ?_ (by assumption)))⟩
  · go_enter Tryd.func7, Tryd.ntmps7
    go_wp2_with fail
    rw [HW0.out]
    clear HW0
    go_quiet (fail)
    go_wp2_with (first
      | (go_at_call 15; (with_reducible refine (HFIX.out _ (by repeat (first | assumption | exact Later.refl _ | refine Later.drew ?_ | refine Later.drewN ?_ _ | refine Later.alloc ?_ _ | refine Later.trans ?_ (by assumption)))).mono ?_); rintro e w3 ⟨rfl, hb3⟩; have hl3 := Later.of hb3; clear hb3; have hq := HSX.out w3 (by repeat (first | assumption | exact Later.refl _ | refine Later.drew ?_ | refine Later.drewN ?_ _ | refine Later.alloc ?_ _ | refine Later.trans ?_ (by assumption))); obtain ⟨q0, q1, q2, q3, q4, q5, q6, q7⟩ := hq)
      | fail)
    all_goals (go_ret; exact ⟨rfl, HL0.out.trans (by repeat (first | assumption | exact Later.refl _ | refine Later.drew ?_ | refine Later.drewN ?_ _ | refine Later.alloc ?_ _ | refine Later.trans ?_ (by assumption)))⟩)
end Go.Proofs.YtaelkjffidjcjaaDoor
