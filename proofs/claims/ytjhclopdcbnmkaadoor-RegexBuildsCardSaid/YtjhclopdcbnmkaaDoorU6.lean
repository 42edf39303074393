/- RegexBuilds: patterns put together in brackets. (Printed by wip/gen_u6.py.) -/
import Derived.Test.YtjhclopdcbnmkaaDoorS9
import Derived.Test.YtjhclopdcbnmkaaDoorT1
import Derived.Test.YtjhclopdcbnmkaaDoorU2
import Derived.Test.YtjhclopdcbnmkaaDoorU4
import Derived.Test.YtjhclopdcbnmkaaDoorU5
set_option linter.unusedSimpArgs false
set_option linter.unusedVariables false
namespace Go.Proofs.YtjhclopdcbnmkaaDoor
open Go.RowKit PX

theorem print_is {x : Rx} (h : printE x = 0) : printS x = x.text ∧ x.formB = true ∧ x.sizeI ≤ 256 ∧ x.text.length ≤ 128 := by
  have hc : checkR x = 0 := by
    by_cases hc : checkR x = 0
    · exact hc
    · rw [printE_bad hc] at h; exact absurd h hc
  have hl : x.text.length ≤ 128 := by
    rw [printE_good hc] at h
    split at h
    · cases h
    · omega
  obtain ⟨hf, hs⟩ := checkR_parts hc
  refine ⟨?_, hf, hs, hl⟩
  unfold printS
  rw [if_pos h]
mutual
theorem ok_wide6 : ∀ {x : Rx}, Ok64 x → x.wide
  | .node _ _ _ s0 s1 s2 s3 l, h => by
    simp only [Ok64] at h
    simp only [Rx.wide]
    exact ⟨h.1, okAll_wide6 h.2⟩
theorem okAll_wide6 : ∀ {l : List Rx}, Ok64All l → wideAll l
  | [], _ => trivial
  | x :: xs, h => by
    simp only [Ok64All] at h
    exact ⟨ok_wide6 h.1, okAll_wide6 h.2⟩
end
theorem in_wide6 {w : World} {B : Nat} {X : RxA} (h : X.In w B) : X.bare.wide := ok_wide6 (in_ok64 h)
theorem list_le (X : RxA) (h : X.bare.sizeI ≤ 256) : X.bare.list.length ≤ 1000 := by
  obtain ⟨k, mn, mx, s0, s1, s2, s3, a, cap, l⟩ := X
  rw [Rx.sizeI_eq] at h
  simp only [RxA.bare, Rx.big] at h
  have h1 := times_pos k mn mx
  have h2 := bigAll_nonneg (bareAll l)
  have h3 := Int.mul_le_mul_of_nonneg_right h1 h2
  have h4 := bigAll_len l
  have h5 : (bareAll l).length = l.length := bareAll_len l
  show (bareAll l).length ≤ 1000
  omega
theorem at_of2 {w0 w : World} {X Y : RxA} (hx : X.In w0 w0.heap.size) (hy : Y.In w0 w0.heap.size) (hl : Later w0 w) (b : Nat) (cs : Array Value) (fr : Nat × Nat) (hb : w.heap[b]? = some (.cells cs 26 fr)) (hcs : cs = (X.cells ++ Y.cells).toArray) (k : Int) (hk : I64 k) :
    (RxA.node k 0 0 0 0 0 0 (some ⟨b, 0, none⟩) 2 [X, Y]).In w w.heap.size := by
  have hc : ∀ j, w.cell? ⟨b, j, none⟩ = cs[j]? := fun j => by simp [World.cell?, hb]
  simp only [RxA.In]
  refine ⟨⟨hk, ⟨by omega, by omega⟩, ⟨by omega, by omega⟩, ⟨by omega, by omega⟩, ⟨by omega, by omega⟩, ⟨by omega, by omega⟩, ⟨by omega, by omega⟩⟩, by simp, by decide, by simp, .inr ⟨b, 0, rfl, lt_of_block hb, ?_⟩⟩
  refine inL_of_row (fun j u hu => ?_) (fun Z hZ => ?_)
  · rw [Nat.zero_add, hc, hcs]; simpa [rxCells] using hu
  · rcases List.mem_cons.1 hZ with rfl | hZ
    · exact in_later8 hx hl
    · rw [List.mem_singleton.1 hZ]; exact in_later8 hy hl
theorem at_of1 {w0 w : World} {X : RxA} (hx : X.In w0 w0.heap.size) (hl : Later w0 w) (b : Nat) (cs : Array Value) (fr : Nat × Nat) (hb : w.heap[b]? = some (.cells cs 26 fr)) (hcs : cs = X.cells.toArray) (mn mx : Int) (hmn : I64 mn) (hmx : I64 mx) :
    (RxA.node 3 mn mx 0 0 0 0 (some ⟨b, 0, none⟩) 1 [X]).In w w.heap.size := by
  have hc : ∀ j, w.cell? ⟨b, j, none⟩ = cs[j]? := fun j => by simp [World.cell?, hb]
  simp only [RxA.In]
  refine ⟨⟨⟨by omega, by omega⟩, hmn, hmx, ⟨by omega, by omega⟩, ⟨by omega, by omega⟩, ⟨by omega, by omega⟩, ⟨by omega, by omega⟩⟩, by simp, by decide, by simp, .inr ⟨b, 0, rfl, lt_of_block hb, ?_⟩⟩
  refine inL_of_row (fun j u hu => ?_) (fun Z hZ => ?_)
  · rw [Nat.zero_add, hc, hcs]; simpa [rxCells] using hu
  · rw [List.mem_singleton.1 hZ]; exact in_later8 hx hl
/-- What told tells of a text that reads as an expression. -/
theorem tells_of {S : ByteArray} {s : List UInt8} {x : Rx} (hs : S.data.toList = s) (h : ReadsAs s x) (hf : x.formB = true) (w1 : World) (Z : RxA) (hz : Z.In w1 w1.heap.size) (hb : Z.bare = x) :
    Calls Tryd.prog 15 #[.string S, Z.val] w1 fun e w' => e = .returned (.bool true) ∧ Later w1 w' :=
  law_told w1 S Z hz (by rw [hs, hb]; exact told_of h hf)
theorem par_data (P : ByteArray) (p : List UInt8) (h : P.data.toList = p) : ((⟨#[40]⟩ : ByteArray) ++ P ++ ⟨#[41]⟩).data.toList = par p := by
  rw [← h]
  simp [par]
set_option maxRecDepth 100000 in
set_option maxHeartbeats 4000000 in
theorem builds_any (w : World) (X Y : RxA) (n : Int) (hn : I64 n) (hx : X.In w w.heap.size) (hy : Y.In w w.heap.size) (hP : PowAt w) :
    Calls Tryd.prog 5 #[X.val, Y.val, .int .i64 n] w fun e w' => e = .returned (.bool true) ∧ Later w w' := by
  obtain ⟨w0, hw0⟩ : ∃ w0, (w.alloc (.cells X.cells.toArray 26)).alloc (.cells Y.cells.toArray 26) = w0 := ⟨_, rfl⟩
  have hl0 : Later w w0 := by rw [← hw0]; exact ((Later.refl w).alloc _).alloc _
  have hx0 : w0.heap[w.heap.size]? = some (.cells X.cells.toArray 26 (0, 0)) := by rw [← hw0]; exact alloc_old (alloc_block w _) _
  have hy0 : w0.heap[w.heap.size + 1]? = some (.cells Y.cells.toArray 26 (0, 0)) := by
    have := alloc_block (w.alloc (.cells X.cells.toArray 26)) (.cells Y.cells.toArray 26)
    rw [World.size_alloc] at this
    rw [← hw0]; exact this
  have hxi := in_later8 hx hl0
  have hyi := in_later8 hy hl0
  have hxw := in_wide6 hx
  have hyw := in_wide6 hy
  have hlle := list_le X
  obtain ⟨x, hxb⟩ : ∃ x, X.bare = x := ⟨_, rfl⟩
  obtain ⟨y, hyb⟩ : ∃ y, Y.bare = y := ⟨_, rfl⟩
  rw [hxb] at hxw hlle
  rw [hyb] at hyw
  obtain ⟨PE, hPE⟩ : ∃ PE, printE x = PE := ⟨_, rfl⟩
  obtain ⟨QE, hQE⟩ : ∃ QE, printE y = QE := ⟨_, rfl⟩
  obtain ⟨PS, hPS⟩ : ∃ PS : ByteArray, (⟨(printS x).toArray⟩ : ByteArray) = PS := ⟨_, rfl⟩
  obtain ⟨QS, hQS⟩ : ∃ QS : ByteArray, (⟨(printS y).toArray⟩ : ByteArray) = QS := ⟨_, rfl⟩
  have HFIX := Lib.hid (fun w1 (h1 : Later w0 w1) => fixed05_any w1 (hP.later (hl0.trans h1)))
  have HPX := Lib.hid (fun w1 (h1 : Later w0 w1) => (show Calls Tryd.prog 9 #[X.val] w1 fun e w' => e = .returned (.tuple #[.string PS, .int .i64 PE]) ∧ Later w1 w' from by
    have h := print_any w1 X (in_later8 hxi h1) (hP.later (hl0.trans h1))
    rw [hxb, hPE, hPS] at h
    exact h))
  have HPY := Lib.hid (fun w1 (h1 : Later w0 w1) => (show Calls Tryd.prog 9 #[Y.val] w1 fun e w' => e = .returned (.tuple #[.string QS, .int .i64 QE]) ∧ Later w1 w' from by
    have h := print_any w1 Y (in_later8 hyi h1) (hP.later (hl0.trans h1))
    rw [hyb, hQE, hQS] at h
    exact h))
  have hn64 : -9223372036854775808 ≤ n ∧ n ≤ 9223372036854775807 := by unfold I64 at hn; omega
  have HPS := Lib.hid (show PE = 0 → PS.data.toList = x.text ∧ PS.size ≤ 128 ∧ x.formB = true ∧ x.sizeI ≤ 256 from fun h0 => by
    obtain ⟨h1, h2, h3, h4⟩ := print_is (hPE.trans h0)
    rw [h1] at hPS
    refine ⟨by rw [← hPS], ?_, h2, h3⟩
    rw [← hPS]
    show x.text.toArray.size ≤ 128
    rw [List.size_toArray]; exact h4)
  have HQS := Lib.hid (show QE = 0 → QS.data.toList = y.text ∧ QS.size ≤ 128 ∧ y.formB = true ∧ y.sizeI ≤ 256 from fun h0 => by
    obtain ⟨h1, h2, h3, h4⟩ := print_is (hQE.trans h0)
    rw [h1] at hQS
    refine ⟨by rw [← hQS], ?_, h2, h3⟩
    rw [← hQS]
    show y.text.toArray.size ≤ 128
    rw [List.size_toArray]; exact h4)
  have HXI := Lib.hid hxi
  have HYI := Lib.hid hyi
  have HXB := Lib.hid hxb
  have HYB := Lib.hid hyb
  have HXW := Lib.hid hxw
  have HYW := Lib.hid hyw
  have HLLE := Lib.hid hlle
  have HRW := Lib.hid (fun (hf : x.formB = true) (hs : x.sizeI ≤ 256) w1 (h1 : Later w0 w1) => law_rows w1 X Y (in_later8 HXI.out h1) (in_later8 HYI.out h1) (by rw [HXB.out]; exact hf) (by rw [HXB.out]; exact HLLE.out hs))
  have HT1 := Lib.hid (fun (S : ByteArray) (s : List UInt8) (hs : S.data.toList = s) (hr : ReadsAs s x) (hf : x.formB = true) w1 (h1 : Later w0 w1) => tells_of hs hr hf w1 X (in_later8 HXI.out h1) HXB.out)
  have HT2 := Lib.hid (fun (S : ByteArray) (s : List UInt8) (k : Int) (hs : S.data.toList = s) (hr : ReadsAs s (.node k 0 0 0 0 0 0 [x, y])) (hf : (Rx.node k 0 0 0 0 0 0 [x, y]).formB = true) (hk : I64 k) w1 (h1 : Later w0 w1) (b : Nat) (cs : Array Value) (fr : Nat × Nat) (hb : w1.heap[b]? = some (.cells cs 26 fr)) (hcs : cs = (X.cells ++ Y.cells).toArray) =>
    (show Calls Tryd.prog 15 #[.string S, .agg #[.int .i64 k, .int .i64 0, .int .i64 0, .int .u64 0, .int .u64 0, .int .u64 0, .int .u64 0, .slice (some ⟨b, 0, none⟩) 2 2]] w1 fun e w' => e = .returned (.bool true) ∧ Later w1 w' from
      tells_of hs hr hf w1 (RxA.node k 0 0 0 0 0 0 (some ⟨b, 0, none⟩) 2 [X, Y]) (at_of2 HXI.out HYI.out h1 b cs fr hb hcs k hk) (by simp only [RxA.bare, bareAll, HXB.out, HYB.out])))
  have HT3 := Lib.hid (fun (S : ByteArray) (s : List UInt8) (mn mx : Int) (hs : S.data.toList = s) (hr : ReadsAs s (.rep mn mx x)) (hf : (Rx.rep mn mx x).formB = true) (hmn : I64 mn) (hmx : I64 mx) w1 (h1 : Later w0 w1) (b : Nat) (cs : Array Value) (fr : Nat × Nat) (hb : w1.heap[b]? = some (.cells cs 26 fr)) (hcs : cs = X.cells.toArray) =>
    (show Calls Tryd.prog 15 #[.string S, .agg #[.int .i64 3, .int .i64 mn, .int .i64 mx, .int .u64 0, .int .u64 0, .int .u64 0, .int .u64 0, .slice (some ⟨b, 0, none⟩) 1 1]] w1 fun e w' => e = .returned (.bool true) ∧ Later w1 w' from
      tells_of hs hr hf w1 (RxA.node 3 mn mx 0 0 0 0 (some ⟨b, 0, none⟩) 1 [X]) (at_of1 HXI.out h1 b cs fr hb hcs mn mx hmn hmx) (by simp only [RxA.bare, bareAll, HXB.out, Rx.rep])))
  have HT5 := Lib.hid (fun (S : ByteArray) (s : List UInt8) (hs : S.data.toList = s) (hr : ReadsAs s (.node 2 0 0 0 0 0 0 (rowsOf x ++ [x] ++ [y]))) (hf : (Rx.node 2 0 0 0 0 0 0 (rowsOf x ++ [x] ++ [y])).formB = true) w1 (p : Option Addr) (c : Nat) (L : List RxA) (hin : (RxA.node 2 0 0 0 0 0 0 p c L).In w1 w1.heap.size) (hL : bareAll L = rowsOf X.bare ++ [X.bare] ++ [Y.bare]) =>
    (show Calls Tryd.prog 15 #[.string S, .agg #[.int .i64 2, .int .i64 0, .int .i64 0, .int .u64 0, .int .u64 0, .int .u64 0, .int .u64 0, .slice p L.length c]] w1 fun e w' => e = .returned (.bool true) ∧ Later w1 w' from
      tells_of hs hr hf w1 (RxA.node 2 0 0 0 0 0 0 p c L) hin (by simp only [RxA.bare]; rw [hL, HXB.out, HYB.out])))
  clear hx hy hP hxi hyi hxb hyb hPE hQE hPS hQS hxw hyw hlle hn
  obtain ⟨k, mn, mx, s0, s1, s2, s3, a, cap, l⟩ := X
  obtain ⟨k', mn', mx', s0', s1', s2', s3', a', cap', l'⟩ := Y
  simp only [RxA.val, RxA.cells, List.cons_append, List.nil_append] at HPX HPY HRW HT1 HT2 HT3 HT5 hx0 hy0 hw0 ⊢
  obtain ⟨b0, hb0⟩ : ∃ b0, w.heap.size = b0 := ⟨_, rfl⟩
  rw [hb0] at hx0 hy0
  have HS := Lib.hid (show ∀ w', Later w0 w' → w'.cell? ⟨b0, 0, none⟩ = some (.int .i64 k) ∧ w'.cell? ⟨b0, 1, none⟩ = some (.int .i64 mn) ∧ w'.cell? ⟨b0, 2, none⟩ = some (.int .i64 mx) ∧ w'.cell? ⟨b0, 3, none⟩ = some (.int .u64 s0) ∧ w'.cell? ⟨b0, 4, none⟩ = some (.int .u64 s1) ∧ w'.cell? ⟨b0, 5, none⟩ = some (.int .u64 s2) ∧ w'.cell? ⟨b0, 6, none⟩ = some (.int .u64 s3) ∧ w'.cell? ⟨b0, 7, none⟩ = some (.slice a l.length cap) ∧ w'.cell? ⟨b0 + 1, 0, none⟩ = some (.int .i64 k') ∧ w'.cell? ⟨b0 + 1, 1, none⟩ = some (.int .i64 mn') ∧ w'.cell? ⟨b0 + 1, 2, none⟩ = some (.int .i64 mx') ∧ w'.cell? ⟨b0 + 1, 3, none⟩ = some (.int .u64 s0') ∧ w'.cell? ⟨b0 + 1, 4, none⟩ = some (.int .u64 s1') ∧ w'.cell? ⟨b0 + 1, 5, none⟩ = some (.int .u64 s2') ∧ w'.cell? ⟨b0 + 1, 6, none⟩ = some (.int .u64 s3') ∧ w'.cell? ⟨b0 + 1, 7, none⟩ = some (.slice a' l'.length cap') from by
    intro w' h'
    have h1 := h'.block hx0
    have h2 := h'.block hy0
    refine ⟨?_, ?_, ?_, ?_, ?_, ?_, ?_, ?_, ?_, ?_, ?_, ?_, ?_, ?_, ?_, ?_⟩ <;> first | exact cell_of_block h1 _ | exact cell_of_block h2 _)
  have HSZ := Lib.hid (fun w' (h' : Later w0 w') => show b0 < w'.heap.size ∧ b0 + 1 < w'.heap.size from ⟨lt_of_block (h'.block hx0), lt_of_block (h'.block hy0)⟩)
  have HL0 := Lib.hid hl0
  have HW0 := Lib.hid hw0
  have HB0 := Lib.hid hb0
  clear hl0 hw0 hx0 hy0
  have hcase : ((PE != 0) = true) ∨ (PE = 0 ∧ (QE != 0) = true) ∨ (PE = 0 ∧ QE = 0 ∧ n < 0) ∨ (PE = 0 ∧ QE = 0 ∧ 0 ≤ n ∧ 15 < n) ∨ (PE = 0 ∧ QE = 0 ∧ 0 ≤ n ∧ n ≤ 9) ∨ (PE = 0 ∧ QE = 0 ∧ 9 < n ∧ n ≤ 15) := by
    simp only [bne_iff_ne, ne_eq]
    omega
  clear hn64
  rcases hcase with hc | ⟨rfl, hc⟩ | ⟨rfl, rfl, hc⟩ | ⟨rfl, rfl, hc0, hc⟩ | ⟨rfl, rfl, hc0, hc⟩ | ⟨rfl, rfl, hc0, hc⟩
  · skip
    go_enter Tryd.func5, Tryd.ntmps5
    go_upto_region 1 with fail
    rw [HW0.out]
    try rw [HB0.out]
    obtain ⟨d0, d1, d2, d3, d4, d5, d6, d7, d8, d9, d10, d11, d12, d13, d14, d15⟩ := HS.out w0 (Later.refl _)
    obtain ⟨dlt, dlt'⟩ := HSZ.out w0 (Later.refl _)
    go_wp2_with (first
      | (go_at_call 9; (with_reducible refine (HPX.out _ (Later.refl _)).mono ?_); rintro e w1 ⟨rfl, hl1⟩; clear d0 d1 d2 d3 d4 d5 d6 d7 d8 d9 d10 d11 d12 d13 d14 d15 dlt dlt'; obtain ⟨d0, d1, d2, d3, d4, d5, d6, d7, d8, d9, d10, d11, d12, d13, d14, d15⟩ := HS.out w1 (by repeat (first | assumption | exact Later.refl _ | refine Later.alloc ?_ _ | refine Later.drew ?_ | refine Later.drewN ?_ _ | refine Later.trans ?_ (by assumption))); obtain ⟨dlt, dlt'⟩ := HSZ.out w1 (by repeat (first | assumption | exact Later.refl _ | refine Later.alloc ?_ _ | refine Later.drew ?_ | refine Later.drewN ?_ _ | refine Later.trans ?_ (by assumption))))
      | (go_at_call 9; (with_reducible refine (HPY.out _ (by repeat (first | assumption | exact Later.refl _ | refine Later.alloc ?_ _ | refine Later.drew ?_ | refine Later.drewN ?_ _ | refine Later.trans ?_ (by assumption)))).mono ?_); rintro e w2 ⟨rfl, hl2⟩; clear d0 d1 d2 d3 d4 d5 d6 d7 d8 d9 d10 d11 d12 d13 d14 d15 dlt dlt'; obtain ⟨d0, d1, d2, d3, d4, d5, d6, d7, d8, d9, d10, d11, d12, d13, d14, d15⟩ := HS.out w2 (by repeat (first | assumption | exact Later.refl _ | refine Later.alloc ?_ _ | refine Later.drew ?_ | refine Later.drewN ?_ _ | refine Later.trans ?_ (by assumption))); obtain ⟨dlt, dlt'⟩ := HSZ.out w2 (by repeat (first | assumption | exact Later.refl _ | refine Later.alloc ?_ _ | refine Later.drew ?_ | refine Later.drewN ?_ _ | refine Later.trans ?_ (by assumption))))
      | (go_at_call 10; (with_reducible refine (HFIX.out _ (by repeat (first | assumption | exact Later.refl _ | refine Later.alloc ?_ _ | refine Later.drew ?_ | refine Later.drewN ?_ _ | refine Later.trans ?_ (by assumption)))).mono ?_); rintro e w3 ⟨rfl, hl3⟩; clear d0 d1 d2 d3 d4 d5 d6 d7 d8 d9 d10 d11 d12 d13 d14 d15 dlt dlt'; obtain ⟨d0, d1, d2, d3, d4, d5, d6, d7, d8, d9, d10, d11, d12, d13, d14, d15⟩ := HS.out w3 (by repeat (first | assumption | exact Later.refl _ | refine Later.alloc ?_ _ | refine Later.drew ?_ | refine Later.drewN ?_ _ | refine Later.trans ?_ (by assumption))); obtain ⟨dlt, dlt'⟩ := HSZ.out w3 (by repeat (first | assumption | exact Later.refl _ | refine Later.alloc ?_ _ | refine Later.drew ?_ | refine Later.drewN ?_ _ | refine Later.trans ?_ (by assumption))))
      | fail)
    go_ret
    exact ⟨rfl, HL0.out.trans (by repeat (first | assumption | exact Later.refl _ | refine Later.alloc ?_ _ | refine Later.drew ?_ | refine Later.drewN ?_ _ | refine Later.trans ?_ (by assumption)))⟩
  · skip
    go_enter Tryd.func5, Tryd.ntmps5
    go_upto_region 1 with fail
    rw [HW0.out]
    try rw [HB0.out]
    obtain ⟨d0, d1, d2, d3, d4, d5, d6, d7, d8, d9, d10, d11, d12, d13, d14, d15⟩ := HS.out w0 (Later.refl _)
    obtain ⟨dlt, dlt'⟩ := HSZ.out w0 (Later.refl _)
    go_wp2_with (first
      | (go_at_call 9; (with_reducible refine (HPX.out _ (Later.refl _)).mono ?_); rintro e w1 ⟨rfl, hl1⟩; clear d0 d1 d2 d3 d4 d5 d6 d7 d8 d9 d10 d11 d12 d13 d14 d15 dlt dlt'; obtain ⟨d0, d1, d2, d3, d4, d5, d6, d7, d8, d9, d10, d11, d12, d13, d14, d15⟩ := HS.out w1 (by repeat (first | assumption | exact Later.refl _ | refine Later.alloc ?_ _ | refine Later.drew ?_ | refine Later.drewN ?_ _ | refine Later.trans ?_ (by assumption))); obtain ⟨dlt, dlt'⟩ := HSZ.out w1 (by repeat (first | assumption | exact Later.refl _ | refine Later.alloc ?_ _ | refine Later.drew ?_ | refine Later.drewN ?_ _ | refine Later.trans ?_ (by assumption))))
      | (go_at_call 9; (with_reducible refine (HPY.out _ (by repeat (first | assumption | exact Later.refl _ | refine Later.alloc ?_ _ | refine Later.drew ?_ | refine Later.drewN ?_ _ | refine Later.trans ?_ (by assumption)))).mono ?_); rintro e w2 ⟨rfl, hl2⟩; clear d0 d1 d2 d3 d4 d5 d6 d7 d8 d9 d10 d11 d12 d13 d14 d15 dlt dlt'; obtain ⟨d0, d1, d2, d3, d4, d5, d6, d7, d8, d9, d10, d11, d12, d13, d14, d15⟩ := HS.out w2 (by repeat (first | assumption | exact Later.refl _ | refine Later.alloc ?_ _ | refine Later.drew ?_ | refine Later.drewN ?_ _ | refine Later.trans ?_ (by assumption))); obtain ⟨dlt, dlt'⟩ := HSZ.out w2 (by repeat (first | assumption | exact Later.refl _ | refine Later.alloc ?_ _ | refine Later.drew ?_ | refine Later.drewN ?_ _ | refine Later.trans ?_ (by assumption))))
      | (go_at_call 10; (with_reducible refine (HFIX.out _ (by repeat (first | assumption | exact Later.refl _ | refine Later.alloc ?_ _ | refine Later.drew ?_ | refine Later.drewN ?_ _ | refine Later.trans ?_ (by assumption)))).mono ?_); rintro e w3 ⟨rfl, hl3⟩; clear d0 d1 d2 d3 d4 d5 d6 d7 d8 d9 d10 d11 d12 d13 d14 d15 dlt dlt'; obtain ⟨d0, d1, d2, d3, d4, d5, d6, d7, d8, d9, d10, d11, d12, d13, d14, d15⟩ := HS.out w3 (by repeat (first | assumption | exact Later.refl _ | refine Later.alloc ?_ _ | refine Later.drew ?_ | refine Later.drewN ?_ _ | refine Later.trans ?_ (by assumption))); obtain ⟨dlt, dlt'⟩ := HSZ.out w3 (by repeat (first | assumption | exact Later.refl _ | refine Later.alloc ?_ _ | refine Later.drew ?_ | refine Later.drewN ?_ _ | refine Later.trans ?_ (by assumption))))
      | fail)
    go_ret
    exact ⟨rfl, HL0.out.trans (by repeat (first | assumption | exact Later.refl _ | refine Later.alloc ?_ _ | refine Later.drew ?_ | refine Later.drewN ?_ _ | refine Later.trans ?_ (by assumption)))⟩
  · skip
    go_enter Tryd.func5, Tryd.ntmps5
    go_upto_region 1 with fail
    rw [HW0.out]
    try rw [HB0.out]
    obtain ⟨d0, d1, d2, d3, d4, d5, d6, d7, d8, d9, d10, d11, d12, d13, d14, d15⟩ := HS.out w0 (Later.refl _)
    obtain ⟨dlt, dlt'⟩ := HSZ.out w0 (Later.refl _)
    go_wp2_with (first
      | (go_at_call 9; (with_reducible refine (HPX.out _ (Later.refl _)).mono ?_); rintro e w1 ⟨rfl, hl1⟩; clear d0 d1 d2 d3 d4 d5 d6 d7 d8 d9 d10 d11 d12 d13 d14 d15 dlt dlt'; obtain ⟨d0, d1, d2, d3, d4, d5, d6, d7, d8, d9, d10, d11, d12, d13, d14, d15⟩ := HS.out w1 (by repeat (first | assumption | exact Later.refl _ | refine Later.alloc ?_ _ | refine Later.drew ?_ | refine Later.drewN ?_ _ | refine Later.trans ?_ (by assumption))); obtain ⟨dlt, dlt'⟩ := HSZ.out w1 (by repeat (first | assumption | exact Later.refl _ | refine Later.alloc ?_ _ | refine Later.drew ?_ | refine Later.drewN ?_ _ | refine Later.trans ?_ (by assumption))))
      | (go_at_call 9; (with_reducible refine (HPY.out _ (by repeat (first | assumption | exact Later.refl _ | refine Later.alloc ?_ _ | refine Later.drew ?_ | refine Later.drewN ?_ _ | refine Later.trans ?_ (by assumption)))).mono ?_); rintro e w2 ⟨rfl, hl2⟩; clear d0 d1 d2 d3 d4 d5 d6 d7 d8 d9 d10 d11 d12 d13 d14 d15 dlt dlt'; obtain ⟨d0, d1, d2, d3, d4, d5, d6, d7, d8, d9, d10, d11, d12, d13, d14, d15⟩ := HS.out w2 (by repeat (first | assumption | exact Later.refl _ | refine Later.alloc ?_ _ | refine Later.drew ?_ | refine Later.drewN ?_ _ | refine Later.trans ?_ (by assumption))); obtain ⟨dlt, dlt'⟩ := HSZ.out w2 (by repeat (first | assumption | exact Later.refl _ | refine Later.alloc ?_ _ | refine Later.drew ?_ | refine Later.drewN ?_ _ | refine Later.trans ?_ (by assumption))))
      | (go_at_call 10; (with_reducible refine (HFIX.out _ (by repeat (first | assumption | exact Later.refl _ | refine Later.alloc ?_ _ | refine Later.drew ?_ | refine Later.drewN ?_ _ | refine Later.trans ?_ (by assumption)))).mono ?_); rintro e w3 ⟨rfl, hl3⟩; clear d0 d1 d2 d3 d4 d5 d6 d7 d8 d9 d10 d11 d12 d13 d14 d15 dlt dlt'; obtain ⟨d0, d1, d2, d3, d4, d5, d6, d7, d8, d9, d10, d11, d12, d13, d14, d15⟩ := HS.out w3 (by repeat (first | assumption | exact Later.refl _ | refine Later.alloc ?_ _ | refine Later.drew ?_ | refine Later.drewN ?_ _ | refine Later.trans ?_ (by assumption))); obtain ⟨dlt, dlt'⟩ := HSZ.out w3 (by repeat (first | assumption | exact Later.refl _ | refine Later.alloc ?_ _ | refine Later.drew ?_ | refine Later.drewN ?_ _ | refine Later.trans ?_ (by assumption))))
      | fail)
    go_ret
    exact ⟨rfl, HL0.out.trans (by repeat (first | assumption | exact Later.refl _ | refine Later.alloc ?_ _ | refine Later.drew ?_ | refine Later.drewN ?_ _ | refine Later.trans ?_ (by assumption)))⟩
  · skip
    go_enter Tryd.func5, Tryd.ntmps5
    go_upto_region 1 with fail
    rw [HW0.out]
    try rw [HB0.out]
    obtain ⟨d0, d1, d2, d3, d4, d5, d6, d7, d8, d9, d10, d11, d12, d13, d14, d15⟩ := HS.out w0 (Later.refl _)
    obtain ⟨dlt, dlt'⟩ := HSZ.out w0 (Later.refl _)
    go_wp2_with (first
      | (go_at_call 9; (with_reducible refine (HPX.out _ (Later.refl _)).mono ?_); rintro e w1 ⟨rfl, hl1⟩; clear d0 d1 d2 d3 d4 d5 d6 d7 d8 d9 d10 d11 d12 d13 d14 d15 dlt dlt'; obtain ⟨d0, d1, d2, d3, d4, d5, d6, d7, d8, d9, d10, d11, d12, d13, d14, d15⟩ := HS.out w1 (by repeat (first | assumption | exact Later.refl _ | refine Later.alloc ?_ _ | refine Later.drew ?_ | refine Later.drewN ?_ _ | refine Later.trans ?_ (by assumption))); obtain ⟨dlt, dlt'⟩ := HSZ.out w1 (by repeat (first | assumption | exact Later.refl _ | refine Later.alloc ?_ _ | refine Later.drew ?_ | refine Later.drewN ?_ _ | refine Later.trans ?_ (by assumption))))
      | (go_at_call 9; (with_reducible refine (HPY.out _ (by repeat (first | assumption | exact Later.refl _ | refine Later.alloc ?_ _ | refine Later.drew ?_ | refine Later.drewN ?_ _ | refine Later.trans ?_ (by assumption)))).mono ?_); rintro e w2 ⟨rfl, hl2⟩; clear d0 d1 d2 d3 d4 d5 d6 d7 d8 d9 d10 d11 d12 d13 d14 d15 dlt dlt'; obtain ⟨d0, d1, d2, d3, d4, d5, d6, d7, d8, d9, d10, d11, d12, d13, d14, d15⟩ := HS.out w2 (by repeat (first | assumption | exact Later.refl _ | refine Later.alloc ?_ _ | refine Later.drew ?_ | refine Later.drewN ?_ _ | refine Later.trans ?_ (by assumption))); obtain ⟨dlt, dlt'⟩ := HSZ.out w2 (by repeat (first | assumption | exact Later.refl _ | refine Later.alloc ?_ _ | refine Later.drew ?_ | refine Later.drewN ?_ _ | refine Later.trans ?_ (by assumption))))
      | (go_at_call 10; (with_reducible refine (HFIX.out _ (by repeat (first | assumption | exact Later.refl _ | refine Later.alloc ?_ _ | refine Later.drew ?_ | refine Later.drewN ?_ _ | refine Later.trans ?_ (by assumption)))).mono ?_); rintro e w3 ⟨rfl, hl3⟩; clear d0 d1 d2 d3 d4 d5 d6 d7 d8 d9 d10 d11 d12 d13 d14 d15 dlt dlt'; obtain ⟨d0, d1, d2, d3, d4, d5, d6, d7, d8, d9, d10, d11, d12, d13, d14, d15⟩ := HS.out w3 (by repeat (first | assumption | exact Later.refl _ | refine Later.alloc ?_ _ | refine Later.drew ?_ | refine Later.drewN ?_ _ | refine Later.trans ?_ (by assumption))); obtain ⟨dlt, dlt'⟩ := HSZ.out w3 (by repeat (first | assumption | exact Later.refl _ | refine Later.alloc ?_ _ | refine Later.drew ?_ | refine Later.drewN ?_ _ | refine Later.trans ?_ (by assumption))))
      | fail)
    go_ret
    exact ⟨rfl, HL0.out.trans (by repeat (first | assumption | exact Later.refl _ | refine Later.alloc ?_ _ | refine Later.drew ?_ | refine Later.drewN ?_ _ | refine Later.trans ?_ (by assumption)))⟩
  · skip
    obtain ⟨hpd, hps, hxf, hxs⟩ := HPS.out rfl
    obtain ⟨hqd, hqs, hyf, hys⟩ := HQS.out rfl
    have hrx := reads_text hxf HXW.out
    have hry := reads_text hyf HYW.out
    obtain ⟨SA, hSA⟩ : ∃ SA : ByteArray, (⟨#[40]⟩ : ByteArray) ++ PS ++ ⟨#[41]⟩ = SA := ⟨_, rfl⟩
    obtain ⟨SB, hSB⟩ : ∃ SB : ByteArray, (⟨#[40]⟩ : ByteArray) ++ QS ++ ⟨#[41]⟩ = SB := ⟨_, rfl⟩
    have hda : SA.data.toList = par x.text := by rw [← hSA]; exact par_data _ _ hpd
    have hdb : SB.data.toList = par y.text := by rw [← hSB]; exact par_data _ _ hqd
    have hsa : SA.size ≤ 130 := by rw [← hSA]; simp only [ByteArray.size_append]; show 1 + PS.size + 1 ≤ 130; omega
    have hsb : SB.size ≤ 130 := by rw [← hSB]; simp only [ByteArray.size_append]; show 1 + QS.size + 1 ≤ 130; omega
    obtain ⟨c, hcz⟩ : ∃ c : UInt8, (c.toNat : Int) = 48 + n % 10 := ⟨UInt8.ofNat (48 + n % 10).toNat, by rw [UInt8.toNat_ofNat']; omega⟩
    obtain ⟨DB, hDB⟩ : ∃ DB : ByteArray, (⟨#[c]⟩ : ByteArray) = DB := ⟨_, rfl⟩
    have hdbs : DB.size = 1 := by rw [← hDB]; rfl
    have hdd : DB.data.toList = numT n.toNat := by
      rw [← hDB]
      have : c = UInt8.ofNat (48 + n.toNat) := by apply UInt8.toNat_inj.1; rw [UInt8.toNat_ofNat']; omega
      rw [this]
      unfold numT
      rw [if_pos (by omega)]
    have hds : DB.size ≤ 2 := by omega
    have hconv : ∀ W : World, (convert 38 9 (.slice (some ⟨W.heap.size, 0, none⟩) 1 1)).run Tryd.prog (W.alloc (.cells #[.int .u8 (48 + n % 10)] 5)) = .ok (.string DB) (W.alloc (.cells #[.int .u8 (48 + n % 10)] 5)) := fun W => by
      rw [← hcz, ← hDB]
      exact conv_bytes W [c] _ rfl
    have g0 : 0 ≤ n ∧ n ≤ 15 := by omega
    have K1 := Lib.hid (HT1.out SA _ hda (par_reads hrx) hxf)
    have K2 := Lib.hid (HT1.out (⟨#[40, 40]⟩ ++ PS ++ ⟨#[41, 41]⟩) (par (par x.text)) (by simp [par, hpd]) (par_reads (par_reads hrx)) hxf)
    have K3 := Lib.hid (HT2.out (SA ++ SB) _ 1 (by rw [ByteArray.data_append, Array.toList_append, hda, hdb]) (row2_reads hrx hry) (form_row2 hxf hyf) (by unfold I64; omega))
    have K4 := Lib.hid (HT2.out (SA ++ ⟨#[124]⟩ ++ SB) (par x.text ++ 124 :: par y.text) 2 (by simp [hda, hdb]) (alt2_reads hrx hry) (form_alt (by simp [formAll, hxf, hyf]) (by simp)) (by unfold I64; omega))
    have K5 := Lib.hid (HT5.out (PS ++ ⟨#[124]⟩ ++ SA ++ ⟨#[124]⟩ ++ SB) (x.text ++ 124 :: (par x.text ++ 124 :: par y.text)) (by simp [hda, hdb, hpd]) (alt3_reads hxf HXW.out hrx hry) (form_alt (formAll_rows hxf hxf hyf) rows_two))
    have K6 := Lib.hid (HT3.out (SA ++ ⟨#[42]⟩) (par x.text ++ [42]) 0 (-1) (by simp [hda]) (sign_reads hrx (fun r => sign_star x r)) (form_rep hxf (by omega)) (by unfold I64; omega) (by unfold I64; omega))
    have K7 := Lib.hid (HT3.out (SA ++ ⟨#[43]⟩) (par x.text ++ [43]) 1 (-1) (by simp [hda]) (sign_reads hrx (fun r => sign_plus x r)) (form_rep hxf (by omega)) (by unfold I64; omega) (by unfold I64; omega))
    have K8 := Lib.hid (HT3.out (SA ++ ⟨#[63]⟩) (par x.text ++ [63]) 0 1 (by simp [hda]) (sign_reads hrx (fun r => sign_may x r)) (form_rep hxf (by omega)) (by unfold I64; omega) (by unfold I64; omega))
    have K9 := Lib.hid (HT3.out (SA ++ ⟨#[123]⟩ ++ DB ++ ⟨#[125]⟩) (par x.text ++ (123 :: (numT n.toNat ++ [125]))) n n (by simp [hda, hdd]) (sign_reads hrx (fun r => sign_just g0.1 g0.2 x r)) (form_rep hxf (by omega)) (by unfold I64; omega) (by unfold I64; omega))
    have Ka := Lib.hid (HT3.out (SA ++ ⟨#[123]⟩ ++ DB ++ ⟨#[44, 125]⟩) (par x.text ++ (123 :: (numT n.toNat ++ [44, 125]))) n (-1) (by simp [hda, hdd]) (sign_reads hrx (fun r => sign_from g0.1 g0.2 x r)) (form_rep hxf (by omega)) (by unfold I64; omega) (by unfold I64; omega))
    have Kb := Lib.hid (HT3.out (SA ++ ⟨#[123]⟩ ++ DB ++ ⟨#[44, 49, 53, 125]⟩) (par x.text ++ (123 :: (numT n.toNat ++ [44, 49, 53, 125]))) n 15 (by simp [hda, hdd]) (sign_reads hrx (fun r => sign_to g0.1 g0.2 x r)) (form_rep hxf (by omega)) (by unfold I64; omega) (by unfold I64; omega))
    have KR := Lib.hid (HRW.out hxf hxs)
    have HSA := Lib.hid hSA
    have HSB := Lib.hid hSB
    clear HT1 HT2 HT3 HT5 HRW HPS HQS HXI HYI HXB HYB HXW HYW HLLE hpd hqd hxf hyf hxs hys hrx hry hSA hSB hda hdb hcz hDB hdd hdbs
    go_enter Tryd.func5, Tryd.ntmps5
    go_upto_region 1 with fail
    rw [HW0.out]
    try rw [HB0.out]
    obtain ⟨d0, d1, d2, d3, d4, d5, d6, d7, d8, d9, d10, d11, d12, d13, d14, d15⟩ := HS.out w0 (Later.refl _)
    obtain ⟨dlt, dlt'⟩ := HSZ.out w0 (Later.refl _)
    go_upto_region 8 with (first
      | (go_at_call 9; (with_reducible refine (HPX.out _ (Later.refl _)).mono ?_); rintro e w1 ⟨rfl, hl1⟩; clear d0 d1 d2 d3 d4 d5 d6 d7 d8 d9 d10 d11 d12 d13 d14 d15 dlt dlt'; obtain ⟨d0, d1, d2, d3, d4, d5, d6, d7, d8, d9, d10, d11, d12, d13, d14, d15⟩ := HS.out w1 (by repeat (first | assumption | exact Later.refl _ | refine Later.alloc ?_ _ | refine Later.drew ?_ | refine Later.drewN ?_ _ | refine Later.trans ?_ (by assumption))); obtain ⟨dlt, dlt'⟩ := HSZ.out w1 (by repeat (first | assumption | exact Later.refl _ | refine Later.alloc ?_ _ | refine Later.drew ?_ | refine Later.drewN ?_ _ | refine Later.trans ?_ (by assumption))))
      | (go_at_call 9; (with_reducible refine (HPY.out _ (by repeat (first | assumption | exact Later.refl _ | refine Later.alloc ?_ _ | refine Later.drew ?_ | refine Later.drewN ?_ _ | refine Later.trans ?_ (by assumption)))).mono ?_); rintro e w2 ⟨rfl, hl2⟩; clear d0 d1 d2 d3 d4 d5 d6 d7 d8 d9 d10 d11 d12 d13 d14 d15 dlt dlt'; obtain ⟨d0, d1, d2, d3, d4, d5, d6, d7, d8, d9, d10, d11, d12, d13, d14, d15⟩ := HS.out w2 (by repeat (first | assumption | exact Later.refl _ | refine Later.alloc ?_ _ | refine Later.drew ?_ | refine Later.drewN ?_ _ | refine Later.trans ?_ (by assumption))); obtain ⟨dlt, dlt'⟩ := HSZ.out w2 (by repeat (first | assumption | exact Later.refl _ | refine Later.alloc ?_ _ | refine Later.drew ?_ | refine Later.drewN ?_ _ | refine Later.trans ?_ (by assumption))))
      | (go_at_call 10; (with_reducible refine (HFIX.out _ (by repeat (first | assumption | exact Later.refl _ | refine Later.alloc ?_ _ | refine Later.drew ?_ | refine Later.drewN ?_ _ | refine Later.trans ?_ (by assumption)))).mono ?_); rintro e w3 ⟨rfl, hl3⟩; clear d0 d1 d2 d3 d4 d5 d6 d7 d8 d9 d10 d11 d12 d13 d14 d15 dlt dlt'; obtain ⟨d0, d1, d2, d3, d4, d5, d6, d7, d8, d9, d10, d11, d12, d13, d14, d15⟩ := HS.out w3 (by repeat (first | assumption | exact Later.refl _ | refine Later.alloc ?_ _ | refine Later.drew ?_ | refine Later.drewN ?_ _ | refine Later.trans ?_ (by assumption))); obtain ⟨dlt, dlt'⟩ := HSZ.out w3 (by repeat (first | assumption | exact Later.refl _ | refine Later.alloc ?_ _ | refine Later.drew ?_ | refine Later.drewN ?_ _ | refine Later.trans ?_ (by assumption))))
      | fail)
    rw [HSA.out, HSB.out]
    go_upto_region 11 with fail
    go_upto_region 12 with fail
    obtain ⟨wq, hwq⟩ : ∃ wq, (w3.alloc (.cells #[.int .u8 (48 + n % 10)] 5)).alloc (.cells #[.int .i64 k, .int .i64 mn, .int .i64 mx, .int .u64 s0, .int .u64 s1, .int .u64 s2, .int .u64 s3, .slice a l.length cap, .int .i64 k', .int .i64 mn', .int .i64 mx', .int .u64 s0', .int .u64 s1', .int .u64 s2', .int .u64 s3', .slice a' l'.length cap'] 26) = wq := ⟨_, rfl⟩
    rw [hwq]
    have hlq : Later w3 wq := by rw [← hwq]; exact ((Later.refl w3).alloc _).alloc _
    have hbq : wq.heap[w3.heap.size + 1]? = some (.cells #[.int .i64 k, .int .i64 mn, .int .i64 mx, .int .u64 s0, .int .u64 s1, .int .u64 s2, .int .u64 s3, .slice a l.length cap, .int .i64 k', .int .i64 mn', .int .i64 mx', .int .u64 s0', .int .u64 s1', .int .u64 s2', .int .u64 s3', .slice a' l'.length cap'] 26 (0, 0)) := by rw [← hwq]; exact alloc_at (by simp)
    clear hwq hconv
    have HB2 := Lib.hid (fun w' (h' : Later wq w') => h'.block hbq)
    have HB1 := Lib.hid (fun w' (h' : Later (wq.alloc (.cells #[.int .i64 k, .int .i64 mn, .int .i64 mx, .int .u64 s0, .int .u64 s1, .int .u64 s2, .int .u64 s3, .slice a l.length cap] 26)) w') => h'.block (alloc_block wq (.cells #[.int .i64 k, .int .i64 mn, .int .i64 mx, .int .u64 s0, .int .u64 s1, .int .u64 s2, .int .u64 s3, .slice a l.length cap] 26)))
    clear hbq
    clear d0 d1 d2 d3 d4 d5 d6 d7 d8 d9 d10 d11 d12 d13 d14 d15 dlt dlt'; obtain ⟨d0, d1, d2, d3, d4, d5, d6, d7, d8, d9, d10, d11, d12, d13, d14, d15⟩ := HS.out wq (by repeat (first | assumption | exact Later.refl _ | refine Later.alloc ?_ _ | refine Later.drew ?_ | refine Later.drewN ?_ _ | refine Later.trans ?_ (by assumption))); obtain ⟨dlt, dlt'⟩ := HSZ.out wq (by repeat (first | assumption | exact Later.refl _ | refine Later.alloc ?_ _ | refine Later.drew ?_ | refine Later.drewN ?_ _ | refine Later.trans ?_ (by assumption)))
    go_wp2_with (first
      | (go_at_call 15; (with_reducible refine (K1.out _ (by repeat (first | assumption | exact Later.refl _ | refine Later.alloc ?_ _ | refine Later.drew ?_ | refine Later.drewN ?_ _ | refine Later.trans ?_ (by assumption)))).mono ?_); rintro e w4 ⟨rfl, hlw4⟩; clear d0 d1 d2 d3 d4 d5 d6 d7 d8 d9 d10 d11 d12 d13 d14 d15 dlt dlt'; obtain ⟨d0, d1, d2, d3, d4, d5, d6, d7, d8, d9, d10, d11, d12, d13, d14, d15⟩ := HS.out w4 (by repeat (first | assumption | exact Later.refl _ | refine Later.alloc ?_ _ | refine Later.drew ?_ | refine Later.drewN ?_ _ | refine Later.trans ?_ (by assumption))); obtain ⟨dlt, dlt'⟩ := HSZ.out w4 (by repeat (first | assumption | exact Later.refl _ | refine Later.alloc ?_ _ | refine Later.drew ?_ | refine Later.drewN ?_ _ | refine Later.trans ?_ (by assumption))))
      | (go_at_call 15; (with_reducible refine (K2.out _ (by repeat (first | assumption | exact Later.refl _ | refine Later.alloc ?_ _ | refine Later.drew ?_ | refine Later.drewN ?_ _ | refine Later.trans ?_ (by assumption)))).mono ?_); rintro e w5 ⟨rfl, hlw5⟩; clear d0 d1 d2 d3 d4 d5 d6 d7 d8 d9 d10 d11 d12 d13 d14 d15 dlt dlt'; obtain ⟨d0, d1, d2, d3, d4, d5, d6, d7, d8, d9, d10, d11, d12, d13, d14, d15⟩ := HS.out w5 (by repeat (first | assumption | exact Later.refl _ | refine Later.alloc ?_ _ | refine Later.drew ?_ | refine Later.drewN ?_ _ | refine Later.trans ?_ (by assumption))); obtain ⟨dlt, dlt'⟩ := HSZ.out w5 (by repeat (first | assumption | exact Later.refl _ | refine Later.alloc ?_ _ | refine Later.drew ?_ | refine Later.drewN ?_ _ | refine Later.trans ?_ (by assumption))))
      | (go_at_call 15; (with_reducible refine (K3.out _ (by repeat (first | assumption | exact Later.refl _ | refine Later.alloc ?_ _ | refine Later.drew ?_ | refine Later.drewN ?_ _ | refine Later.trans ?_ (by assumption))) _ _ _ (HB2.out _ (by repeat (first | assumption | exact Later.refl _ | refine Later.alloc ?_ _ | refine Later.drew ?_ | refine Later.drewN ?_ _ | refine Later.trans ?_ (by assumption)))) rfl).mono ?_); rintro e w6 ⟨rfl, hlw6⟩; clear d0 d1 d2 d3 d4 d5 d6 d7 d8 d9 d10 d11 d12 d13 d14 d15 dlt dlt'; obtain ⟨d0, d1, d2, d3, d4, d5, d6, d7, d8, d9, d10, d11, d12, d13, d14, d15⟩ := HS.out w6 (by repeat (first | assumption | exact Later.refl _ | refine Later.alloc ?_ _ | refine Later.drew ?_ | refine Later.drewN ?_ _ | refine Later.trans ?_ (by assumption))); obtain ⟨dlt, dlt'⟩ := HSZ.out w6 (by repeat (first | assumption | exact Later.refl _ | refine Later.alloc ?_ _ | refine Later.drew ?_ | refine Later.drewN ?_ _ | refine Later.trans ?_ (by assumption))))
      | (go_at_call 15; (with_reducible refine (K4.out _ (by repeat (first | assumption | exact Later.refl _ | refine Later.alloc ?_ _ | refine Later.drew ?_ | refine Later.drewN ?_ _ | refine Later.trans ?_ (by assumption))) _ _ _ (HB2.out _ (by repeat (first | assumption | exact Later.refl _ | refine Later.alloc ?_ _ | refine Later.drew ?_ | refine Later.drewN ?_ _ | refine Later.trans ?_ (by assumption)))) rfl).mono ?_); rintro e w7 ⟨rfl, hlw7⟩; clear d0 d1 d2 d3 d4 d5 d6 d7 d8 d9 d10 d11 d12 d13 d14 d15 dlt dlt'; obtain ⟨d0, d1, d2, d3, d4, d5, d6, d7, d8, d9, d10, d11, d12, d13, d14, d15⟩ := HS.out w7 (by repeat (first | assumption | exact Later.refl _ | refine Later.alloc ?_ _ | refine Later.drew ?_ | refine Later.drewN ?_ _ | refine Later.trans ?_ (by assumption))); obtain ⟨dlt, dlt'⟩ := HSZ.out w7 (by repeat (first | assumption | exact Later.refl _ | refine Later.alloc ?_ _ | refine Later.drew ?_ | refine Later.drewN ?_ _ | refine Later.trans ?_ (by assumption))))
      | (go_at_call 16; (with_reducible refine (KR.out _ (by repeat (first | assumption | exact Later.refl _ | refine Later.alloc ?_ _ | refine Later.drew ?_ | refine Later.drewN ?_ _ | refine Later.trans ?_ (by assumption)))).mono ?_); rintro e w8 ⟨p8, c8, L8, rfl, hin8, hb8, hlw8⟩; have HIN8 := Lib.hid hin8; have HB8 := Lib.hid hb8; clear hin8 hb8; clear d0 d1 d2 d3 d4 d5 d6 d7 d8 d9 d10 d11 d12 d13 d14 d15 dlt dlt'; obtain ⟨d0, d1, d2, d3, d4, d5, d6, d7, d8, d9, d10, d11, d12, d13, d14, d15⟩ := HS.out w8 (by repeat (first | assumption | exact Later.refl _ | refine Later.alloc ?_ _ | refine Later.drew ?_ | refine Later.drewN ?_ _ | refine Later.trans ?_ (by assumption))); obtain ⟨dlt, dlt'⟩ := HSZ.out w8 (by repeat (first | assumption | exact Later.refl _ | refine Later.alloc ?_ _ | refine Later.drew ?_ | refine Later.drewN ?_ _ | refine Later.trans ?_ (by assumption))))
      | (go_at_call 15; (with_reducible refine (K5.out _ _ _ _ HIN8.out HB8.out).mono ?_); rintro e w9 ⟨rfl, hlw9⟩; clear d0 d1 d2 d3 d4 d5 d6 d7 d8 d9 d10 d11 d12 d13 d14 d15 dlt dlt'; obtain ⟨d0, d1, d2, d3, d4, d5, d6, d7, d8, d9, d10, d11, d12, d13, d14, d15⟩ := HS.out w9 (by repeat (first | assumption | exact Later.refl _ | refine Later.alloc ?_ _ | refine Later.drew ?_ | refine Later.drewN ?_ _ | refine Later.trans ?_ (by assumption))); obtain ⟨dlt, dlt'⟩ := HSZ.out w9 (by repeat (first | assumption | exact Later.refl _ | refine Later.alloc ?_ _ | refine Later.drew ?_ | refine Later.drewN ?_ _ | refine Later.trans ?_ (by assumption))))
      | (go_at_call 15; (with_reducible refine (K6.out _ (by repeat (first | assumption | exact Later.refl _ | refine Later.alloc ?_ _ | refine Later.drew ?_ | refine Later.drewN ?_ _ | refine Later.trans ?_ (by assumption))) _ _ _ (HB1.out _ (by repeat (first | assumption | exact Later.refl _ | refine Later.alloc ?_ _ | refine Later.drew ?_ | refine Later.drewN ?_ _ | refine Later.trans ?_ (by assumption)))) rfl).mono ?_); rintro e wa ⟨rfl, hlwa⟩; clear d0 d1 d2 d3 d4 d5 d6 d7 d8 d9 d10 d11 d12 d13 d14 d15 dlt dlt'; obtain ⟨d0, d1, d2, d3, d4, d5, d6, d7, d8, d9, d10, d11, d12, d13, d14, d15⟩ := HS.out wa (by repeat (first | assumption | exact Later.refl _ | refine Later.alloc ?_ _ | refine Later.drew ?_ | refine Later.drewN ?_ _ | refine Later.trans ?_ (by assumption))); obtain ⟨dlt, dlt'⟩ := HSZ.out wa (by repeat (first | assumption | exact Later.refl _ | refine Later.alloc ?_ _ | refine Later.drew ?_ | refine Later.drewN ?_ _ | refine Later.trans ?_ (by assumption))))
      | (go_at_call 15; (with_reducible refine (K7.out _ (by repeat (first | assumption | exact Later.refl _ | refine Later.alloc ?_ _ | refine Later.drew ?_ | refine Later.drewN ?_ _ | refine Later.trans ?_ (by assumption))) _ _ _ (HB1.out _ (by repeat (first | assumption | exact Later.refl _ | refine Later.alloc ?_ _ | refine Later.drew ?_ | refine Later.drewN ?_ _ | refine Later.trans ?_ (by assumption)))) rfl).mono ?_); rintro e wb ⟨rfl, hlwb⟩; clear d0 d1 d2 d3 d4 d5 d6 d7 d8 d9 d10 d11 d12 d13 d14 d15 dlt dlt'; obtain ⟨d0, d1, d2, d3, d4, d5, d6, d7, d8, d9, d10, d11, d12, d13, d14, d15⟩ := HS.out wb (by repeat (first | assumption | exact Later.refl _ | refine Later.alloc ?_ _ | refine Later.drew ?_ | refine Later.drewN ?_ _ | refine Later.trans ?_ (by assumption))); obtain ⟨dlt, dlt'⟩ := HSZ.out wb (by repeat (first | assumption | exact Later.refl _ | refine Later.alloc ?_ _ | refine Later.drew ?_ | refine Later.drewN ?_ _ | refine Later.trans ?_ (by assumption))))
      | (go_at_call 15; (with_reducible refine (K8.out _ (by repeat (first | assumption | exact Later.refl _ | refine Later.alloc ?_ _ | refine Later.drew ?_ | refine Later.drewN ?_ _ | refine Later.trans ?_ (by assumption))) _ _ _ (HB1.out _ (by repeat (first | assumption | exact Later.refl _ | refine Later.alloc ?_ _ | refine Later.drew ?_ | refine Later.drewN ?_ _ | refine Later.trans ?_ (by assumption)))) rfl).mono ?_); rintro e wc ⟨rfl, hlwc⟩; clear d0 d1 d2 d3 d4 d5 d6 d7 d8 d9 d10 d11 d12 d13 d14 d15 dlt dlt'; obtain ⟨d0, d1, d2, d3, d4, d5, d6, d7, d8, d9, d10, d11, d12, d13, d14, d15⟩ := HS.out wc (by repeat (first | assumption | exact Later.refl _ | refine Later.alloc ?_ _ | refine Later.drew ?_ | refine Later.drewN ?_ _ | refine Later.trans ?_ (by assumption))); obtain ⟨dlt, dlt'⟩ := HSZ.out wc (by repeat (first | assumption | exact Later.refl _ | refine Later.alloc ?_ _ | refine Later.drew ?_ | refine Later.drewN ?_ _ | refine Later.trans ?_ (by assumption))))
      | (go_at_call 15; (with_reducible refine (K9.out _ (by repeat (first | assumption | exact Later.refl _ | refine Later.alloc ?_ _ | refine Later.drew ?_ | refine Later.drewN ?_ _ | refine Later.trans ?_ (by assumption))) _ _ _ (HB1.out _ (by repeat (first | assumption | exact Later.refl _ | refine Later.alloc ?_ _ | refine Later.drew ?_ | refine Later.drewN ?_ _ | refine Later.trans ?_ (by assumption)))) rfl).mono ?_); rintro e wd ⟨rfl, hlwd⟩; clear d0 d1 d2 d3 d4 d5 d6 d7 d8 d9 d10 d11 d12 d13 d14 d15 dlt dlt'; obtain ⟨d0, d1, d2, d3, d4, d5, d6, d7, d8, d9, d10, d11, d12, d13, d14, d15⟩ := HS.out wd (by repeat (first | assumption | exact Later.refl _ | refine Later.alloc ?_ _ | refine Later.drew ?_ | refine Later.drewN ?_ _ | refine Later.trans ?_ (by assumption))); obtain ⟨dlt, dlt'⟩ := HSZ.out wd (by repeat (first | assumption | exact Later.refl _ | refine Later.alloc ?_ _ | refine Later.drew ?_ | refine Later.drewN ?_ _ | refine Later.trans ?_ (by assumption))))
      | (go_at_call 15; (with_reducible refine (Ka.out _ (by repeat (first | assumption | exact Later.refl _ | refine Later.alloc ?_ _ | refine Later.drew ?_ | refine Later.drewN ?_ _ | refine Later.trans ?_ (by assumption))) _ _ _ (HB1.out _ (by repeat (first | assumption | exact Later.refl _ | refine Later.alloc ?_ _ | refine Later.drew ?_ | refine Later.drewN ?_ _ | refine Later.trans ?_ (by assumption)))) rfl).mono ?_); rintro e we ⟨rfl, hlwe⟩; clear d0 d1 d2 d3 d4 d5 d6 d7 d8 d9 d10 d11 d12 d13 d14 d15 dlt dlt'; obtain ⟨d0, d1, d2, d3, d4, d5, d6, d7, d8, d9, d10, d11, d12, d13, d14, d15⟩ := HS.out we (by repeat (first | assumption | exact Later.refl _ | refine Later.alloc ?_ _ | refine Later.drew ?_ | refine Later.drewN ?_ _ | refine Later.trans ?_ (by assumption))); obtain ⟨dlt, dlt'⟩ := HSZ.out we (by repeat (first | assumption | exact Later.refl _ | refine Later.alloc ?_ _ | refine Later.drew ?_ | refine Later.drewN ?_ _ | refine Later.trans ?_ (by assumption))))
      | (go_at_call 15; (with_reducible refine (Kb.out _ (by repeat (first | assumption | exact Later.refl _ | refine Later.alloc ?_ _ | refine Later.drew ?_ | refine Later.drewN ?_ _ | refine Later.trans ?_ (by assumption))) _ _ _ (HB1.out _ (by repeat (first | assumption | exact Later.refl _ | refine Later.alloc ?_ _ | refine Later.drew ?_ | refine Later.drewN ?_ _ | refine Later.trans ?_ (by assumption)))) rfl).mono ?_); rintro e wf ⟨rfl, hlwf⟩; clear d0 d1 d2 d3 d4 d5 d6 d7 d8 d9 d10 d11 d12 d13 d14 d15 dlt dlt'; obtain ⟨d0, d1, d2, d3, d4, d5, d6, d7, d8, d9, d10, d11, d12, d13, d14, d15⟩ := HS.out wf (by repeat (first | assumption | exact Later.refl _ | refine Later.alloc ?_ _ | refine Later.drew ?_ | refine Later.drewN ?_ _ | refine Later.trans ?_ (by assumption))); obtain ⟨dlt, dlt'⟩ := HSZ.out wf (by repeat (first | assumption | exact Later.refl _ | refine Later.alloc ?_ _ | refine Later.drew ?_ | refine Later.drewN ?_ _ | refine Later.trans ?_ (by assumption))))
      | fail)
    go_ret
    exact ⟨rfl, HL0.out.trans (by repeat (first | assumption | exact Later.refl _ | refine Later.alloc ?_ _ | refine Later.drew ?_ | refine Later.drewN ?_ _ | refine Later.trans ?_ (by assumption)))⟩
  · skip
    obtain ⟨hpd, hps, hxf, hxs⟩ := HPS.out rfl
    obtain ⟨hqd, hqs, hyf, hys⟩ := HQS.out rfl
    have hrx := reads_text hxf HXW.out
    have hry := reads_text hyf HYW.out
    obtain ⟨SA, hSA⟩ : ∃ SA : ByteArray, (⟨#[40]⟩ : ByteArray) ++ PS ++ ⟨#[41]⟩ = SA := ⟨_, rfl⟩
    obtain ⟨SB, hSB⟩ : ∃ SB : ByteArray, (⟨#[40]⟩ : ByteArray) ++ QS ++ ⟨#[41]⟩ = SB := ⟨_, rfl⟩
    have hda : SA.data.toList = par x.text := by rw [← hSA]; exact par_data _ _ hpd
    have hdb : SB.data.toList = par y.text := by rw [← hSB]; exact par_data _ _ hqd
    have hsa : SA.size ≤ 130 := by rw [← hSA]; simp only [ByteArray.size_append]; show 1 + PS.size + 1 ≤ 130; omega
    have hsb : SB.size ≤ 130 := by rw [← hSB]; simp only [ByteArray.size_append]; show 1 + QS.size + 1 ≤ 130; omega
    obtain ⟨c, hcz⟩ : ∃ c : UInt8, (c.toNat : Int) = 48 + n % 10 := ⟨UInt8.ofNat (48 + n % 10).toNat, by rw [UInt8.toNat_ofNat']; omega⟩
    obtain ⟨DB, hDB⟩ : ∃ DB : ByteArray, (⟨#[c]⟩ : ByteArray) = DB := ⟨_, rfl⟩
    have hdbs : DB.size = 1 := by rw [← hDB]; rfl
    obtain ⟨DD, hDD⟩ : ∃ DD : ByteArray, (⟨#[49]⟩ : ByteArray) ++ DB = DD := ⟨_, rfl⟩
    have hdd : DD.data.toList = numT n.toNat := by
      rw [← hDD, ← hDB]
      have h1 : c = UInt8.ofNat (48 + n.toNat % 10) := by apply UInt8.toNat_inj.1; rw [UInt8.toNat_ofNat']; omega
      have h2 : (49 : UInt8) = UInt8.ofNat (48 + n.toNat / 10) := by rw [show n.toNat / 10 = 1 by omega]; rfl
      unfold numT
      rw [if_neg (by omega), ← h1, ← h2]
      rfl
    have hds : DD.size ≤ 2 := by rw [← hDD]; simp only [ByteArray.size_append]; show 1 + DB.size ≤ 2; omega
    have hdb1 : DB.size ≤ 1 := by omega
    have HDD := Lib.hid hDD
    clear hDD
    have hconv : ∀ W : World, (convert 38 9 (.slice (some ⟨W.heap.size, 0, none⟩) 1 1)).run Tryd.prog (W.alloc (.cells #[.int .u8 (48 + n % 10)] 5)) = .ok (.string DB) (W.alloc (.cells #[.int .u8 (48 + n % 10)] 5)) := fun W => by
      rw [← hcz, ← hDB]
      exact conv_bytes W [c] _ rfl
    have g0 : 0 ≤ n ∧ n ≤ 15 := by omega
    have K1 := Lib.hid (HT1.out SA _ hda (par_reads hrx) hxf)
    have K2 := Lib.hid (HT1.out (⟨#[40, 40]⟩ ++ PS ++ ⟨#[41, 41]⟩) (par (par x.text)) (by simp [par, hpd]) (par_reads (par_reads hrx)) hxf)
    have K3 := Lib.hid (HT2.out (SA ++ SB) _ 1 (by rw [ByteArray.data_append, Array.toList_append, hda, hdb]) (row2_reads hrx hry) (form_row2 hxf hyf) (by unfold I64; omega))
    have K4 := Lib.hid (HT2.out (SA ++ ⟨#[124]⟩ ++ SB) (par x.text ++ 124 :: par y.text) 2 (by simp [hda, hdb]) (alt2_reads hrx hry) (form_alt (by simp [formAll, hxf, hyf]) (by simp)) (by unfold I64; omega))
    have K5 := Lib.hid (HT5.out (PS ++ ⟨#[124]⟩ ++ SA ++ ⟨#[124]⟩ ++ SB) (x.text ++ 124 :: (par x.text ++ 124 :: par y.text)) (by simp [hda, hdb, hpd]) (alt3_reads hxf HXW.out hrx hry) (form_alt (formAll_rows hxf hxf hyf) rows_two))
    have K6 := Lib.hid (HT3.out (SA ++ ⟨#[42]⟩) (par x.text ++ [42]) 0 (-1) (by simp [hda]) (sign_reads hrx (fun r => sign_star x r)) (form_rep hxf (by omega)) (by unfold I64; omega) (by unfold I64; omega))
    have K7 := Lib.hid (HT3.out (SA ++ ⟨#[43]⟩) (par x.text ++ [43]) 1 (-1) (by simp [hda]) (sign_reads hrx (fun r => sign_plus x r)) (form_rep hxf (by omega)) (by unfold I64; omega) (by unfold I64; omega))
    have K8 := Lib.hid (HT3.out (SA ++ ⟨#[63]⟩) (par x.text ++ [63]) 0 1 (by simp [hda]) (sign_reads hrx (fun r => sign_may x r)) (form_rep hxf (by omega)) (by unfold I64; omega) (by unfold I64; omega))
    have K9 := Lib.hid (HT3.out (SA ++ ⟨#[123]⟩ ++ DD ++ ⟨#[125]⟩) (par x.text ++ (123 :: (numT n.toNat ++ [125]))) n n (by simp [hda, hdd]) (sign_reads hrx (fun r => sign_just g0.1 g0.2 x r)) (form_rep hxf (by omega)) (by unfold I64; omega) (by unfold I64; omega))
    have Ka := Lib.hid (HT3.out (SA ++ ⟨#[123]⟩ ++ DD ++ ⟨#[44, 125]⟩) (par x.text ++ (123 :: (numT n.toNat ++ [44, 125]))) n (-1) (by simp [hda, hdd]) (sign_reads hrx (fun r => sign_from g0.1 g0.2 x r)) (form_rep hxf (by omega)) (by unfold I64; omega) (by unfold I64; omega))
    have Kb := Lib.hid (HT3.out (SA ++ ⟨#[123]⟩ ++ DD ++ ⟨#[44, 49, 53, 125]⟩) (par x.text ++ (123 :: (numT n.toNat ++ [44, 49, 53, 125]))) n 15 (by simp [hda, hdd]) (sign_reads hrx (fun r => sign_to g0.1 g0.2 x r)) (form_rep hxf (by omega)) (by unfold I64; omega) (by unfold I64; omega))
    have KR := Lib.hid (HRW.out hxf hxs)
    have HSA := Lib.hid hSA
    have HSB := Lib.hid hSB
    clear HT1 HT2 HT3 HT5 HRW HPS HQS HXI HYI HXB HYB HXW HYW HLLE hpd hqd hxf hyf hxs hys hrx hry hSA hSB hda hdb hcz hDB hdd hdbs
    go_enter Tryd.func5, Tryd.ntmps5
    go_upto_region 1 with fail
    rw [HW0.out]
    try rw [HB0.out]
    obtain ⟨d0, d1, d2, d3, d4, d5, d6, d7, d8, d9, d10, d11, d12, d13, d14, d15⟩ := HS.out w0 (Later.refl _)
    obtain ⟨dlt, dlt'⟩ := HSZ.out w0 (Later.refl _)
    go_upto_region 8 with (first
      | (go_at_call 9; (with_reducible refine (HPX.out _ (Later.refl _)).mono ?_); rintro e w1 ⟨rfl, hl1⟩; clear d0 d1 d2 d3 d4 d5 d6 d7 d8 d9 d10 d11 d12 d13 d14 d15 dlt dlt'; obtain ⟨d0, d1, d2, d3, d4, d5, d6, d7, d8, d9, d10, d11, d12, d13, d14, d15⟩ := HS.out w1 (by repeat (first | assumption | exact Later.refl _ | refine Later.alloc ?_ _ | refine Later.drew ?_ | refine Later.drewN ?_ _ | refine Later.trans ?_ (by assumption))); obtain ⟨dlt, dlt'⟩ := HSZ.out w1 (by repeat (first | assumption | exact Later.refl _ | refine Later.alloc ?_ _ | refine Later.drew ?_ | refine Later.drewN ?_ _ | refine Later.trans ?_ (by assumption))))
      | (go_at_call 9; (with_reducible refine (HPY.out _ (by repeat (first | assumption | exact Later.refl _ | refine Later.alloc ?_ _ | refine Later.drew ?_ | refine Later.drewN ?_ _ | refine Later.trans ?_ (by assumption)))).mono ?_); rintro e w2 ⟨rfl, hl2⟩; clear d0 d1 d2 d3 d4 d5 d6 d7 d8 d9 d10 d11 d12 d13 d14 d15 dlt dlt'; obtain ⟨d0, d1, d2, d3, d4, d5, d6, d7, d8, d9, d10, d11, d12, d13, d14, d15⟩ := HS.out w2 (by repeat (first | assumption | exact Later.refl _ | refine Later.alloc ?_ _ | refine Later.drew ?_ | refine Later.drewN ?_ _ | refine Later.trans ?_ (by assumption))); obtain ⟨dlt, dlt'⟩ := HSZ.out w2 (by repeat (first | assumption | exact Later.refl _ | refine Later.alloc ?_ _ | refine Later.drew ?_ | refine Later.drewN ?_ _ | refine Later.trans ?_ (by assumption))))
      | (go_at_call 10; (with_reducible refine (HFIX.out _ (by repeat (first | assumption | exact Later.refl _ | refine Later.alloc ?_ _ | refine Later.drew ?_ | refine Later.drewN ?_ _ | refine Later.trans ?_ (by assumption)))).mono ?_); rintro e w3 ⟨rfl, hl3⟩; clear d0 d1 d2 d3 d4 d5 d6 d7 d8 d9 d10 d11 d12 d13 d14 d15 dlt dlt'; obtain ⟨d0, d1, d2, d3, d4, d5, d6, d7, d8, d9, d10, d11, d12, d13, d14, d15⟩ := HS.out w3 (by repeat (first | assumption | exact Later.refl _ | refine Later.alloc ?_ _ | refine Later.drew ?_ | refine Later.drewN ?_ _ | refine Later.trans ?_ (by assumption))); obtain ⟨dlt, dlt'⟩ := HSZ.out w3 (by repeat (first | assumption | exact Later.refl _ | refine Later.alloc ?_ _ | refine Later.drew ?_ | refine Later.drewN ?_ _ | refine Later.trans ?_ (by assumption))))
      | fail)
    rw [HSA.out, HSB.out]
    go_upto_region 11 with fail
    rw [HDD.out]
    go_upto_region 12 with fail
    obtain ⟨wq, hwq⟩ : ∃ wq, (w3.alloc (.cells #[.int .u8 (48 + n % 10)] 5)).alloc (.cells #[.int .i64 k, .int .i64 mn, .int .i64 mx, .int .u64 s0, .int .u64 s1, .int .u64 s2, .int .u64 s3, .slice a l.length cap, .int .i64 k', .int .i64 mn', .int .i64 mx', .int .u64 s0', .int .u64 s1', .int .u64 s2', .int .u64 s3', .slice a' l'.length cap'] 26) = wq := ⟨_, rfl⟩
    rw [hwq]
    have hlq : Later w3 wq := by rw [← hwq]; exact ((Later.refl w3).alloc _).alloc _
    have hbq : wq.heap[w3.heap.size + 1]? = some (.cells #[.int .i64 k, .int .i64 mn, .int .i64 mx, .int .u64 s0, .int .u64 s1, .int .u64 s2, .int .u64 s3, .slice a l.length cap, .int .i64 k', .int .i64 mn', .int .i64 mx', .int .u64 s0', .int .u64 s1', .int .u64 s2', .int .u64 s3', .slice a' l'.length cap'] 26 (0, 0)) := by rw [← hwq]; exact alloc_at (by simp)
    clear hwq hconv
    have HB2 := Lib.hid (fun w' (h' : Later wq w') => h'.block hbq)
    have HB1 := Lib.hid (fun w' (h' : Later (wq.alloc (.cells #[.int .i64 k, .int .i64 mn, .int .i64 mx, .int .u64 s0, .int .u64 s1, .int .u64 s2, .int .u64 s3, .slice a l.length cap] 26)) w') => h'.block (alloc_block wq (.cells #[.int .i64 k, .int .i64 mn, .int .i64 mx, .int .u64 s0, .int .u64 s1, .int .u64 s2, .int .u64 s3, .slice a l.length cap] 26)))
    clear hbq
    clear d0 d1 d2 d3 d4 d5 d6 d7 d8 d9 d10 d11 d12 d13 d14 d15 dlt dlt'; obtain ⟨d0, d1, d2, d3, d4, d5, d6, d7, d8, d9, d10, d11, d12, d13, d14, d15⟩ := HS.out wq (by repeat (first | assumption | exact Later.refl _ | refine Later.alloc ?_ _ | refine Later.drew ?_ | refine Later.drewN ?_ _ | refine Later.trans ?_ (by assumption))); obtain ⟨dlt, dlt'⟩ := HSZ.out wq (by repeat (first | assumption | exact Later.refl _ | refine Later.alloc ?_ _ | refine Later.drew ?_ | refine Later.drewN ?_ _ | refine Later.trans ?_ (by assumption)))
    go_wp2_with (first
      | (go_at_call 15; (with_reducible refine (K1.out _ (by repeat (first | assumption | exact Later.refl _ | refine Later.alloc ?_ _ | refine Later.drew ?_ | refine Later.drewN ?_ _ | refine Later.trans ?_ (by assumption)))).mono ?_); rintro e w4 ⟨rfl, hlw4⟩; clear d0 d1 d2 d3 d4 d5 d6 d7 d8 d9 d10 d11 d12 d13 d14 d15 dlt dlt'; obtain ⟨d0, d1, d2, d3, d4, d5, d6, d7, d8, d9, d10, d11, d12, d13, d14, d15⟩ := HS.out w4 (by repeat (first | assumption | exact Later.refl _ | refine Later.alloc ?_ _ | refine Later.drew ?_ | refine Later.drewN ?_ _ | refine Later.trans ?_ (by assumption))); obtain ⟨dlt, dlt'⟩ := HSZ.out w4 (by repeat (first | assumption | exact Later.refl _ | refine Later.alloc ?_ _ | refine Later.drew ?_ | refine Later.drewN ?_ _ | refine Later.trans ?_ (by assumption))))
      | (go_at_call 15; (with_reducible refine (K2.out _ (by repeat (first | assumption | exact Later.refl _ | refine Later.alloc ?_ _ | refine Later.drew ?_ | refine Later.drewN ?_ _ | refine Later.trans ?_ (by assumption)))).mono ?_); rintro e w5 ⟨rfl, hlw5⟩; clear d0 d1 d2 d3 d4 d5 d6 d7 d8 d9 d10 d11 d12 d13 d14 d15 dlt dlt'; obtain ⟨d0, d1, d2, d3, d4, d5, d6, d7, d8, d9, d10, d11, d12, d13, d14, d15⟩ := HS.out w5 (by repeat (first | assumption | exact Later.refl _ | refine Later.alloc ?_ _ | refine Later.drew ?_ | refine Later.drewN ?_ _ | refine Later.trans ?_ (by assumption))); obtain ⟨dlt, dlt'⟩ := HSZ.out w5 (by repeat (first | assumption | exact Later.refl _ | refine Later.alloc ?_ _ | refine Later.drew ?_ | refine Later.drewN ?_ _ | refine Later.trans ?_ (by assumption))))
      | (go_at_call 15; (with_reducible refine (K3.out _ (by repeat (first | assumption | exact Later.refl _ | refine Later.alloc ?_ _ | refine Later.drew ?_ | refine Later.drewN ?_ _ | refine Later.trans ?_ (by assumption))) _ _ _ (HB2.out _ (by repeat (first | assumption | exact Later.refl _ | refine Later.alloc ?_ _ | refine Later.drew ?_ | refine Later.drewN ?_ _ | refine Later.trans ?_ (by assumption)))) rfl).mono ?_); rintro e w6 ⟨rfl, hlw6⟩; clear d0 d1 d2 d3 d4 d5 d6 d7 d8 d9 d10 d11 d12 d13 d14 d15 dlt dlt'; obtain ⟨d0, d1, d2, d3, d4, d5, d6, d7, d8, d9, d10, d11, d12, d13, d14, d15⟩ := HS.out w6 (by repeat (first | assumption | exact Later.refl _ | refine Later.alloc ?_ _ | refine Later.drew ?_ | refine Later.drewN ?_ _ | refine Later.trans ?_ (by assumption))); obtain ⟨dlt, dlt'⟩ := HSZ.out w6 (by repeat (first | assumption | exact Later.refl _ | refine Later.alloc ?_ _ | refine Later.drew ?_ | refine Later.drewN ?_ _ | refine Later.trans ?_ (by assumption))))
      | (go_at_call 15; (with_reducible refine (K4.out _ (by repeat (first | assumption | exact Later.refl _ | refine Later.alloc ?_ _ | refine Later.drew ?_ | refine Later.drewN ?_ _ | refine Later.trans ?_ (by assumption))) _ _ _ (HB2.out _ (by repeat (first | assumption | exact Later.refl _ | refine Later.alloc ?_ _ | refine Later.drew ?_ | refine Later.drewN ?_ _ | refine Later.trans ?_ (by assumption)))) rfl).mono ?_); rintro e w7 ⟨rfl, hlw7⟩; clear d0 d1 d2 d3 d4 d5 d6 d7 d8 d9 d10 d11 d12 d13 d14 d15 dlt dlt'; obtain ⟨d0, d1, d2, d3, d4, d5, d6, d7, d8, d9, d10, d11, d12, d13, d14, d15⟩ := HS.out w7 (by repeat (first | assumption | exact Later.refl _ | refine Later.alloc ?_ _ | refine Later.drew ?_ | refine Later.drewN ?_ _ | refine Later.trans ?_ (by assumption))); obtain ⟨dlt, dlt'⟩ := HSZ.out w7 (by repeat (first | assumption | exact Later.refl _ | refine Later.alloc ?_ _ | refine Later.drew ?_ | refine Later.drewN ?_ _ | refine Later.trans ?_ (by assumption))))
      | (go_at_call 16; (with_reducible refine (KR.out _ (by repeat (first | assumption | exact Later.refl _ | refine Later.alloc ?_ _ | refine Later.drew ?_ | refine Later.drewN ?_ _ | refine Later.trans ?_ (by assumption)))).mono ?_); rintro e w8 ⟨p8, c8, L8, rfl, hin8, hb8, hlw8⟩; have HIN8 := Lib.hid hin8; have HB8 := Lib.hid hb8; clear hin8 hb8; clear d0 d1 d2 d3 d4 d5 d6 d7 d8 d9 d10 d11 d12 d13 d14 d15 dlt dlt'; obtain ⟨d0, d1, d2, d3, d4, d5, d6, d7, d8, d9, d10, d11, d12, d13, d14, d15⟩ := HS.out w8 (by repeat (first | assumption | exact Later.refl _ | refine Later.alloc ?_ _ | refine Later.drew ?_ | refine Later.drewN ?_ _ | refine Later.trans ?_ (by assumption))); obtain ⟨dlt, dlt'⟩ := HSZ.out w8 (by repeat (first | assumption | exact Later.refl _ | refine Later.alloc ?_ _ | refine Later.drew ?_ | refine Later.drewN ?_ _ | refine Later.trans ?_ (by assumption))))
      | (go_at_call 15; (with_reducible refine (K5.out _ _ _ _ HIN8.out HB8.out).mono ?_); rintro e w9 ⟨rfl, hlw9⟩; clear d0 d1 d2 d3 d4 d5 d6 d7 d8 d9 d10 d11 d12 d13 d14 d15 dlt dlt'; obtain ⟨d0, d1, d2, d3, d4, d5, d6, d7, d8, d9, d10, d11, d12, d13, d14, d15⟩ := HS.out w9 (by repeat (first | assumption | exact Later.refl _ | refine Later.alloc ?_ _ | refine Later.drew ?_ | refine Later.drewN ?_ _ | refine Later.trans ?_ (by assumption))); obtain ⟨dlt, dlt'⟩ := HSZ.out w9 (by repeat (first | assumption | exact Later.refl _ | refine Later.alloc ?_ _ | refine Later.drew ?_ | refine Later.drewN ?_ _ | refine Later.trans ?_ (by assumption))))
      | (go_at_call 15; (with_reducible refine (K6.out _ (by repeat (first | assumption | exact Later.refl _ | refine Later.alloc ?_ _ | refine Later.drew ?_ | refine Later.drewN ?_ _ | refine Later.trans ?_ (by assumption))) _ _ _ (HB1.out _ (by repeat (first | assumption | exact Later.refl _ | refine Later.alloc ?_ _ | refine Later.drew ?_ | refine Later.drewN ?_ _ | refine Later.trans ?_ (by assumption)))) rfl).mono ?_); rintro e wa ⟨rfl, hlwa⟩; clear d0 d1 d2 d3 d4 d5 d6 d7 d8 d9 d10 d11 d12 d13 d14 d15 dlt dlt'; obtain ⟨d0, d1, d2, d3, d4, d5, d6, d7, d8, d9, d10, d11, d12, d13, d14, d15⟩ := HS.out wa (by repeat (first | assumption | exact Later.refl _ | refine Later.alloc ?_ _ | refine Later.drew ?_ | refine Later.drewN ?_ _ | refine Later.trans ?_ (by assumption))); obtain ⟨dlt, dlt'⟩ := HSZ.out wa (by repeat (first | assumption | exact Later.refl _ | refine Later.alloc ?_ _ | refine Later.drew ?_ | refine Later.drewN ?_ _ | refine Later.trans ?_ (by assumption))))
      | (go_at_call 15; (with_reducible refine (K7.out _ (by repeat (first | assumption | exact Later.refl _ | refine Later.alloc ?_ _ | refine Later.drew ?_ | refine Later.drewN ?_ _ | refine Later.trans ?_ (by assumption))) _ _ _ (HB1.out _ (by repeat (first | assumption | exact Later.refl _ | refine Later.alloc ?_ _ | refine Later.drew ?_ | refine Later.drewN ?_ _ | refine Later.trans ?_ (by assumption)))) rfl).mono ?_); rintro e wb ⟨rfl, hlwb⟩; clear d0 d1 d2 d3 d4 d5 d6 d7 d8 d9 d10 d11 d12 d13 d14 d15 dlt dlt'; obtain ⟨d0, d1, d2, d3, d4, d5, d6, d7, d8, d9, d10, d11, d12, d13, d14, d15⟩ := HS.out wb (by repeat (first | assumption | exact Later.refl _ | refine Later.alloc ?_ _ | refine Later.drew ?_ | refine Later.drewN ?_ _ | refine Later.trans ?_ (by assumption))); obtain ⟨dlt, dlt'⟩ := HSZ.out wb (by repeat (first | assumption | exact Later.refl _ | refine Later.alloc ?_ _ | refine Later.drew ?_ | refine Later.drewN ?_ _ | refine Later.trans ?_ (by assumption))))
      | (go_at_call 15; (with_reducible refine (K8.out _ (by repeat (first | assumption | exact Later.refl _ | refine Later.alloc ?_ _ | refine Later.drew ?_ | refine Later.drewN ?_ _ | refine Later.trans ?_ (by assumption))) _ _ _ (HB1.out _ (by repeat (first | assumption | exact Later.refl _ | refine Later.alloc ?_ _ | refine Later.drew ?_ | refine Later.drewN ?_ _ | refine Later.trans ?_ (by assumption)))) rfl).mono ?_); rintro e wc ⟨rfl, hlwc⟩; clear d0 d1 d2 d3 d4 d5 d6 d7 d8 d9 d10 d11 d12 d13 d14 d15 dlt dlt'; obtain ⟨d0, d1, d2, d3, d4, d5, d6, d7, d8, d9, d10, d11, d12, d13, d14, d15⟩ := HS.out wc (by repeat (first | assumption | exact Later.refl _ | refine Later.alloc ?_ _ | refine Later.drew ?_ | refine Later.drewN ?_ _ | refine Later.trans ?_ (by assumption))); obtain ⟨dlt, dlt'⟩ := HSZ.out wc (by repeat (first | assumption | exact Later.refl _ | refine Later.alloc ?_ _ | refine Later.drew ?_ | refine Later.drewN ?_ _ | refine Later.trans ?_ (by assumption))))
      | (go_at_call 15; (with_reducible refine (K9.out _ (by repeat (first | assumption | exact Later.refl _ | refine Later.alloc ?_ _ | refine Later.drew ?_ | refine Later.drewN ?_ _ | refine Later.trans ?_ (by assumption))) _ _ _ (HB1.out _ (by repeat (first | assumption | exact Later.refl _ | refine Later.alloc ?_ _ | refine Later.drew ?_ | refine Later.drewN ?_ _ | refine Later.trans ?_ (by assumption)))) rfl).mono ?_); rintro e wd ⟨rfl, hlwd⟩; clear d0 d1 d2 d3 d4 d5 d6 d7 d8 d9 d10 d11 d12 d13 d14 d15 dlt dlt'; obtain ⟨d0, d1, d2, d3, d4, d5, d6, d7, d8, d9, d10, d11, d12, d13, d14, d15⟩ := HS.out wd (by repeat (first | assumption | exact Later.refl _ | refine Later.alloc ?_ _ | refine Later.drew ?_ | refine Later.drewN ?_ _ | refine Later.trans ?_ (by assumption))); obtain ⟨dlt, dlt'⟩ := HSZ.out wd (by repeat (first | assumption | exact Later.refl _ | refine Later.alloc ?_ _ | refine Later.drew ?_ | refine Later.drewN ?_ _ | refine Later.trans ?_ (by assumption))))
      | (go_at_call 15; (with_reducible refine (Ka.out _ (by repeat (first | assumption | exact Later.refl _ | refine Later.alloc ?_ _ | refine Later.drew ?_ | refine Later.drewN ?_ _ | refine Later.trans ?_ (by assumption))) _ _ _ (HB1.out _ (by repeat (first | assumption | exact Later.refl _ | refine Later.alloc ?_ _ | refine Later.drew ?_ | refine Later.drewN ?_ _ | refine Later.trans ?_ (by assumption)))) rfl).mono ?_); rintro e we ⟨rfl, hlwe⟩; clear d0 d1 d2 d3 d4 d5 d6 d7 d8 d9 d10 d11 d12 d13 d14 d15 dlt dlt'; obtain ⟨d0, d1, d2, d3, d4, d5, d6, d7, d8, d9, d10, d11, d12, d13, d14, d15⟩ := HS.out we (by repeat (first | assumption | exact Later.refl _ | refine Later.alloc ?_ _ | refine Later.drew ?_ | refine Later.drewN ?_ _ | refine Later.trans ?_ (by assumption))); obtain ⟨dlt, dlt'⟩ := HSZ.out we (by repeat (first | assumption | exact Later.refl _ | refine Later.alloc ?_ _ | refine Later.drew ?_ | refine Later.drewN ?_ _ | refine Later.trans ?_ (by assumption))))
      | (go_at_call 15; (with_reducible refine (Kb.out _ (by repeat (first | assumption | exact Later.refl _ | refine Later.alloc ?_ _ | refine Later.drew ?_ | refine Later.drewN ?_ _ | refine Later.trans ?_ (by assumption))) _ _ _ (HB1.out _ (by repeat (first | assumption | exact Later.refl _ | refine Later.alloc ?_ _ | refine Later.drew ?_ | refine Later.drewN ?_ _ | refine Later.trans ?_ (by assumption)))) rfl).mono ?_); rintro e wf ⟨rfl, hlwf⟩; clear d0 d1 d2 d3 d4 d5 d6 d7 d8 d9 d10 d11 d12 d13 d14 d15 dlt dlt'; obtain ⟨d0, d1, d2, d3, d4, d5, d6, d7, d8, d9, d10, d11, d12, d13, d14, d15⟩ := HS.out wf (by repeat (first | assumption | exact Later.refl _ | refine Later.alloc ?_ _ | refine Later.drew ?_ | refine Later.drewN ?_ _ | refine Later.trans ?_ (by assumption))); obtain ⟨dlt, dlt'⟩ := HSZ.out wf (by repeat (first | assumption | exact Later.refl _ | refine Later.alloc ?_ _ | refine Later.drew ?_ | refine Later.drewN ?_ _ | refine Later.trans ?_ (by assumption))))
      | fail)
    go_ret
    exact ⟨rfl, HL0.out.trans (by repeat (first | assumption | exact Later.refl _ | refine Later.alloc ?_ _ | refine Later.drew ?_ | refine Later.drewN ?_ _ | refine Later.trans ?_ (by assumption)))⟩
end Go.Proofs.YtjhclopdcbnmkaaDoor
