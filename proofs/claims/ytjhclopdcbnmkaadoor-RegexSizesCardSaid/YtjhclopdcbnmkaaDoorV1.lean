/- RegexSizes. (Printed by wip/gen_v1.py.) -/
import Derived.Test.YtjhclopdcbnmkaaDoorS9
import Derived.Deep.RegionHeld3
set_option linter.unusedSimpArgs false
set_option linter.unusedVariables false
namespace Go.Proofs.YtjhclopdcbnmkaaDoor
open Go.RowKit PX

/-! plain: sizes of what is put together -/
theorem sizeR_zero (x : Rx) : (sizeR x = 0 ↔ x.formB = false) ∧ (checkR x = 52 ↔ x.formB = false) ∧ 0 ≤ sizeR x ∧ sizeR x ≤ 257 := by
  have := sizeI_bd x
  unfold sizeR checkR
  cases x.formB
  · simp
  · simp only [if_true]
    refine ⟨by simp; omega, ?_, by omega, by omega⟩
    split <;> simp
theorem sizeR_form {x : Rx} (h : x.formB = true) : sizeR x = min 257 x.big := by
  unfold sizeR
  rw [if_pos h, Rx.sizeI_eq]
theorem size_two {k : Int} (hk : k = 1 ∨ k = 2) {x y : Rx} (hx : x.formB = true) (hy : y.formB = true) : sizeR (.node k 0 0 0 0 0 0 [x, y]) = min 257 (1 + sizeR x + sizeR y) := by
  have hf : (Rx.node k 0 0 0 0 0 0 [x, y]).formB = true := by
    rw [formB_iff]
    refine ⟨?_, by simp [formAll, hx, hy]⟩
    unfold Shape
    simp
    omega
  rw [sizeR_form hf, sizeR_form hx, sizeR_form hy]
  have ht : times k 0 0 = 1 := by unfold times; rw [if_neg (by omega)]
  simp only [Rx.big, bigAll, ht]
  have := x.big_pos
  have := y.big_pos
  omega
theorem size_rep {mn mx t : Int} (h : 0 ≤ mn ∧ mn ≤ 15 ∧ mx ≤ 15 ∧ (mx = -1 ∨ mn ≤ mx)) (ht : times 3 mn mx = t) {x : Rx} (hx : x.formB = true) : sizeR (.node 3 mn mx 0 0 0 0 [x]) = min 257 (1 + t * sizeR x) := by
  have hf : (Rx.node 3 mn mx 0 0 0 0 [x]).formB = true := rep_form.2 ⟨h, hx⟩
  rw [sizeR_form hf, sizeR_form hx]
  have hp := times_pos 3 mn mx
  rw [ht] at hp
  simp only [Rx.big, bigAll, ht, Int.add_zero]
  have hb := x.big_pos
  by_cases h257 : x.big ≤ 257
  · rw [Int.min_eq_right h257]
  · have h1 : 257 ≤ t * 257 := by omega
    have h2 : 1 * 257 ≤ t * x.big := Int.mul_le_mul hp (by omega) (by omega) (by omega)
    rw [Int.min_eq_left (by omega : (257 : Int) ≤ x.big)]
    omega
theorem size_rep_bad {mn mx : Int} (h : mn < 0 ∨ 15 < mn) (x : Rx) : sizeR (.node 3 mn mx 0 0 0 0 [x]) = 0 := by
  rw [(sizeR_zero _).1, ← Bool.not_eq_true]
  intro hf
  have := (rep_form.1 hf).1
  omega
theorem sz_of2 {w0 w : World} {X Y : RxA} (hx : X.In w0 w0.heap.size) (hy : Y.In w0 w0.heap.size) (hl : Later w0 w) (b : Nat) (cs : Array Value) (fr : Nat × Nat) (hb : w.heap[b]? = some (.cells cs 26 fr)) (hcs : cs = (X.cells ++ Y.cells).toArray) (k : Int) (hk : I64 k) :
    (RxA.node k 0 0 0 0 0 0 (some ⟨b, 0, none⟩) 2 [X, Y]).In w w.heap.size := by
  have hc : ∀ j, w.cell? ⟨b, j, none⟩ = cs[j]? := fun j => by simp [World.cell?, hb]
  simp only [RxA.In]
  refine ⟨⟨hk, ⟨by omega, by omega⟩, ⟨by omega, by omega⟩, ⟨by omega, by omega⟩, ⟨by omega, by omega⟩, ⟨by omega, by omega⟩, ⟨by omega, by omega⟩⟩, by simp, by decide, by simp, .inr ⟨b, 0, rfl, lt_of_block hb, ?_⟩⟩
  refine inL_of_row (fun j u hu => ?_) (fun Z hZ => ?_)
  · rw [Nat.zero_add, hc, hcs]; simpa [rxCells] using hu
  · rcases List.mem_cons.1 hZ with rfl | hZ
    · exact in_later8 hx hl
    · rw [List.mem_singleton.1 hZ]; exact in_later8 hy hl
theorem sz_of1 {w0 w : World} {X : RxA} (hx : X.In w0 w0.heap.size) (hl : Later w0 w) (b : Nat) (cs : Array Value) (fr : Nat × Nat) (hb : w.heap[b]? = some (.cells cs 26 fr)) (hcs : cs = X.cells.toArray) (mn mx : Int) (hmn : I64 mn) (hmx : I64 mx) :
    (RxA.node 3 mn mx 0 0 0 0 (some ⟨b, 0, none⟩) 1 [X]).In w w.heap.size := by
  have hc : ∀ j, w.cell? ⟨b, j, none⟩ = cs[j]? := fun j => by simp [World.cell?, hb]
  simp only [RxA.In]
  refine ⟨⟨⟨by omega, by omega⟩, hmn, hmx, ⟨by omega, by omega⟩, ⟨by omega, by omega⟩, ⟨by omega, by omega⟩, ⟨by omega, by omega⟩⟩, by simp, by decide, by simp, .inr ⟨b, 0, rfl, lt_of_block hb, ?_⟩⟩
  refine inL_of_row (fun j u hu => ?_) (fun Z hZ => ?_)
  · rw [Nat.zero_add, hc, hcs]; simpa [rxCells] using hu
  · rw [List.mem_singleton.1 hZ]; exact in_later8 hx hl
set_option maxRecDepth 100000 in
set_option maxHeartbeats 4000000 in
theorem sizes_any (w : World) (X Y : RxA) (n : Int) (hn : I64 n) (hx : X.In w w.heap.size) (hy : Y.In w w.heap.size) (hP : PowAt w) :
    Calls Tryd.prog 4 #[X.val, Y.val, .int .i64 n] w fun e w' => e = .returned (.bool true) ∧ Later w w' := by
  obtain ⟨w0, hw0⟩ : ∃ w0, (w.alloc (.cells X.cells.toArray 26)).alloc (.cells Y.cells.toArray 26) = w0 := ⟨_, rfl⟩
  have hl0 : Later w w0 := by rw [← hw0]; exact ((Later.refl w).alloc _).alloc _
  have hx0 : w0.heap[w.heap.size]? = some (.cells X.cells.toArray 26 (0, 0)) := by rw [← hw0]; exact alloc_old (alloc_block w _) _
  have hy0 : w0.heap[w.heap.size + 1]? = some (.cells Y.cells.toArray 26 (0, 0)) := by
    have := alloc_block (w.alloc (.cells X.cells.toArray 26)) (.cells Y.cells.toArray 26)
    rw [World.size_alloc] at this
    rw [← hw0]; exact this
  have hxi := in_later8 hx hl0
  have hyi := in_later8 hy hl0
  obtain ⟨x, hxb⟩ : ∃ x, X.bare = x := ⟨_, rfl⟩
  obtain ⟨y, hyb⟩ : ∃ y, Y.bare = y := ⟨_, rfl⟩
  obtain ⟨sx, hsx⟩ : ∃ sx, sizeR x = sx := ⟨_, rfl⟩
  obtain ⟨sy, hsy⟩ : ∃ sy, sizeR y = sy := ⟨_, rfl⟩
  obtain ⟨cx, hcx⟩ : ∃ cx, checkR x = cx := ⟨_, rfl⟩
  obtain ⟨cy, hcy⟩ : ∃ cy, checkR y = cy := ⟨_, rfl⟩
  have HSX := Lib.hid (fun w1 (h1 : Later w0 w1) => (show Calls Tryd.prog 14 #[X.val] w1 fun e w' => e = .returned (.int .i64 sx) ∧ Later w1 w' from by
    have h := psizeF_any X w1 w1.heap.size (Nat.le_refl _) (in_later8 hxi h1)
    rw [hxb, hsx] at h
    exact h))
  have HSY := Lib.hid (fun w1 (h1 : Later w0 w1) => (show Calls Tryd.prog 14 #[Y.val] w1 fun e w' => e = .returned (.int .i64 sy) ∧ Later w1 w' from by
    have h := psizeF_any Y w1 w1.heap.size (Nat.le_refl _) (in_later8 hyi h1)
    rw [hyb, hsy] at h
    exact h))
  have HCX := Lib.hid (fun w1 (h1 : Later w0 w1) => (show Calls Tryd.prog 11 #[X.val] w1 fun e w' => e = .returned (.int .i64 cx) ∧ Later w1 w' from by
    have h := pcheck_any X w1 w1.heap.size (Nat.le_refl _) (in_later8 hxi h1)
    rw [hxb, hcx] at h
    exact h))
  have HCY := Lib.hid (fun w1 (h1 : Later w0 w1) => (show Calls Tryd.prog 11 #[Y.val] w1 fun e w' => e = .returned (.int .i64 cy) ∧ Later w1 w' from by
    have h := pcheck_any Y w1 w1.heap.size (Nat.le_refl _) (in_later8 hyi h1)
    rw [hyb, hcy] at h
    exact h))
  have HS2 := Lib.hid (fun (hf : x.formB = true) (hg : y.formB = true) w1 (h1 : Later w0 w1) (b : Nat) (cs : Array Value) (fr : Nat × Nat) (hb : w1.heap[b]? = some (.cells cs 26 fr)) (hcs : cs = (X.cells ++ Y.cells).toArray) (k : Int) (hk : k = 1 ∨ k = 2) => (show Calls Tryd.prog 14 #[.agg #[.int .i64 k, .int .i64 0, .int .i64 0, .int .u64 0, .int .u64 0, .int .u64 0, .int .u64 0, .slice (some ⟨b, 0, none⟩) 2 2]] w1 fun e w' => e = .returned (.int .i64 (min 257 (1 + sx + sy))) ∧ Later w1 w' from by
    have h := psizeF_any (RxA.node k 0 0 0 0 0 0 (some ⟨b, 0, none⟩) 2 [X, Y]) w1 w1.heap.size (Nat.le_refl _) (sz_of2 hxi hyi h1 b cs fr hb hcs k (by unfold I64; omega))
    have e : sizeR (RxA.node k 0 0 0 0 0 0 (some ⟨b, 0, none⟩) 2 [X, Y]).bare = min 257 (1 + sx + sy) := by
      simp only [RxA.bare, bareAll, hxb, hyb]
      rw [size_two hk hf hg, hsx, hsy]
    rw [e] at h
    exact h))
  have HS1 := Lib.hid (fun w1 (h1 : Later w0 w1) (b : Nat) (cs : Array Value) (fr : Nat × Nat) (hb : w1.heap[b]? = some (.cells cs 26 fr)) (hcs : cs = X.cells.toArray) (mn mx : Int) (hmn : I64 mn) (hmx : I64 mx) (v : Int) (hv : sizeR (.node 3 mn mx 0 0 0 0 [x]) = v) => (show Calls Tryd.prog 14 #[.agg #[.int .i64 3, .int .i64 mn, .int .i64 mx, .int .u64 0, .int .u64 0, .int .u64 0, .int .u64 0, .slice (some ⟨b, 0, none⟩) 1 1]] w1 fun e w' => e = .returned (.int .i64 v) ∧ Later w1 w' from by
    have h := psizeF_any (RxA.node 3 mn mx 0 0 0 0 (some ⟨b, 0, none⟩) 1 [X]) w1 w1.heap.size (Nat.le_refl _) (sz_of1 hxi h1 b cs fr hb hcs mn mx hmn hmx)
    have e : sizeR (RxA.node 3 mn mx 0 0 0 0 (some ⟨b, 0, none⟩) 1 [X]).bare = v := by
      simp only [RxA.bare, bareAll, hxb]
      exact hv
    rw [e] at h
    exact h))
  have HFIX := Lib.hid (fun w1 (h1 : Later w0 w1) => fixed05_any w1 (hP.later (hl0.trans h1)))
  obtain ⟨zx1, zx2, zx3, zx4⟩ := sizeR_zero x
  obtain ⟨zy1, zy2, zy3, zy4⟩ := sizeR_zero y
  rw [hsx] at zx1 zx3 zx4
  rw [hsy] at zy1 zy3 zy4
  rw [hcx] at zx2
  rw [hcy] at zy2
  have hrep := fun (hf : x.formB = true) (h0 : 0 ≤ n) (h15 : n ≤ 15) => show sizeR (.node 3 n (-1) 0 0 0 0 [x]) = min 257 (1 + max 1 n * sx) ∧ sizeR (.node 3 0 n 0 0 0 0 [x]) = min 257 (1 + max 1 n * sx) from
    ⟨by rw [← hsx]; exact size_rep ⟨h0, h15, by omega, .inl rfl⟩ (by unfold times; rw [if_pos rfl]; omega) hf, by rw [← hsx]; exact size_rep ⟨by omega, by omega, h15, .inr h0⟩ (by unfold times; rw [if_pos rfl]; omega) hf⟩
  have hrepb := fun (h : n < 0 ∨ 15 < n) => size_rep_bad (mx := -1) h x
  have HREP := Lib.hid hrep
  have HREPB := Lib.hid hrepb
  clear hx hy hP hxi hyi hxb hyb hsx hsy hcx hcy hrep hrepb
  obtain ⟨k, mn, mx, s0, s1, s2, s3, a, cap, l⟩ := X
  obtain ⟨k', mn', mx', s0', s1', s2', s3', a', cap', l'⟩ := Y
  simp only [RxA.val, RxA.cells, List.cons_append, List.nil_append] at HSX HSY HCX HCY HS2 HS1 hx0 hy0 hw0 ⊢
  obtain ⟨b0, hb0⟩ : ∃ b0, w.heap.size = b0 := ⟨_, rfl⟩
  obtain ⟨nl, hnl⟩ : ∃ nl, l.length = nl := ⟨_, rfl⟩
  obtain ⟨nl', hnl'⟩ : ∃ nl', l'.length = nl' := ⟨_, rfl⟩
  rw [hnl] at HSX HCX HS2 HS1 hx0 hw0
  rw [hnl'] at HSY HCY HS2 hy0 hw0
  rw [hnl, hnl']
  rw [hb0] at hx0 hy0
  have HS := Lib.hid (show ∀ w', Later w0 w' → w'.cell? ⟨b0, 0, none⟩ = some (.int .i64 k) ∧ w'.cell? ⟨b0, 1, none⟩ = some (.int .i64 mn) ∧ w'.cell? ⟨b0, 2, none⟩ = some (.int .i64 mx) ∧ w'.cell? ⟨b0, 3, none⟩ = some (.int .u64 s0) ∧ w'.cell? ⟨b0, 4, none⟩ = some (.int .u64 s1) ∧ w'.cell? ⟨b0, 5, none⟩ = some (.int .u64 s2) ∧ w'.cell? ⟨b0, 6, none⟩ = some (.int .u64 s3) ∧ w'.cell? ⟨b0, 7, none⟩ = some (.slice a nl cap) ∧ w'.cell? ⟨b0 + 1, 0, none⟩ = some (.int .i64 k') ∧ w'.cell? ⟨b0 + 1, 1, none⟩ = some (.int .i64 mn') ∧ w'.cell? ⟨b0 + 1, 2, none⟩ = some (.int .i64 mx') ∧ w'.cell? ⟨b0 + 1, 3, none⟩ = some (.int .u64 s0') ∧ w'.cell? ⟨b0 + 1, 4, none⟩ = some (.int .u64 s1') ∧ w'.cell? ⟨b0 + 1, 5, none⟩ = some (.int .u64 s2') ∧ w'.cell? ⟨b0 + 1, 6, none⟩ = some (.int .u64 s3') ∧ w'.cell? ⟨b0 + 1, 7, none⟩ = some (.slice a' nl' cap') from by
    intro w' h'
    have h1 := h'.block hx0
    have h2 := h'.block hy0
    refine ⟨?_, ?_, ?_, ?_, ?_, ?_, ?_, ?_, ?_, ?_, ?_, ?_, ?_, ?_, ?_, ?_⟩ <;> first | exact cell_of_block h1 _ | exact cell_of_block h2 _)
  have HSZ := Lib.hid (fun w' (h' : Later w0 w') => show b0 < w'.heap.size ∧ b0 + 1 < w'.heap.size from ⟨lt_of_block (h'.block hx0), lt_of_block (h'.block hy0)⟩)
  have HL0 := Lib.hid hl0
  have HW0 := Lib.hid hw0
  have HB0 := Lib.hid hb0
  clear hl0 hw0 hx0 hy0 hnl hnl'
  have hcase : ((sx == 0) = true ∧ (sy == 0) = true ∧ (cx == 52) = true ∧ (cy == 52) = true) ∨ ((sx == 0) = true ∧ (sy == 0) = false ∧ (cx == 52) = true ∧ (cy == 52) = false) ∨ ((sx == 0) = false ∧ (sy == 0) = true ∧ (cx == 52) = false ∧ (cy == 52) = true) ∨ ((sx == 0) = false ∧ (sy == 0) = false ∧ x.formB = true ∧ y.formB = true) := by
    simp only [beq_iff_eq, beq_eq_false_iff_ne, ne_eq, zx1, zx2, zy1, zy2]
    cases x.formB <;> cases y.formB <;> simp
  clear zx1 zx2 zy1 zy2
  rcases hcase with ⟨e1, e2, e3, e4⟩ | ⟨e1, e2, e3, e4⟩ | ⟨e1, e2, e3, e4⟩ | ⟨e1, e2, hfx, hfy⟩
  · go_enter Tryd.func4, Tryd.ntmps4
    go_wp2_with fail
    rw [HW0.out]
    go_upto_region 3 with (first
      | (go_at_call 10; (with_reducible refine (HFIX.out _ (Later.refl _)).mono ?_); rintro e w3 ⟨rfl, hl3⟩)
      | fail)
    go_cut [7, 8] from 12 to 15 (fun u v wx => u = .int .i64 sx ∧ v = .int .i64 sy ∧ Later w3 wx)
    case first =>
      obtain ⟨d0, d1, d2, d3, d4, d5, d6, d7, d8, d9, d10, d11, d12, d13, d14, d15⟩ := HS.out w3 hl3
      have hl30 := hl3
      go_region_held3 (fun w' => w'.cell? ⟨b0, 0, none⟩ = some (.int .i64 k) ∧ w'.cell? ⟨b0, 1, none⟩ = some (.int .i64 mn) ∧ w'.cell? ⟨b0, 2, none⟩ = some (.int .i64 mx) ∧ w'.cell? ⟨b0, 3, none⟩ = some (.int .u64 s0) ∧ w'.cell? ⟨b0, 4, none⟩ = some (.int .u64 s1) ∧ w'.cell? ⟨b0, 5, none⟩ = some (.int .u64 s2) ∧ w'.cell? ⟨b0, 6, none⟩ = some (.int .u64 s3) ∧ w'.cell? ⟨b0, 7, none⟩ = some (.slice a nl cap) ∧ w'.cell? ⟨b0 + 1, 0, none⟩ = some (.int .i64 k') ∧ w'.cell? ⟨b0 + 1, 1, none⟩ = some (.int .i64 mn') ∧ w'.cell? ⟨b0 + 1, 2, none⟩ = some (.int .i64 mx') ∧ w'.cell? ⟨b0 + 1, 3, none⟩ = some (.int .u64 s0') ∧ w'.cell? ⟨b0 + 1, 4, none⟩ = some (.int .u64 s1') ∧ w'.cell? ⟨b0 + 1, 5, none⟩ = some (.int .u64 s2') ∧ w'.cell? ⟨b0 + 1, 6, none⟩ = some (.int .u64 s3') ∧ w'.cell? ⟨b0 + 1, 7, none⟩ = some (.slice a' nl' cap'))
        (exact HS.out _ (by repeat (first | assumption | exact Later.refl _ | refine Later.drew ?_ | refine Later.trans ?_ (by assumption))))
        (first
          | (go_at_call 14; (with_reducible refine (HSX.out _ (by repeat (first | assumption | exact Later.refl _ | refine Later.drew ?_ | refine Later.trans ?_ (by assumption)))).mono ?_); rintro e w4 ⟨rfl, hl4⟩)
            | (go_at_call 14; (with_reducible refine (HSY.out _ (by repeat (first | assumption | exact Later.refl _ | refine Later.drew ?_ | refine Later.trans ?_ (by assumption)))).mono ?_); rintro e w5 ⟨rfl, hl5⟩)
            | fail)
      all_goals
        go_wp2_with fail
        go_meet
        case rel => exact ⟨rfl, rfl, (by repeat (first | assumption | exact Later.refl _ | refine Later.drew ?_ | refine Later.trans ?_ (by assumption)))⟩
    case rest =>
      obtain ⟨rfl, rfl, hlc⟩ := hcut
      have hl0c : Later w0 wc := hl3.trans hlc
      obtain ⟨d0, d1, d2, d3, d4, d5, d6, d7, d8, d9, d10, d11, d12, d13, d14, d15⟩ := HS.out wc hl0c
      go_wp2_with (first
        | (go_at_call 11; (with_reducible refine (HCX.out _ (by repeat (first | assumption | exact Later.refl _ | refine Later.alloc ?_ _ | refine Later.drew ?_ | refine Later.drewN ?_ _ | refine Later.trans ?_ (by assumption)))).mono ?_); rintro e w6 ⟨rfl, hl6⟩; clear d0 d1 d2 d3 d4 d5 d6 d7 d8 d9 d10 d11 d12 d13 d14 d15; obtain ⟨d0, d1, d2, d3, d4, d5, d6, d7, d8, d9, d10, d11, d12, d13, d14, d15⟩ := HS.out w6 (by repeat (first | assumption | exact Later.refl _ | refine Later.alloc ?_ _ | refine Later.drew ?_ | refine Later.drewN ?_ _ | refine Later.trans ?_ (by assumption))))
        | (go_at_call 11; (with_reducible refine (HCY.out _ (by repeat (first | assumption | exact Later.refl _ | refine Later.alloc ?_ _ | refine Later.drew ?_ | refine Later.drewN ?_ _ | refine Later.trans ?_ (by assumption)))).mono ?_); rintro e w7 ⟨rfl, hl7⟩)
        | fail)
      go_ret
      exact ⟨rfl, HL0.out.trans (by repeat (first | assumption | exact Later.refl _ | refine Later.alloc ?_ _ | refine Later.drew ?_ | refine Later.drewN ?_ _ | refine Later.trans ?_ (by assumption)))⟩
  · go_enter Tryd.func4, Tryd.ntmps4
    go_wp2_with fail
    rw [HW0.out]
    go_upto_region 3 with (first
      | (go_at_call 10; (with_reducible refine (HFIX.out _ (Later.refl _)).mono ?_); rintro e w3 ⟨rfl, hl3⟩)
      | fail)
    go_cut [7, 8] from 12 to 15 (fun u v wx => u = .int .i64 sx ∧ v = .int .i64 sy ∧ Later w3 wx)
    case first =>
      obtain ⟨d0, d1, d2, d3, d4, d5, d6, d7, d8, d9, d10, d11, d12, d13, d14, d15⟩ := HS.out w3 hl3
      have hl30 := hl3
      go_region_held3 (fun w' => w'.cell? ⟨b0, 0, none⟩ = some (.int .i64 k) ∧ w'.cell? ⟨b0, 1, none⟩ = some (.int .i64 mn) ∧ w'.cell? ⟨b0, 2, none⟩ = some (.int .i64 mx) ∧ w'.cell? ⟨b0, 3, none⟩ = some (.int .u64 s0) ∧ w'.cell? ⟨b0, 4, none⟩ = some (.int .u64 s1) ∧ w'.cell? ⟨b0, 5, none⟩ = some (.int .u64 s2) ∧ w'.cell? ⟨b0, 6, none⟩ = some (.int .u64 s3) ∧ w'.cell? ⟨b0, 7, none⟩ = some (.slice a nl cap) ∧ w'.cell? ⟨b0 + 1, 0, none⟩ = some (.int .i64 k') ∧ w'.cell? ⟨b0 + 1, 1, none⟩ = some (.int .i64 mn') ∧ w'.cell? ⟨b0 + 1, 2, none⟩ = some (.int .i64 mx') ∧ w'.cell? ⟨b0 + 1, 3, none⟩ = some (.int .u64 s0') ∧ w'.cell? ⟨b0 + 1, 4, none⟩ = some (.int .u64 s1') ∧ w'.cell? ⟨b0 + 1, 5, none⟩ = some (.int .u64 s2') ∧ w'.cell? ⟨b0 + 1, 6, none⟩ = some (.int .u64 s3') ∧ w'.cell? ⟨b0 + 1, 7, none⟩ = some (.slice a' nl' cap'))
        (exact HS.out _ (by repeat (first | assumption | exact Later.refl _ | refine Later.drew ?_ | refine Later.trans ?_ (by assumption))))
        (first
          | (go_at_call 14; (with_reducible refine (HSX.out _ (by repeat (first | assumption | exact Later.refl _ | refine Later.drew ?_ | refine Later.trans ?_ (by assumption)))).mono ?_); rintro e w4 ⟨rfl, hl4⟩)
            | (go_at_call 14; (with_reducible refine (HSY.out _ (by repeat (first | assumption | exact Later.refl _ | refine Later.drew ?_ | refine Later.trans ?_ (by assumption)))).mono ?_); rintro e w5 ⟨rfl, hl5⟩)
            | fail)
      all_goals
        go_wp2_with fail
        go_meet
        case rel => exact ⟨rfl, rfl, (by repeat (first | assumption | exact Later.refl _ | refine Later.drew ?_ | refine Later.trans ?_ (by assumption)))⟩
    case rest =>
      obtain ⟨rfl, rfl, hlc⟩ := hcut
      have hl0c : Later w0 wc := hl3.trans hlc
      obtain ⟨d0, d1, d2, d3, d4, d5, d6, d7, d8, d9, d10, d11, d12, d13, d14, d15⟩ := HS.out wc hl0c
      go_wp2_with (first
        | (go_at_call 11; (with_reducible refine (HCX.out _ (by repeat (first | assumption | exact Later.refl _ | refine Later.alloc ?_ _ | refine Later.drew ?_ | refine Later.drewN ?_ _ | refine Later.trans ?_ (by assumption)))).mono ?_); rintro e w6 ⟨rfl, hl6⟩; clear d0 d1 d2 d3 d4 d5 d6 d7 d8 d9 d10 d11 d12 d13 d14 d15; obtain ⟨d0, d1, d2, d3, d4, d5, d6, d7, d8, d9, d10, d11, d12, d13, d14, d15⟩ := HS.out w6 (by repeat (first | assumption | exact Later.refl _ | refine Later.alloc ?_ _ | refine Later.drew ?_ | refine Later.drewN ?_ _ | refine Later.trans ?_ (by assumption))))
        | (go_at_call 11; (with_reducible refine (HCY.out _ (by repeat (first | assumption | exact Later.refl _ | refine Later.alloc ?_ _ | refine Later.drew ?_ | refine Later.drewN ?_ _ | refine Later.trans ?_ (by assumption)))).mono ?_); rintro e w7 ⟨rfl, hl7⟩)
        | fail)
      go_ret
      exact ⟨rfl, HL0.out.trans (by repeat (first | assumption | exact Later.refl _ | refine Later.alloc ?_ _ | refine Later.drew ?_ | refine Later.drewN ?_ _ | refine Later.trans ?_ (by assumption)))⟩
  · go_enter Tryd.func4, Tryd.ntmps4
    go_wp2_with fail
    rw [HW0.out]
    go_upto_region 3 with (first
      | (go_at_call 10; (with_reducible refine (HFIX.out _ (Later.refl _)).mono ?_); rintro e w3 ⟨rfl, hl3⟩)
      | fail)
    go_cut [7, 8] from 12 to 15 (fun u v wx => u = .int .i64 sx ∧ v = .int .i64 sy ∧ Later w3 wx)
    case first =>
      obtain ⟨d0, d1, d2, d3, d4, d5, d6, d7, d8, d9, d10, d11, d12, d13, d14, d15⟩ := HS.out w3 hl3
      have hl30 := hl3
      go_region_held3 (fun w' => w'.cell? ⟨b0, 0, none⟩ = some (.int .i64 k) ∧ w'.cell? ⟨b0, 1, none⟩ = some (.int .i64 mn) ∧ w'.cell? ⟨b0, 2, none⟩ = some (.int .i64 mx) ∧ w'.cell? ⟨b0, 3, none⟩ = some (.int .u64 s0) ∧ w'.cell? ⟨b0, 4, none⟩ = some (.int .u64 s1) ∧ w'.cell? ⟨b0, 5, none⟩ = some (.int .u64 s2) ∧ w'.cell? ⟨b0, 6, none⟩ = some (.int .u64 s3) ∧ w'.cell? ⟨b0, 7, none⟩ = some (.slice a nl cap) ∧ w'.cell? ⟨b0 + 1, 0, none⟩ = some (.int .i64 k') ∧ w'.cell? ⟨b0 + 1, 1, none⟩ = some (.int .i64 mn') ∧ w'.cell? ⟨b0 + 1, 2, none⟩ = some (.int .i64 mx') ∧ w'.cell? ⟨b0 + 1, 3, none⟩ = some (.int .u64 s0') ∧ w'.cell? ⟨b0 + 1, 4, none⟩ = some (.int .u64 s1') ∧ w'.cell? ⟨b0 + 1, 5, none⟩ = some (.int .u64 s2') ∧ w'.cell? ⟨b0 + 1, 6, none⟩ = some (.int .u64 s3') ∧ w'.cell? ⟨b0 + 1, 7, none⟩ = some (.slice a' nl' cap'))
        (exact HS.out _ (by repeat (first | assumption | exact Later.refl _ | refine Later.drew ?_ | refine Later.trans ?_ (by assumption))))
        (first
          | (go_at_call 14; (with_reducible refine (HSX.out _ (by repeat (first | assumption | exact Later.refl _ | refine Later.drew ?_ | refine Later.trans ?_ (by assumption)))).mono ?_); rintro e w4 ⟨rfl, hl4⟩)
            | (go_at_call 14; (with_reducible refine (HSY.out _ (by repeat (first | assumption | exact Later.refl _ | refine Later.drew ?_ | refine Later.trans ?_ (by assumption)))).mono ?_); rintro e w5 ⟨rfl, hl5⟩)
            | fail)
      all_goals
        go_wp2_with fail
        go_meet
        case rel => exact ⟨rfl, rfl, (by repeat (first | assumption | exact Later.refl _ | refine Later.drew ?_ | refine Later.trans ?_ (by assumption)))⟩
    case rest =>
      obtain ⟨rfl, rfl, hlc⟩ := hcut
      have hl0c : Later w0 wc := hl3.trans hlc
      obtain ⟨d0, d1, d2, d3, d4, d5, d6, d7, d8, d9, d10, d11, d12, d13, d14, d15⟩ := HS.out wc hl0c
      go_wp2_with (first
        | (go_at_call 11; (with_reducible refine (HCX.out _ (by repeat (first | assumption | exact Later.refl _ | refine Later.alloc ?_ _ | refine Later.drew ?_ | refine Later.drewN ?_ _ | refine Later.trans ?_ (by assumption)))).mono ?_); rintro e w6 ⟨rfl, hl6⟩; clear d0 d1 d2 d3 d4 d5 d6 d7 d8 d9 d10 d11 d12 d13 d14 d15; obtain ⟨d0, d1, d2, d3, d4, d5, d6, d7, d8, d9, d10, d11, d12, d13, d14, d15⟩ := HS.out w6 (by repeat (first | assumption | exact Later.refl _ | refine Later.alloc ?_ _ | refine Later.drew ?_ | refine Later.drewN ?_ _ | refine Later.trans ?_ (by assumption))))
        | (go_at_call 11; (with_reducible refine (HCY.out _ (by repeat (first | assumption | exact Later.refl _ | refine Later.alloc ?_ _ | refine Later.drew ?_ | refine Later.drewN ?_ _ | refine Later.trans ?_ (by assumption)))).mono ?_); rintro e w7 ⟨rfl, hl7⟩)
        | fail)
      go_ret
      exact ⟨rfl, HL0.out.trans (by repeat (first | assumption | exact Later.refl _ | refine Later.alloc ?_ _ | refine Later.drew ?_ | refine Later.drewN ?_ _ | refine Later.trans ?_ (by assumption)))⟩
  · have hn64 : -9223372036854775808 ≤ n ∧ n ≤ 9223372036854775807 := by unfold I64 at hn; omega
    rcases (by omega : n < 0 ∨ (0 ≤ n ∧ 15 < n) ∨ (0 ≤ n ∧ n ≤ 15)) with hn1 | ⟨hn1, hn2⟩ | ⟨hn1, hn2⟩
    · have HB := Lib.hid (HREPB.out (by omega))
      go_enter Tryd.func4, Tryd.ntmps4
      go_wp2_with fail
      rw [HW0.out]
      go_upto_region 3 with (first
        | (go_at_call 10; (with_reducible refine (HFIX.out _ (Later.refl _)).mono ?_); rintro e w3 ⟨rfl, hl3⟩)
        | fail)
      go_cut [7, 8] from 12 to 15 (fun u v wx => u = .int .i64 sx ∧ v = .int .i64 sy ∧ Later w3 wx)
      case first =>
        obtain ⟨d0, d1, d2, d3, d4, d5, d6, d7, d8, d9, d10, d11, d12, d13, d14, d15⟩ := HS.out w3 hl3
        have hl30 := hl3
        go_region_held3 (fun w' => w'.cell? ⟨b0, 0, none⟩ = some (.int .i64 k) ∧ w'.cell? ⟨b0, 1, none⟩ = some (.int .i64 mn) ∧ w'.cell? ⟨b0, 2, none⟩ = some (.int .i64 mx) ∧ w'.cell? ⟨b0, 3, none⟩ = some (.int .u64 s0) ∧ w'.cell? ⟨b0, 4, none⟩ = some (.int .u64 s1) ∧ w'.cell? ⟨b0, 5, none⟩ = some (.int .u64 s2) ∧ w'.cell? ⟨b0, 6, none⟩ = some (.int .u64 s3) ∧ w'.cell? ⟨b0, 7, none⟩ = some (.slice a nl cap) ∧ w'.cell? ⟨b0 + 1, 0, none⟩ = some (.int .i64 k') ∧ w'.cell? ⟨b0 + 1, 1, none⟩ = some (.int .i64 mn') ∧ w'.cell? ⟨b0 + 1, 2, none⟩ = some (.int .i64 mx') ∧ w'.cell? ⟨b0 + 1, 3, none⟩ = some (.int .u64 s0') ∧ w'.cell? ⟨b0 + 1, 4, none⟩ = some (.int .u64 s1') ∧ w'.cell? ⟨b0 + 1, 5, none⟩ = some (.int .u64 s2') ∧ w'.cell? ⟨b0 + 1, 6, none⟩ = some (.int .u64 s3') ∧ w'.cell? ⟨b0 + 1, 7, none⟩ = some (.slice a' nl' cap'))
          (exact HS.out _ (by repeat (first | assumption | exact Later.refl _ | refine Later.drew ?_ | refine Later.trans ?_ (by assumption))))
          (first
            | (go_at_call 14; (with_reducible refine (HSX.out _ (by repeat (first | assumption | exact Later.refl _ | refine Later.drew ?_ | refine Later.trans ?_ (by assumption)))).mono ?_); rintro e w4 ⟨rfl, hl4⟩)
              | (go_at_call 14; (with_reducible refine (HSY.out _ (by repeat (first | assumption | exact Later.refl _ | refine Later.drew ?_ | refine Later.trans ?_ (by assumption)))).mono ?_); rintro e w5 ⟨rfl, hl5⟩)
              | fail)
        all_goals
          go_wp2_with fail
          go_meet
          case rel => exact ⟨rfl, rfl, (by repeat (first | assumption | exact Later.refl _ | refine Later.drew ?_ | refine Later.trans ?_ (by assumption)))⟩
      case rest =>
        obtain ⟨rfl, rfl, hlc⟩ := hcut
        have hl0c : Later w0 wc := hl3.trans hlc
        obtain ⟨d0, d1, d2, d3, d4, d5, d6, d7, d8, d9, d10, d11, d12, d13, d14, d15⟩ := HS.out wc hl0c
        obtain ⟨ltc, ltc'⟩ := HSZ.out wc hl0c
        go_wp2_with (first
          | (go_at_call 14; (with_reducible refine (HS2.out hfx hfy _ (by repeat (first | assumption | exact Later.refl _ | refine Later.alloc ?_ _ | refine Later.drew ?_ | refine Later.drewN ?_ _ | refine Later.trans ?_ (by assumption))) _ _ _ (by repeat (first | assumption | refine drew_block ?_ | (refine alloc_at ?_; (simp; done)) | refine alloc_old ?_ _ | refine Later.block (by assumption) ?_)) (by rfl) 1 (.inl rfl)).mono ?_); rintro e w6 ⟨rfl, hl6⟩; clear d0 d1 d2 d3 d4 d5 d6 d7 d8 d9 d10 d11 d12 d13 d14 d15; obtain ⟨d0, d1, d2, d3, d4, d5, d6, d7, d8, d9, d10, d11, d12, d13, d14, d15⟩ := HS.out w6 (by repeat (first | assumption | exact Later.refl _ | refine Later.alloc ?_ _ | refine Later.drew ?_ | refine Later.drewN ?_ _ | refine Later.trans ?_ (by assumption))); obtain ⟨lt6, lt6'⟩ := HSZ.out w6 (by repeat (first | assumption | exact Later.refl _ | refine Later.alloc ?_ _ | refine Later.drew ?_ | refine Later.drewN ?_ _ | refine Later.trans ?_ (by assumption))))
          | (go_at_call 14; (with_reducible refine (HS2.out hfx hfy _ (by repeat (first | assumption | exact Later.refl _ | refine Later.alloc ?_ _ | refine Later.drew ?_ | refine Later.drewN ?_ _ | refine Later.trans ?_ (by assumption))) _ _ _ (by repeat (first | assumption | refine drew_block ?_ | (refine alloc_at ?_; (simp; done)) | refine alloc_old ?_ _ | refine Later.block (by assumption) ?_)) (by rfl) 2 (.inr rfl)).mono ?_); rintro e w7 ⟨rfl, hl7⟩; clear d0 d1 d2 d3 d4 d5 d6 d7 d8 d9 d10 d11 d12 d13 d14 d15; obtain ⟨d0, d1, d2, d3, d4, d5, d6, d7, d8, d9, d10, d11, d12, d13, d14, d15⟩ := HS.out w7 (by repeat (first | assumption | exact Later.refl _ | refine Later.alloc ?_ _ | refine Later.drew ?_ | refine Later.drewN ?_ _ | refine Later.trans ?_ (by assumption))); obtain ⟨lt7, lt7'⟩ := HSZ.out w7 (by repeat (first | assumption | exact Later.refl _ | refine Later.alloc ?_ _ | refine Later.drew ?_ | refine Later.drewN ?_ _ | refine Later.trans ?_ (by assumption))))
          | (go_at_call 14; (with_reducible refine (HS1.out _ (by repeat (first | assumption | exact Later.refl _ | refine Later.alloc ?_ _ | refine Later.drew ?_ | refine Later.drewN ?_ _ | refine Later.trans ?_ (by assumption))) _ _ _ (by repeat (first | assumption | refine drew_block ?_ | (refine alloc_at ?_; (simp; done)) | refine alloc_old ?_ _ | refine Later.block (by assumption) ?_)) (by rfl) n (-1) (by unfold I64; omega) (by unfold I64; omega) 0 HB.out).mono ?_); rintro e w8 ⟨rfl, hlw8⟩; clear d0 d1 d2 d3 d4 d5 d6 d7 d8 d9 d10 d11 d12 d13 d14 d15; obtain ⟨d0, d1, d2, d3, d4, d5, d6, d7, d8, d9, d10, d11, d12, d13, d14, d15⟩ := HS.out w8 (by repeat (first | assumption | exact Later.refl _ | refine Later.alloc ?_ _ | refine Later.drew ?_ | refine Later.drewN ?_ _ | refine Later.trans ?_ (by assumption))); obtain ⟨ltw8, ltw8'⟩ := HSZ.out w8 (by repeat (first | assumption | exact Later.refl _ | refine Later.alloc ?_ _ | refine Later.drew ?_ | refine Later.drewN ?_ _ | refine Later.trans ?_ (by assumption))))
          | fail)
        go_ret
        exact ⟨rfl, HL0.out.trans (by repeat (first | assumption | exact Later.refl _ | refine Later.alloc ?_ _ | refine Later.drew ?_ | refine Later.drewN ?_ _ | refine Later.trans ?_ (by assumption)))⟩
    · have HB := Lib.hid (HREPB.out (by omega))
      go_enter Tryd.func4, Tryd.ntmps4
      go_wp2_with fail
      rw [HW0.out]
      go_upto_region 3 with (first
        | (go_at_call 10; (with_reducible refine (HFIX.out _ (Later.refl _)).mono ?_); rintro e w3 ⟨rfl, hl3⟩)
        | fail)
      go_cut [7, 8] from 12 to 15 (fun u v wx => u = .int .i64 sx ∧ v = .int .i64 sy ∧ Later w3 wx)
      case first =>
        obtain ⟨d0, d1, d2, d3, d4, d5, d6, d7, d8, d9, d10, d11, d12, d13, d14, d15⟩ := HS.out w3 hl3
        have hl30 := hl3
        go_region_held3 (fun w' => w'.cell? ⟨b0, 0, none⟩ = some (.int .i64 k) ∧ w'.cell? ⟨b0, 1, none⟩ = some (.int .i64 mn) ∧ w'.cell? ⟨b0, 2, none⟩ = some (.int .i64 mx) ∧ w'.cell? ⟨b0, 3, none⟩ = some (.int .u64 s0) ∧ w'.cell? ⟨b0, 4, none⟩ = some (.int .u64 s1) ∧ w'.cell? ⟨b0, 5, none⟩ = some (.int .u64 s2) ∧ w'.cell? ⟨b0, 6, none⟩ = some (.int .u64 s3) ∧ w'.cell? ⟨b0, 7, none⟩ = some (.slice a nl cap) ∧ w'.cell? ⟨b0 + 1, 0, none⟩ = some (.int .i64 k') ∧ w'.cell? ⟨b0 + 1, 1, none⟩ = some (.int .i64 mn') ∧ w'.cell? ⟨b0 + 1, 2, none⟩ = some (.int .i64 mx') ∧ w'.cell? ⟨b0 + 1, 3, none⟩ = some (.int .u64 s0') ∧ w'.cell? ⟨b0 + 1, 4, none⟩ = some (.int .u64 s1') ∧ w'.cell? ⟨b0 + 1, 5, none⟩ = some (.int .u64 s2') ∧ w'.cell? ⟨b0 + 1, 6, none⟩ = some (.int .u64 s3') ∧ w'.cell? ⟨b0 + 1, 7, none⟩ = some (.slice a' nl' cap'))
          (exact HS.out _ (by repeat (first | assumption | exact Later.refl _ | refine Later.drew ?_ | refine Later.trans ?_ (by assumption))))
          (first
            | (go_at_call 14; (with_reducible refine (HSX.out _ (by repeat (first | assumption | exact Later.refl _ | refine Later.drew ?_ | refine Later.trans ?_ (by assumption)))).mono ?_); rintro e w4 ⟨rfl, hl4⟩)
              | (go_at_call 14; (with_reducible refine (HSY.out _ (by repeat (first | assumption | exact Later.refl _ | refine Later.drew ?_ | refine Later.trans ?_ (by assumption)))).mono ?_); rintro e w5 ⟨rfl, hl5⟩)
              | fail)
        all_goals
          go_wp2_with fail
          go_meet
          case rel => exact ⟨rfl, rfl, (by repeat (first | assumption | exact Later.refl _ | refine Later.drew ?_ | refine Later.trans ?_ (by assumption)))⟩
      case rest =>
        obtain ⟨rfl, rfl, hlc⟩ := hcut
        have hl0c : Later w0 wc := hl3.trans hlc
        obtain ⟨d0, d1, d2, d3, d4, d5, d6, d7, d8, d9, d10, d11, d12, d13, d14, d15⟩ := HS.out wc hl0c
        obtain ⟨ltc, ltc'⟩ := HSZ.out wc hl0c
        go_wp2_with (first
          | (go_at_call 14; (with_reducible refine (HS2.out hfx hfy _ (by repeat (first | assumption | exact Later.refl _ | refine Later.alloc ?_ _ | refine Later.drew ?_ | refine Later.drewN ?_ _ | refine Later.trans ?_ (by assumption))) _ _ _ (by repeat (first | assumption | refine drew_block ?_ | (refine alloc_at ?_; (simp; done)) | refine alloc_old ?_ _ | refine Later.block (by assumption) ?_)) (by rfl) 1 (.inl rfl)).mono ?_); rintro e w6 ⟨rfl, hl6⟩; clear d0 d1 d2 d3 d4 d5 d6 d7 d8 d9 d10 d11 d12 d13 d14 d15; obtain ⟨d0, d1, d2, d3, d4, d5, d6, d7, d8, d9, d10, d11, d12, d13, d14, d15⟩ := HS.out w6 (by repeat (first | assumption | exact Later.refl _ | refine Later.alloc ?_ _ | refine Later.drew ?_ | refine Later.drewN ?_ _ | refine Later.trans ?_ (by assumption))); obtain ⟨lt6, lt6'⟩ := HSZ.out w6 (by repeat (first | assumption | exact Later.refl _ | refine Later.alloc ?_ _ | refine Later.drew ?_ | refine Later.drewN ?_ _ | refine Later.trans ?_ (by assumption))))
          | (go_at_call 14; (with_reducible refine (HS2.out hfx hfy _ (by repeat (first | assumption | exact Later.refl _ | refine Later.alloc ?_ _ | refine Later.drew ?_ | refine Later.drewN ?_ _ | refine Later.trans ?_ (by assumption))) _ _ _ (by repeat (first | assumption | refine drew_block ?_ | (refine alloc_at ?_; (simp; done)) | refine alloc_old ?_ _ | refine Later.block (by assumption) ?_)) (by rfl) 2 (.inr rfl)).mono ?_); rintro e w7 ⟨rfl, hl7⟩; clear d0 d1 d2 d3 d4 d5 d6 d7 d8 d9 d10 d11 d12 d13 d14 d15; obtain ⟨d0, d1, d2, d3, d4, d5, d6, d7, d8, d9, d10, d11, d12, d13, d14, d15⟩ := HS.out w7 (by repeat (first | assumption | exact Later.refl _ | refine Later.alloc ?_ _ | refine Later.drew ?_ | refine Later.drewN ?_ _ | refine Later.trans ?_ (by assumption))); obtain ⟨lt7, lt7'⟩ := HSZ.out w7 (by repeat (first | assumption | exact Later.refl _ | refine Later.alloc ?_ _ | refine Later.drew ?_ | refine Later.drewN ?_ _ | refine Later.trans ?_ (by assumption))))
          | (go_at_call 14; (with_reducible refine (HS1.out _ (by repeat (first | assumption | exact Later.refl _ | refine Later.alloc ?_ _ | refine Later.drew ?_ | refine Later.drewN ?_ _ | refine Later.trans ?_ (by assumption))) _ _ _ (by repeat (first | assumption | refine drew_block ?_ | (refine alloc_at ?_; (simp; done)) | refine alloc_old ?_ _ | refine Later.block (by assumption) ?_)) (by rfl) n (-1) (by unfold I64; omega) (by unfold I64; omega) 0 HB.out).mono ?_); rintro e w8 ⟨rfl, hlw8⟩; clear d0 d1 d2 d3 d4 d5 d6 d7 d8 d9 d10 d11 d12 d13 d14 d15; obtain ⟨d0, d1, d2, d3, d4, d5, d6, d7, d8, d9, d10, d11, d12, d13, d14, d15⟩ := HS.out w8 (by repeat (first | assumption | exact Later.refl _ | refine Later.alloc ?_ _ | refine Later.drew ?_ | refine Later.drewN ?_ _ | refine Later.trans ?_ (by assumption))); obtain ⟨ltw8, ltw8'⟩ := HSZ.out w8 (by repeat (first | assumption | exact Later.refl _ | refine Later.alloc ?_ _ | refine Later.drew ?_ | refine Later.drewN ?_ _ | refine Later.trans ?_ (by assumption))))
          | fail)
        go_ret
        exact ⟨rfl, HL0.out.trans (by repeat (first | assumption | exact Later.refl _ | refine Later.alloc ?_ _ | refine Later.drew ?_ | refine Later.drewN ?_ _ | refine Later.trans ?_ (by assumption)))⟩
    · have HRA := Lib.hid (HREP.out hfx hn1 hn2).1
      have HRB := Lib.hid (HREP.out hfx hn1 hn2).2
      have hmx : 1 ≤ max 1 n ∧ max 1 n ≤ 15 := by omega
      have hmul : 0 ≤ max 1 n * sx ∧ max 1 n * sx ≤ 3855 := ⟨Int.mul_nonneg (by omega) zx3, by have := Int.mul_le_mul hmx.2 zx4 zx3 (by omega : (0 : Int) ≤ 15); omega⟩
      go_enter Tryd.func4, Tryd.ntmps4
      go_wp2_with fail
      rw [HW0.out]
      go_upto_region 3 with (first
        | (go_at_call 10; (with_reducible refine (HFIX.out _ (Later.refl _)).mono ?_); rintro e w3 ⟨rfl, hl3⟩)
        | fail)
      go_cut [7, 8] from 12 to 15 (fun u v wx => u = .int .i64 sx ∧ v = .int .i64 sy ∧ Later w3 wx)
      case first =>
        obtain ⟨d0, d1, d2, d3, d4, d5, d6, d7, d8, d9, d10, d11, d12, d13, d14, d15⟩ := HS.out w3 hl3
        have hl30 := hl3
        go_region_held3 (fun w' => w'.cell? ⟨b0, 0, none⟩ = some (.int .i64 k) ∧ w'.cell? ⟨b0, 1, none⟩ = some (.int .i64 mn) ∧ w'.cell? ⟨b0, 2, none⟩ = some (.int .i64 mx) ∧ w'.cell? ⟨b0, 3, none⟩ = some (.int .u64 s0) ∧ w'.cell? ⟨b0, 4, none⟩ = some (.int .u64 s1) ∧ w'.cell? ⟨b0, 5, none⟩ = some (.int .u64 s2) ∧ w'.cell? ⟨b0, 6, none⟩ = some (.int .u64 s3) ∧ w'.cell? ⟨b0, 7, none⟩ = some (.slice a nl cap) ∧ w'.cell? ⟨b0 + 1, 0, none⟩ = some (.int .i64 k') ∧ w'.cell? ⟨b0 + 1, 1, none⟩ = some (.int .i64 mn') ∧ w'.cell? ⟨b0 + 1, 2, none⟩ = some (.int .i64 mx') ∧ w'.cell? ⟨b0 + 1, 3, none⟩ = some (.int .u64 s0') ∧ w'.cell? ⟨b0 + 1, 4, none⟩ = some (.int .u64 s1') ∧ w'.cell? ⟨b0 + 1, 5, none⟩ = some (.int .u64 s2') ∧ w'.cell? ⟨b0 + 1, 6, none⟩ = some (.int .u64 s3') ∧ w'.cell? ⟨b0 + 1, 7, none⟩ = some (.slice a' nl' cap'))
          (exact HS.out _ (by repeat (first | assumption | exact Later.refl _ | refine Later.drew ?_ | refine Later.trans ?_ (by assumption))))
          (first
            | (go_at_call 14; (with_reducible refine (HSX.out _ (by repeat (first | assumption | exact Later.refl _ | refine Later.drew ?_ | refine Later.trans ?_ (by assumption)))).mono ?_); rintro e w4 ⟨rfl, hl4⟩)
              | (go_at_call 14; (with_reducible refine (HSY.out _ (by repeat (first | assumption | exact Later.refl _ | refine Later.drew ?_ | refine Later.trans ?_ (by assumption)))).mono ?_); rintro e w5 ⟨rfl, hl5⟩)
              | fail)
        all_goals
          go_wp2_with fail
          go_meet
          case rel => exact ⟨rfl, rfl, (by repeat (first | assumption | exact Later.refl _ | refine Later.drew ?_ | refine Later.trans ?_ (by assumption)))⟩
      case rest =>
        obtain ⟨rfl, rfl, hlc⟩ := hcut
        have hl0c : Later w0 wc := hl3.trans hlc
        obtain ⟨d0, d1, d2, d3, d4, d5, d6, d7, d8, d9, d10, d11, d12, d13, d14, d15⟩ := HS.out wc hl0c
        obtain ⟨ltc, ltc'⟩ := HSZ.out wc hl0c
        go_wp2_with (first
          | (go_at_call 14; (with_reducible refine (HS2.out hfx hfy _ (by repeat (first | assumption | exact Later.refl _ | refine Later.alloc ?_ _ | refine Later.drew ?_ | refine Later.drewN ?_ _ | refine Later.trans ?_ (by assumption))) _ _ _ (by repeat (first | assumption | refine drew_block ?_ | (refine alloc_at ?_; (simp; done)) | refine alloc_old ?_ _ | refine Later.block (by assumption) ?_)) (by rfl) 1 (.inl rfl)).mono ?_); rintro e w6 ⟨rfl, hl6⟩; clear d0 d1 d2 d3 d4 d5 d6 d7 d8 d9 d10 d11 d12 d13 d14 d15; obtain ⟨d0, d1, d2, d3, d4, d5, d6, d7, d8, d9, d10, d11, d12, d13, d14, d15⟩ := HS.out w6 (by repeat (first | assumption | exact Later.refl _ | refine Later.alloc ?_ _ | refine Later.drew ?_ | refine Later.drewN ?_ _ | refine Later.trans ?_ (by assumption))); obtain ⟨lt6, lt6'⟩ := HSZ.out w6 (by repeat (first | assumption | exact Later.refl _ | refine Later.alloc ?_ _ | refine Later.drew ?_ | refine Later.drewN ?_ _ | refine Later.trans ?_ (by assumption))))
          | (go_at_call 14; (with_reducible refine (HS2.out hfx hfy _ (by repeat (first | assumption | exact Later.refl _ | refine Later.alloc ?_ _ | refine Later.drew ?_ | refine Later.drewN ?_ _ | refine Later.trans ?_ (by assumption))) _ _ _ (by repeat (first | assumption | refine drew_block ?_ | (refine alloc_at ?_; (simp; done)) | refine alloc_old ?_ _ | refine Later.block (by assumption) ?_)) (by rfl) 2 (.inr rfl)).mono ?_); rintro e w7 ⟨rfl, hl7⟩; clear d0 d1 d2 d3 d4 d5 d6 d7 d8 d9 d10 d11 d12 d13 d14 d15; obtain ⟨d0, d1, d2, d3, d4, d5, d6, d7, d8, d9, d10, d11, d12, d13, d14, d15⟩ := HS.out w7 (by repeat (first | assumption | exact Later.refl _ | refine Later.alloc ?_ _ | refine Later.drew ?_ | refine Later.drewN ?_ _ | refine Later.trans ?_ (by assumption))); obtain ⟨lt7, lt7'⟩ := HSZ.out w7 (by repeat (first | assumption | exact Later.refl _ | refine Later.alloc ?_ _ | refine Later.drew ?_ | refine Later.drewN ?_ _ | refine Later.trans ?_ (by assumption))))
          | (go_at_call 14; (with_reducible refine (HS1.out _ (by repeat (first | assumption | exact Later.refl _ | refine Later.alloc ?_ _ | refine Later.drew ?_ | refine Later.drewN ?_ _ | refine Later.trans ?_ (by assumption))) _ _ _ (by repeat (first | assumption | refine drew_block ?_ | (refine alloc_at ?_; (simp; done)) | refine alloc_old ?_ _ | refine Later.block (by assumption) ?_)) (by rfl) n (-1) (by unfold I64; omega) (by unfold I64; omega) (min 257 (1 + max 1 n * sx)) HRA.out).mono ?_); rintro e w8 ⟨rfl, hlw8⟩; clear d0 d1 d2 d3 d4 d5 d6 d7 d8 d9 d10 d11 d12 d13 d14 d15; obtain ⟨d0, d1, d2, d3, d4, d5, d6, d7, d8, d9, d10, d11, d12, d13, d14, d15⟩ := HS.out w8 (by repeat (first | assumption | exact Later.refl _ | refine Later.alloc ?_ _ | refine Later.drew ?_ | refine Later.drewN ?_ _ | refine Later.trans ?_ (by assumption))); obtain ⟨ltw8, ltw8'⟩ := HSZ.out w8 (by repeat (first | assumption | exact Later.refl _ | refine Later.alloc ?_ _ | refine Later.drew ?_ | refine Later.drewN ?_ _ | refine Later.trans ?_ (by assumption))))
          | (go_at_call 14; (with_reducible refine (HS1.out _ (by repeat (first | assumption | exact Later.refl _ | refine Later.alloc ?_ _ | refine Later.drew ?_ | refine Later.drewN ?_ _ | refine Later.trans ?_ (by assumption))) _ _ _ (by repeat (first | assumption | refine drew_block ?_ | (refine alloc_at ?_; (simp; done)) | refine alloc_old ?_ _ | refine Later.block (by assumption) ?_)) (by rfl) 0 n (by unfold I64; omega) (by unfold I64; omega) (min 257 (1 + max 1 n * sx)) HRB.out).mono ?_); rintro e w9 ⟨rfl, hlw9⟩; clear d0 d1 d2 d3 d4 d5 d6 d7 d8 d9 d10 d11 d12 d13 d14 d15; obtain ⟨d0, d1, d2, d3, d4, d5, d6, d7, d8, d9, d10, d11, d12, d13, d14, d15⟩ := HS.out w9 (by repeat (first | assumption | exact Later.refl _ | refine Later.alloc ?_ _ | refine Later.drew ?_ | refine Later.drewN ?_ _ | refine Later.trans ?_ (by assumption))); obtain ⟨ltw9, ltw9'⟩ := HSZ.out w9 (by repeat (first | assumption | exact Later.refl _ | refine Later.alloc ?_ _ | refine Later.drew ?_ | refine Later.drewN ?_ _ | refine Later.trans ?_ (by assumption))))
          | fail)
        go_ret
        exact ⟨rfl, HL0.out.trans (by repeat (first | assumption | exact Later.refl _ | refine Later.alloc ?_ _ | refine Later.drew ?_ | refine Later.drewN ?_ _ | refine Later.trans ?_ (by assumption)))⟩
end Go.Proofs.YtjhclopdcbnmkaaDoor

