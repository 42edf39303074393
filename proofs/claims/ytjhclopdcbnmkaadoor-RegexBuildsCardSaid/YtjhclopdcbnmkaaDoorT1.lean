/- Same tells that equal expressions are the same. (Printed by wip/gen_t1.py.) -/
import Derived.Test.YtjhclopdcbnmkaaDoorS8
import Derived.Deep.RegionHeld3
set_option linter.unusedSimpArgs false
set_option linter.unusedVariables false
namespace Go.Proofs.YtjhclopdcbnmkaaDoor
open Go.RowKit PX

def SameOk (X : RxA) : Prop := ∀ (Y : RxA) (w : World), X.In w w.heap.size → Y.In w w.heap.size → X.bare = Y.bare →
    Calls Tryd.prog 13 #[X.val, Y.val] w fun e w' => e = .returned (.bool true) ∧ Later w w'
theorem bare_get {l l' : List RxA} (h : bareAll l = bareAll l') (j : Nat) (h1 : j < l.length) (h2 : j < l'.length) : l[j].bare = l'[j].bare := by
  rw [bareAll_eq, bareAll_eq] at h
  have := congrArg (·[j]?) h
  simp only [List.getElem?_map, List.getElem?_eq_getElem h1, List.getElem?_eq_getElem h2, Option.map_some, Option.some.injEq] at this
  exact this
theorem in_elem {w w1 : World} {k mn mx s0 s1 s2 s3 : Int} {a : Option Addr} {cap : Nat} {l : List RxA} (h : (RxA.node k mn mx s0 s1 s2 s3 a cap l).In w w.heap.size) (hl : Later w w1) (j : Nat) (hj : j < l.length) :
    ∃ b o, a = some ⟨b, o, none⟩ ∧ (∀ i, i < 8 → w1.cell? ⟨b, o + j * 8 + i, none⟩ = l[j].cells[i]?) ∧ l[j].In w1 w1.heap.size := by
  have h' := in_later8 h hl
  simp only [RxA.In] at h'
  obtain ⟨-, -, -, -, h'⟩ := h'
  rcases h' with rfl | ⟨b, o, rfl, hb, hr⟩
  · simp at hj
  · have := RxA.In.get hr j hj
    exact ⟨b, o, rfl, this.1, this.2⟩
set_option maxRecDepth 100000 in
set_option maxHeartbeats 4000000 in
theorem same_true : ∀ X : RxA, SameOk X := by
  intro X
  induction X using RxA.ind with
  | h k mn mx s0 s1 s2 s3 a cap l ih =>
    intro Y w hx hy hb
    obtain ⟨k', mn', mx', s0', s1', s2', s3', a', cap', l'⟩ := Y
    simp only [RxA.bare, Rx.node.injEq] at hb
    obtain ⟨rfl, rfl, rfl, rfl, rfl, rfl, rfl, hbl⟩ := hb
    have hlen : l'.length = l.length := by have := congrArg List.length hbl; rw [bareAll_len, bareAll_len] at this; exact this.symm
    have hcap : l.length ≤ cap ∧ cap ≤ 9223372036854775807 ∧ l.length ≤ cap' ∧ cap' ≤ 9223372036854775807 := by
      have h1 := hx
      have h2 := hy
      simp only [RxA.In, maxLen] at h1 h2
      rw [hlen] at h2
      exact ⟨h1.2.1, h1.2.2.1, h2.2.1, h2.2.2.1⟩
    obtain ⟨hca, hcb, hcc, hcd⟩ := hcap
    obtain ⟨n, hn⟩ : ∃ n, l.length = n := ⟨_, rfl⟩
    have HX := Lib.hid (fun w1 (h1 : Later w w1) j hj => in_elem hx h1 j hj)
    have HY := Lib.hid (fun w1 (h1 : Later w w1) j hj => in_elem hy h1 j hj)
    have HE := Lib.hid (fun j h1 h2 => bare_get hbl j h1 h2)
    have IH := Lib.hid ih
    have hs4 : same4 s0 s1 s2 s3 s0 s1 s2 s3 = true := by unfold same4; simp
    simp only [RxA.val, RxA.cells]
    rw [hlen, hn]
    rw [hn] at hca hcc hlen
    have HN := Lib.hid hn
    have HN' := Lib.hid hlen
    obtain ⟨w0, hw0⟩ : ∃ w0, (w.alloc (.cells #[.int .i64 k, .int .i64 mn, .int .i64 mx, .int .u64 s0, .int .u64 s1, .int .u64 s2, .int .u64 s3, .slice a n cap] 26)).alloc (.cells #[.int .i64 k, .int .i64 mn, .int .i64 mx, .int .u64 s0, .int .u64 s1, .int .u64 s2, .int .u64 s3, .slice a' n cap'] 26) = w0 := ⟨_, rfl⟩
    have hl0 : Later w w0 := by rw [← hw0]; exact ((Later.refl w).alloc _).alloc _
    have hx0 : w0.heap[w.heap.size]? = some (.cells #[.int .i64 k, .int .i64 mn, .int .i64 mx, .int .u64 s0, .int .u64 s1, .int .u64 s2, .int .u64 s3, .slice a n cap] 26 (0, 0)) := by rw [← hw0]; exact alloc_old (alloc_block w _) _
    have hy0 : w0.heap[w.heap.size + 1]? = some (.cells #[.int .i64 k, .int .i64 mn, .int .i64 mx, .int .u64 s0, .int .u64 s1, .int .u64 s2, .int .u64 s3, .slice a' n cap'] 26 (0, 0)) := by
      rw [← hw0]; exact alloc_block' _ _ _ (by simp)
    obtain ⟨b0, hb0⟩ : ∃ b0, w.heap.size = b0 := ⟨_, rfl⟩
    rw [hb0] at hx0 hy0
    have HS := Lib.hid (fun w' (h' : Later w0 w') => show (w'.cell? ⟨b0, 0, none⟩ = some (.int .i64 k) ∧ w'.cell? ⟨b0, 1, none⟩ = some (.int .i64 mn) ∧ w'.cell? ⟨b0, 2, none⟩ = some (.int .i64 mx) ∧ w'.cell? ⟨b0, 3, none⟩ = some (.int .u64 s0) ∧ w'.cell? ⟨b0, 4, none⟩ = some (.int .u64 s1) ∧ w'.cell? ⟨b0, 5, none⟩ = some (.int .u64 s2) ∧ w'.cell? ⟨b0, 6, none⟩ = some (.int .u64 s3) ∧ w'.cell? ⟨b0, 7, none⟩ = some (.slice a n cap)) ∧ (w'.cell? ⟨b0 + 1, 0, none⟩ = some (.int .i64 k) ∧ w'.cell? ⟨b0 + 1, 1, none⟩ = some (.int .i64 mn) ∧ w'.cell? ⟨b0 + 1, 2, none⟩ = some (.int .i64 mx) ∧ w'.cell? ⟨b0 + 1, 3, none⟩ = some (.int .u64 s0) ∧ w'.cell? ⟨b0 + 1, 4, none⟩ = some (.int .u64 s1) ∧ w'.cell? ⟨b0 + 1, 5, none⟩ = some (.int .u64 s2) ∧ w'.cell? ⟨b0 + 1, 6, none⟩ = some (.int .u64 s3) ∧ w'.cell? ⟨b0 + 1, 7, none⟩ = some (.slice a' n cap')) from by
      have h1 := h'.block hx0
      have h2 := h'.block hy0
      refine ⟨⟨?_, ?_, ?_, ?_, ?_, ?_, ?_, ?_⟩, ?_, ?_, ?_, ?_, ?_, ?_, ?_, ?_⟩ <;> first | exact cell_of_block h1 _ | exact cell_of_block h2 _)
    have HW0 := Lib.hid hw0
    have HL0 := Lib.hid hl0
    have HB0 := Lib.hid hb0
    clear hx hy hbl ih hn hlen hw0 hl0 hx0 hy0 hb0
    go_enter Tryd.func13, Tryd.ntmps13
    go_upto_region 1 with fail
    rw [HW0.out, HB0.out]
    obtain ⟨⟨d0, d1, d2, d3, d4, d5, d6, d7⟩, e0, e1, e2, e3, e4, e5, e6, e7⟩ := HS.out w0 (Later.refl _)
    go_wp2_with fail
    clear d0 d1 d2 d3 d4 d5 d6 d7 e0 e1 e2 e3 e4 e5 e6 e7
    go_loopw [5] (fun v wr => ∃ j : Nat, j ≤ n ∧ v = .int .i64 j ∧ Later w0 wr) (fun v _ => n - (intOf v).toNat)
    case atStart => exact ⟨0, by omega, rfl, Later.refl _⟩
    case round =>
      obtain ⟨j, hj, rfl, hlr⟩ := hrel
      obtain ⟨⟨-, -, -, -, -, -, -, d7⟩, -, -, -, -, -, -, -, e7⟩ := HS.out wr hlr
      by_cases hlt : j < n
      · obtain ⟨b, o, rfl, hxc, hxi⟩ := HX.out wr (HL0.out.trans hlr) j (by have := HN.out; omega)
        obtain ⟨b', o', rfl, hyc, hyi⟩ := HY.out wr (HL0.out.trans hlr) j (by have := HN'.out; omega)
        have hee := HE.out j (by have := HN.out; omega) (by have := HN'.out; omega)
        have hih := IH.out _ (List.getElem_mem (by have := HN.out; omega : j < l.length))
        obtain ⟨x, hxe⟩ : ∃ x, l[j]'(by have := HN.out; omega) = x := ⟨_, rfl⟩
        obtain ⟨y, hye⟩ : ∃ y, l'[j]'(by have := HN'.out; omega) = y := ⟨_, rfl⟩
        rw [hxe] at hxc hxi hee hih
        rw [hye] at hyc hyi hee
        clear hxe hye
        have HC := Lib.hid (fun w1 (h1 : Later wr w1) => hih y w1 (in_later8 hxi h1) (in_later8 hyi h1) hee)
        clear hih hxi hyi hee
        obtain ⟨ek, emn, emx, e0, e1, e2, e3, ea, ecap, el⟩ := x
        obtain ⟨fk, fmn, fmx, f0, f1, f2, f3, fa, fcap, fl⟩ := y
        simp only [RxA.val, RxA.cells] at HC
        obtain ⟨p0, p1, p2, p3, p4, p5, p6, p7⟩ := node_cells (o := o + j * 8) hxc
        obtain ⟨r0, r1, r2, r3, r4, r5, r6, r7⟩ := node_cells (o := o' + j * 8) hyc
        clear hxc hyc
        have hjn : (j : Int) < (n : Int) := by omega
        have hj0 : (0 : Int) ≤ (j : Int) := by omega
        have HSS := Lib.hid (show ∀ w', Later wr w' → w'.cell? ⟨b0, 7, none⟩ = some (.slice (some ⟨b, o, none⟩) n cap) ∧ w'.cell? ⟨b0 + 1, 7, none⟩ = some (.slice (some ⟨b', o', none⟩) n cap') ∧ w'.cell? ⟨b, o + j * 8, none⟩ = some (.int .i64 ek) ∧ w'.cell? ⟨b, o + j * 8 + 1, none⟩ = some (.int .i64 emn) ∧ w'.cell? ⟨b, o + j * 8 + 2, none⟩ = some (.int .i64 emx) ∧ w'.cell? ⟨b, o + j * 8 + 3, none⟩ = some (.int .u64 e0) ∧ w'.cell? ⟨b, o + j * 8 + 4, none⟩ = some (.int .u64 e1) ∧ w'.cell? ⟨b, o + j * 8 + 5, none⟩ = some (.int .u64 e2) ∧ w'.cell? ⟨b, o + j * 8 + 6, none⟩ = some (.int .u64 e3) ∧ w'.cell? ⟨b, o + j * 8 + 7, none⟩ = some (.slice ea el.length ecap) ∧ w'.cell? ⟨b', o' + j * 8, none⟩ = some (.int .i64 fk) ∧ w'.cell? ⟨b', o' + j * 8 + 1, none⟩ = some (.int .i64 fmn) ∧ w'.cell? ⟨b', o' + j * 8 + 2, none⟩ = some (.int .i64 fmx) ∧ w'.cell? ⟨b', o' + j * 8 + 3, none⟩ = some (.int .u64 f0) ∧ w'.cell? ⟨b', o' + j * 8 + 4, none⟩ = some (.int .u64 f1) ∧ w'.cell? ⟨b', o' + j * 8 + 5, none⟩ = some (.int .u64 f2) ∧ w'.cell? ⟨b', o' + j * 8 + 6, none⟩ = some (.int .u64 f3) ∧ w'.cell? ⟨b', o' + j * 8 + 7, none⟩ = some (.slice fa fl.length fcap) from fun w' h' => ⟨h'.cell d7, h'.cell e7, h'.cell p0, h'.cell p1, h'.cell p2, h'.cell p3, h'.cell p4, h'.cell p5, h'.cell p6, h'.cell p7, h'.cell r0, h'.cell r1, h'.cell r2, h'.cell r3, h'.cell r4, h'.cell r5, h'.cell r6, h'.cell r7⟩)
        go_upto_region 6 with fail
        go_region_held3 (fun w' => w'.cell? ⟨b0, 7, none⟩ = some (.slice (some ⟨b, o, none⟩) n cap) ∧ w'.cell? ⟨b0 + 1, 7, none⟩ = some (.slice (some ⟨b', o', none⟩) n cap') ∧ w'.cell? ⟨b, o + j * 8, none⟩ = some (.int .i64 ek) ∧ w'.cell? ⟨b, o + j * 8 + 1, none⟩ = some (.int .i64 emn) ∧ w'.cell? ⟨b, o + j * 8 + 2, none⟩ = some (.int .i64 emx) ∧ w'.cell? ⟨b, o + j * 8 + 3, none⟩ = some (.int .u64 e0) ∧ w'.cell? ⟨b, o + j * 8 + 4, none⟩ = some (.int .u64 e1) ∧ w'.cell? ⟨b, o + j * 8 + 5, none⟩ = some (.int .u64 e2) ∧ w'.cell? ⟨b, o + j * 8 + 6, none⟩ = some (.int .u64 e3) ∧ w'.cell? ⟨b, o + j * 8 + 7, none⟩ = some (.slice ea el.length ecap) ∧ w'.cell? ⟨b', o' + j * 8, none⟩ = some (.int .i64 fk) ∧ w'.cell? ⟨b', o' + j * 8 + 1, none⟩ = some (.int .i64 fmn) ∧ w'.cell? ⟨b', o' + j * 8 + 2, none⟩ = some (.int .i64 fmx) ∧ w'.cell? ⟨b', o' + j * 8 + 3, none⟩ = some (.int .u64 f0) ∧ w'.cell? ⟨b', o' + j * 8 + 4, none⟩ = some (.int .u64 f1) ∧ w'.cell? ⟨b', o' + j * 8 + 5, none⟩ = some (.int .u64 f2) ∧ w'.cell? ⟨b', o' + j * 8 + 6, none⟩ = some (.int .u64 f3) ∧ w'.cell? ⟨b', o' + j * 8 + 7, none⟩ = some (.slice fa fl.length fcap))
          (exact HSS.out _ (by repeat (first | assumption | exact Later.refl _ | refine Later.drew ?_ | refine Later.alloc ?_ _ | refine Later.trans ?_ (by assumption))))
          (first
            | (go_at_call 13; (with_reducible refine (HC.out _ (by repeat (first | assumption | exact Later.refl _ | refine Later.drew ?_ | refine Later.alloc ?_ _ | refine Later.trans ?_ (by assumption)))).mono ?_); rintro e w4 ⟨rfl, hl4⟩)
            | fail)
        all_goals
          go_wp2_with fail
          go_roundw
          case rel => exact ⟨j + 1, by omega, by go_num, hlr.trans (by repeat (first | assumption | exact Later.refl _ | refine Later.drew ?_ | refine Later.alloc ?_ _ | refine Later.trans ?_ (by assumption)))⟩
          case measure => simp [intOf]; omega
      · obtain rfl : j = n := by omega
        go_wp2_with fail
        go_ret
        exact ⟨rfl, HL0.out.trans hlr⟩
end Go.Proofs.YtjhclopdcbnmkaaDoor

