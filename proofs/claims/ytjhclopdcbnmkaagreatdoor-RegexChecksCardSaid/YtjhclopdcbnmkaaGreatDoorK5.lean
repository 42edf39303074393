/- The walks of the document's Text, whole, and of its Print. (Printed by wip/gen_k4.py.) -/
import Derived.Test.YtjhclopdcbnmkaaGreatDoorK4k1
import Derived.Test.YtjhclopdcbnmkaaGreatDoorK4k2
import Derived.Test.YtjhclopdcbnmkaaGreatDoorK4k3
import Derived.Test.YtjhclopdcbnmkaaGreatDoorS8
import Derived.Deep.RegionHeld3
set_option linter.unusedSimpArgs false
set_option linter.unusedVariables false
namespace Go.Proofs.YtjhclopdcbnmkaaGreatDoor
open Go.RowKit PX

theorem rtext_any : ∀ X : RxA, TextOf X := by
  intro X
  induction X using RxA.ind with
  | h k mn mx s0 s1 s2 s3 a cap l ih =>
    intro w B hB hin hf hbig
    rcases rx_kinds hf with rfl | rfl | rfl | rfl
    · have hin' := hin
      simp only [RxA.In] at hin'
      obtain ⟨⟨-, -, -, h0⟩, -⟩ := hin'
      refine (rtext_0 w mn mx s0 s1 s2 s3 a cap l.length h0).mono ?_
      rintro e w' ⟨rfl, hl⟩
      refine ⟨?_, hl⟩
      simp [RxA.bare, Rx.text]
    · exact rtext_1 mn mx s0 s1 s2 s3 a cap l ih w B hB hin hf hbig
    · exact rtext_2 mn mx s0 s1 s2 s3 a cap l ih w B hB hin hf hbig
    · exact rtext_3 mn mx s0 s1 s2 s3 a cap l ih w B hB hin hf hbig
set_option maxRecDepth 100000 in
set_option maxHeartbeats 1000000 in
theorem rprint_any (w : World) (X : RxA) (hin : X.In w w.heap.size) :
    Calls Tryz.prog 8 #[X.val] w fun e w' => e = .returned (.tuple #[.string ⟨(printS X.bare).toArray⟩, .int .i64 (printE X.bare)]) ∧ Later w w' := by
  obtain ⟨S, hS⟩ : ∃ S : ByteArray, (⟨(printS X.bare).toArray⟩ : ByteArray) = S := ⟨_, rfl⟩
  obtain ⟨E, hE⟩ : ∃ E, printE X.bare = E := ⟨_, rfl⟩
  have hck := fun w1 (h1 : Later w w1) => rcheck_any X w1 w1.heap.size (Nat.le_refl _) (in_later8 hin h1)
  have hpat := fun (hf : X.bare.formB = true) (hb : X.bare.big ≤ 256) w1 (h1 : Later w w1) => rtext_any X w1 w1.heap.size (Nat.le_refl _) (in_later8 hin h1) hf hb
  rw [hS, hE]
  obtain ⟨c, hc⟩ : ∃ c, checkR X.bare = c := ⟨_, rfl⟩
  obtain ⟨x, hx⟩ : ∃ x, X.bare = x := ⟨_, rfl⟩
  rw [hx] at hS hE hck hpat hc
  rw [hc] at hck
  clear hx hin
  obtain ⟨k, mn, mx, s0, s1, s2, s3, a, cap, l⟩ := X
  simp only [RxA.val, RxA.cells] at hck hpat ⊢
  have HCK := Lib.hid hck
  clear hck
  by_cases hc0 : c = 0
  · subst hc0
    have hg := printE_good hc
    obtain ⟨hf, hs⟩ := checkR_parts hc
    have hbig : x.big ≤ 256 := by have := Rx.sizeI_eq x; omega
    obtain ⟨T, hT⟩ : ∃ T : ByteArray, (⟨x.text.toArray⟩ : ByteArray) = T := ⟨_, rfl⟩
    have hts : T.size = x.text.length := by rw [← hT]; show x.text.toArray.size = _; rw [List.size_toArray]
    have hp := hpat hf hbig
    rw [hT] at hp
    have HPAT := Lib.hid hp
    clear hpat hp hf hs hbig hc
    by_cases hl : 128 < x.text.length
    · rw [if_pos hl] at hg
      obtain rfl : E = 51 := by omega
      obtain rfl : S = ⟨#[]⟩ := by rw [← hS]; unfold printS; rw [hg, if_neg (by decide)]
      have ht : (128 : Int) < T.size := by omega
      clear hS hE hg hT hts hl
      go_enter Tryz.func8, Tryz.ntmps8
      go_wp2_with (first
        | (go_at_call 11; (with_reducible refine (HCK.out _ ((Later.refl w).alloc _)).mono ?_); rintro e w1 ⟨rfl, hb1⟩; have hl1 := ((Later.refl w).alloc (.cells #[.int .i64 k, .int .i64 mn, .int .i64 mx, .int .u64 s0, .int .u64 s1, .int .u64 s2, .int .u64 s3, .slice a l.length cap] 26)).trans (Later.of hb1); have hE1 := (Later.of hb1).block (alloc_block w _); obtain ⟨d0, d1, d2, d3, d4, d5, d6, d7⟩ : w1.cell? ⟨w.heap.size, 0, none⟩ = some (.int .i64 k) ∧ w1.cell? ⟨w.heap.size, 1, none⟩ = some (.int .i64 mn) ∧ w1.cell? ⟨w.heap.size, 2, none⟩ = some (.int .i64 mx) ∧ w1.cell? ⟨w.heap.size, 3, none⟩ = some (.int .u64 s0) ∧ w1.cell? ⟨w.heap.size, 4, none⟩ = some (.int .u64 s1) ∧ w1.cell? ⟨w.heap.size, 5, none⟩ = some (.int .u64 s2) ∧ w1.cell? ⟨w.heap.size, 6, none⟩ = some (.int .u64 s3) ∧ w1.cell? ⟨w.heap.size, 7, none⟩ = some (.slice a l.length cap) := ⟨cell_of_block hE1 0, cell_of_block hE1 1, cell_of_block hE1 2, cell_of_block hE1 3, cell_of_block hE1 4, cell_of_block hE1 5, cell_of_block hE1 6, cell_of_block hE1 7⟩; clear hE1 hb1)
        | (go_at_call 27; (with_reducible refine (HPAT.out _ hl1).mono ?_); rintro e w2 ⟨rfl, hl2⟩)
        | fail)
      go_ret2
      exact ⟨rfl, hl1.trans hl2⟩
    · rw [if_neg hl] at hg
      obtain rfl : E = 0 := by omega
      obtain rfl : S = T := by rw [← hS, ← hT]; unfold printS; rw [hg, if_pos rfl]
      have ht : ¬ (128 : Int) < S.size := by omega
      clear hS hE hg hT hts hl
      go_enter Tryz.func8, Tryz.ntmps8
      go_wp2_with (first
        | (go_at_call 11; (with_reducible refine (HCK.out _ ((Later.refl w).alloc _)).mono ?_); rintro e w1 ⟨rfl, hb1⟩; have hl1 := ((Later.refl w).alloc (.cells #[.int .i64 k, .int .i64 mn, .int .i64 mx, .int .u64 s0, .int .u64 s1, .int .u64 s2, .int .u64 s3, .slice a l.length cap] 26)).trans (Later.of hb1); have hE1 := (Later.of hb1).block (alloc_block w _); obtain ⟨d0, d1, d2, d3, d4, d5, d6, d7⟩ : w1.cell? ⟨w.heap.size, 0, none⟩ = some (.int .i64 k) ∧ w1.cell? ⟨w.heap.size, 1, none⟩ = some (.int .i64 mn) ∧ w1.cell? ⟨w.heap.size, 2, none⟩ = some (.int .i64 mx) ∧ w1.cell? ⟨w.heap.size, 3, none⟩ = some (.int .u64 s0) ∧ w1.cell? ⟨w.heap.size, 4, none⟩ = some (.int .u64 s1) ∧ w1.cell? ⟨w.heap.size, 5, none⟩ = some (.int .u64 s2) ∧ w1.cell? ⟨w.heap.size, 6, none⟩ = some (.int .u64 s3) ∧ w1.cell? ⟨w.heap.size, 7, none⟩ = some (.slice a l.length cap) := ⟨cell_of_block hE1 0, cell_of_block hE1 1, cell_of_block hE1 2, cell_of_block hE1 3, cell_of_block hE1 4, cell_of_block hE1 5, cell_of_block hE1 6, cell_of_block hE1 7⟩; clear hE1 hb1)
        | (go_at_call 27; (with_reducible refine (HPAT.out _ hl1).mono ?_); rintro e w2 ⟨rfl, hl2⟩)
        | fail)
      go_ret2
      exact ⟨rfl, hl1.trans hl2⟩
  · have hb := printE_bad (by rw [hc]; exact hc0)
    obtain rfl : E = c := by rw [← hE, hb, hc]
    obtain rfl : S = ⟨#[]⟩ := by rw [← hS]; unfold printS; rw [hE, if_neg hc0]
    have hn : (E != 0) = true := by rw [bne_iff_ne]; exact hc0
    clear hS hE hb hc hc0 hpat
    go_enter Tryz.func8, Tryz.ntmps8
    go_wp2_with (first
      | (go_at_call 11; (with_reducible refine (HCK.out _ ((Later.refl w).alloc _)).mono ?_); rintro e w1 ⟨rfl, hb1⟩; have hl1 := ((Later.refl w).alloc (.cells #[.int .i64 k, .int .i64 mn, .int .i64 mx, .int .u64 s0, .int .u64 s1, .int .u64 s2, .int .u64 s3, .slice a l.length cap] 26)).trans (Later.of hb1); have hE1 := (Later.of hb1).block (alloc_block w _); obtain ⟨d0, d1, d2, d3, d4, d5, d6, d7⟩ : w1.cell? ⟨w.heap.size, 0, none⟩ = some (.int .i64 k) ∧ w1.cell? ⟨w.heap.size, 1, none⟩ = some (.int .i64 mn) ∧ w1.cell? ⟨w.heap.size, 2, none⟩ = some (.int .i64 mx) ∧ w1.cell? ⟨w.heap.size, 3, none⟩ = some (.int .u64 s0) ∧ w1.cell? ⟨w.heap.size, 4, none⟩ = some (.int .u64 s1) ∧ w1.cell? ⟨w.heap.size, 5, none⟩ = some (.int .u64 s2) ∧ w1.cell? ⟨w.heap.size, 6, none⟩ = some (.int .u64 s3) ∧ w1.cell? ⟨w.heap.size, 7, none⟩ = some (.slice a l.length cap) := ⟨cell_of_block hE1 0, cell_of_block hE1 1, cell_of_block hE1 2, cell_of_block hE1 3, cell_of_block hE1 4, cell_of_block hE1 5, cell_of_block hE1 6, cell_of_block hE1 7⟩; clear hE1 hb1)
      | fail)
    go_ret2
    exact ⟨rfl, hl1⟩
end Go.Proofs.YtjhclopdcbnmkaaGreatDoor
