/- The printer's Print, and the fixed calls of the layer regex. -/
import Derived.Test.YtjhclopdcbnmkaaGreatDoorS7
set_option linter.unusedSimpArgs false
set_option linter.unusedVariables false
namespace Go.Proofs.YtjhclopdcbnmkaaGreatDoor.PX

/-- What Print tells of the error. -/
def printE (x : Rx) : Int := if checkR' x ≠ 0 then checkR' x else if 128 < x.text.length then 51 else 0
where checkR' (x : Rx) : Int := if x.formB then (if 256 < x.sizeI then 51 else 0) else 52
/-- What Print tells of the pattern. -/
def printS (x : Rx) : List UInt8 := if printE x = 0 then x.text else []
end Go.Proofs.YtjhclopdcbnmkaaGreatDoor.PX
namespace Go.Proofs.YtjhclopdcbnmkaaGreatDoor
open Go.RowKit PX

theorem printE_bad {x : Rx} (h : checkR x ≠ 0) : printE x = checkR x := by
  unfold printE
  have : printE.checkR' x = checkR x := rfl
  rw [this, if_pos h]
theorem printE_good {x : Rx} (h : checkR x = 0) : printE x = if 128 < x.text.length then 51 else 0 := by
  unfold printE
  have : printE.checkR' x = checkR x := rfl
  rw [this, if_neg (by simp [h])]
theorem checkR_parts {x : Rx} (h : checkR x = 0) : x.formB = true ∧ x.sizeI ≤ 256 := by
  unfold checkR at h
  split at h
  · rename_i hf
    split at h
    · cases h
    · exact ⟨hf, by omega⟩
  · cases h
theorem in_later8 {X : RxA} {w w' : World} (h : X.In w w.heap.size) (hl : Later w w') : X.In w' w'.heap.size := (h.below hl (Nat.le_refl _)).later (Below.size hl) (fun _ _ _ => rfl)
set_option maxRecDepth 100000 in
set_option maxHeartbeats 1000000 in
theorem print_any (w : World) (X : RxA) (hin : X.In w w.heap.size) (hP : PowAt w) :
    Calls Tryz.prog 7 #[X.val] w fun e w' => e = .returned (.tuple #[.string ⟨(printS X.bare).toArray⟩, .int .i64 (printE X.bare)]) ∧ Later w w' := by
  obtain ⟨S, hS⟩ : ∃ S : ByteArray, (⟨(printS X.bare).toArray⟩ : ByteArray) = S := ⟨_, rfl⟩
  obtain ⟨E, hE⟩ : ∃ E, printE X.bare = E := ⟨_, rfl⟩
  have hck := fun w1 (h1 : Later w w1) => pcheck_any X w1 w1.heap.size (Nat.le_refl _) (in_later8 hin h1)
  have hpat := fun (hf : X.bare.formB = true) (hb : X.bare.big ≤ 256) w1 (h1 : Later w w1) => pattern_any X w1 w1.heap.size (Nat.le_refl _) (in_later8 hin h1) hf hb (hP.later h1)
  rw [hS, hE]
  obtain ⟨c, hc⟩ : ∃ c, checkR X.bare = c := ⟨_, rfl⟩
  obtain ⟨x, hx⟩ : ∃ x, X.bare = x := ⟨_, rfl⟩
  rw [hx] at hS hE hck hpat hc
  rw [hc] at hck
  clear hx hin
  obtain ⟨k, mn, mx, s0, s1, s2, s3, a, cap, l⟩ := X
  simp only [RxA.val, RxA.cells] at hck hpat ⊢
  have HCK := Lib.hid hck
  clear hck
  by_cases hc0 : c = 0
  · subst hc0
    have hg := printE_good hc
    obtain ⟨hf, hs⟩ := checkR_parts hc
    have hbig : x.big ≤ 256 := by have := Rx.sizeI_eq x; omega
    obtain ⟨T, hT⟩ : ∃ T : ByteArray, (⟨x.text.toArray⟩ : ByteArray) = T := ⟨_, rfl⟩
    have hts : T.size = x.text.length := by rw [← hT]; show x.text.toArray.size = _; rw [List.size_toArray]
    have hp := hpat hf hbig
    rw [hT] at hp
    have HPAT := Lib.hid hp
    clear hpat hp hf hs hbig hc
    by_cases hl : 128 < x.text.length
    · rw [if_pos hl] at hg
      obtain rfl : E = 51 := by omega
      obtain rfl : S = ⟨#[]⟩ := by rw [← hS]; unfold printS; rw [hg, if_neg (by decide)]
      have ht : (128 : Int) < T.size := by omega
      clear hS hE hg hT hts hl
      go_enter Tryz.func7, Tryz.ntmps7
      go_wp2_with (first
        | (go_at_call 10; (with_reducible refine (HCK.out _ ((Later.refl w).alloc _)).mono ?_); rintro e w1 ⟨rfl, hb1⟩; have hl1 := ((Later.refl w).alloc (.cells #[.int .i64 k, .int .i64 mn, .int .i64 mx, .int .u64 s0, .int .u64 s1, .int .u64 s2, .int .u64 s3, .slice a l.length cap] 26)).trans (Later.of hb1); have hE1 := (Later.of hb1).block (alloc_block w _); obtain ⟨d0, d1, d2, d3, d4, d5, d6, d7⟩ : w1.cell? ⟨w.heap.size, 0, none⟩ = some (.int .i64 k) ∧ w1.cell? ⟨w.heap.size, 1, none⟩ = some (.int .i64 mn) ∧ w1.cell? ⟨w.heap.size, 2, none⟩ = some (.int .i64 mx) ∧ w1.cell? ⟨w.heap.size, 3, none⟩ = some (.int .u64 s0) ∧ w1.cell? ⟨w.heap.size, 4, none⟩ = some (.int .u64 s1) ∧ w1.cell? ⟨w.heap.size, 5, none⟩ = some (.int .u64 s2) ∧ w1.cell? ⟨w.heap.size, 6, none⟩ = some (.int .u64 s3) ∧ w1.cell? ⟨w.heap.size, 7, none⟩ = some (.slice a l.length cap) := ⟨cell_of_block hE1 0, cell_of_block hE1 1, cell_of_block hE1 2, cell_of_block hE1 3, cell_of_block hE1 4, cell_of_block hE1 5, cell_of_block hE1 6, cell_of_block hE1 7⟩; clear hE1 hb1)
        | (go_at_call 26; (with_reducible refine (HPAT.out _ hl1).mono ?_); rintro e w2 ⟨rfl, hl2⟩)
        | fail)
      go_ret2
      exact ⟨rfl, hl1.trans hl2⟩
    · rw [if_neg hl] at hg
      obtain rfl : E = 0 := by omega
      obtain rfl : S = T := by rw [← hS, ← hT]; unfold printS; rw [hg, if_pos rfl]
      have ht : ¬ (128 : Int) < S.size := by omega
      clear hS hE hg hT hts hl
      go_enter Tryz.func7, Tryz.ntmps7
      go_wp2_with (first
        | (go_at_call 10; (with_reducible refine (HCK.out _ ((Later.refl w).alloc _)).mono ?_); rintro e w1 ⟨rfl, hb1⟩; have hl1 := ((Later.refl w).alloc (.cells #[.int .i64 k, .int .i64 mn, .int .i64 mx, .int .u64 s0, .int .u64 s1, .int .u64 s2, .int .u64 s3, .slice a l.length cap] 26)).trans (Later.of hb1); have hE1 := (Later.of hb1).block (alloc_block w _); obtain ⟨d0, d1, d2, d3, d4, d5, d6, d7⟩ : w1.cell? ⟨w.heap.size, 0, none⟩ = some (.int .i64 k) ∧ w1.cell? ⟨w.heap.size, 1, none⟩ = some (.int .i64 mn) ∧ w1.cell? ⟨w.heap.size, 2, none⟩ = some (.int .i64 mx) ∧ w1.cell? ⟨w.heap.size, 3, none⟩ = some (.int .u64 s0) ∧ w1.cell? ⟨w.heap.size, 4, none⟩ = some (.int .u64 s1) ∧ w1.cell? ⟨w.heap.size, 5, none⟩ = some (.int .u64 s2) ∧ w1.cell? ⟨w.heap.size, 6, none⟩ = some (.int .u64 s3) ∧ w1.cell? ⟨w.heap.size, 7, none⟩ = some (.slice a l.length cap) := ⟨cell_of_block hE1 0, cell_of_block hE1 1, cell_of_block hE1 2, cell_of_block hE1 3, cell_of_block hE1 4, cell_of_block hE1 5, cell_of_block hE1 6, cell_of_block hE1 7⟩; clear hE1 hb1)
        | (go_at_call 26; (with_reducible refine (HPAT.out _ hl1).mono ?_); rintro e w2 ⟨rfl, hl2⟩)
        | fail)
      go_ret2
      exact ⟨rfl, hl1.trans hl2⟩
  · have hb := printE_bad (by rw [hc]; exact hc0)
    obtain rfl : E = c := by rw [← hE, hb, hc]
    obtain rfl : S = ⟨#[]⟩ := by rw [← hS]; unfold printS; rw [hE, if_neg hc0]
    have hn : (E != 0) = true := by rw [bne_iff_ne]; exact hc0
    clear hS hE hb hc hc0 hpat
    go_enter Tryz.func7, Tryz.ntmps7
    go_wp2_with (first
      | (go_at_call 10; (with_reducible refine (HCK.out _ ((Later.refl w).alloc _)).mono ?_); rintro e w1 ⟨rfl, hb1⟩; have hl1 := ((Later.refl w).alloc (.cells #[.int .i64 k, .int .i64 mn, .int .i64 mx, .int .u64 s0, .int .u64 s1, .int .u64 s2, .int .u64 s3, .slice a l.length cap] 26)).trans (Later.of hb1))
      | fail)
    go_ret2
    exact ⟨rfl, hl1⟩
/-- The expression of the fixed calls. -/
def xe : Rx := .node 1 0 0 0 0 0 0 [.set (Q4.none.with 120), .rep 0 (-1) (.node 2 0 0 0 0 0 0 [.set ((Q4.none.withAll 99 1).withAll 98 1), .rep 2 (-1) (.set (Q4.none.with 65))])]
theorem parse_xe : parseR [120, 40, 91, 99, 98, 93, 124, 92, 120, 52, 49, 123, 50, 44, 125, 41, 42] = .inl xe := by rfl
theorem parse_bad1 : parseR [97, 42, 42] = .inr 50 := by rfl
theorem parse_bad2 : parseR [40, 40, 97, 123, 49, 53, 125, 41, 123, 49, 53, 125, 41, 123, 49, 53, 125] = .inr 51 := by rfl
theorem xe_text : xe.text = [120, 40, 91, 98, 99, 93, 124, 65, 123, 50, 44, 125, 41, 42] := by decide +kernel
theorem xe_check : checkR xe = 0 := by decide +kernel
theorem xe_size : sizeR xe = 8 := by decide +kernel
end Go.Proofs.YtjhclopdcbnmkaaGreatDoor
