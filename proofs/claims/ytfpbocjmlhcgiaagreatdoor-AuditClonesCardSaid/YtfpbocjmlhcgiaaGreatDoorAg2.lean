/- Ag2, merged: AU8 AU9 AU10 AU11 AU12. -/
import Derived.Test.YtfpbocjmlhcgiaaGreatDoorAU7
set_option linter.unusedSimpArgs false
set_option linter.unusedVariables false
/- The law's noughts; the document's May. -/
namespace Go.Proofs.YtfpbocjmlhcgiaaGreatDoor
open Go.RowKit PJ Go.Maps

set_option maxRecDepth 100000 in
theorem lnoughts_any (w : World) (n : Nat) (hn : n ≤ 100000) :
    Calls Tryz.prog 12 #[.int .i64 n] w fun e w' => e = .returned (.string ⟨(zs n).toArray⟩) ∧ LJ w w' := by
  have hmk := make_z w n hn
  have hcv := conv_z w n
  have hl : LJ w (w.alloc (.cells (bys (zs n)).toArray 5)) := (LJ.refl w).alloc _
  obtain ⟨w1, hw1⟩ : ∃ w1, w.alloc (.cells (bys (zs n)).toArray 5) = w1 := ⟨_, rfl⟩
  obtain ⟨Z, hZ⟩ : ∃ Z : ByteArray, (⟨(zs n).toArray⟩ : ByteArray) = Z := ⟨_, rfl⟩
  rw [hw1] at hmk hcv hl
  rw [hZ] at hcv
  have HZ := Lib.hid hZ
  have HL := Lib.hid hl
  clear hw1 hZ hl hn
  go_enter Tryz.func12, Tryz.ntmps12
  go_wp2_with fail
  go_ret
  exact ⟨ret_str HZ.out.symm, HL.out⟩
end Go.Proofs.YtfpbocjmlhcgiaaGreatDoor
/- The document's Number. -/
namespace Go.Proofs.YtfpbocjmlhcgiaaGreatDoor
open Go.RowKit PJ Go.Maps

theorem conv_one (W : World) (u : UInt8) : (convert 99 9 (.slice (some ⟨W.heap.size, 0, none⟩) 1 1)).run Tryz.prog (W.alloc (.cells #[.int .u8 (u.toNat : Int)] 5)) = .ok (.string ⟨#[u]⟩) (W.alloc (.cells #[.int .u8 (u.toNat : Int)] 5)) :=
  run_convert_bytes_back (W.alloc (.cells #[.int .u8 (u.toNat : Int)] 5)) 99 9 5 ⟨W.heap.size, 0, none⟩ 1 [u] Tryz.underlying99 Tryz.underlying5 Tryz.underlying9 (fun j hj => by
    refine cells_newJ W [.int .u8 (u.toNat : Int)] 5 j _ ?_
    have : j = 0 := by simpa using hj
    subst this
    rfl)
end Go.Proofs.YtfpbocjmlhcgiaaGreatDoor
/- The document's Bytes. -/
namespace Go.Proofs.YtfpbocjmlhcgiaaGreatDoor
open Go.RowKit PJ Go.Maps

theorem be_one (n : Nat) : be n 1 = [UInt8.ofNat n] := by simp [be]
end Go.Proofs.YtfpbocjmlhcgiaaGreatDoor
/- The document's Bytes at a record that may not be. -/
namespace Go.Proofs.YtfpbocjmlhcgiaaGreatDoor
open Go.RowKit PJ Go.Maps

end Go.Proofs.YtfpbocjmlhcgiaaGreatDoor
/- The law's record. -/
namespace Go.Proofs.YtfpbocjmlhcgiaaGreatDoor
open Go.RowKit PJ Go.Maps

theorem slice_to (W : World) (D : ByteArray) (hi : Nat) (h2 : hi ≤ D.size) : (Instr.slice 9 (.string D) none (some (.int .i64 (hi : Int))) none).run Tryz.prog W = .ok (.string (D.extract 0 hi)) W := by
  have := run_slice_string_h (P := Tryz.prog) W 9 D Tryz.underlying9 .i64 (hi : Int) (by omega) (by omega)
  rw [Int.toNat_natCast] at this
  exact this
/-- Texts in memory. -/
def TextsAt (w : World) (a : Option Addr) (n : Nat) (ss : List ByteArray) : Prop :=
  ss.length = n ∧ n ≤ 140737488355328 ∧ (∀ s ∈ ss, s.size ≤ 140737488355328) ∧ (n = 0 ∨ ∃ b o, a = some ⟨b, o, none⟩ ∧ b < w.heap.size ∧ ∀ i s, ss[i]? = some s → w.cell? ⟨b, o + i, none⟩ = some (.string s))
/-- The digest of the law's records. -/
def digR (s : ByteArray) : ByteArray := (s ++ ⟨(zs 32).toArray⟩).extract 0 32
theorem digR_size (s : ByteArray) : (digR s).size = 32 := by
  have : (⟨(zs 32).toArray⟩ : ByteArray).size = 32 := by show (zs 32).toArray.size = 32; simp [zs]
  unfold digR
  rw [ByteArray.size_extract, ByteArray.size_append, this]
  omega
/-- The law's record. -/
def recR (n : Int) (s : ByteArray) : Rec := ⟨n, 1, 0, n, digR s⟩
theorem recR_may {n : Int} (s : ByteArray) (h1 : 1 ≤ n) (h2 : n < 32) : (recR n s).may = true := by
  have h3 : n ≤ 4611686018427387904 := by omega
  have h4 : (0 : Int) ≤ n := by omega
  have h5 : (digR s).size = 32 := digR_size s
  unfold recR Rec.may lev
  simp only [decide_eq_true h1, decide_eq_true h2, decide_eq_true h3, decide_eq_true h4, decide_eq_true h5]
  rfl
set_option maxRecDepth 100000 in
set_option maxHeartbeats 4000000 in
theorem lrecord_any (w : World) (n : Int) (hn : 0 ≤ n ∧ n < 32) (s : ByteArray) (hs : s.size ≤ 140737488355328) : Calls Tryz.prog 23 #[.int .i64 n, .string s] w fun e w' => e = .returned (.agg #[.int .i64 n, .int .i64 1, .int .i64 0, .int .i64 n, .string (digR s)]) ∧ LJ w w' := by
  obtain ⟨Z, hZ⟩ : ∃ Z : ByteArray, (⟨(zs 32).toArray⟩ : ByteArray) = Z := ⟨_, rfl⟩
  have hZs : Z.size = 32 := by rw [← hZ]; show (zs 32).toArray.size = 32; simp [zs]
  obtain ⟨C, hC⟩ : ∃ C, s ++ Z = C := ⟨_, rfl⟩
  have hCs : C.size = s.size + 32 := by rw [← hC, ByteArray.size_append, hZs]
  obtain ⟨H, hH⟩ : ∃ H : ByteArray, C.extract 0 32 = H := ⟨_, rfl⟩
  have HD := Lib.hid (show digR s = H from by unfold digR; rw [hZ, hC, hH])
  have HN := Lib.hid (fun W => show Calls Tryz.prog 12 #[.int .i64 32] W fun e w' => e = .returned (.string Z) ∧ LJ W w' from by rw [← hZ]; exact lnoughts_any W 32 (by omega))
  have hsl : ∀ W : World, (Instr.slice 9 (.string C) none (some (.int .i64 32)) none).run Tryz.prog W = .ok (.string H) W := fun W => by
    have h1 := slice_to W C 32 (by omega)
    rw [hH] at h1
    exact h1
  have hbig : ¬ 9223372036854775807 < s.size + Z.size := by omega
  have htm : n.tmod 32 = n := by rw [Int.tmod_eq_emod_of_nonneg hn.1]; omega
  have hwr : IntKind.i64.wrap n = n := by rw [IntKind.wrap_i64]; omega
  obtain ⟨w1, hw1⟩ : ∃ w1, w.alloc (.cells #[.int .i64 0, .int .i64 0, .int .i64 0, .int .i64 0, .string ⟨#[]⟩] 49) = w1 := ⟨_, rfl⟩
  obtain ⟨q, hq⟩ : ∃ q, w.heap.size = q := ⟨_, rfl⟩
  have HB1 := Lib.hid (show w1.heap[q]? = some (.cells #[.int .i64 0, .int .i64 0, .int .i64 0, .int .i64 0, .string ⟨#[]⟩] 49 (0, 0)) from by rw [← hw1, ← hq]; exact alloc_blk w _)
  have HL1 := Lib.hid (show LJ w w1 from by rw [← hw1]; exact (LJ.refl w).alloc _)
  have HW1 := Lib.hid hw1
  have HQ := Lib.hid hq
  rw [HD.out]
  clear hZ hH hs hn hCs hw1 hZs
  go_enter Tryz.func23, Tryz.ntmps23
  go_upto_region 1 with fail
  rw [HW1.out]
  clear hq
  go_wp2_with (first
    | (go_at_call 12; (with_reducible refine (HN.out _).mono ?_); rintro e w2 ⟨rfl, hl2⟩; have HL2 := Lib.hid hl2; clear hl2)
    | (refine wpList_store_row rfl 49 (.tmp 4) (.tmp 12) rfl q #[.int .i64 n, .int .i64 1, .int .i64 0, .int .i64 n, .string H] rfl rfl 49 _ (HL2.out.block HB1.out) info_rec rfl (by simp [Value.oneCell']) ?_)
    | fail)
  have HL12 := Lib.hid (HL1.out.trans HL2.out)
  refine bodyPost_ret (results_cell_row rfl _ _ q 49 #[.int .i64 n, .int .i64 1, .int .i64 0, .int .i64 n, .string H] (0, 0) _ rfl (setRow_heap' w2 q _ _ _ (HL2.out.block HB1.out)) Tryz.underlying49 rfl info_rec) rfl ?_
  exact ⟨rfl, lj_only HL12.out (setRow_only _ _ _) (fun k hk => by have h2 := HQ.out; show w.heap.size ≤ k; rw [h2]; exact Nat.le_of_eq hk.symm)⟩
end Go.Proofs.YtfpbocjmlhcgiaaGreatDoor
