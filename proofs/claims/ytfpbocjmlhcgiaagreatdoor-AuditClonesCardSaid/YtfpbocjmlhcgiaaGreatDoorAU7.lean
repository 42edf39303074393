/- The audit's Append, refused. -/
import Derived.Test.YtfpbocjmlhcgiaaGreatDoorAU6
set_option linter.unusedSimpArgs false
set_option linter.unusedVariables false
namespace Go.Proofs.YtfpbocjmlhcgiaaGreatDoor
open Go.RowKit PJ Go.Maps

set_option maxRecDepth 100000 in
set_option maxHeartbeats 4000000 in
/-- A record that may be, with another serial than the next. -/
theorem aappend_serial (w : World) (jb : Nat) (A : Nat) (xs : List Rec) (hx4 : xs.length ≤ 4096) (V : Value) (hA : AudB w A jb xs V)
    (n f t r : Int) (hb : ByteArray) (hm : Rec.may ⟨n, f, t, r, hb⟩ = true) (hn : n ≠ ((xs.length + 1 : Nat) : Int)) :
    Calls Tryz.prog 24 #[.pointer (some ⟨A, 0, none⟩), .agg #[.int .i64 n, .int .i64 f, .int .i64 t, .int .i64 r, .string hb]] w fun e w' => e = .returned (.int .i64 210) ∧ LJ w w' := by
  obtain ⟨k, hk⟩ : ∃ k, xs.length = k := ⟨_, rfl⟩
  have HBW := Lib.hid (fun W => abytes_yes W n f t r hb hm)
  obtain ⟨w1, hw1⟩ : ∃ w1, w.alloc (.cells #[.int .i64 n, .int .i64 f, .int .i64 t, .int .i64 r, .string hb] 49) = w1 := ⟨_, rfl⟩
  have HL1 := Lib.hid (show LJ w w1 from by rw [← hw1]; exact (LJ.refl w).alloc _)
  obtain ⟨q3, hq3⟩ : ∃ q, w.heap.size = q := ⟨_, rfl⟩
  have HB1 := Lib.hid (show w1.heap[q3]? = some (.cells #[.int .i64 n, .int .i64 f, .int .i64 t, .int .i64 r, .string hb] 49 (0, 0)) from by rw [← hw1, ← hq3]; exact alloc_blk w _)
  obtain ⟨LO, hLO⟩ : ∃ LO : ByteArray, (⟨(lastL xs).toArray⟩ : ByteArray) = LO := ⟨_, rfl⟩
  have HAB := Lib.hid (show w.heap[A]? = some (.cells #[.pointer (some ⟨jb, 0, none⟩), V, .string LO, .bool false] 116 (0, 0)) from by rw [← hLO]; exact hA.blk)
  obtain ⟨ao, cap, hV⟩ : ∃ ao cap, V = .slice ao k cap := by
    rcases hA.row.2 with ⟨e, e2⟩ | ⟨g, cap, cur, e, _⟩
    · exact ⟨none, 0, by rw [e, ← hk, e2]⟩
    · exact ⟨_, cap, by rw [e, hk]⟩
  have HV := Lib.hid hV
  have HQ3 := Lib.hid hq3
  have hwi : IntKind.i64.wrap ((k : Int) + 1) = (k : Int) + 1 := by rw [IntKind.wrap_i64]; omega
  have hne : ¬ n = (k : Int) + 1 := by omega
  have hned : decide (n = (k : Int) + 1) = false := by simp; omega
  have a3 : w1.cell? ⟨A, 3, none⟩ = some (.bool false) := cell_blk (HL1.out.block HAB.out) 3
  clear hA hn hm hk hLO hq3 hV
  go_enter Tryz.func24, Tryz.ntmps24
  go_upto_region 1 with fail
  have e3 := HQ3.out
  rw [e3]
  clear e3 hw1
  go_upto_region 3 with fail
  go_upto_region 4 with (first
    | (refine wpList_load_row rfl 49 (.tmp 3) rfl q3 rfl 49 _ (0, 0) _ HB1.out Tryz.underlying49 rfl info_rec ?_)
    | (go_at_call 67; (with_reducible refine (HBW.out _).mono ?_); rintro e w2 ⟨rfl, hl2⟩; have HL2 := Lib.hid (HL1.out.trans hl2); have HL12 := Lib.hid hl2; clear hl2)
    | fail)
  clear a3
  have b0 : w2.cell? ⟨q3, 0, none⟩ = some (.int .i64 n) := cell_blk (HL12.out.block HB1.out) 0
  have b1 : w2.cell? ⟨A, 1, none⟩ = some (.slice ao k cap) := by rw [← HV.out]; exact cell_blk (HL2.out.block HAB.out) 1
  go_quiet (fail)
  go_wp2_with fail
  go_ret
  exact ⟨rfl, HL2.out.drewN _⟩
set_option maxRecDepth 100000 in
set_option maxHeartbeats 4000000 in
/-- A record that may not be. -/
theorem aappend_bad (w : World) (jb : Nat) (A : Nat) (xs : List Rec) (V : Value) (hA : AudB w A jb xs V)
    (n f t r : Int) (hb : ByteArray) (hm : Rec.may ⟨n, f, t, r, hb⟩ = false) :
    Calls Tryz.prog 24 #[.pointer (some ⟨A, 0, none⟩), .agg #[.int .i64 n, .int .i64 f, .int .i64 t, .int .i64 r, .string hb]] w fun e w' => e = .returned (.int .i64 210) ∧ LJ w w' := by
  have HBW := Lib.hid (fun W => abytes_no W n f t r hb hm)
  obtain ⟨w1, hw1⟩ : ∃ w1, w.alloc (.cells #[.int .i64 n, .int .i64 f, .int .i64 t, .int .i64 r, .string hb] 49) = w1 := ⟨_, rfl⟩
  have HL1 := Lib.hid (show LJ w w1 from by rw [← hw1]; exact (LJ.refl w).alloc _)
  obtain ⟨q3, hq3⟩ : ∃ q, w.heap.size = q := ⟨_, rfl⟩
  have HB1 := Lib.hid (show w1.heap[q3]? = some (.cells #[.int .i64 n, .int .i64 f, .int .i64 t, .int .i64 r, .string hb] 49 (0, 0)) from by rw [← hw1, ← hq3]; exact alloc_blk w _)
  have HQ3 := Lib.hid hq3
  have a3 : w1.cell? ⟨A, 3, none⟩ = some (.bool false) := cell_blk (HL1.out.block hA.blk) 3
  clear hA hm hq3
  go_enter Tryz.func24, Tryz.ntmps24
  go_upto_region 1 with fail
  have e3 := HQ3.out
  rw [e3]
  clear e3 hw1
  go_upto_region 3 with fail
  go_upto_region 4 with (first
    | (refine wpList_load_row rfl 49 (.tmp 3) rfl q3 rfl 49 _ (0, 0) _ HB1.out Tryz.underlying49 rfl info_rec ?_)
    | (go_at_call 67; (with_reducible refine (HBW.out _).mono ?_); rintro e w2 ⟨rfl, hl2⟩; have HL2 := Lib.hid (HL1.out.trans hl2); clear hl2)
    | fail)
  clear a3
  go_quiet (fail)
  go_wp2_with fail
  go_ret
  exact ⟨rfl, HL2.out.drewN _⟩
set_option maxRecDepth 100000 in
set_option maxHeartbeats 4000000 in
/-- No room. -/
theorem aappend_full (w : World) (p b jb : Nat) (F : Nat → Prop) (J : Jn) (h : JAt w p b jb F J) (A : Nat) (xs : List Rec) (V : Value) (hA : AudB w A jb xs V) (hl : xs.length = J.n - J.area)
    (n f t r : Int) (hb : ByteArray) (hm : Rec.may ⟨n, f, t, r, hb⟩ = true) (hn : n = ((xs.length + 1 : Nat) : Int)) :
    Calls Tryz.prog 24 #[.pointer (some ⟨A, 0, none⟩), .agg #[.int .i64 n, .int .i64 f, .int .i64 t, .int .i64 r, .string hb]] w fun e w' => e = .returned (.int .i64 211) ∧ LJ w w' := by
  have h12 := h.ok.n12
  obtain ⟨k, hk⟩ : ∃ k, xs.length = k := ⟨_, rfl⟩
  have HBW := Lib.hid (fun W => abytes_yes W n f t r hb hm)
  have HRM := Lib.hid (fun W (hlj : LJ w W) => aroom_any W p b jb F J (h.later hlj) A xs V (hA.later hlj) (Nat.le_of_eq hl))
  rw [← hl, Nat.sub_self] at HRM
  obtain ⟨w1, hw1⟩ : ∃ w1, w.alloc (.cells #[.int .i64 n, .int .i64 f, .int .i64 t, .int .i64 r, .string hb] 49) = w1 := ⟨_, rfl⟩
  have HL1 := Lib.hid (show LJ w w1 from by rw [← hw1]; exact (LJ.refl w).alloc _)
  obtain ⟨q3, hq3⟩ : ∃ q, w.heap.size = q := ⟨_, rfl⟩
  have HB1 := Lib.hid (show w1.heap[q3]? = some (.cells #[.int .i64 n, .int .i64 f, .int .i64 t, .int .i64 r, .string hb] 49 (0, 0)) from by rw [← hw1, ← hq3]; exact alloc_blk w _)
  obtain ⟨LO, hLO⟩ : ∃ LO : ByteArray, (⟨(lastL xs).toArray⟩ : ByteArray) = LO := ⟨_, rfl⟩
  have HAB := Lib.hid (show w.heap[A]? = some (.cells #[.pointer (some ⟨jb, 0, none⟩), V, .string LO, .bool false] 116 (0, 0)) from by rw [← hLO]; exact hA.blk)
  obtain ⟨ao, cap, hV⟩ : ∃ ao cap, V = .slice ao k cap := by
    rcases hA.row.2 with ⟨e, e2⟩ | ⟨g, cap, cur, e, _⟩
    · exact ⟨none, 0, by rw [e, ← hk, e2]⟩
    · exact ⟨_, cap, by rw [e, hk]⟩
  have HV := Lib.hid hV
  have HQ3 := Lib.hid hq3
  have hwi : IntKind.i64.wrap ((k : Int) + 1) = n := by rw [hn, hk, IntKind.wrap_i64]; omega
  have a3 : w1.cell? ⟨A, 3, none⟩ = some (.bool false) := cell_blk (HL1.out.block HAB.out) 3
  clear h hA hl hn hm hk hLO hq3 hV h12
  go_enter Tryz.func24, Tryz.ntmps24
  go_upto_region 1 with fail
  have e3 := HQ3.out
  rw [e3]
  clear e3 hw1
  go_upto_region 3 with fail
  go_upto_region 4 with (first
    | (refine wpList_load_row rfl 49 (.tmp 3) rfl q3 rfl 49 _ (0, 0) _ HB1.out Tryz.underlying49 rfl info_rec ?_)
    | (go_at_call 67; (with_reducible refine (HBW.out _).mono ?_); rintro e w2 ⟨rfl, hl2⟩; have HL2 := Lib.hid (HL1.out.trans hl2); have HL12 := Lib.hid hl2; clear hl2)
    | fail)
  clear a3
  have b0 : w2.cell? ⟨q3, 0, none⟩ = some (.int .i64 n) := cell_blk (HL12.out.block HB1.out) 0
  have b1 : w2.cell? ⟨A, 1, none⟩ = some (.slice ao k cap) := by rw [← HV.out]; exact cell_blk (HL2.out.block HAB.out) 1
  go_quiet (fail)
  have HRM2 := Lib.hid (fun j => HRM.out (w2.drewN j) (HL2.out.drewN j))
  go_wp2_with (first
    | (go_at_call 25; (with_reducible refine (HRM2.out _).mono ?_); rintro e w3 ⟨rfl, nr, rfl⟩)
    | fail)
  go_ret
  exact ⟨rfl, HL2.out.drewN _⟩
end Go.Proofs.YtfpbocjmlhcgiaaGreatDoor
