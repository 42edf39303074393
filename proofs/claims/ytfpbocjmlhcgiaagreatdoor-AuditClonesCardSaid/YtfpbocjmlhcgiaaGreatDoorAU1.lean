/- The audit's records: may, Bytes. -/
import Derived.Test.YtfpbocjmlhcgiaaGreatDoorHg2
set_option linter.unusedSimpArgs false
set_option linter.unusedVariables false
namespace Go.Proofs.YtfpbocjmlhcgiaaGreatDoor
open Go.RowKit PJ Go.Maps

/-- A record. -/
structure Rec where
  n : Int
  f : Int
  t : Int
  r : Int
  h : ByteArray
def lev (n : Int) : Bool := decide (0 ≤ n) && decide (n < 8)
def Rec.may (x : Rec) : Bool := decide (1 ≤ x.n) && (decide (x.n ≤ 4611686018427387904) && (lev x.f && (lev x.t && (decide (0 ≤ x.r) && (decide (x.r < 32) && decide (x.h.size = 32))))))
def Rec.bytes (x : Rec) : List UInt8 := be x.n.toNat 8 ++ ([UInt8.ofNat x.f.toNat, UInt8.ofNat x.t.toNat, UInt8.ofNat x.r.toNat] ++ x.h.data.toList)
theorem ret_bool {a b : Bool} (h : a = b) : Ending.returned (.bool a) = .returned (.bool b) := by rw [h]
set_option maxRecDepth 100000 in
theorem amay1_any (w : World) (n : Int) : Calls Tryz.prog 190 #[.int .i64 n] w fun e w' => e = .returned (.bool (lev n)) ∧ w = w' := by
  rcases Int.lt_or_le n 0 with h | h
  · have g1 : decide (0 ≤ n) = false := by simp; omega
    have e1 : lev n = false := by unfold lev; rw [g1]; rfl
    rw [e1]
    clear e1
    go_enter Tryz.func190, Tryz.ntmps190
    go_wp2_with fail
    go_ret
    exact ⟨rfl, rfl⟩
  · have g1 : decide (0 ≤ n) = true := by simp; omega
    have e1 : lev n = decide (n < 8) := by unfold lev; rw [g1]; rfl
    rw [e1]
    clear e1
    go_enter Tryz.func190, Tryz.ntmps190
    go_wp2_with fail
    go_ret
    exact ⟨rfl, rfl⟩
set_option maxRecDepth 100000 in
set_option maxHeartbeats 2000000 in
theorem amay_any (w : World) (n f t r : Int) (h : ByteArray) : Calls Tryz.prog 131 #[.agg #[.int .i64 n, .int .i64 f, .int .i64 t, .int .i64 r, .string h]] w fun e w' => e = .returned (.bool (Rec.may ⟨n, f, t, r, h⟩)) ∧ LJ w w' := by
  obtain ⟨w1, hw1⟩ : ∃ w1, w.alloc (.cells #[.int .i64 n, .int .i64 f, .int .i64 t, .int .i64 r, .string h] 49) = w1 := ⟨_, rfl⟩
  have hb : w1.heap[w.heap.size]? = some (.cells #[.int .i64 n, .int .i64 f, .int .i64 t, .int .i64 r, .string h] 49 (0, 0)) := by rw [← hw1]; exact alloc_blk w _
  have hl1 : LJ w w1 := by rw [← hw1]; exact (LJ.refl w).alloc _
  have k0 : w1.cell? ⟨w.heap.size, 0, none⟩ = some (.int .i64 n) := cell_blk hb 0
  have k1 : w1.cell? ⟨w.heap.size, 1, none⟩ = some (.int .i64 f) := cell_blk hb 1
  have k2 : w1.cell? ⟨w.heap.size, 2, none⟩ = some (.int .i64 t) := cell_blk hb 2
  have k3 : w1.cell? ⟨w.heap.size, 3, none⟩ = some (.int .i64 r) := cell_blk hb 3
  have k4 : w1.cell? ⟨w.heap.size, 4, none⟩ = some (.string h) := cell_blk hb 4
  have HW1 := Lib.hid hw1
  have HL1 := Lib.hid hl1
  have HLF := Lib.hid (fun W => amay1_any W f)
  have HLT := Lib.hid (fun W => amay1_any W t)
  clear hw1 hb hl1
  unfold Rec.may
  obtain ⟨bf, hbf⟩ : ∃ b, lev f = b := ⟨_, rfl⟩
  obtain ⟨bt, hbt⟩ : ∃ b, lev t = b := ⟨_, rfl⟩
  simp only [hbf, hbt] at HLF HLT ⊢
  clear hbf hbt
  cases g0 : decide (1 ≤ n) with
  | false =>
    go_enter Tryz.func131, Tryz.ntmps131
    go_upto_region 1 with fail
    rw [HW1.out]
    go_wp2_with (first
      | (go_at_call 190; (with_reducible refine (HLF.out _).mono ?_); rintro e wm ⟨rfl, hwm⟩; subst hwm)
      | (go_at_call 190; (with_reducible refine (HLT.out _).mono ?_); rintro e wm ⟨rfl, hwm⟩; subst hwm)
      | fail)
    go_ret
    exact ⟨ret_bool (by first | rfl | (simp; done) | (simp [eqC_int]; omega)), HL1.out⟩
  | true =>
    cases g1 : decide (n ≤ 4611686018427387904) with
    | false =>
      go_enter Tryz.func131, Tryz.ntmps131
      go_upto_region 1 with fail
      rw [HW1.out]
      go_wp2_with (first
        | (go_at_call 190; (with_reducible refine (HLF.out _).mono ?_); rintro e wm ⟨rfl, hwm⟩; subst hwm)
        | (go_at_call 190; (with_reducible refine (HLT.out _).mono ?_); rintro e wm ⟨rfl, hwm⟩; subst hwm)
        | fail)
      go_ret
      exact ⟨ret_bool (by first | rfl | (simp; done) | (simp [eqC_int]; omega)), HL1.out⟩
    | true =>
      cases bf with
      | false =>
        go_enter Tryz.func131, Tryz.ntmps131
        go_upto_region 1 with fail
        rw [HW1.out]
        go_wp2_with (first
          | (go_at_call 190; (with_reducible refine (HLF.out _).mono ?_); rintro e wm ⟨rfl, hwm⟩; subst hwm)
          | (go_at_call 190; (with_reducible refine (HLT.out _).mono ?_); rintro e wm ⟨rfl, hwm⟩; subst hwm)
          | fail)
        go_ret
        exact ⟨ret_bool (by first | rfl | (simp; done) | (simp [eqC_int]; omega)), HL1.out⟩
      | true =>
        cases bt with
        | false =>
          go_enter Tryz.func131, Tryz.ntmps131
          go_upto_region 1 with fail
          rw [HW1.out]
          go_wp2_with (first
            | (go_at_call 190; (with_reducible refine (HLF.out _).mono ?_); rintro e wm ⟨rfl, hwm⟩; subst hwm)
            | (go_at_call 190; (with_reducible refine (HLT.out _).mono ?_); rintro e wm ⟨rfl, hwm⟩; subst hwm)
            | fail)
          go_ret
          exact ⟨ret_bool (by first | rfl | (simp; done) | (simp [eqC_int]; omega)), HL1.out⟩
        | true =>
          cases g4 : decide (0 ≤ r) with
          | false =>
            go_enter Tryz.func131, Tryz.ntmps131
            go_upto_region 1 with fail
            rw [HW1.out]
            go_wp2_with (first
              | (go_at_call 190; (with_reducible refine (HLF.out _).mono ?_); rintro e wm ⟨rfl, hwm⟩; subst hwm)
              | (go_at_call 190; (with_reducible refine (HLT.out _).mono ?_); rintro e wm ⟨rfl, hwm⟩; subst hwm)
              | fail)
            go_ret
            exact ⟨ret_bool (by first | rfl | (simp; done) | (simp [eqC_int]; omega)), HL1.out⟩
          | true =>
            cases g5 : decide (r < 32) with
            | false =>
              go_enter Tryz.func131, Tryz.ntmps131
              go_upto_region 1 with fail
              rw [HW1.out]
              go_wp2_with (first
                | (go_at_call 190; (with_reducible refine (HLF.out _).mono ?_); rintro e wm ⟨rfl, hwm⟩; subst hwm)
                | (go_at_call 190; (with_reducible refine (HLT.out _).mono ?_); rintro e wm ⟨rfl, hwm⟩; subst hwm)
                | fail)
              go_ret
              exact ⟨ret_bool (by first | rfl | (simp; done) | (simp [eqC_int]; omega)), HL1.out⟩
            | true =>
              go_enter Tryz.func131, Tryz.ntmps131
              go_upto_region 1 with fail
              rw [HW1.out]
              go_wp2_with (first
                | (go_at_call 190; (with_reducible refine (HLF.out _).mono ?_); rintro e wm ⟨rfl, hwm⟩; subst hwm)
                | (go_at_call 190; (with_reducible refine (HLT.out _).mono ?_); rintro e wm ⟨rfl, hwm⟩; subst hwm)
                | fail)
              go_ret
              exact ⟨ret_bool (by first | rfl | (simp; done) | (simp [eqC_int]; omega)), HL1.out⟩
theorem may_facts {n f t r : Int} {h : ByteArray} (hm : Rec.may ⟨n, f, t, r, h⟩ = true) : 1 ≤ n ∧ n ≤ 4611686018427387904 ∧ (0 ≤ f ∧ f < 8) ∧ (0 ≤ t ∧ t < 8) ∧ (0 ≤ r ∧ r < 32) ∧ h.size = 32 := by
  unfold Rec.may lev at hm
  simp only [Bool.and_eq_true, decide_eq_true_eq] at hm
  obtain ⟨h1, h2, h3, h4, h5, h6, h7⟩ := hm
  exact ⟨h1, h2, h3, h4, ⟨h5, h6⟩, h7⟩
theorem Rec.bytes_len {x : Rec} (h : x.h.size = 32) : x.bytes.length = 43 := by
  have : x.h.data.toList.length = 32 := by rw [Array.length_toList]; exact h
  unfold Rec.bytes
  rw [List.length_append, be_len, List.length_append, this]
  rfl
set_option maxRecDepth 100000 in
set_option maxHeartbeats 2000000 in
theorem abytes_no (w : World) (n f t r : Int) (h : ByteArray) (hm : Rec.may ⟨n, f, t, r, h⟩ = false) : Calls Tryz.prog 67 #[.agg #[.int .i64 n, .int .i64 f, .int .i64 t, .int .i64 r, .string h]] w fun e w' => e = .returned (.tuple #[.string ⟨#[]⟩, .int .i64 210]) ∧ LJ w w' := by
  obtain ⟨w1, hw1⟩ : ∃ w1, w.alloc (.cells #[.int .i64 n, .int .i64 f, .int .i64 t, .int .i64 r, .string h] 49) = w1 := ⟨_, rfl⟩
  have hb : w1.heap[w.heap.size]? = some (.cells #[.int .i64 n, .int .i64 f, .int .i64 t, .int .i64 r, .string h] 49 (0, 0)) := by rw [← hw1]; exact alloc_blk w _
  have hl1 : LJ w w1 := by rw [← hw1]; exact (LJ.refl w).alloc _
  have k0 : w1.cell? ⟨w.heap.size, 0, none⟩ = some (.int .i64 n) := cell_blk hb 0
  have k1 : w1.cell? ⟨w.heap.size, 1, none⟩ = some (.int .i64 f) := cell_blk hb 1
  have k2 : w1.cell? ⟨w.heap.size, 2, none⟩ = some (.int .i64 t) := cell_blk hb 2
  have k3 : w1.cell? ⟨w.heap.size, 3, none⟩ = some (.int .i64 r) := cell_blk hb 3
  have k4 : w1.cell? ⟨w.heap.size, 4, none⟩ = some (.string h) := cell_blk hb 4
  have HM := Lib.hid (amay_any w1 n f t r h)
  rw [hm] at HM
  have HW1 := Lib.hid hw1
  have HL1 := Lib.hid hl1
  clear hw1 hb hl1 hm
  go_enter Tryz.func67, Tryz.ntmps67
  go_upto_region 1 with fail
  rw [HW1.out]
  go_wp2_with (first
    | (go_at_call 131; (with_reducible refine HM.out.mono ?_); rintro e w2 ⟨rfl, hl2⟩; have HL2 := Lib.hid hl2; clear hl2)
    | fail)
  go_ret2
  exact ⟨rfl, HL1.out.trans HL2.out⟩
set_option maxRecDepth 100000 in
set_option maxHeartbeats 4000000 in
theorem abytes_yes (w : World) (n f t r : Int) (h : ByteArray) (hm : Rec.may ⟨n, f, t, r, h⟩ = true) : Calls Tryz.prog 67 #[.agg #[.int .i64 n, .int .i64 f, .int .i64 t, .int .i64 r, .string h]] w fun e w' => e = .returned (.tuple #[.string ⟨(Rec.bytes ⟨n, f, t, r, h⟩).toArray⟩, .int .i64 0]) ∧ LJ w w' := by
  obtain ⟨m1, m2, m3, m4, m5, m6⟩ := may_facts hm
  obtain ⟨iU, hiU, hz0, hz1, hz2⟩ := info_parts info_u8
  obtain ⟨w1, hw1⟩ : ∃ w1, w.alloc (.cells #[.int .i64 n, .int .i64 f, .int .i64 t, .int .i64 r, .string h] 49) = w1 := ⟨_, rfl⟩
  have hb : w1.heap[w.heap.size]? = some (.cells #[.int .i64 n, .int .i64 f, .int .i64 t, .int .i64 r, .string h] 49 (0, 0)) := by rw [← hw1]; exact alloc_blk w _
  have hl1 : LJ w w1 := by rw [← hw1]; exact (LJ.refl w).alloc _
  have k0 : w1.cell? ⟨w.heap.size, 0, none⟩ = some (.int .i64 n) := cell_blk hb 0
  have k1 : w1.cell? ⟨w.heap.size, 1, none⟩ = some (.int .i64 f) := cell_blk hb 1
  have k2 : w1.cell? ⟨w.heap.size, 2, none⟩ = some (.int .i64 t) := cell_blk hb 2
  have k3 : w1.cell? ⟨w.heap.size, 3, none⟩ = some (.int .i64 r) := cell_blk hb 3
  have k4 : w1.cell? ⟨w.heap.size, 4, none⟩ = some (.string h) := cell_blk hb 4
  have hlt1 := lt_blk hb
  have HM := Lib.hid (amay_any w1 n f t r h)
  rw [hm] at HM
  obtain ⟨OUT, hO⟩ : ∃ OUT : ByteArray, (⟨(Rec.bytes ⟨n, f, t, r, h⟩).toArray⟩ : ByteArray) = OUT := ⟨_, rfl⟩
  have HW1 := Lib.hid hw1
  have HL1 := Lib.hid hl1
  have HB := Lib.hid hb
  have HK := Lib.hid (And.intro k0 (And.intro k1 (And.intro k2 (And.intro k3 k4))))
  have HO := Lib.hid hO
  have hNn : ((n.toNat : Nat) : Int) = n := Int.toNat_of_nonneg (by omega)
  obtain ⟨N, hN⟩ : ∃ N, n.toNat = N := ⟨_, rfl⟩
  rw [hN] at hNn
  have HN := Lib.hid (And.intro hN hNn)
  have hfi : f % 256 = f := by omega
  have hti : t % 256 = t := by omega
  have hri : r % 256 = r := by omega
  have HMF := Lib.hid (And.intro m1 (And.intro m2 (And.intro m3 (And.intro m4 (And.intro m5 m6)))))
  rw [hO]
  clear hw1 hb hl1 hm hO hN hNn m1 m2 m3 m4 m5 m6 k0 k1 k2 k3 k4
  go_enter Tryz.func67, Tryz.ntmps67
  go_upto_region 1 with fail
  rw [HW1.out]
  obtain ⟨k0, k1, k2, k3, k4⟩ := HK.out
  go_upto_region 3 with (first
    | (go_at_call 131; (with_reducible refine HM.out.mono ?_); rintro e w2 ⟨rfl, hl2⟩; have HL2 := Lib.hid hl2; clear hl2)
    | fail)
  obtain ⟨w3, hw3⟩ : ∃ w3, w2.alloc (.cells (bys (List.replicate 43 0)).toArray 5) = w3 := ⟨_, rfl⟩
  have hmk : (Instr.makeSlice 99 (.int .i64 0) (.int .i64 43)).run Tryz.prog w2 = .ok (.slice (some ⟨w2.heap.size, 0, none⟩) 0 43) (w2.alloc (.cells (bys (List.replicate 43 0)).toArray 5)) := make_lc w2 0 43 (by omega) (by omega)
  rw [hw3] at hmk
  have hb3 : w3.heap[w2.heap.size]? = some (.cells (bys (List.replicate 43 0)).toArray 5 (0, 0)) := by rw [← hw3]; exact alloc_blk w2 _
  have hl3 : LJ w2 w3 := by rw [← hw3]; exact (LJ.refl w2).alloc _
  have how : w3.ownsRow w2.heap.size 5 1 (.slice (some ⟨w2.heap.size, 0, none⟩) 0 43) 0 (bys []) := ⟨rfl, .inr ⟨w2.heap.size, 43, _, rfl, Nat.le_refl _, hb3, by omega, by unfold maxLen; omega, by simp [bys], rfl⟩⟩
  obtain ⟨B, hB⟩ : ∃ B, w2.heap.size = B := ⟨_, rfl⟩
  rw [hB] at hmk how
  have hB3 : Below B w2 w3 := by rw [← hB]; exact hl3
  have HOW := Lib.hid how
  have HB3 := Lib.hid hB3
  have HKW := Lib.hid (fun W (hW : Below B w2 W) => show W.heap[w.heap.size]? = some (.cells #[.int .i64 n, .int .i64 f, .int .i64 t, .int .i64 r, .string h] 49 (0, 0)) from by
    have h1 := HL2.out.block HB.out
    exact (hW.block _ (by have := Below.size HL2.out; omega)).trans h1)
  have HBE := Lib.hid hB
  clear hw3 hb3 hl3 how hB3 hB k0 k1 k2 k3 k4
  go_wp2_with fail
  clear hmk
  go_loopw [4, 5] (fun v4 v5 wr => ∃ j : Nat, j ≤ 8 ∧ v5 = .int .i64 (7 - (j : Int)) ∧ Hid (wr.ownsRow B 5 1 v4 j (bys ((be N 8).take j))) ∧ Hid (Below B w2 wr)) (fun _ v5 _ => (intOf v5 + 1).toNat)
  case atStart => exact ⟨0, by omega, rfl, HOW, HB3⟩
  case round =>
    obtain ⟨j, hj, rfl, HR, HBW⟩ := hrel
    have hblk := HKW.out wr HBW.out
    have k0 : wr.cell? ⟨w.heap.size, 0, none⟩ = some (.int .i64 n) := cell_blk hblk 0
    have hBw : B ≤ wr.heap.size := by have := HBW.out.size; have := HBE.out; omega
    by_cases hlt : j < 8
    · obtain ⟨i, hi⟩ : ∃ i : Nat, 7 - (j : Int) = i := ⟨7 - j, by omega⟩
      rw [hi]
      have hi7 : i ≤ 7 := by omega
      have hbe := be_get N 8 j hlt
      have hik : 8 - 1 - j = i := by omega
      rw [hik] at hbe
      obtain ⟨u, hu⟩ : ∃ u, UInt8.ofNat (N / 256 ^ i) = u := ⟨_, rfl⟩
      rw [hu] at hbe
      have hz : n / 2 ^ (8 * i) % 256 = (u.toNat : Int) := by
        rw [← HN.out.2, ← hu, UInt8.toNat_ofNat']
        exact byte_div N i
      obtain ⟨z, hzz⟩ : ∃ z : Int, (u.toNat : Int) = z := ⟨_, rfl⟩
      rw [hzz] at hz
      have HBEE := Lib.hid hbe
      have HZZ := Lib.hid hzz
      have HI := Lib.hid hi
      have hn0 : 0 ≤ n := by have := HMF.out.1; omega
      clear hbe hik hu hzz hi hblk
      go_wp2_with (first
        | (at_builtin; refine wpList_append_own _ rfl (.tmp 14) (.tmp 21) 99 rfl B 5 iU (.int .u8 0) 1 1 Tryz.underlying99 hiU hz0 hz1 hz2 rfl (by decide) _ _ _ rfl (HR.out.alloc _) ⟨wr.heap.size, 0, none⟩ 1 1 [.int .u8 z] rfl rfl (cells_newJ wr [.int .u8 z] 5) (by intro u hu; rw [List.mem_singleton.1 hu]; rfl) (by unfold maxLen; omega) (by omega) (by simp; omega) ?_; intro v' w4 hown4 hgrow4 hnil4)
        | fail)
      refine ⟨⟨j + 1, by omega, ?_, Lib.hid ?_, Lib.hid ?_⟩, ?_⟩
      · show Value.int .i64 _ = Value.int .i64 _
        congr 1
        have := HI.out
        omega
      · rw [HBEE.out, bys_snoc, HZZ.out]
        exact hown4
      · exact Below.grown (HBW.out.alloc hBw (.cells #[.int .u8 z] 5)) hgrow4 (by rw [World.size_alloc]; omega) (fun q hq => ((HR.out.alloc (.cells #[.int .u8 z] 5)).lt q hq).1)
      · simp only [intOf]; omega
    · have hj8 : j = 8 := by omega
      have k1 : wr.cell? ⟨w.heap.size, 1, none⟩ = some (.int .i64 f) := cell_blk hblk 1
      have k2 : wr.cell? ⟨w.heap.size, 2, none⟩ = some (.int .i64 t) := cell_blk hblk 2
      have k3 : wr.cell? ⟨w.heap.size, 3, none⟩ = some (.int .i64 r) := cell_blk hblk 3
      have hr := HR.out
      rw [hj8, List.take_of_length_le (by rw [be_len]; omega)] at hr
      have HR8 := Lib.hid hr
      have hjn : ¬ (0 : Int) ≤ 7 - (j : Int) := by omega
      have hjd : decide ((0 : Int) ≤ 7 - (j : Int)) = false := by simp; omega
      clear hr hj8 k0
      go_upto_region 9 with (first
        | (at_builtin; refine wpList_append_own _ rfl (.tmp 23) (.tmp 33) 99 rfl B 5 iU (.int .u8 0) 1 1 Tryz.underlying99 hiU hz0 hz1 hz2 rfl (by decide) _ _ _ rfl (HR8.out.alloc _) ⟨wr.heap.size, 0, none⟩ 3 3 [.int .u8 f, .int .u8 t, .int .u8 r] rfl rfl (cells_newJ wr [.int .u8 f, .int .u8 t, .int .u8 r] 5) (by intro u hu; simp only [List.mem_cons, List.not_mem_nil, or_false] at hu; rcases hu with rfl | rfl | rfl <;> rfl) (by unfold maxLen; omega) (by omega) (by simp; omega) ?_; intro v' w4 hown4 hgrow4 hnil4)
        | fail)
      have hm := HMF.out
      obtain ⟨W11, hW11⟩ : ∃ W11, be N 8 ++ [UInt8.ofNat f.toNat, UInt8.ofNat t.toNat, UInt8.ofNat r.toNat] = W11 := ⟨_, rfl⟩
      have hlen : W11.length = 11 := by rw [← hW11, List.length_append, be_len]; rfl
      have hown5 : w4.ownsRow B 5 1 v' W11.length (bys W11) := by
        have e : bys W11 = bys (be N 8) ++ [.int .u8 f, .int .u8 t, .int .u8 r] := by
          rw [← hW11]
          unfold bys
          rw [List.map_append]
          have e1 : ((UInt8.ofNat f.toNat).toNat : Int) = f := by rw [UInt8.toNat_ofNat']; omega
          have e2 : ((UInt8.ofNat t.toNat).toNat : Int) = t := by rw [UInt8.toNat_ofNat']; omega
          have e3 : ((UInt8.ofNat r.toNat).toNat : Int) = r := by rw [UInt8.toNat_ofNat']; omega
          simp only [List.map_cons, List.map_nil, e1, e2, e3]
        rw [e, hlen]
        exact hown4
      have hb4 : Below B w2 w4 := Below.grown (HBW.out.alloc hBw (.cells #[.int .u8 f, .int .u8 t, .int .u8 r] 5)) hgrow4 (by rw [World.size_alloc]; omega) (fun q hq => ((HR8.out.alloc (.cells #[.int .u8 f, .int .u8 t, .int .u8 r] 5)).lt q hq).1)
      obtain ⟨g, cap, hv, hcv⟩ := own_conv hown5 hlen (by omega)
      subst hv
      obtain ⟨BW, hBW⟩ : ∃ BW : ByteArray, (⟨W11.toArray⟩ : ByteArray) = BW := ⟨_, rfl⟩
      rw [hBW] at hcv
      have hBd : BW.data.toList = W11 := by rw [← hBW]
      have hBs : BW.size = 11 := by
        have : BW.data.toList.length = 11 := by rw [hBd, hlen]
        rw [← this, Array.length_toList]; rfl
      have hcat : BW ++ h = OUT := by
        rw [← HO.out]
        apply ByteArray.ext
        apply Array.toList_inj.1
        rw [app_data, hBd, ← hW11]
        unfold Rec.bytes
        simp [HN.out.1]
      have hh32 : h.size = 32 := hm.2.2.2.2.2
      have hbig : ¬ 9223372036854775807 < BW.size + h.size := by omega
      have k4 : w4.cell? ⟨w.heap.size, 4, none⟩ = some (.string h) := cell_blk (HKW.out w4 hb4) 4
      have HB4 := Lib.hid hb4
      have HCAT := Lib.hid hcat
      clear hm hW11 hlen hown5 hb4 hBW hBd hgrow4 hnil4 hown4 hcat
      go_wp2_with fail
      go_ret2
      refine ⟨by rw [HCAT.out]; rfl, ?_⟩
      have b4 := HB4.out
      have l2 := HL1.out.trans HL2.out
      have z := Below.size l2
      have z1 := HBE.out
      exact ⟨b4.os.trans l2.os, b4.tape.trans l2.tape, b4.output.trans l2.output, by have := b4.size; omega, fun k hk => (b4.block k (by omega)).trans (Below.block l2 k hk)⟩
end Go.Proofs.YtfpbocjmlhcgiaaGreatDoor
