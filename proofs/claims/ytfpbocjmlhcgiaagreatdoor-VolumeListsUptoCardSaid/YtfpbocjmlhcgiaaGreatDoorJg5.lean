/- Jg5, merged: J14 J15 J16 J17. -/
import Derived.Test.YtfpbocjmlhcgiaaGreatDoorJg4
import Derived.StillTailTactics
set_option linter.unusedSimpArgs false
set_option linter.unusedVariables false
/- A block device: its barrier. -/
namespace Go.Proofs.YtfpbocjmlhcgiaaGreatDoor
open Go.RowKit PJ Go.Maps

theorem OnlyJ.undrew {r : Nat → Prop} {a w : World} (h : OnlyJ r a.drew w) : OnlyJ r a w := ⟨h.os, h.tape, h.output, h.size, h.block⟩
theorem FlOut.undrew {w w' : World} {p g mb n : Nat} {safe : List UInt8} {U V : Int → Option (List UInt8)} (h : FlOut w.drew p g mb n safe U V w') : FlOut w p g mb n safe U V w' := by
  obtain ⟨s, h1, h2, h3⟩ := h
  exact ⟨s, h1, h2, h3.undrew⟩
set_option maxRecDepth 100000 in
set_option maxHeartbeats 1000000 in
theorem barrier_any (w : World) (p g mb n : Nat) (safe : List UInt8) (U : Int → Option (List UInt8)) (h : DiskAt w p g mb n safe U) (hU : ∀ i s, U i = some s → s.length = 128) (b first count cached : Nat) (misses : Int) (cv : Value)
    (hd : w.heap[b]? = some (.cells (devCells p first count cached cv misses) 105 (0, 0))) (hfc : first + count ≤ n) :
    Calls Tryz.prog 60 #[.pointer (some ⟨b, 0, none⟩)] w fun e w' => e = .returned (.int .i64 0) ∧ FlOut w p g mb n safe U (flU U first (first + count)) w' := by
  have HC := Lib.hid (ddead_any w p g mb n safe U h)
  have HF := Lib.hid (dflush_any w.drew p g mb n safe U h hU first count hfc)
  have c0 : w.cell? ⟨b, 0, none⟩ = some (.pointer (some ⟨p, 0, none⟩)) := cell_blk hd 0
  have c1 : w.cell? ⟨b, 1, none⟩ = some (.int .i64 first) := cell_blk hd 1
  have c2 : w.cell? ⟨b, 2, none⟩ = some (.int .i64 count) := cell_blk hd 2
  clear h hd hU hfc
  go_enter Tryz.func60, Tryz.ntmps60
  go_upto_region 3 with (first
    | (go_at_call 123; (with_reducible refine HC.out.mono ?_); rintro e w1 ⟨rfl, rfl⟩)
    | fail)
  go_still_tail 12, (by kernel_rfl)
  change wpList _ _ _ _ _ w.drew
  obtain ⟨w4, hw4⟩ : ∃ w4, w.drew = w4 := ⟨_, rfl⟩
  have HW4 := Lib.hid hw4
  rw [hw4] at HF ⊢
  clear hw4
  go_wp2_with (first
    | (go_at_call 124; (with_reducible refine HF.out.mono ?_); rintro e w5 ⟨rfl, hfo⟩)
    | fail)
  go_ret
  rw [← HW4.out] at hfo
  exact ⟨rfl, hfo.undrew⟩
end Go.Proofs.YtfpbocjmlhcgiaaGreatDoor
/- A block device: its stamps. -/
namespace Go.Proofs.YtfpbocjmlhcgiaaGreatDoor
open Go.RowKit PJ Go.Maps

set_option maxRecDepth 100000 in
set_option maxHeartbeats 1000000 in
theorem bstamp_any (w : World) (p g mb n : Nat) (safe : List UInt8) (U : Int → Option (List UInt8)) (h : DiskAt w p g mb n safe U) (b first count cached : Nat) (misses : Int) (cv : Value)
    (hd : w.heap[b]? = some (.cells (devCells p first count cached cv misses) 105 (0, 0))) (hfc : first + count ≤ n) (i : Nat) (hi : i < count) (hl : (secT safe U (first + i)).length = 128)
    (hst : stampOf (secT safe U (first + i)) ≤ 4611686018427387904) :
    Calls Tryz.prog 198 #[.pointer (some ⟨b, 0, none⟩), .int .i64 i] w fun e w' => e = .returned (.tuple #[.int .i64 (stampOf (secT safe U (first + i))), .int .i64 0]) ∧ Below w.heap.size w w' := by
  have hn : n ≤ 4096 := h.2.2.1
  have HC := Lib.hid (basked_any w p g mb n safe U h b first count cached misses cv hd i hi (by omega))
  have HR := Lib.hid (dread_any w.drew p g mb n safe U h (first + i) (by omega))
  obtain ⟨SK, hSK⟩ : ∃ SK : ByteArray, (⟨(secT safe U (first + i)).toArray⟩ : ByteArray) = SK := ⟨_, rfl⟩
  have hSd : SK.data.toList = secT safe U (first + i) := by rw [← hSK]
  have HS := Lib.hid (fun W => stamped_any SK W (by rw [← hSK]; exact hl))
  rw [hSd, if_pos hst, decide_eq_true hst] at HS
  rw [hSK] at HR
  have c0 : w.cell? ⟨b, 0, none⟩ = some (.pointer (some ⟨p, 0, none⟩)) := cell_blk hd 0
  have c1 : w.cell? ⟨b, 1, none⟩ = some (.int .i64 first) := cell_blk hd 1
  have hwr : IntKind.i64.wrap ((first : Int) + (i : Int)) = ((first + i : Nat) : Int) := by rw [IntKind.wrap_i64]; omega
  obtain ⟨k, hk⟩ : ∃ k, first + i = k := ⟨_, rfl⟩
  rw [hk] at hwr HR HS ⊢
  obtain ⟨ST, hST⟩ : ∃ ST, stampOf (secT safe U k) = ST := ⟨_, rfl⟩
  rw [hST] at HS ⊢
  clear h hd hfc hSd hSK hl hst hST hn hi hk
  go_enter Tryz.func198, Tryz.ntmps198
  go_upto_region 4 with (first
    | (go_at_call 119; (with_reducible refine HC.out.mono ?_); rintro e w1 ⟨rfl, rfl⟩)
    | fail)
  go_region_with (go_at_call 177; (with_reducible refine HR.out.mono ?_); rintro e w5 ⟨rfl, hb5⟩)
  all_goals
    go_wp2_with (first
      | (go_at_call 211; (with_reducible refine (HS.out _).mono ?_); rintro e w6 ⟨rfl, rfl⟩)
      | fail)
    go_ret2
    exact ⟨rfl, ⟨hb5.os, hb5.tape, hb5.output, hb5.size, hb5.block⟩⟩
end Go.Proofs.YtfpbocjmlhcgiaaGreatDoor
/- The cache: its closures; what touch leaves, plainly. -/
namespace Go.Proofs.YtfpbocjmlhcgiaaGreatDoor
open Go.RowKit PJ Go.Maps

/-- A block in the cache. -/
structure Kept where
  at' : Nat
  data : List UInt8
  stamp : Nat
/-- .. as a value. -/
def Kept.val (k : Kept) : Value := .agg #[.int .i64 k.at', .string ⟨k.data.toArray⟩, .int .i64 k.stamp]
theorem beq_nat (a b : Nat) : ((a : Int) == (b : Int)) = decide (a = b) := by
  rw [Bool.eq_iff_iff]
  simp
  omega
set_option maxRecDepth 100000 in
theorem touch1_any (w : World) (a b : Nat) (d : ByteArray) (st : Int) (bk : Nat) (hk : w.cell? ⟨bk, 0, none⟩ = some (.int .i64 b)) :
    Calls Tryz.prog 173 #[.agg #[.int .i64 a, .string d, .int .i64 st], .pointer (some ⟨bk, 0, none⟩)] w fun e w' => e = .returned (.bool (decide (a = b))) ∧ Below w.heap.size w w' := by
  have hb := Below.heap_alloc w
  have hlt : bk < w.heap.size := by
    have := hk
    simp only [World.cell?] at this
    cases hh : w.heap[bk]? with
    | none => simp [hh] at this
    | some o => exact (Array.getElem?_eq_some_iff.mp hh).1
  go_enter Tryz.func173, Tryz.ntmps173
  go_wp2_with fail
  go_ret
  exact ⟨by show Ending.returned (.bool ((a : Int) == (b : Int))) = _; rw [beq_nat], alloc_below w _⟩
set_option maxRecDepth 100000 in
theorem read1_any (w : World) (a b : Nat) (d : ByteArray) (st : Int) (bk : Nat) (hk : w.cell? ⟨bk, 0, none⟩ = some (.int .i64 b)) :
    Calls Tryz.prog 176 #[.agg #[.int .i64 a, .string d, .int .i64 st], .pointer (some ⟨bk, 0, none⟩)] w fun e w' => e = .returned (.bool (decide (a = b))) ∧ Below w.heap.size w w' := by
  have hb := Below.heap_alloc w
  have hlt : bk < w.heap.size := by
    have := hk
    simp only [World.cell?] at this
    cases hh : w.heap[bk]? with
    | none => simp [hh] at this
    | some o => exact (Array.getElem?_eq_some_iff.mp hh).1
  go_enter Tryz.func176, Tryz.ntmps176
  go_wp2_with fail
  go_ret
  exact ⟨by show Ending.returned (.bool ((a : Int) == (b : Int))) = _; rw [beq_nat], alloc_below w _⟩
end Go.Proofs.YtfpbocjmlhcgiaaGreatDoor
/- The cache searched: slices.IndexFunc at []kept. -/
namespace Go.Proofs.YtfpbocjmlhcgiaaGreatDoor
open Go.RowKit PJ Go.Maps

/-- The cells of a kept at a place. -/
def KeptCells (w : World) (g o : Nat) (k : Kept) : Prop := w.cell? ⟨g, o, none⟩ = some (.int .i64 k.at') ∧ w.cell? ⟨g, o + 1, none⟩ = some (.string ⟨k.data.toArray⟩) ∧ w.cell? ⟨g, o + 2, none⟩ = some (.int .i64 k.stamp)
/-- Where a kept of a block stands in a cache: -1: nowhere. -/
def findK (b : Nat) : List Kept → Nat → Int
  | [], _ => -1
  | k :: r, i => if k.at' = b then (i : Int) else findK b r (i + 1)
theorem findK_skip (b : Nat) : ∀ (xs : List Kept) (j i : Nat), (∀ m, m < j → ∀ k, xs[m]? = some k → k.at' ≠ b) → j ≤ xs.length → findK b xs i = findK b (xs.drop j) (i + j)
  | xs, 0, i, _, _ => rfl
  | [], j + 1, i, _, hl => by simp at hl
  | k :: r, j + 1, i, h, hl => by
    have h0 := h 0 (by omega) k rfl
    rw [findK, if_neg h0, findK_skip b r j (i + 1) (fun m hm x hx => h (m + 1) (by omega) x (by simpa using hx)) (by simpa using hl)]
    rw [List.drop_succ_cons, show i + 1 + j = i + (j + 1) from by omega]
set_option maxRecDepth 100000 in
set_option maxHeartbeats 1000000 in
theorem kidx_any (w : World) (g off cap : Nat) (xs : List Kept) (hx : xs.length ≤ 16) (hg : g < w.heap.size) (hc : ∀ j k, xs[j]? = some k → KeptCells w g (off + j * 3) k) (b bk : Nat) (hk : w.cell? ⟨bk, 0, none⟩ = some (.int .i64 b)) (hbk : bk < w.heap.size) :
    Calls Tryz.prog 175 #[.slice (some ⟨g, off, none⟩) xs.length cap, .func (.func 176) #[] #[.pointer (some ⟨bk, 0, none⟩)]] w fun e w' => e = .returned (.int .i64 (findK b xs 0)) ∧ Below w.heap.size w w' := by
  have HC := Lib.hid hc
  have HK := Lib.hid hk
  clear hc hk
  go_enter Tryz.func175, Tryz.ntmps175
  go_wp2_with fail
  go_loopw [8] (fun v wr => ∃ j : Nat, j ≤ xs.length ∧ v = .int .i64 (j : Int) ∧ (∀ m, m < j → ∀ k, xs[m]? = some k → k.at' ≠ b) ∧ Below w.heap.size w wr) (fun v _ => xs.length - (intOf v).toNat)
  case atStart => exact ⟨0, by omega, rfl, fun m hm => absurd hm (by omega), Below.refl _ _⟩
  case round =>
    obtain ⟨j, hj, rfl, hno, hb⟩ := hrel
    have HNO := Lib.hid hno
    clear hno
    by_cases hlt : j < xs.length
    · obtain ⟨k, hkj⟩ : ∃ k, xs[j]? = some k := ⟨_, List.getElem?_eq_getElem hlt⟩
      obtain ⟨q1, q2, q3⟩ := HC.out j k hkj
      have r1 := (hb.cell (p := ⟨g, off + j * 3, none⟩) hg).trans q1
      have r2 := (hb.cell (p := ⟨g, off + j * 3 + 1, none⟩) hg).trans q2
      have r3 := (hb.cell (p := ⟨g, off + j * 3 + 2, none⟩) hg).trans q3
      have HP := Lib.hid (read1_any wr k.at' b ⟨k.data.toArray⟩ k.stamp bk ((hb.cell (p := ⟨bk, 0, none⟩) hbk).trans HK.out))
      clear q1 q2 q3
      by_cases hat : k.at' = b
      · rw [decide_eq_true hat] at HP
        have HAT := Lib.hid hat
        clear hat
        go_wp2_with (first
          | (go_at_call 176; (with_reducible refine HP.out.mono ?_); rintro e w1 ⟨rfl, hb1⟩)
          | fail)
        go_ret
        refine ⟨ret_int ?_, hb.trans (hb1.mono hb.size)⟩
        rw [findK_skip b xs j 0 HNO.out hj, List.drop_eq_getElem_cons hlt, findK]
        have hkk : xs[j] = k := by rw [List.getElem?_eq_getElem hlt] at hkj; exact Option.some.inj hkj
        rw [hkk, if_pos HAT.out]
        simp
      · rw [decide_eq_false hat] at HP
        have HAT := Lib.hid hat
        clear hat
        go_wp2_with (first
          | (go_at_call 176; (with_reducible refine HP.out.mono ?_); rintro e w1 ⟨rfl, hb1⟩)
          | fail)
        refine ⟨⟨j + 1, by omega, by simp, fun m hm x hx' => ?_, hb.trans (hb1.mono hb.size)⟩, by simp only [intOf]; omega⟩
        by_cases hmj : m = j
        · subst hmj
          rw [hkj] at hx'
          rw [← Option.some.inj hx']
          exact HAT.out
        · exact HNO.out m (by omega) x hx'
    · go_wp2_with fail
      go_ret
      refine ⟨ret_int ?_, hb⟩
      rw [findK_skip b xs j 0 HNO.out hj, List.drop_eq_nil_of_le (by omega), findK]
end Go.Proofs.YtfpbocjmlhcgiaaGreatDoor
