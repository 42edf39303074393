/- Jg4, merged: J10 J11 J12 J13. -/
import Derived.Test.YtfpbocjmlhcgiaaGreatDoorJg3
import Derived.StillTailTactics
import Derived.Lib.ConvBytes
import Derived.Carry
import Derived.Deep.QuietTactic
import Derived.BigQuiet
set_option linter.unusedSimpArgs false
set_option linter.unusedVariables false
/- The disk's Flush. -/
namespace Go.Proofs.YtfpbocjmlhcgiaaGreatDoor
open Go.RowKit PJ Go.Maps

set_option maxRecDepth 100000 in
theorem dflush1_any (w : World) (p g mb n : Nat) (safe : List UInt8) (U : Int → Option (List UInt8)) (h : DiskAt w p g mb n safe U) (a c : Nat) (hac : a + c ≤ n) (b1 b2 b3 : Nat)
    (h1 : w.cell? ⟨b1, 0, none⟩ = some (.int .i64 a)) (h2 : w.cell? ⟨b2, 0, none⟩ = some (.int .i64 c)) (h3 : w.cell? ⟨b3, 0, none⟩ = some (.pointer (some ⟨p, 0, none⟩))) :
    Calls Tryz.prog 174 #[.pointer (some ⟨b1, 0, none⟩), .pointer (some ⟨b2, 0, none⟩), .pointer (some ⟨b3, 0, none⟩)] w fun e w' => e = .returned (.int .i64 0) ∧ Below w.heap.size w w' := by
  have HC := Lib.hid (fun m => dcount_any (w.drewN m) p g mb n safe U h)
  have hn : n ≤ 4096 := h.2.2.1
  have g1 : decide ((a : Int) < 0) = false := by simp
  have g2 : decide ((c : Int) < 0) = false := by simp
  have g3 : decide (n < a) = false := by simp; omega
  have g4 : decide ((n : Int) < (a : Int)) = false := by simp; omega
  have hwr : IntKind.i64.wrap ((n : Int) - (a : Int)) = (n : Int) - (a : Int) := by rw [IntKind.wrap_i64]; omega
  have g5 : decide ((n : Int) - (a : Int) < (c : Int)) = false := by simp; omega
  clear h hac hn
  go_enter Tryz.func174, Tryz.ntmps174
  go_upto_region 1 with fail
  go_quiet ((go_at_call 52; exact Calls.quiet_of_same ((HC.out _).mono (by rintro e w1 ⟨rfl, rfl⟩; exact ⟨rfl, rfl⟩))))
  go_wp2_with fail
  go_ret
  exact ⟨rfl, ⟨rfl, rfl, rfl, Nat.le_refl _, fun _ _ => rfl⟩⟩
set_option maxRecDepth 100000 in
theorem refusedF_any (w : World) (p g mb n : Nat) (safe : List UInt8) (U : Int → Option (List UInt8)) (h : DiskAt w p g mb n safe U) (cap : Array Value)
    (hf : Calls Tryz.prog 174 cap w fun e w' => e = .returned (.int .i64 0) ∧ Below w.heap.size w w') :
    Calls Tryz.prog 167 #[.pointer (some ⟨p, 0, none⟩), .func (.func 174) #[] cap] w fun e w' => e = .returned (.int .i64 0) ∧ Below w.heap.size w w' := by
  obtain ⟨h1, h2, h3, cap', cnt, ch, D, hp, -⟩ := h
  have c4 : w.cell? ⟨p, 4, none⟩ = some (.bool false) := cell_blk hp 4
  have HF := Lib.hid hf
  clear hp hf h1 h2 h3
  go_enter Tryz.func167, Tryz.ntmps167
  go_wp2_with (first
    | (go_at_call 174; (with_reducible refine HF.out.mono ?_); rintro e w1 ⟨rfl, hb1⟩)
    | fail)
  go_ret
  exact ⟨rfl, hb1⟩
/-- The unsafe sectors without those from a place to another. -/
def flU (U : Int → Option (List UInt8)) (a i : Nat) : Int → Option (List UInt8) := fun j => if (a : Int) ≤ j ∧ j < (i : Int) then none else U j
theorem flU_start (U : Int → Option (List UInt8)) (a : Nat) : flU U a a = U := by
  funext j
  unfold flU
  rw [if_neg (by omega)]
theorem flU_none {U : Int → Option (List UInt8)} {a i : Nat} (h : flU U a i (i : Int) = none) : flU U a (i + 1) = flU U a i := by
  funext j
  have hi : U (i : Int) = none := by unfold flU at h; rw [if_neg (by omega)] at h; exact h
  unfold flU
  by_cases hj : j = (i : Int)
  · subst hj
    rw [hi]; simp
  · by_cases h2 : (a : Int) ≤ j ∧ j < (i : Int)
    · rw [if_pos h2, if_pos (by omega)]
    · rw [if_neg h2, if_neg (by omega)]
theorem flU_some {U : Int → Option (List UInt8)} {a i : Nat} (ha : a ≤ i) : flU U a (i + 1) = clrU (flU U a i) i := by
  funext j
  unfold flU clrU
  by_cases hj : j = (i : Int)
  · subst hj
    rw [if_pos (by omega), if_pos rfl]
  · rw [if_neg hj]
    show (if (a : Int) ≤ j ∧ j < ((i + 1 : Nat) : Int) then none else U j) = (if (a : Int) ≤ j ∧ j < (i : Int) then none else U j)
    by_cases h2 : (a : Int) ≤ j ∧ j < (i : Int)
    · rw [if_pos h2, if_pos (by omega)]
    · rw [if_neg h2, if_neg (by omega)]
end Go.Proofs.YtfpbocjmlhcgiaaGreatDoor
/- The disk's Flush, whole. -/
namespace Go.Proofs.YtfpbocjmlhcgiaaGreatDoor
open Go.RowKit PJ Go.Maps

/-- A disk is the same but for what Flush may change. -/
def FlOut (w : World) (p g mb n : Nat) (safe : List UInt8) (U V : Int → Option (List UInt8)) (w' : World) : Prop :=
  ∃ safe', DiskAt w' p g mb n safe' V ∧ (∀ j, j < n → secT safe' V j = secT safe U j) ∧ OnlyJ (fun q => q = g ∨ q = mb) w w'
theorem flU_at {U : Int → Option (List UInt8)} {a i : Nat} : flU U a i (i : Int) = U i := by unfold flU; rw [if_neg (by omega)]
set_option maxRecDepth 100000 in
set_option maxHeartbeats 2000000 in
theorem dflush_any (w : World) (p g mb n : Nat) (safe : List UInt8) (U : Int → Option (List UInt8)) (h : DiskAt w p g mb n safe U) (hU : ∀ i s, U i = some s → s.length = 128) (a c : Nat) (hac : a + c ≤ n) :
    Calls Tryz.prog 124 #[.pointer (some ⟨p, 0, none⟩), .int .i64 a, .int .i64 c] w fun e w' => e = .returned (.int .i64 0) ∧ FlOut w p g mb n safe U (flU U a (a + c)) w' := by
  have hmf : ∀ (fn : Fn) (first cap : Array Value) (w : World), (Instr.makeFunc fn first cap).run Tryz.prog w = .ok (.func fn first cap) w := fun _ _ _ _ => rfl
  obtain ⟨w1, hw1⟩ : ∃ w1, (w.alloc (.cells #[.pointer (some ⟨p, 0, none⟩)] 26)).alloc (.cells #[.int .i64 a] 3) = w1 := ⟨_, rfl⟩
  obtain ⟨w2, hw2⟩ : ∃ w2, w1.alloc (.cells #[.int .i64 c] 3) = w2 := ⟨_, rfl⟩
  have hz1 : w1.heap.size = w.heap.size + 1 + 1 := by rw [← hw1]; simp
  have hz2 : w2.heap.size = w.heap.size + 1 + 1 + 1 := by rw [← hw2, World.size_alloc, hz1]
  have hb1 : Below w.heap.size w w1 := by rw [← hw1]; exact (alloc_below w _).alloc (by simp) _
  have hb2 : Below w.heap.size w w2 := by rw [← hw2]; exact hb1.alloc hb1.size _
  have hx1 : w1.heap[w.heap.size]? = some (.cells #[.pointer (some ⟨p, 0, none⟩)] 26 (0, 0)) := by
    rw [← hw1, Below.heap_alloc _ _ _ (by simp)]; exact alloc_blk w _
  have hx2 : w1.heap[w.heap.size + 1]? = some (.cells #[.int .i64 a] 3 (0, 0)) := by
    have := alloc_blk (w.alloc (.cells #[.pointer (some ⟨p, 0, none⟩)] 26)) (.cells #[.int .i64 a] 3)
    rw [World.size_alloc] at this
    rw [← hw1]; exact this
  have hy1 : w2.heap[w.heap.size]? = some (.cells #[.pointer (some ⟨p, 0, none⟩)] 26 (0, 0)) := by rw [← hw2, Below.heap_alloc _ _ _ (lt_blk hx1)]; exact hx1
  have hy2 : w2.heap[w.heap.size + 1]? = some (.cells #[.int .i64 a] 3 (0, 0)) := by rw [← hw2, Below.heap_alloc _ _ _ (lt_blk hx2)]; exact hx2
  have hy3 : w2.heap[w.heap.size + 1 + 1]? = some (.cells #[.int .i64 c] 3 (0, 0)) := by
    have := alloc_blk w1 (.cells #[.int .i64 c] 3)
    rw [hz1] at this
    rw [← hw2]; exact this
  have h2 := h.later hb2
  have k1 : w2.cell? ⟨w.heap.size, 0, none⟩ = some (.pointer (some ⟨p, 0, none⟩)) := cell_blk hy1 0
  have k2 : w2.cell? ⟨w.heap.size + 1, 0, none⟩ = some (.int .i64 a) := cell_blk hy2 0
  have k3 : w2.cell? ⟨w.heap.size + 1 + 1, 0, none⟩ = some (.int .i64 c) := cell_blk hy3 0
  have HRF := Lib.hid (refusedF_any w2 p g mb n safe U h2 _ (dflush1_any w2 p g mb n safe U h2 a c hac (w.heap.size + 1) (w.heap.size + 1 + 1) w.heap.size k2 k3 k1))
  have hgl : g < w.heap.size := by obtain ⟨-, -, -, _, _, _, _, -, -, -, -, hg, -⟩ := h; exact hg
  have hml : mb < w.heap.size := by
    obtain ⟨-, -, -, _, _, _, _, -, -, -, -, -, -, -, ho, -, -⟩ := h
    obtain ⟨es, clock, hb, -⟩ := ho
    exact (Array.getElem?_eq_some_iff.mp hb).1
  have hn : n ≤ 4096 := h.2.2.1
  have HW1 := Lib.hid hw1
  have HW2 := Lib.hid hw2
  have HH2 := Lib.hid h2
  have HB2 := Lib.hid hb2
  have HZ2 := Lib.hid hz2
  have HN := Lib.hid hn
  have HAC := Lib.hid hac
  have hwac : IntKind.i64.wrap ((a : Int) + (c : Int)) = (a : Int) + (c : Int) := by rw [IntKind.wrap_i64]; omega
  clear h hx1 hx2 hw1 hw2 hz1 hb1 hb2 h2 hz2
  go_enter Tryz.func124, Tryz.ntmps124
  go_upto_region 1 with fail
  rw [HW1.out, HW2.out]
  go_upto_region 4 with (first
    | (go_at_call 167; (with_reducible refine HRF.out.mono ?_); rintro e w3 ⟨rfl, hb3⟩)
    | fail)
  have h3 := HH2.out.later hb3
  have HGO := Lib.hid (goes_any w3 p g mb n safe U h3)
  have HB3 := Lib.hid hb3
  have y1 : w3.heap[w.heap.size]? = some (.cells #[.pointer (some ⟨p, 0, none⟩)] 26 (0, 0)) := block_below hb3 hy1 (lt_blk hy1)
  have y2 : w3.heap[w.heap.size + 1]? = some (.cells #[.int .i64 a] 3 (0, 0)) := block_below hb3 hy2 (lt_blk hy2)
  have y3 : w3.heap[w.heap.size + 1 + 1]? = some (.cells #[.int .i64 c] 3 (0, 0)) := block_below hb3 hy3 (lt_blk hy3)
  have m1 : w3.cell? ⟨w.heap.size, 0, none⟩ = some (.pointer (some ⟨p, 0, none⟩)) := cell_blk y1 0
  have m2 : w3.cell? ⟨w.heap.size + 1, 0, none⟩ = some (.int .i64 a) := cell_blk y2 0
  have m3 : w3.cell? ⟨w.heap.size + 1 + 1, 0, none⟩ = some (.int .i64 c) := cell_blk y3 0
  have H3 := Lib.hid h3
  have HY := Lib.hid (And.intro y1 (And.intro y2 y3))
  clear h3 hb3 k1 k2 k3 hy1 hy2 hy3 hn y1 y2 y3
  go_wp2_with (first
    | (go_at_call 170; (with_reducible refine HGO.out.mono ?_); rintro e w5 ⟨rfl, rfl⟩)
    | fail)
  have HM := Lib.hid (And.intro m1 (And.intro m2 m3))
  clear m1 m2 m3
  go_loopw [8] (fun v wr => ∃ i : Nat, a ≤ i ∧ i ≤ a + c ∧ v = .int .i64 (i : Int) ∧ FlOut w3 p g mb n safe U (flU U a i) wr) (fun v _ => a + c - (intOf v).toNat)
  case atStart =>
    refine ⟨a, Nat.le_refl _, by omega, rfl, safe, by rw [flU_start]; exact H3.out, fun j hj => by rw [flU_start], OnlyJ.refl _ _⟩
  case round =>
    obtain ⟨i, hai, hic, rfl, safe', hd, hsec, hon⟩ := hrel
    have hn4 := HN.out
    have e1 : wr.heap[w.heap.size]? = some (.cells #[.pointer (some ⟨p, 0, none⟩)] 26 (0, 0)) := (hon.block _ (lt_blk HY.out.1) (by omega)).trans HY.out.1
    have e2 : wr.heap[w.heap.size + 1]? = some (.cells #[.int .i64 a] 3 (0, 0)) := (hon.block _ (lt_blk HY.out.2.1) (by omega)).trans HY.out.2.1
    have e3 : wr.heap[w.heap.size + 1 + 1]? = some (.cells #[.int .i64 c] 3 (0, 0)) := (hon.block _ (lt_blk HY.out.2.2) (by omega)).trans HY.out.2.2
    have r1 : wr.cell? ⟨w.heap.size, 0, none⟩ = some (.pointer (some ⟨p, 0, none⟩)) := cell_blk e1 0
    have r2 : wr.cell? ⟨w.heap.size + 1, 0, none⟩ = some (.int .i64 a) := cell_blk e2 0
    have r3 : wr.cell? ⟨w.heap.size + 1 + 1, 0, none⟩ = some (.int .i64 c) := cell_blk e3 0
    have HON := Lib.hid hon
    have HSEC := Lib.hid hsec
    have HD := Lib.hid hd
    clear hon hsec e2 e3
    by_cases hlt : i < a + c
    · have g1 : (i : Int) < (a : Int) + (c : Int) := by omega
      have g2 : decide ((i : Int) < (a : Int) + (c : Int)) = true := by simp; omega
      obtain ⟨q1, q2, q3, cap, cnt, ch, D, hp, hcap, hcs, hpg, hg, hmp, hmg, ho, hm, hcn⟩ := hd
      have c0 : wr.cell? ⟨p, 0, none⟩ = some (.slice (some ⟨g, 0, none⟩) (128 * n) cap) := cell_blk hp 0
      have c1 : wr.cell? ⟨p, 1, none⟩ = some (.map (some mb)) := cell_blk hp 1
      have hlk0 := uns_look ho hm (i : Int) (WalkArith.wf_i64 (by omega))
      rw [flU_at] at hlk0
      have hw1 : IntKind.i64.wrap ((i : Int) + 1) = (i : Int) + 1 := by rw [IntKind.wrap_i64]; omega
      have hin : i < n := by omega
      cases hui : U (i : Int) with
      | none =>
        have hlk : (Instr.lookup 100 (.map (some mb)) (.int .i64 (i : Int)) true).run Tryz.prog wr = .ok (.tuple #[.string ⟨#[]⟩, .bool false]) wr := by rw [hui] at hlk0; exact hlk0
        clear hlk0 hp hcs ho hm hcn q1 q2 q3 hcap e1
        go_wp2_with fail
        refine ⟨⟨i + 1, by omega, by omega, by simp, ?_⟩, by simp only [intOf]; omega⟩
        have := flU_none (U := U) (a := a) (i := i) (by rw [flU_at]; exact hui)
        rw [this]
        exact ⟨safe', HD.out, HSEC.out, HON.out⟩
      | some s =>
        obtain ⟨SK, hSK⟩ : ∃ SK : ByteArray, (⟨s.toArray⟩ : ByteArray) = SK := ⟨_, rfl⟩
        have hsl := hU _ _ hui
        have hSz : SK.size = 128 := by rw [← hSK]; exact hsl
        have hSd : SK.data.toList = s := by rw [← hSK]
        have hlk : (Instr.lookup 100 (.map (some mb)) (.int .i64 (i : Int)) true).run Tryz.prog wr = .ok (.tuple #[.string SK, .bool true]) wr := by rw [hui] at hlk0; rw [← hSK]; exact hlk0
        obtain ⟨wq, hwq⟩ : ∃ wq, wr.setCells g (128 * i) (s.map fun x => Value.int .u8 (x.toNat : Int)) = wq := ⟨_, rfl⟩
        have hcopy : ∀ ty cap', (Builtin.copy_ #[99, 9] ty #[.slice (some ⟨g, i * 128, none⟩) (128 * n - i * 128) cap', .string SK]).run Tryz.prog wr = .ok (goInt SK.size) wq := by
          intro ty cap'
          have := run_copy_string (P := Tryz.prog) wr 99 9 ty 5 g (128 * i) (128 * n - i * 128) cap' SK Tryz.underlying99 (fun _ => by kernel_rfl) (by omega) (fun j hj => by rw [(hcs (128 * i + j) (by omega)).1]; rfl) (fun j hj => (hcs (128 * i + j) (by omega)).2)
          rw [hSd, hwq, Nat.mul_comm 128 i] at this
          exact this
        have hwm : IntKind.i64.wrap ((i : Int) * 128) = (i : Int) * 128 := by rw [IntKind.wrap_i64]; omega
        have hta : ((i : Int) * 128).toNat = i * 128 := by omega
        have hoth : ∀ k, k < wr.heap.size → k ≠ g → wq.heap[k]? = wr.heap[k]? := fun k hk hne => by rw [← hwq]; exact World.heap_setCells_other wr _ _ _ hk hne
        have v1 : wq.cell? ⟨w.heap.size, 0, none⟩ = some (.pointer (some ⟨p, 0, none⟩)) := (World.cell?_of_block (a := ⟨w.heap.size, 0, none⟩) (hoth w.heap.size (lt_blk e1) (Nat.ne_of_gt hgl))).trans r1
        have v2 : wq.cell? ⟨p, 1, none⟩ = some (.map (some mb)) := (World.cell?_of_block (a := ⟨p, 1, none⟩) (hoth _ (lt_blk hp) hpg)).trans c1
        have hoq : wq.ownsMap Tryz.prog 3 (plainElem Tryz.prog 9) mb cnt D := by
          obtain ⟨es, clock, h4, h5⟩ := ho
          exact ⟨es, clock, (hoth mb (Array.getElem?_eq_some_iff.mp h4).1 hmg).trans h4, h5⟩
        have hkey : keyOf Tryz.prog 3 (.int .i64 (i : Int)) = some (.int .i64 (i : Int)) := keyOf_int_mk Tryz.underlying3 (WalkArith.wf_i64 (by omega))
        have HFIN := Lib.hid (fun w' (ho' : w'.ownsMap Tryz.prog 3 (plainElem Tryz.prog 9) mb cnt (D.del (.int .i64 (i : Int)))) (ht : wq.grownBy w' (some mb)) =>
          show FlOut w3 p g mb n safe U (flU U a (i + 1)) w' from by
            rw [← hwq] at ht
            obtain ⟨hd', hon'⟩ := DiskAt.sector q1 q2 q3 hp hcap hcs hpg hg hmp hmg ho hm hcn hin (by rw [flU_at]; exact hui) hsl ho' ht
            rw [flU_some hai]
            exact ⟨_, hd', fun j hj => (secT_setSec q1 hin hsl (by rw [flU_at]; exact hui) j hj).trans (HSEC.out j hj), HON.out.trans hon'⟩)
        have l1 : ¬ (i : Int) * 128 < 0 := by omega
        have l2 : i * 128 ≤ 128 * n := by omega
        have HWQ := Lib.hid hwq
        have HSK := Lib.hid hSK
        clear hlk0 hp hcs ho hm hcn q1 q2 q3 e1 hoth hSd hwq hSK
        go_wp2_with (first
          | (at_delete; refine wpList_delete_own _ rfl (.tmp 55) (.tmp 56) 100 3 rfl 9 law_int Tryz.underlying100 _ mb cnt D rfl hoq _ _ rfl hkey ?_; intro w6 hown6 hturn6)
          | fail)
        have hfl := HFIN.out w6 hown6 hturn6.grown
        refine ⟨⟨i + 1, by omega, by omega, by simp, hfl⟩, by simp only [intOf]; omega⟩
    · have g1 : ¬ (i : Int) < (a : Int) + (c : Int) := by omega
      have g2 : decide ((i : Int) < (a : Int) + (c : Int)) = false := by simp; omega
      clear e1
      go_wp2_with fail
      go_ret
      have hie : i = a + c := by omega
      rw [hie] at HD HSEC
      exact ⟨rfl, safe', HD.out, HSEC.out, (OnlyJ.of_below (HB2.out.trans (HB3.out.mono HB2.out.size))).trans HON.out |>.mono (fun _ _ h => h)⟩
end Go.Proofs.YtfpbocjmlhcgiaaGreatDoor
/- A new disk; Dead. -/
namespace Go.Proofs.YtfpbocjmlhcgiaaGreatDoor
open Go.RowKit PJ Go.Maps

theorem DiskAt.born (w : World) (n : Nat) (h1 : 1 ≤ n) (h2 : n ≤ 4096) (s : ByteArray) (hs : s.size = 128 * n) (cap : Nat) (hcap : 128 * n ≤ cap) (W2 : World) (ch : Option Addr × Nat × Nat)
    (hz : W2.heap.size = w.heap.size + 1) (hc : ∀ j, j < s.size → W2.cell? ⟨w.heap.size, j, none⟩ = some (.int .u8 (s.data.toList.getD j 0).toNat)) (hf : ∀ j, j < s.size → W2.frozen? ⟨w.heap.size, j, none⟩ = false)
    (W : World) (hW : (W2.alloc (.map #[] 0)).alloc (.cells #[.slice (some ⟨w.heap.size, 0, none⟩) s.size cap, .map (some (w.heap.size + 1)), .int .i64 0, .slice ch.1 ch.2.1 ch.2.2, .bool false] 102) = W) :
    DiskAt W (w.heap.size + 1 + 1) w.heap.size (w.heap.size + 1) n s.data.toList (fun _ => none) := by
  have hmiss : ∀ m, missU (fun _ => none) m = m := by
    intro m
    induction m with
    | zero => rfl
    | succ m ih => simp [missU, ih]
  have hb : Below W2.heap.size W2 W := by rw [← hW]; exact (alloc_below W2 _).alloc (by simp) _
  have ha := alloc_blk (W2.alloc (.map #[] 0)) (.cells #[.slice (some ⟨w.heap.size, 0, none⟩) s.size cap, .map (some (w.heap.size + 1)), .int .i64 0, .slice ch.1 ch.2.1 ch.2.2, .bool false] 102)
  rw [World.size_alloc, hz, hW] at ha
  have hm := World.ownsMap_made W2 Tryz.prog 3 (plainElem (H := Unit) Tryz.prog 9)
  rw [hz] at hm
  refine ⟨by rw [Array.length_toList]; exact hs, h1, h2, cap, 0, ch, .map [], by rw [← hs]; exact ha, hcap, fun j hj => ?_, by omega, ?_, by omega, by omega, ?_, ?_, by rw [hmiss]; omega⟩
  · exact ⟨(hb.cell (p := ⟨w.heap.size, j, none⟩) (by show w.heap.size < _; omega)).trans (hc j (by omega)), (hb.frozen (p := ⟨w.heap.size, j, none⟩) (by show w.heap.size < _; omega)).trans (hf j (by omega))⟩
  · have := hb.size; omega
  · obtain ⟨es, clock, h4, h5⟩ := hm
    refine ⟨es, clock, ?_, h5⟩
    rw [← hW, Below.heap_alloc _ _ _ (Array.getElem?_eq_some_iff.mp h4).1]
    exact h4
  · intro i
    exact ⟨rfl, rfl⟩
set_option maxRecDepth 100000 in
set_option maxHeartbeats 1000000 in
theorem dnew_any (s : ByteArray) (w : World) (n : Nat) (h1 : 1 ≤ n) (h2 : n ≤ 4096) (hs : s.size = 128 * n) :
    Calls Tryz.prog 11 #[.string s] w fun e w' => e = .returned (.tuple #[.pointer (some ⟨w.heap.size + 1 + 1, 0, none⟩), .int .i64 0]) ∧ DiskAt w' (w.heap.size + 1 + 1) w.heap.size (w.heap.size + 1) n s.data.toList (fun _ => none) ∧ Below w.heap.size w w' := by
  have hmm := @run_makeMap Tryz.prog
  have hconv : ∀ W : World, (convert 9 99 (.string s)).run Tryz.prog W = .ok (.slice (some ⟨W.heap.size, 0, none⟩) s.size (grownCap W s.size 0 5)) (Lib.bytesWorld W 5 s) :=
    fun W => Lib.run_convert_string_bytes W _ _ _ s Tryz.underlying9 Tryz.underlying99 Tryz.underlying5
  obtain ⟨W2, hW2⟩ : ∃ W2, Lib.bytesWorld w 5 s = W2 := ⟨_, rfl⟩
  obtain ⟨cap, hcap⟩ : ∃ cap, grownCap w s.size 0 5 = cap := ⟨_, rfl⟩
  have hge : s.size ≤ cap := by rw [← hcap]; exact grownCap_ge _ _ _ _
  have hc1 := hconv w
  rw [hW2, hcap] at hc1
  have hz : W2.heap.size = w.heap.size + 1 := by rw [← hW2]; exact Lib.bytesWorld_size _ _ _
  have hcell : ∀ j, j < s.size → W2.cell? ⟨w.heap.size, j, none⟩ = some (.int .u8 (s.data.toList.getD j 0).toNat) := fun j hj => by rw [← hW2]; exact Lib.bytesWorld_cell _ _ _ _ hj
  have hfr : ∀ j, j < s.size → W2.frozen? ⟨w.heap.size, j, none⟩ = false := fun j hj => by
    have hsz := (Array.getElem?_eq_some_iff.mp (show (Lib.bytesCells w 5 s)[j]? = some _ from by
      have hh := Lib.bytesWorld_cell w 5 s j hj
      rw [World.cell?, Lib.bytesWorld_at_new] at hh
      exact hh)).1
    rw [← hW2]
    simp [World.frozen?, Lib.bytesWorld_at_new]
    omega
  have hbel : Below w.heap.size w W2 := by rw [← hW2]; exact below_bytes _ _ _
  have HB := Lib.hid (fun ch W h => DiskAt.born w n h1 h2 s hs cap (by omega) W2 ch hz hcell hfr W h)
  have HL := Lib.hid hbel
  clear hconv hcell hfr hbel hW2 hcap
  have g0 : ¬ s.size = 0 := by omega
  have he : s.toList.isEmpty = false := by
    have hl : s.data.toList.length = s.size := by rw [Array.length_toList]; rfl
    rw [ByteArray.toList_eq]
    cases hq : s.data.toList with
    | nil => rw [hq] at hl; simp at hl; omega
    | cons _ _ => rfl
  have g1 : ((s.size : Int)).tmod 128 = 0 := by rw [hs]; simp
  have g4 : 128 * (n : Int) ≤ 524288 := by omega
  have g5 : decide (524288 < 128 * (n : Int)) = false := by simp; omega
  have g2 : s.size ≤ 524288 := by omega
  have g3 : ¬ s = ⟨#[]⟩ := by intro e; rw [e] at g0; exact g0 rfl
  go_enter Tryz.func11, Tryz.ntmps11
  go_wp2_with fail
  go_ret2
  have hb := HB.out (none, 0, 0) _ rfl
  rw [hs] at hb
  exact ⟨rfl, hb, ((HL.out.alloc HL.out.size _).alloc (by have := HL.out.size; simp; omega) _)⟩
end Go.Proofs.YtfpbocjmlhcgiaaGreatDoor
/- A block device: made, counted, asked. -/
namespace Go.Proofs.YtfpbocjmlhcgiaaGreatDoor
open Go.RowKit PJ Go.Maps

/-- The device's own cells. -/
def devCells (p first count cached : Nat) (cv : Value) (misses : Int) : Array Value := #[.pointer (some ⟨p, 0, none⟩), .int .i64 first, .int .i64 count, .int .i64 cached, cv, .int .i64 misses]
set_option maxRecDepth 100000 in
theorem ddead_any (w : World) (p g mb n : Nat) (safe : List UInt8) (U : Int → Option (List UInt8)) (h : DiskAt w p g mb n safe U) :
    Calls Tryz.prog 123 #[.pointer (some ⟨p, 0, none⟩)] w fun e w' => e = .returned (.bool false) ∧ w = w' := by
  obtain ⟨h1, h2, h3, cap', cnt, ch, D, hp, -⟩ := h
  have c4 : w.cell? ⟨p, 4, none⟩ = some (.bool false) := cell_blk hp 4
  clear hp h1 h2 h3
  go_enter Tryz.func123, Tryz.ntmps123
  go_wp2_with fail
  go_ret
  exact ⟨rfl, rfl⟩
set_option maxRecDepth 100000 in
theorem basked_any (w : World) (p g mb n : Nat) (safe : List UInt8) (U : Int → Option (List UInt8)) (h : DiskAt w p g mb n safe U) (b first count cached : Nat) (misses : Int) (cv : Value)
    (hd : w.heap[b]? = some (.cells (devCells p first count cached cv misses) 105 (0, 0))) (i : Nat) (hi : i < count) (hc : count ≤ 4096) :
    Calls Tryz.prog 119 #[.pointer (some ⟨b, 0, none⟩), .int .i64 i] w fun e w' => e = .returned (.int .i64 0) ∧ w = w' := by
  have HC := Lib.hid (ddead_any w p g mb n safe U h)
  have c0 : w.cell? ⟨b, 0, none⟩ = some (.pointer (some ⟨p, 0, none⟩)) := cell_blk hd 0
  have c2 : w.cell? ⟨b, 2, none⟩ = some (.int .i64 count) := cell_blk hd 2
  have g1 : ¬ (i : Int) < 0 := by omega
  have g2 : ¬ (count : Int) ≤ (i : Int) := by omega
  have g3 : decide ((count : Int) ≤ (i : Int)) = false := by simp; omega
  have g4 : decide (count ≤ i) = false := by simp; omega
  clear h hd
  go_enter Tryz.func119, Tryz.ntmps119
  go_wp2_with (first
    | (go_at_call 123; (with_reducible refine HC.out.mono ?_); rintro e w1 ⟨rfl, rfl⟩)
    | fail)
  go_ret
  exact ⟨rfl, rfl⟩
set_option maxRecDepth 100000 in
theorem bcount_any (w : World) (p b first count cached : Nat) (misses : Int) (cv : Value) (hd : w.heap[b]? = some (.cells (devCells p first count cached cv misses) 105 (0, 0))) :
    Calls Tryz.prog 57 #[.pointer (some ⟨b, 0, none⟩)] w fun e w' => e = .returned (.int .i64 count) ∧ w = w' := by
  have c2 : w.cell? ⟨b, 2, none⟩ = some (.int .i64 count) := cell_blk hd 2
  clear hd
  go_enter Tryz.func57, Tryz.ntmps57
  go_wp2_with fail
  go_ret
  exact ⟨rfl, rfl⟩
set_option maxRecDepth 100000 in
set_option maxHeartbeats 1000000 in
theorem bnew_any (w : World) (p g mb n : Nat) (safe : List UInt8) (U : Int → Option (List UInt8)) (h : DiskAt w p g mb n safe U) (first count cached : Nat) (hfc : first + count ≤ n) (hc1 : 1 ≤ count) (hca : cached ≤ 16) :
    Calls Tryz.prog 13 #[.pointer (some ⟨p, 0, none⟩), .int .i64 first, .int .i64 count, .int .i64 cached] w fun e w' =>
      e = .returned (.tuple #[.pointer (some ⟨w.heap.size, 0, none⟩), .int .i64 0]) ∧ Below w.heap.size w w' ∧ w'.heap[w.heap.size]? = some (.cells (devCells p first count cached (.slice none 0 0) 0) 105 (0, 0)) := by
  have HC := Lib.hid (dcount_any w p g mb n safe U h)
  have hn : n ≤ 4096 := h.2.2.1
  have g1 : ¬ (first : Int) < 0 := by omega
  have g2 : ¬ (count : Int) < 1 := by omega
  have g3 : ¬ (n : Int) < (first : Int) := by omega
  have g3' : decide (n < first) = false := by simp; omega
  have g3'' : decide ((n : Int) < (first : Int)) = false := by simp; omega
  have hwr : IntKind.i64.wrap ((n : Int) - (first : Int)) = (n : Int) - (first : Int) := by rw [IntKind.wrap_i64]; omega
  have g4 : ¬ (n : Int) - (first : Int) < (count : Int) := by omega
  have g4' : decide ((n : Int) - (first : Int) < (count : Int)) = false := by simp; omega
  have g5 : ¬ (cached : Int) < 0 := by omega
  have g6 : ¬ (16 : Int) < (cached : Int) := by omega
  have g6' : decide ((16 : Int) < (cached : Int)) = false := by simp; omega
  have g7 : ¬ 16 < cached := by omega
  clear h hfc hn
  go_enter Tryz.func13, Tryz.ntmps13
  go_wp2_with (first
    | (go_at_call 52; (with_reducible refine HC.out.mono ?_); rintro e w1 ⟨rfl, rfl⟩)
    | fail)
  go_ret2
  exact ⟨rfl, alloc_below w _, alloc_blk w _⟩
end Go.Proofs.YtfpbocjmlhcgiaaGreatDoor
