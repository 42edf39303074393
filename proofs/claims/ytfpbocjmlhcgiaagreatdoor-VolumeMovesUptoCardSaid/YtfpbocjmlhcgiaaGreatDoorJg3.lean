/- Jg3, merged: J6 J7 J8 J9. -/
import Derived.Test.YtfpbocjmlhcgiaaGreatDoorJg2
import Derived.Maps.OwnOps
import Derived.Maps.OwnSet
import Derived.Deep.QuietTactic
import Derived.BigQuiet
import Derived.RegionTactic
import Derived.ChangeAlike
import Derived.StillTailTactics
import Derived.Lib.LazyBuf
import Derived.Laws.IdiomCopy
import Derived.Deep.Upon
set_option linter.unusedSimpArgs false
set_option linter.unusedVariables false
/- The disk in memory; what is read of it. -/
namespace Go.Proofs.YtfpbocjmlhcgiaaGreatDoor
open Go.RowKit PJ Go.Maps

/-- Blocks other than some are as they were. -/
structure OnlyJ (r : Nat → Prop) (a w : World) : Prop where
  os : w.os = a.os
  tape : w.tape = a.tape
  output : w.output = a.output
  size : a.heap.size ≤ w.heap.size
  block : ∀ k, k < a.heap.size → ¬ r k → w.heap[k]? = a.heap[k]?
theorem OnlyJ.of_below {r : Nat → Prop} {a w : World} (h : Below a.heap.size a w) : OnlyJ r a w := ⟨h.os, h.tape, h.output, h.size, fun k hk _ => h.block k hk⟩
theorem OnlyJ.refl (r : Nat → Prop) (w : World) : OnlyJ r w w := ⟨rfl, rfl, rfl, Nat.le_refl _, fun _ _ _ => rfl⟩
theorem OnlyJ.trans {r : Nat → Prop} {a b c : World} (h : OnlyJ r a b) (h' : OnlyJ r b c) : OnlyJ r a c :=
  ⟨h'.os.trans h.os, h'.tape.trans h.tape, h'.output.trans h.output, Nat.le_trans h.size h'.size, fun k hk hr => (h'.block k (Nat.lt_of_lt_of_le hk h.size) hr).trans (h.block k hk hr)⟩
theorem OnlyJ.mono {r q : Nat → Prop} {a w : World} (h : OnlyJ r a w) (hq : ∀ k, k < a.heap.size → r k → q k) : OnlyJ q a w :=
  ⟨h.os, h.tape, h.output, h.size, fun k hk hn => h.block k hk (fun hr => hn (hq k hk hr))⟩
theorem OnlyJ.grown {r : Nat → Prop} {a w w' : World} {row : Nat} (h : OnlyJ r a w) (hg : w.grownBy w' (some row)) (hr : r row) : OnlyJ r a w' :=
  h.trans ⟨hg.os, hg.tape, hg.output, hg.size, fun k hk hn => hg.block k hk (fun e => by cases e; exact hn hr)⟩
/-- What a map of sectors holds, key by key. -/
def MapIs (D : DataW Unit) (U : Int → Option (List UInt8)) : Prop :=
  ∀ i : Int, has D (.int .i64 i) = (U i).isSome ∧ D.atKey (.int .i64 i) (.lit (.string [])) = .lit (.string ((U i).getD []))
/-- How many of the first sectors are not among the unsafe ones. -/
def missU (U : Int → Option (List UInt8)) : Nat → Nat
  | 0 => 0
  | n + 1 => missU U n + if (U n).isSome then 0 else 1
/-- The disk, living, no power cut armed: n sectors, its safe bytes, the unsafe sectors. -/
def DiskAt (w : World) (p g mb n : Nat) (safe : List UInt8) (U : Int → Option (List UInt8)) : Prop :=
  safe.length = 128 * n ∧ 1 ≤ n ∧ n ≤ 4096 ∧ ∃ cap cnt, ∃ ch : Option Addr × Nat × Nat, ∃ D : DataW Unit,
    w.heap[p]? = some (.cells #[.slice (some ⟨g, 0, none⟩) (128 * n) cap, .map (some mb), .int .i64 0, .slice ch.1 ch.2.1 ch.2.2, .bool false] 102 (0, 0)) ∧ 128 * n ≤ cap ∧
    (∀ j, j < 128 * n → w.cell? ⟨g, j, none⟩ = some (.int .u8 ((safe.getD j 0).toNat : Int)) ∧ w.frozen? ⟨g, j, none⟩ = false) ∧ p ≠ g ∧ g < w.heap.size ∧ mb ≠ p ∧ mb ≠ g ∧
    w.ownsMap Tryz.prog 3 (plainElem Tryz.prog 9) mb cnt D ∧ MapIs D U ∧ cnt + missU U n ≤ n
/-- A sector, as it is read. -/
def secT (safe : List UInt8) (U : Int → Option (List UInt8)) (i : Nat) : List UInt8 := (U i).getD ((safe.drop (128 * i)).take 128)
theorem law_int : Keyed Tryz.prog 3 := int_keyed Tryz.underlying3
theorem zero_str (w : World) : (zeroValue 9).run Tryz.prog w = .ok (.string ⟨#[]⟩) w := by kernel_rfl
theorem plain_str {v : Value} {l : List UInt8} {ps : List MemPlace} (h : plainElem (H := Unit) Tryz.prog 9 v = some (.lit (.string l), ps)) : v = .string ⟨l.toArray⟩ := by
  have hu := Tryz.underlying9
  cases v with
  | string s =>
    by_cases hs : s.size ≤ maxLen
    · rw [plainElem_string hu hs] at h
      simp only [Option.some.injEq, Prod.mk.injEq, DataW.lit.injEq, Lit.string.injEq] at h
      rw [← h.1]
    · exfalso
      generalize Tryz.prog = P at h hu
      simp [plainElem, hu, hs] at h
  | _ =>
    exfalso
    generalize Tryz.prog = P at h hu
    simp [plainElem, hu] at h
theorem uns_look {w : World} {mb cnt : Nat} {D : DataW Unit} {U : Int → Option (List UInt8)} (ho : w.ownsMap Tryz.prog 3 (plainElem Tryz.prog 9) mb cnt D) (hm : MapIs D U) (i : Int) (hi : (Lit.int .i64 i).wf = true) :
    (Instr.lookup 100 (.map (some mb)) (.int .i64 i) true).run Tryz.prog w = .ok (.tuple #[.string ⟨((U i).getD []).toArray⟩, .bool (U i).isSome]) w := by
  obtain ⟨v, ps, hrun, hv⟩ := ho.look_ok law_int Tryz.underlying100 (zero_str w) (zd := .lit (.string [])) (zp := []) (plainElem_string Tryz.underlying9 (by decide)) (keyOf_int_mk Tryz.underlying3 hi)
  rw [(hm i).2] at hv
  rw [hrun, plain_str hv, (hm i).1]
set_option maxRecDepth 100000 in
theorem dcount_any (w : World) (p g mb n : Nat) (safe : List UInt8) (U : Int → Option (List UInt8)) (h : DiskAt w p g mb n safe U) :
    Calls Tryz.prog 52 #[.pointer (some ⟨p, 0, none⟩)] w fun e w' => e = .returned (.int .i64 n) ∧ w = w' := by
  obtain ⟨h1, h2, h3, cap, cnt, ch, D, hp, -⟩ := h
  have c0 : w.cell? ⟨p, 0, none⟩ = some (.slice (some ⟨g, 0, none⟩) (128 * n) cap) := cell_blk hp 0
  have hdiv : (128 * (n : Int)) / 128 = n := by omega
  have hn : (n : Int) ≤ 4096 := by omega
  clear hp h1
  go_enter Tryz.func52, Tryz.ntmps52
  go_wp2_with fail
  go_ret
  exact ⟨rfl, rfl⟩
set_option maxRecDepth 100000 in
theorem dat_any (w : World) (p g mb n : Nat) (safe : List UInt8) (U : Int → Option (List UInt8)) (h : DiskAt w p g mb n safe U) (i : Nat) (hi : i < n) :
    Calls Tryz.prog 169 #[.pointer (some ⟨p, 0, none⟩), .int .i64 i] w fun e w' => e = .returned (.int .i64 0) ∧ w = w' := by
  have HC := Lib.hid (dcount_any w p g mb n safe U h)
  have g1 : ¬ (i : Int) < 0 := by omega
  have g2 : ¬ (n : Int) ≤ (i : Int) := by omega
  have g3 : decide ((n : Int) ≤ (i : Int)) = false := by simp; omega
  have g4 : decide (n ≤ i) = false := by simp; omega
  clear h
  go_enter Tryz.func169, Tryz.ntmps169
  go_wp2_with (first
    | (go_at_call 52; (with_reducible refine HC.out.mono ?_); rintro e w1 ⟨rfl, rfl⟩)
    | fail)
  go_ret
  exact ⟨rfl, rfl⟩
end Go.Proofs.YtfpbocjmlhcgiaaGreatDoor
/- The disk's Read. -/
namespace Go.Proofs.YtfpbocjmlhcgiaaGreatDoor
open Go.RowKit PJ Go.Maps

theorem block_below {B : Nat} {w w' : World} (h : Below B w w') {k : Nat} {o : Obj} (hk : w.heap[k]? = some o) (hB : k < B) : w'.heap[k]? = some o := (h.block k hB).trans hk
theorem free_blk {w : World} {p : Nat} {cs : Array Value} {t : TypeId} (h : w.heap[p]? = some (.cells cs t (0, 0))) (j : Nat) : w.frozen? ⟨p, j, none⟩ = false := by
  simp [World.frozen?, h]
theorem DiskAt.later {w w' : World} {p g mb n : Nat} {safe : List UInt8} {U : Int → Option (List UInt8)} (h : DiskAt w p g mb n safe U) (hb : Below w.heap.size w w') : DiskAt w' p g mb n safe U := by
  obtain ⟨h1, h2, h3, cap, cnt, ch, D, hp, hc, hs, hpg, hg, hmp, hmg, ho, hm, hcn⟩ := h
  refine ⟨h1, h2, h3, cap, cnt, ch, D, block_below hb hp (lt_blk hp), hc, fun j hj => ?_, hpg, by have := hb.size; omega, hmp, hmg, ?_, hm, hcn⟩
  · obtain ⟨a, b⟩ := hs j hj
    exact ⟨(hb.cell (p := ⟨g, j, none⟩) hg).trans a, (hb.frozen (p := ⟨g, j, none⟩) hg).trans b⟩
  · obtain ⟨es, clock, h4, h5⟩ := ho
    exact ⟨es, clock, block_below hb h4 (lt_blk h4), h5⟩
theorem alloc_below (w : World) (o : Obj) : Below w.heap.size w (w.alloc o) := (Below.refl _ _).alloc (Nat.le_refl _) _
set_option maxRecDepth 100000 in
theorem dread1_any (w : World) (p g mb n : Nat) (safe : List UInt8) (U : Int → Option (List UInt8)) (h : DiskAt w p g mb n safe U) (i : Nat) (hi : i < n) (b1 b2 : Nat)
    (h1 : w.cell? ⟨b1, 0, none⟩ = some (.pointer (some ⟨p, 0, none⟩))) (h2 : w.cell? ⟨b2, 0, none⟩ = some (.int .i64 i)) :
    Calls Tryz.prog 210 #[.pointer (some ⟨b1, 0, none⟩), .pointer (some ⟨b2, 0, none⟩)] w fun e w' => e = .returned (.int .i64 0) ∧ w = w' := by
  have HC := Lib.hid (dat_any w p g mb n safe U h i hi)
  clear h hi
  go_enter Tryz.func210, Tryz.ntmps210
  go_wp2_with (first
    | (go_at_call 169; (with_reducible refine HC.out.mono ?_); rintro e w1 ⟨rfl, rfl⟩)
    | fail)
  go_ret
  exact ⟨rfl, rfl⟩
set_option maxRecDepth 100000 in
theorem refusedR_any (w : World) (p g mb n : Nat) (safe : List UInt8) (U : Int → Option (List UInt8)) (h : DiskAt w p g mb n safe U) (cap : Array Value)
    (hf : Calls Tryz.prog 210 cap w fun e w' => e = .returned (.int .i64 0) ∧ w = w') :
    Calls Tryz.prog 167 #[.pointer (some ⟨p, 0, none⟩), .func (.func 210) #[] cap] w fun e w' => e = .returned (.int .i64 0) ∧ w = w' := by
  obtain ⟨h1, h2, h3, cap', cnt, ch, D, hp, -⟩ := h
  have c4 : w.cell? ⟨p, 4, none⟩ = some (.bool false) := cell_blk hp 4
  have HF := Lib.hid hf
  clear hp hf h1 h2 h3
  go_enter Tryz.func167, Tryz.ntmps167
  go_wp2_with (first
    | (go_at_call 210; (with_reducible refine HF.out.mono ?_); rintro e w1 ⟨rfl, rfl⟩)
    | fail)
  go_ret
  exact ⟨rfl, rfl⟩
theorem safe_conv (w : World) (g cap n i : Nat) (safe : List UInt8) (hl : safe.length = 128 * n) (hi : i < n) (hc : ∀ j, j < 128 * n → w.cell? ⟨g, j, none⟩ = some (.int .u8 ((safe.getD j 0).toNat : Int))) (cap' : Nat) :
    (convert 99 9 (.slice (some ⟨g, i * 128, none⟩) 128 cap')).run Tryz.prog w = .ok (.string ⟨((safe.drop (128 * i)).take 128).toArray⟩) w := by
  have hlen : ((safe.drop (128 * i)).take 128).length = 128 := by simp; omega
  have h := run_convert_bytes_back w 99 9 5 ⟨g, i * 128, none⟩ cap' ((safe.drop (128 * i)).take 128) Tryz.underlying99 Tryz.underlying5 Tryz.underlying9 (fun j hj => by
    rw [hlen] at hj
    rw [addr_none, hc _ (by omega)]
    have e : safe.getD (i * 128 + j) 0 = ((safe.drop (128 * i)).take 128)[j]'(by omega) := by
      rw [List.getElem_take, List.getElem_drop, List.getD_eq_getElem?_getD, List.getElem?_eq_getElem (by omega)]
      simp [Nat.mul_comm]
    rw [e])
  rw [hlen] at h
  exact h
set_option maxRecDepth 100000 in
set_option maxHeartbeats 1000000 in
theorem dread_any (w : World) (p g mb n : Nat) (safe : List UInt8) (U : Int → Option (List UInt8)) (h : DiskAt w p g mb n safe U) (i : Nat) (hi : i < n) :
    Calls Tryz.prog 177 #[.pointer (some ⟨p, 0, none⟩), .int .i64 i] w fun e w' => e = .returned (.tuple #[.string ⟨(secT safe U i).toArray⟩, .int .i64 0]) ∧ Below w.heap.size w w' := by
  have hmf : ∀ (fn : Fn) (first cap : Array Value) (w : World), (Instr.makeFunc fn first cap).run Tryz.prog w = .ok (.func fn first cap) w := fun _ _ _ _ => rfl
  obtain ⟨w2, hw2⟩ : ∃ w2, (w.alloc (.cells #[.pointer (some ⟨p, 0, none⟩)] 26)).alloc (.cells #[.int .i64 i] 3) = w2 := ⟨_, rfl⟩
  have hb2 : Below w.heap.size w w2 := by rw [← hw2]; exact (alloc_below w _).alloc (by simp) _
  have hx1 : w2.heap[w.heap.size]? = some (.cells #[.pointer (some ⟨p, 0, none⟩)] 26 (0, 0)) := by
    rw [← hw2, Below.heap_alloc _ _ _ (by simp)]; exact alloc_blk w _
  have hx2 : w2.heap[w.heap.size + 1]? = some (.cells #[.int .i64 i] 3 (0, 0)) := by
    have := alloc_blk (w.alloc (.cells #[.pointer (some ⟨p, 0, none⟩)] 26)) (.cells #[.int .i64 i] 3)
    rw [World.size_alloc] at this
    rw [← hw2]; exact this
  have h2 := h.later hb2
  have k1 : w2.cell? ⟨w.heap.size, 0, none⟩ = some (.pointer (some ⟨p, 0, none⟩)) := cell_blk hx1 0
  have k2 : w2.cell? ⟨w.heap.size + 1, 0, none⟩ = some (.int .i64 i) := cell_blk hx2 0
  have HRF := Lib.hid (refusedR_any w2 p g mb n safe U h2 _ (dread1_any w2 p g mb n safe U h2 i hi w.heap.size (w.heap.size + 1) k1 k2))
  have h2' := h2
  obtain ⟨hl1, hl2, hl3, cap, cnt, ch, D, hp, hcap, hcs, -, hg, -, -, ho, hm, -⟩ := h2
  have c0 : w2.cell? ⟨p, 0, none⟩ = some (.slice (some ⟨g, 0, none⟩) (128 * n) cap) := cell_blk hp 0
  have c1 : w2.cell? ⟨p, 1, none⟩ = some (.map (some mb)) := cell_blk hp 1
  have hwf : (Lit.int .i64 (i : Int)).wf = true := WalkArith.wf_i64 (by omega)
  have hlk0 : (Instr.lookup 100 (.map (some mb)) (.int .i64 (i : Int)) true).run Tryz.prog w2.drew = .ok (.tuple #[.string ⟨((U i).getD []).toArray⟩, .bool (U i).isSome]) w2.drew := uns_look (w := w2.drew) ho hm i hwf
  have hcv : ∀ cap', (convert 99 9 (.slice (some ⟨g, i * 128, none⟩) 128 cap')).run Tryz.prog w2.drew.drew = .ok (.string ⟨((safe.drop (128 * i)).take 128).toArray⟩) w2.drew.drew := fun cap' =>
    safe_conv w2.drew.drew g cap n i safe hl1 hi (fun j hj => (hcs j hj).1) cap'
  have HW2 := Lib.hid hw2
  have hi1 : (i : Int) < (n : Int) := by omega
  have hn1 : (n : Int) ≤ 4096 := by omega
  have HB2 := Lib.hid hb2
  unfold secT
  obtain ⟨ui, hui⟩ : ∃ ui, U i = ui := ⟨_, rfl⟩
  rw [hui] at hlk0 ⊢
  have HRF' := HRF
  cases ui with
  | some t =>
    obtain ⟨SK, hSK⟩ : ∃ SK : ByteArray, (⟨t.toArray⟩ : ByteArray) = SK := ⟨_, rfl⟩
    have hlk : (Instr.lookup 100 (.map (some mb)) (.int .i64 (i : Int)) true).run Tryz.prog w2.drew = .ok (.tuple #[.string SK, .bool true]) w2.drew := by
      rw [← hSK]; exact hlk0
    have HSK := Lib.hid hSK
    clear h hx1 hx2 hw2 hp hcs ho hm hl1 hlk0 hcv h2' hui hSK hb2 HRF'
    go_enter Tryz.func177, Tryz.ntmps177
    go_upto_region 1 with fail
    rw [HW2.out]
    go_upto_region 4 with (first
      | (go_at_call 167; (with_reducible refine HRF.out.mono ?_); rintro e w3 ⟨rfl, rfl⟩)
      | fail)
    go_region
    all_goals
      go_wp2_with fail
      go_ret2
      refine ⟨?_, HB2.out.drew⟩
      show Ending.returned (.tuple #[.string SK, .int .i64 0]) = .returned (.tuple #[.string ⟨t.toArray⟩, .int .i64 0])
      rw [HSK.out]
  | none =>
    obtain ⟨SK, hSK⟩ : ∃ SK : ByteArray, (⟨((safe.drop (128 * i)).take 128).toArray⟩ : ByteArray) = SK := ⟨_, rfl⟩
    have hlk : (Instr.lookup 100 (.map (some mb)) (.int .i64 (i : Int)) true).run Tryz.prog w2.drew = .ok (.tuple #[.string ⟨#[]⟩, .bool false]) w2.drew := hlk0
    rw [hSK] at hcv
    have HSK := Lib.hid hSK
    have hwa : IntKind.i64.wrap ((i : Int) * 128) = (i : Int) * 128 := by rw [IntKind.wrap_i64]; omega
    have hwb : IntKind.i64.wrap ((i : Int) + 1) = (i : Int) + 1 := by rw [IntKind.wrap_i64]; omega
    have hwc : IntKind.i64.wrap (((i : Int) + 1) * 128) = ((i : Int) + 1) * 128 := by rw [IntKind.wrap_i64]; omega
    have hta : ((i : Int) * 128).toNat = i * 128 := by omega
    have htb : (((i : Int) + 1) * 128).toNat = (i + 1) * 128 := by omega
    have hsub : (i + 1) * 128 - i * 128 = 128 := by omega
    clear h hx1 hx2 hw2 hp hcs ho hm hl1 hlk0 h2' hui hSK hb2 HRF'
    go_enter Tryz.func177, Tryz.ntmps177
    go_upto_region 1 with fail
    rw [HW2.out]
    go_upto_region 4 with (first
      | (go_at_call 167; (with_reducible refine HRF.out.mono ?_); rintro e w3 ⟨rfl, rfl⟩)
      | fail)
    go_region
    all_goals
      go_wp2_with fail
      go_region
      all_goals
        go_wp2_with fail
        go_ret2
        refine ⟨?_, HB2.out.drew.drew⟩
        show Ending.returned (.tuple #[.string SK, .int .i64 0]) = .returned (.tuple #[.string ⟨((safe.drop (128 * i)).take 128).toArray⟩, .int .i64 0])
        rw [HSK.out]
end Go.Proofs.YtfpbocjmlhcgiaaGreatDoor
/- The disk's Write. -/
namespace Go.Proofs.YtfpbocjmlhcgiaaGreatDoor
open Go.RowKit PJ Go.Maps

set_option maxRecDepth 100000 in
theorem goes_any (w : World) (p g mb n : Nat) (safe : List UInt8) (U : Int → Option (List UInt8)) (h : DiskAt w p g mb n safe U) :
    Calls Tryz.prog 170 #[.pointer (some ⟨p, 0, none⟩)] w fun e w' => e = .returned (.bool false) ∧ w = w' := by
  obtain ⟨h1, h2, h3, cap, cnt, ch, D, hp, -⟩ := h
  have c2 : w.cell? ⟨p, 2, none⟩ = some (.int .i64 0) := cell_blk hp 2
  clear hp
  go_enter Tryz.func170, Tryz.ntmps170
  go_wp2_with fail
  go_ret
  exact ⟨rfl, rfl⟩
set_option maxRecDepth 100000 in
theorem dwrite1_any (w : World) (p g mb n : Nat) (safe : List UInt8) (U : Int → Option (List UInt8)) (h : DiskAt w p g mb n safe U) (i : Nat) (hi : i < n) (s : ByteArray) (hs : s.size = 128) (b1 b2 b3 : Nat)
    (h1 : w.cell? ⟨b1, 0, none⟩ = some (.pointer (some ⟨p, 0, none⟩))) (h2 : w.cell? ⟨b2, 0, none⟩ = some (.int .i64 i)) (h3 : w.cell? ⟨b3, 0, none⟩ = some (.string s)) :
    Calls Tryz.prog 168 #[.pointer (some ⟨b1, 0, none⟩), .pointer (some ⟨b2, 0, none⟩), .pointer (some ⟨b3, 0, none⟩)] w fun e w' => e = .returned (.int .i64 0) ∧ w = w' := by
  have HC := Lib.hid (dat_any w p g mb n safe U h i hi)
  have g1 : 128 ≤ s.size := by omega
  have g2 : s.size ≤ 128 := by omega
  clear h hi hs
  go_enter Tryz.func168, Tryz.ntmps168
  go_wp2_with (first
    | (go_at_call 169; (with_reducible refine HC.out.mono ?_); rintro e w1 ⟨rfl, rfl⟩)
    | fail)
  go_ret
  exact ⟨rfl, rfl⟩
set_option maxRecDepth 100000 in
theorem refusedW_any (w : World) (p g mb n : Nat) (safe : List UInt8) (U : Int → Option (List UInt8)) (h : DiskAt w p g mb n safe U) (cap : Array Value)
    (hf : Calls Tryz.prog 168 cap w fun e w' => e = .returned (.int .i64 0) ∧ w = w') :
    Calls Tryz.prog 167 #[.pointer (some ⟨p, 0, none⟩), .func (.func 168) #[] cap] w fun e w' => e = .returned (.int .i64 0) ∧ w = w' := by
  obtain ⟨h1, h2, h3, cap', cnt, ch, D, hp, -⟩ := h
  have c4 : w.cell? ⟨p, 4, none⟩ = some (.bool false) := cell_blk hp 4
  have HF := Lib.hid hf
  clear hp hf h1 h2 h3
  go_enter Tryz.func167, Tryz.ntmps167
  go_wp2_with (first
    | (go_at_call 168; (with_reducible refine HF.out.mono ?_); rintro e w1 ⟨rfl, rfl⟩)
    | fail)
  go_ret
  exact ⟨rfl, rfl⟩
/-- The unsafe sectors behind a write. -/
def putU (U : Int → Option (List UInt8)) (i : Nat) (s : List UInt8) : Int → Option (List UInt8) := fun k => if k = (i : Int) then some s else U k
theorem put_is {D : DataW Unit} {U : Int → Option (List UInt8)} (h : MapIs D U) (hd : IsMap D) (i : Nat) (s : List UInt8) : MapIs (D.put (.int .i64 i) (.lit (.string s))) (putU U i s) := by
  intro k
  unfold putU
  by_cases hk : k = (i : Int)
  · subst hk
    rw [if_pos rfl]
    exact ⟨has_put_same hd (show WideAt.IsKeyLit (.int .i64 (i : Int)) from trivial) _, atKey_put_same hd (show WideAt.IsKeyLit (.int .i64 (i : Int)) from trivial) _ _⟩
  · rw [if_neg hk]
    have hne : (Lit.int .i64 k) ≠ .int .i64 i := by simpa using hk
    rw [atKey_put_other hne]
    refine ⟨?_, (h k).2⟩
    rw [has_put_other hne]
    exact (h k).1
theorem own_rebase {w : World} {b n : Nat} {D : DataW Unit} (h : w.ownsMap Tryz.prog 3 (plainElem Tryz.prog 9) b n D) : w.ownsMap Tryz.prog 3 (plainElem Tryz.prog 9) b (size D) D ∧ size D ≤ n := by
  have hl := h.len Tryz.underlying100 0
  obtain ⟨es, clock, hb, hf, hn, hD⟩ := h
  have h2 : (Builtin.len_ #[100] 0 #[.map (some b)]).run Tryz.prog w = .ok (.int .i64 es.size) w := by
    simp [Builtin.len_, go_sem, run_getObj_map w b es clock hb]
  rw [h2] at hl
  simp only [Result.ok.injEq, Value.int.injEq, and_true, true_and] at hl
  have e : es.size = size D := by omega
  exact ⟨⟨es, clock, hb, hf, by omega, hD⟩, by omega⟩
theorem miss_put (U : Int → Option (List UInt8)) (i : Nat) (s : List UInt8) : ∀ n, i < n → missU (putU U i s) n + (if (U i).isSome then 0 else 1) = missU U n
  | 0, h => by omega
  | n + 1, h => by
    have hother : ∀ m, m ≤ i → missU (putU U i s) m = missU U m := by
      intro m
      induction m with
      | zero => intro _; rfl
      | succ m ih =>
        intro hm
        have e : putU U i s (m : Int) = U m := by unfold putU; rw [if_neg (by omega)]
        simp only [missU]
        rw [ih (by omega), e]
    by_cases hi : i = n
    · subst hi
      have e : putU U i s (i : Int) = some s := by unfold putU; rw [if_pos rfl]
      simp only [missU]
      rw [hother i (Nat.le_refl _), e]
      simp
    · have := miss_put U i s n (by omega)
      have e : putU U i s (n : Int) = U n := by unfold putU; rw [if_neg (by omega)]
      simp only [missU]
      rw [e]
      omega
set_option maxRecDepth 100000 in
set_option maxHeartbeats 1000000 in
theorem dwrite_any (w : World) (p g mb n : Nat) (safe : List UInt8) (U : Int → Option (List UInt8)) (h : DiskAt w p g mb n safe U) (i : Nat) (hi : i < n) (s : ByteArray) (hs : s.size = 128) :
    Calls Tryz.prog 121 #[.pointer (some ⟨p, 0, none⟩), .int .i64 i, .string s] w fun e w' => e = .returned (.int .i64 0) ∧ DiskAt w' p g mb n safe (putU U i s.data.toList) ∧ OnlyJ (fun k => k = mb) w w' := by
  have hmf : ∀ (fn : Fn) (first cap : Array Value) (w : World), (Instr.makeFunc fn first cap).run Tryz.prog w = .ok (.func fn first cap) w := fun _ _ _ _ => rfl
  obtain ⟨w1, hw1⟩ : ∃ w1, (w.alloc (.cells #[.pointer (some ⟨p, 0, none⟩)] 26)).alloc (.cells #[.int .i64 i] 3) = w1 := ⟨_, rfl⟩
  obtain ⟨w2, hw2⟩ : ∃ w2, w1.alloc (.cells #[.string s] 9) = w2 := ⟨_, rfl⟩
  have hz1 : w1.heap.size = w.heap.size + 1 + 1 := by rw [← hw1]; simp
  have hb1 : Below w.heap.size w w1 := by rw [← hw1]; exact (alloc_below w _).alloc (by simp) _
  have hb2 : Below w.heap.size w w2 := by rw [← hw2]; exact hb1.alloc hb1.size _
  have hx1 : w1.heap[w.heap.size]? = some (.cells #[.pointer (some ⟨p, 0, none⟩)] 26 (0, 0)) := by
    rw [← hw1, Below.heap_alloc _ _ _ (by simp)]; exact alloc_blk w _
  have hx2 : w1.heap[w.heap.size + 1]? = some (.cells #[.int .i64 i] 3 (0, 0)) := by
    have := alloc_blk (w.alloc (.cells #[.pointer (some ⟨p, 0, none⟩)] 26)) (.cells #[.int .i64 i] 3)
    rw [World.size_alloc] at this
    rw [← hw1]; exact this
  have hy1 : w2.heap[w.heap.size]? = some (.cells #[.pointer (some ⟨p, 0, none⟩)] 26 (0, 0)) := by rw [← hw2, Below.heap_alloc _ _ _ (lt_blk hx1)]; exact hx1
  have hy2 : w2.heap[w.heap.size + 1]? = some (.cells #[.int .i64 i] 3 (0, 0)) := by rw [← hw2, Below.heap_alloc _ _ _ (lt_blk hx2)]; exact hx2
  have hy3 : w2.heap[w.heap.size + 1 + 1]? = some (.cells #[.string s] 9 (0, 0)) := by
    have := alloc_blk w1 (.cells #[.string s] 9)
    rw [hz1] at this
    rw [← hw2]; exact this
  have h2 := h.later hb2
  have k1 : w2.cell? ⟨w.heap.size, 0, none⟩ = some (.pointer (some ⟨p, 0, none⟩)) := cell_blk hy1 0
  have k2 : w2.cell? ⟨w.heap.size + 1, 0, none⟩ = some (.int .i64 i) := cell_blk hy2 0
  have k3 : w2.cell? ⟨w.heap.size + 1 + 1, 0, none⟩ = some (.string s) := cell_blk hy3 0
  have HRF := Lib.hid (refusedW_any w2 p g mb n safe U h2 _ (dwrite1_any w2 p g mb n safe U h2 i hi s hs w.heap.size (w.heap.size + 1) (w.heap.size + 1 + 1) k1 k2 k3))
  have hlt := lt_blk (show w.heap[p]? = some _ from h.2.2.2.choose_spec.choose_spec.choose_spec.choose_spec.1)
  have hlbm : w.heap.size ≠ mb := by
    obtain ⟨-, -, -, _, _, _, _, -, -, -, -, -, -, -, ho, -, -⟩ := h
    obtain ⟨es, clock, hb, -⟩ := ho
    have : mb < w.heap.size := (Array.getElem?_eq_some_iff.mp hb).1
    omega
  obtain ⟨hl1, hl2, hl3, cap, cnt, ch, D, hp, hcap, hcs, hpg, hg, hmp, hmg, ho, hm, hcn⟩ := h2
  have c1 : w2.cell? ⟨p, 1, none⟩ = some (.map (some mb)) := cell_blk hp 1
  obtain ⟨ho2, hsz⟩ := own_rebase ho
  have hkey : keyOf Tryz.prog 3 (.int .i64 (i : Int)) = some (.int .i64 (i : Int)) := keyOf_int_mk Tryz.underlying3 (WalkArith.wf_i64 (by omega))
  have hel : plainElem (H := Unit) Tryz.prog 9 (.string s) = some (.lit (.string s.data.toList), []) := plainElem_string Tryz.underlying9 (by unfold maxLen; omega)
  have HFIN := Lib.hid (fun w3 (hown : w3.ownsMap Tryz.prog 3 (plainElem Tryz.prog 9) mb (size D + 1) (D.put (.int .i64 (i : Int)) (.lit (.string s.data.toList)))) (hgr : w2.drew.grownBy w3 (some mb)) =>
    show DiskAt w3 p g mb n safe (putU U i s.data.toList) ∧ OnlyJ (fun k => k = mb) w w3 from by
      obtain ⟨ho3, hsz3⟩ := own_rebase hown
      have hsp := size_put (ho.tidy law_int) (k := .int .i64 (i : Int)) (.lit (.string s.data.toList))
      rw [(hm i).1] at hsp
      have hms := miss_put U i s.data.toList n hi
      have hgg : ∀ k, k < w2.heap.size → k ≠ mb → w3.heap[k]? = w2.heap[k]? := fun k hk hne => hgr.block k hk (by simpa using hne)
      refine ⟨⟨hl1, hl2, hl3, cap, _, ch, _, ?_, hcap, fun j hj => ?_, hpg, ?_, hmp, hmg, ho3, put_is hm ho.isMap i _, ?_⟩, (OnlyJ.of_below hb2).trans ⟨hgr.os, hgr.tape, hgr.output, hgr.size, fun k hk hne => hgg k hk hne⟩⟩
      · rw [hgg p (lt_blk hp) (Ne.symm hmp)]; exact hp
      · have hh := hgg g hg (Ne.symm hmg)
        obtain ⟨a, b⟩ := hcs j hj
        exact ⟨(World.cell?_of_block (a := ⟨g, j, none⟩) hh).trans a, (World.frozen?_of_block (a := ⟨g, j, none⟩) hh).trans b⟩
      · have := hgr.size; have h5 : w2.drew.heap.size = w2.heap.size := rfl; omega
      · rw [hsp]
        split at hsp
        · rename_i h6; rw [h6] at hms; simp at hms; rw [if_pos h6]; omega
        · rename_i h6; rw [if_neg (by simpa using h6)] at hms; rw [if_neg h6]; omega)
  have HW1 := Lib.hid hw1
  have HW2 := Lib.hid hw2
  have HGO := Lib.hid (fun w3 (h3 : DiskAt w3 p g mb n safe (putU U i s.data.toList)) => goes_any w3 p g mb n safe _ h3)
  have hsn : size D < 4097 := by omega
  have hlb : w.heap.size < w2.drew.heap.size := by have := lt_blk hy1; exact this
  have hnb : ¬ (some w.heap.size = some mb) := fun e => hlbm (Option.some.inj e)
  clear h hx1 hx2 hy1 hy2 hy3 hw1 hw2 hz1 hb1 hb2 hp hcs ho hm hcn hsz
  go_enter Tryz.func121, Tryz.ntmps121
  go_upto_region 1 with fail
  rw [HW1.out, HW2.out]
  go_upto_region 4 with (first
    | (go_at_call 167; (with_reducible refine HRF.out.mono ?_); rintro e w3 ⟨rfl, rfl⟩)
    | fail)
  go_still_tail 6, (by kernel_rfl)
  change wpList _ _ _ _ _ w2.drew
  have ho3 : w2.drew.ownsMap Tryz.prog 3 (plainElem Tryz.prog 9) mb (size D) D := ho2
  obtain ⟨w4, hw4⟩ : ∃ w4, w2.drew = w4 := ⟨_, rfl⟩
  rw [hw4] at ho3 ⊢
  refine wpList_mapUpdate_own _ rfl (.tmp 17) (.tmp 18) (.tmp 19) 100 rfl 3 9 law_int Tryz.underlying100 _ mb (size D) D rfl ho3 (by unfold maxLen; omega) _ _ _ rfl rfl hkey _ [] hel ?_
  intro w3 hown3 hgrow3
  rw [← hw4] at hgrow3
  have m1 : w3.cell? ⟨w.heap.size, 0, none⟩ = some (.pointer (some ⟨p, 0, none⟩)) := (World.cell?_of_block (a := ⟨w.heap.size, 0, none⟩) (hgrow3.block _ hlb hnb)).trans k1
  obtain ⟨hd3, hon3⟩ := HFIN.out w3 hown3 hgrow3
  have HG3 := Lib.hid (HGO.out w3 hd3)
  clear hown3 hgrow3 ho3 ho2
  go_wp2_with (first
    | (go_at_call 170; (with_reducible refine HG3.out.mono ?_); rintro e w5 ⟨rfl, rfl⟩)
    | fail)
  go_ret
  exact ⟨rfl, hd3, hon3⟩
end Go.Proofs.YtfpbocjmlhcgiaaGreatDoor
/- The disk's Flush: what one sector's flush leaves. -/
namespace Go.Proofs.YtfpbocjmlhcgiaaGreatDoor
open Go.RowKit PJ Go.Maps

/-- The unsafe sectors without one. -/
def clrU (U : Int → Option (List UInt8)) (i : Int) : Int → Option (List UInt8) := fun k => if k = i then none else U k
/-- The safe bytes with a sector put in. -/
def setSec (safe : List UInt8) (i : Nat) (s : List UInt8) : List UInt8 := safe.take (128 * i) ++ s ++ safe.drop (128 * i + 128)
theorem setSec_length {safe : List UInt8} {n i : Nat} {s : List UInt8} (hl : safe.length = 128 * n) (hi : i < n) (hs : s.length = 128) : (setSec safe i s).length = 128 * n := by
  unfold setSec
  simp only [List.length_append, List.length_take, List.length_drop, hl, hs]
  omega
theorem setSec_in {safe : List UInt8} {n i : Nat} {s : List UInt8} (hl : safe.length = 128 * n) (hi : i < n) (hs : s.length = 128) (j : Nat) (h1 : 128 * i ≤ j) (h2 : j < 128 * i + 128) : (setSec safe i s).getD j 0 = s.getD (j - 128 * i) 0 := by
  have e : (safe.take (128 * i)).length = 128 * i := by simp; omega
  unfold setSec
  rw [List.getD_eq_getElem?_getD, List.getD_eq_getElem?_getD, List.append_assoc, List.getElem?_append_right (by omega), e, List.getElem?_append_left (by omega)]
theorem setSec_out {safe : List UInt8} {n i : Nat} {s : List UInt8} (hl : safe.length = 128 * n) (hi : i < n) (hs : s.length = 128) (j : Nat) (h : j < 128 * i ∨ 128 * i + 128 ≤ j) : (setSec safe i s).getD j 0 = safe.getD j 0 := by
  have e : (safe.take (128 * i)).length = 128 * i := by simp; omega
  unfold setSec
  rw [List.getD_eq_getElem?_getD, List.getD_eq_getElem?_getD, List.append_assoc]
  rcases h with h | h
  · rw [List.getElem?_append_left (by omega), List.getElem?_take, if_pos h]
  · rw [List.getElem?_append_right (by omega), e, List.getElem?_append_right (by omega), List.getElem?_drop, hs, show 128 * i + 128 + (j - 128 * i - 128) = j from by omega]
theorem sec_of {l : List UInt8} {n i : Nat} (hl : l.length = 128 * n) (hi : i < n) {s : List UInt8} (hs : s.length = 128) (h : ∀ j, j < 128 → l.getD (128 * i + j) 0 = s.getD j 0) : (l.drop (128 * i)).take 128 = s := by
  have hlen : ((l.drop (128 * i)).take 128).length = 128 := by simp; omega
  refine List.ext_getElem (by omega) fun j h1 h2 => ?_
  have := h j (by omega)
  rw [List.getD_eq_getElem?_getD, List.getD_eq_getElem?_getD, List.getElem?_eq_getElem (by omega), List.getElem?_eq_getElem h2] at this
  rw [List.getElem_take, List.getElem_drop]
  simpa using this
/-- A flush of a sector changes nothing that is read. -/
theorem secT_setSec {safe : List UInt8} {n i : Nat} {s : List UInt8} {U : Int → Option (List UInt8)} (hl : safe.length = 128 * n) (hi : i < n) (hs : s.length = 128) (hU : U i = some s) (j : Nat) (hj : j < n) : secT (setSec safe i s) (clrU U i) j = secT safe U j := by
  unfold secT clrU
  by_cases h : j = i
  · subst h
    rw [if_pos rfl, hU]
    simp only [Option.getD_none, Option.getD_some]
    refine sec_of (setSec_length hl hi hs) hi hs fun k hk => ?_
    rw [setSec_in hl hi hs _ (by omega) (by omega)]
    congr 1
    omega
  · rw [if_neg (by omega)]
    congr 1
    refine sec_of (n := n) (setSec_length hl hi hs) hj (by simp; omega) fun k hk => ?_
    rw [setSec_out hl hi hs _ (by omega)]
    rw [List.getD_eq_getElem?_getD, List.getD_eq_getElem?_getD, List.getElem?_take, if_pos hk, List.getElem?_drop]
theorem clr_is {D : DataW Unit} {U : Int → Option (List UInt8)} (h : MapIs D U) (i : Int) : MapIs (D.del (.int .i64 i)) (clrU U i) := by
  intro k
  unfold clrU
  by_cases hk : k = i
  · subst hk
    rw [if_pos rfl]
    exact ⟨has_del_same, atKey_del_same _⟩
  · rw [if_neg hk]
    have hne : (Lit.int .i64 k) ≠ .int .i64 i := by simpa using hk
    rw [atKey_del_other hne, has_del_other hne]
    exact h k
theorem miss_clr (U : Int → Option (List UInt8)) (i : Nat) : ∀ n, i < n → missU (clrU U i) n = missU U n + (if (U i).isSome then 1 else 0)
  | 0, h => by omega
  | n + 1, h => by
    have hother : ∀ m, m ≤ i → missU (clrU U i) m = missU U m := by
      intro m
      induction m with
      | zero => intro _; rfl
      | succ m ih =>
        intro hm
        have e : clrU U i (m : Int) = U m := by unfold clrU; rw [if_neg (by omega)]
        simp only [missU]
        rw [ih (by omega), e]
    by_cases hi : i = n
    · subst hi
      have e : clrU U i (i : Int) = none := by unfold clrU; rw [if_pos rfl]
      simp only [missU]
      rw [hother i (Nat.le_refl _), e]
      cases U (i : Int) <;> simp
    · have := miss_clr U i n (by omega)
      have e : clrU U i (n : Int) = U n := by unfold clrU; rw [if_neg (by omega)]
      simp only [missU]
      rw [e]
      omega
theorem cells_parts (b : Nat) : ∀ (vs : List Value) (o : Nat) (w : World), (w.setCells b o vs).os = w.os ∧ (w.setCells b o vs).tape = w.tape ∧ (w.setCells b o vs).output = w.output ∧ (w.setCells b o vs).heap.size = w.heap.size
  | [], _, _ => ⟨rfl, rfl, rfl, rfl⟩
  | v :: r, o, w => by
    obtain ⟨h1, h2, h3, h4⟩ := cells_parts b r (o + 1) (w.setCell ⟨b, o, none⟩ v)
    exact ⟨h1, h2, h3, h4.trans (World.size_setCell _ _ _)⟩
/-- One sector made safe: its bytes copied, its key taken out of the map. -/
theorem DiskAt.sector {w w' : World} {p g mb n : Nat} {safe : List UInt8} {U : Int → Option (List UInt8)} {cap cnt : Nat} {ch : Option Addr × Nat × Nat} {D : DataW Unit} {i : Nat} {s : List UInt8}
    (h1 : safe.length = 128 * n) (h2 : 1 ≤ n) (h3 : n ≤ 4096)
    (hp : w.heap[p]? = some (.cells #[.slice (some ⟨g, 0, none⟩) (128 * n) cap, .map (some mb), .int .i64 0, .slice ch.1 ch.2.1 ch.2.2, .bool false] 102 (0, 0))) (hcap : 128 * n ≤ cap)
    (hc : ∀ j, j < 128 * n → w.cell? ⟨g, j, none⟩ = some (.int .u8 ((safe.getD j 0).toNat : Int)) ∧ w.frozen? ⟨g, j, none⟩ = false) (hpg : p ≠ g) (hg : g < w.heap.size) (hmp : mb ≠ p) (hmg : mb ≠ g)
    (ho : w.ownsMap Tryz.prog 3 (plainElem Tryz.prog 9) mb cnt D) (hm : MapIs D U) (hcn : cnt + missU U n ≤ n)
    (hi : i < n) (hU : U i = some s) (hs : s.length = 128)
    (ho' : w'.ownsMap Tryz.prog 3 (plainElem Tryz.prog 9) mb cnt (D.del (.int .i64 (i : Int))))
    (ht : (w.setCells g (128 * i) (s.map fun x => Value.int .u8 (x.toNat : Int))).grownBy w' (some mb)) :
    DiskAt w' p g mb n (setSec safe i s) (clrU U i) ∧ OnlyJ (fun k => k = g ∨ k = mb) w w' := by
  obtain ⟨w1, hw1⟩ : ∃ w1, w.setCells g (128 * i) (s.map fun x => Value.int .u8 (x.toNat : Int)) = w1 := ⟨_, rfl⟩
  rw [hw1] at ht
  have hq := cells_parts g (s.map fun x => Value.int .u8 (x.toNat : Int)) (128 * i) w
  rw [hw1] at hq
  obtain ⟨q1, q2, q3, hsz1⟩ := hq
  have hoth : ∀ k, k < w.heap.size → k ≠ g → w1.heap[k]? = w.heap[k]? := fun k hk hne => by rw [← hw1]; exact World.heap_setCells_other w _ _ _ hk hne
  have hblk : ∀ k, k < w.heap.size → k ≠ mb → w'.heap[k]? = w1.heap[k]? := fun k hk hne => ht.block k (by omega) (by simpa using hne)
  have hlen : (s.map fun x => Value.int .u8 (x.toNat : Int)).length = 128 := by rw [List.length_map]; exact hs
  have hpl := lt_blk hp
  obtain ⟨hr, hrs⟩ := own_rebase ho'
  have hsd := size_del (k := .int .i64 (i : Int)) (ho.tidy law_int)
  rw [(hm i).1, hU] at hsd
  have hmc := miss_clr U i n hi
  rw [hU] at hmc
  have hsz := (own_rebase ho).2
  simp only [Option.isSome_some, if_true] at hsd hmc
  refine ⟨⟨setSec_length h1 hi hs, h2, h3, cap, _, ch, _, ?_, hcap, fun j hj => ?_, hpg, ?_, hmp, hmg, hr, clr_is hm i, by omega⟩, ?_⟩
  · rw [hblk p hpl (Ne.symm hmp), hoth p hpl hpg]
    exact hp
  · have hh := hblk g hg (Ne.symm hmg)
    refine ⟨(World.cell?_of_block (a := ⟨g, j, none⟩) hh).trans ?_, (World.frozen?_of_block (a := ⟨g, j, none⟩) hh).trans ?_⟩
    · rw [← hw1]
      by_cases hin : 128 * i ≤ j ∧ j < 128 * i + 128
      · have := World.cell?_setCells_in g (s.map fun x => Value.int .u8 (x.toNat : Int)) (128 * i) w (fun k hk => by rw [(hc (128 * i + k) (by omega)).1]; rfl) (j - 128 * i) (by omega)
        rw [show 128 * i + (j - 128 * i) = j from by omega] at this
        rw [this, setSec_in h1 hi hs j hin.1 hin.2, List.getElem_map, List.getD_eq_getElem?_getD, List.getElem?_eq_getElem (by omega)]
        rfl
      · rw [World.cell?_setCells_out g _ _ w ⟨g, j, none⟩ (fun _ _ => by simp only; omega), (hc j hj).1, setSec_out h1 hi hs j (by omega)]
    · rw [← hw1, World.frozen?_setCells]
      exact (hc j hj).2
  · have := ht.size
    omega
  · refine OnlyJ.grown (OnlyJ.trans (b := w1) ⟨q1, q2, q3, by omega, fun k hk hn => hoth k hk (fun e => hn (Or.inl e))⟩ (OnlyJ.refl _ _)) ht (Or.inr rfl)
end Go.Proofs.YtfpbocjmlhcgiaaGreatDoor
