/- Vgd, merged: VN1 VN2 VN3 VN4 VN5 VCB. -/
import Derived.Test.YtfpbocjmlhcgiaaGreatDoorVg4
import Derived.Test.YtfpbocjmlhcgiaaGreatDoorVg7
import Derived.Test.YtfpbocjmlhcgiaaGreatDoorVg6
import Derived.Test.YtfpbocjmlhcgiaaGreatDoorJ83
import Derived.Test.YtfpbocjmlhcgiaaGreatDoorVg3
import Derived.Test.YtfpbocjmlhcgiaaGreatDoorVgj
import Derived.Test.YtfpbocjmlhcgiaaGreatDoorVga
import Derived.Test.YtfpbocjmlhcgiaaGreatDoorVgb
import Derived.Test.YtfpbocjmlhcgiaaGreatDoorVgc
import Derived.Test.YtfpbocjmlhcgiaaGreatDoorVg2
import Derived.Test.YtfpbocjmlhcgiaaGreatDoorCards
import Derived.Test.YtfpbocjmlhcgiaaGreatDoorTie
import Derived.WalkKit
import Derived.ProofKit
import Derived.OpenShut
import Derived.Deep.DeepHandedRow
import Derived.Lib.LaidTab
import Derived.ChangeMaps5
import Derived.Carry
set_option linter.unusedSimpArgs false
set_option linter.unusedVariables false
/- A journal's disk opened anew, whatever lies in its cells; the law's small functions. -/
namespace Go.Proofs.YtfpbocjmlhcgiaaGreatDoor
open Go.RowKit PJ Go.Maps

theorem read_at {J : Jn} {c : Nat} (h : c < J.n - J.area) : J.read[c]? = some (J.cell c) := by
  rw [Jn.read_eq, Jn.firstCells, List.getElem?_map, List.getElem?_range h]; rfl
/-- A new device over a journal's disk. -/
theorem DevAt.again {w w1 : World} {p b jb : Nat} {F : Nat → Prop} {J : Jn} (h : JAt w p b jb F J) {cached : Nat} (hl : LJ w w1) (hb : w1.heap[w.heap.size]? = some (.cells (devCells p 0 J.n cached (.slice none 0 0) 0) 105 (0, 0))) (hca : cached ≤ 16) :
    ∃ g mb R dt, DevAt w1 p g mb w.heap.size J.n cached R (grow F w w1) J.V J.S dt ∧ (J.first = J.next → dt = false) := by
  have hF := h.lt
  have hs := Below.size hl
  have lb := lt_blk hb
  obtain ⟨a, rfl, rfl, rfl, h4, h5, dt, hc, hok, hdt⟩ := h
  obtain ⟨safe, U, cv, misses, xs, hd⟩ := hc.dev
  have lp := hF _ (hd.sub _ hd.rp)
  have lg := hF _ (hd.sub _ hd.rg)
  have lm := hF _ (hd.sub _ hd.rm)
  have hdk := hd.disk.later hl
  have hk := hd.keys
  have hv := hd.views
  rw [h4] at hdk hk hv
  refine ⟨a.g, a.mb, fun q => q = a.p ∨ q = a.g ∨ q = a.mb ∨ q = w.heap.size, dt, ⟨safe, U, .slice none 0 0, 0, [], hdk, hb, .inl ⟨rfl, rfl⟩, by simp, hca, hk, hv, hd.clean, (fun k hk => by cases hk), ?_, grow_lt hF hs, .inl rfl, .inr (.inl rfl), .inr (.inr (.inl rfl)), .inr (.inr (.inr rfl)), by omega, by omega, by omega⟩, hdt⟩
  rintro q (rfl | rfl | rfl | rfl)
  · exact .inl (hd.sub _ hd.rp)
  · exact .inl (hd.sub _ hd.rg)
  · exact .inl (hd.sub _ hd.rm)
  · exact .inr ⟨Nat.le_refl _, lb⟩
theorem DevAt.one {w : World} {p g mb b n cached : Nat} {R F : Nat → Prop} {V S : View} (h : DevAt w p g mb b n cached R F V S false) : DevAt w p g mb b n cached R F V V false := by
  obtain ⟨safe, U, cv, misses, xs, h⟩ := h
  refine ⟨safe, U, cv, misses, xs, ⟨h.disk, h.cells, h.cache, h.len, h.ca, h.keys, fun i hi => ⟨(h.views i hi).1, ?_⟩, h.clean, h.kept, h.sub, h.lt, h.rp, h.rg, h.rm, h.rb, h.bp, h.bg, h.bm⟩⟩
  rw [← (h.views i hi).1]
  unfold secT
  rw [h.clean rfl]
  rfl
theorem Jn.home_cell {J : Jn} (h : J.OK) {c : Nat} (hc : c < J.n - J.area) : J.home.cell c = J.cell c := by
  have h1 := read_at (J := J.home) (c := c) hc
  rw [Jn.read_home h, read_at hc] at h1
  exact (Option.some.inj h1).symm
theorem near_ge {w W : World} {F F' : Nat → Prop} (hn : Near W F F') (hF : ∀ q, F q → w.heap.size ≤ q) (hw : w.heap.size ≤ W.heap.size) : ∀ q, F' q → w.heap.size ≤ q := fun q hq => by
  rcases Nat.lt_or_ge q W.heap.size with h | h
  · exact hF q (hn q hq h)
  · omega
/-- The journal that Open makes of a journal's disk. -/
theorem jopen_home (w : World) (p b jb : Nat) (F : Nat → Prop) (J : Jn) (h : JAt w p b jb F J) (L : List (List Wr)) (hL : J.Whole L) (hh : J.head < 4611686018427387904) (hnx : J.next ≤ 4611686018427387904) (cached : Nat) (hca : cached ≤ 16) :
    ∃ J' : Jn, (J'.n = J.n ∧ J'.area = J.area ∧ J'.head ≤ J.head + 1 ∧ J'.next = J.next ∧ (∀ c, c < J.n - J.area → J'.cell c = J.cell c) ∧ ∃ L', J'.Whole L') ∧
      ∀ w1, LJ w w1 → w1.heap[w.heap.size]? = some (.cells (devCells p 0 J.n cached (.slice none 0 0) 0) 105 (0, 0)) →
        Calls Tryz.prog 143 #[.pointer (some ⟨w.heap.size, 0, none⟩), .int .i64 J.area] w1 fun e w' => ∃ jb', e = .returned (.tuple #[.pointer (some ⟨jb', 0, none⟩), .int .i64 0]) ∧ JAt w' p w.heap.size jb' (grow (grow F w w1) w1 w') J' ∧ OnlyJ (grow F w w1) w1 w' := by
  have hok := h.ok
  have hfn := hok.fn
  by_cases hL0 : L = []
  · subst hL0
    have e : J.first = J.next := by have := hL.next; simp at this; omega
    refine ⟨{ J with S := J.V }, ⟨rfl, rfl, by show J.head ≤ _; omega, rfl, fun c _ => rfl, _, hL.safe _⟩, fun w1 hl hb => ?_⟩
    obtain ⟨g, mb, R, dt, hd, hdt⟩ := DevAt.again h hl hb hca
    rw [hdt e] at hd
    exact open_any w1 p g mb w.heap.size J.n cached R _ J hd.one hok rfl e (by omega) (by omega)
  · refine ⟨J.home, ⟨rfl, rfl, Nat.le_refl _, rfl, fun c hc => Jn.home_cell hok hc, [], Jn.Whole.home⟩, fun w1 hl hb => ?_⟩
    obtain ⟨g, mb, R, dt, hd, hdt⟩ := DevAt.again h hl hb hca
    exact open_recs w1 p g mb w.heap.size J.n cached R _ J dt hd hok rfl L hL hL0 hnx hh
theorem JAt.disk {w : World} {p b jb : Nat} {F : Nat → Prop} {J : Jn} (h : JAt w p b jb F J) : ∃ g mb safe U, DiskAt w p g mb J.n safe U := by
  obtain ⟨a, rfl, rfl, rfl, h4, h5, dt, hc, hok, hdt⟩ := h
  obtain ⟨safe, U, cv, misses, xs, hd⟩ := hc.dev
  have hdk := hd.disk
  rw [h4] at hdk
  exact ⟨_, _, _, _, hdk⟩
theorem VJ.of {J J' : Jn} {l : List Ent} (h : VJ J l) (hn : J'.n = J.n) (ha : J'.area = J.area) (hc : ∀ c, c < J.n - J.area → J'.cell c = J.cell c) (hw : ∃ L, J'.Whole L) : VJ J' l := by
  refine ⟨h.inv, ⟨by rw [hn, ha]; exact h.voc.le, fun c hlt => ?_⟩, by rw [hn, ha]; exact h.c40, by rw [hn, ha]; exact h.ca, hw⟩
  rw [hn, ha] at hlt
  rw [hc c hlt]
  exact h.voc.cell c hlt
/-- A device on a new disk. -/
def NewDev' (w : World) (n c : Nat) (p b : Nat) (w' : World) : Prop := LJ w w' ∧ ∃ g mb R V, DevAt w' p g mb b n c R (since w w') V V false
theorem NewDev'.born {w w1 w2 w3 : World} {n c p g mb : Nat} {safe : List UInt8} (hca : c ≤ 16) (hl1 : LJ w w1) (hl2 : LJ w1 w2) (hd : DiskAt w2 p g mb n safe (fun _ => none)) (hp : w1.heap.size ≤ p) (hg : w1.heap.size ≤ g) (hm : w1.heap.size ≤ mb) (hpl : p < w2.heap.size) (hgl : g < w2.heap.size) (hml : mb < w2.heap.size) (hl3 : LJ w2 w3) (hb : w3.heap[w2.heap.size]? = some (.cells (devCells p 0 n c (.slice none 0 0) 0) 105 (0, 0))) :
    NewDev' w n c p w2.heap.size w3 := by
  have s1 := Below.size hl1
  have s2 := Below.size hl2
  have s3 := Below.size hl3
  refine ⟨hl1.trans (hl2.trans hl3), g, mb, _, _, (DevAt.fresh (F := since w w2) hd hl3 hb hca (fun i hi => rfl) ⟨by omega, hpl⟩ ⟨by omega, hgl⟩ ⟨by omega, hml⟩ (fun q hq => hq.2)).wide ?_ (fun q hq => hq.2)⟩
  rintro q (hq | hq)
  · exact ⟨hq.1, by have := hq.2; omega⟩
  · exact ⟨by omega, hq.2⟩
theorem since_grow {w w1 w2 : World} (h : w.heap.size ≤ w1.heap.size) (h2 : w1.heap.size ≤ w2.heap.size) : ∀ q, grow (since w w1) w1 w2 q → since w w2 q := by
  rintro q (hq | hq)
  · exact ⟨hq.1, by have := hq.2; omega⟩
  · exact ⟨by omega, hq.2⟩
set_option maxRecDepth 100000 in
theorem lnoughts17_any (w : World) (n : Nat) (hn : n ≤ 100000) :
    Calls Tryz.prog 49 #[.int .i64 n] w fun e w' => e = .returned (.string ⟨(zs n).toArray⟩) ∧ LJ w w' := by
  have hmk := make_z w n hn
  have hcv := conv_z w n
  have hl : LJ w (w.alloc (.cells (bys (zs n)).toArray 5)) := (LJ.refl w).alloc _
  obtain ⟨w1, hw1⟩ : ∃ w1, w.alloc (.cells (bys (zs n)).toArray 5) = w1 := ⟨_, rfl⟩
  obtain ⟨Z, hZ⟩ : ∃ Z : ByteArray, (⟨(zs n).toArray⟩ : ByteArray) = Z := ⟨_, rfl⟩
  rw [hw1] at hmk hcv hl
  rw [hZ] at hcv
  have HZ := Lib.hid hZ
  have HL := Lib.hid hl
  clear hw1 hZ hl hn
  go_enter Tryz.func49, Tryz.ntmps49
  go_wp2_with fail
  go_ret
  exact ⟨ret_str HZ.out.symm, HL.out⟩
set_option maxRecDepth 100000 in
theorem lplace12_any (w : World) (x : Int) (hx : -9223372036854775808 ≤ x ∧ x ≤ 9223372036854775807) :
    Calls Tryz.prog 111 #[.int .i64 x, .int .i64 12] w fun e w' => e = .returned (.int .i64 (x % 12)) ∧ w = w' := by
  have ht : x.tmod 12 = x % 12 - (if 0 ≤ x ∨ (12 : Int) ∣ x then 0 else 12) := by
    rw [Int.tmod_eq_emod]
    split <;> rfl
  rcases Int.lt_or_le (x.tmod 12) 0 with h | h
  · have e : x.tmod 12 + 12 = x % 12 := by split at ht <;> omega
    have h2 := Int.emod_lt_of_pos x (show (0 : Int) < 12 by omega)
    have h3 := Int.emod_nonneg x (show (12 : Int) ≠ 0 by omega)
    have hwr : IntKind.i64.wrap (x.tmod 12) = x.tmod 12 := by rw [IntKind.wrap_i64]; omega
    have hwr2 : IntKind.i64.wrap (x.tmod 12 + 12) = x.tmod 12 + 12 := by rw [IntKind.wrap_i64]; omega
    clear ht
    go_enter Tryz.func111, Tryz.ntmps111
    go_wp2_with fail
    go_ret
    exact ⟨rfl, rfl⟩
  · have e : x.tmod 12 = x % 12 := by split at ht <;> omega
    have h2 := Int.emod_lt_of_pos x (show (0 : Int) < 12 by omega)
    have hwr : IntKind.i64.wrap (x.tmod 12) = x.tmod 12 := by rw [IntKind.wrap_i64]; omega
    clear ht
    go_enter Tryz.func111, Tryz.ntmps111
    go_wp2_with fail
    go_ret
    exact ⟨rfl, rfl⟩
set_option maxRecDepth 100000 in
theorem lplace20_any (w : World) (x : Int) (hx : -9223372036854775808 ≤ x ∧ x ≤ 9223372036854775807) :
    Calls Tryz.prog 111 #[.int .i64 x, .int .i64 20] w fun e w' => e = .returned (.int .i64 (x % 20)) ∧ w = w' := by
  have ht : x.tmod 20 = x % 20 - (if 0 ≤ x ∨ (20 : Int) ∣ x then 0 else 20) := by
    rw [Int.tmod_eq_emod]
    split <;> rfl
  rcases Int.lt_or_le (x.tmod 20) 0 with h | h
  · have e : x.tmod 20 + 20 = x % 20 := by split at ht <;> omega
    have h2 := Int.emod_lt_of_pos x (show (0 : Int) < 20 by omega)
    have h3 := Int.emod_nonneg x (show (20 : Int) ≠ 0 by omega)
    have hwr : IntKind.i64.wrap (x.tmod 20) = x.tmod 20 := by rw [IntKind.wrap_i64]; omega
    have hwr2 : IntKind.i64.wrap (x.tmod 20 + 20) = x.tmod 20 + 20 := by rw [IntKind.wrap_i64]; omega
    clear ht
    go_enter Tryz.func111, Tryz.ntmps111
    go_wp2_with fail
    go_ret
    exact ⟨rfl, rfl⟩
  · have e : x.tmod 20 = x % 20 := by split at ht <;> omega
    have h2 := Int.emod_lt_of_pos x (show (0 : Int) < 20 by omega)
    have hwr : IntKind.i64.wrap (x.tmod 20) = x.tmod 20 := by rw [IntKind.wrap_i64]; omega
    clear ht
    go_enter Tryz.func111, Tryz.ntmps111
    go_wp2_with fail
    go_ret
    exact ⟨rfl, rfl⟩
set_option maxRecDepth 100000 in
theorem lplace17_any (w : World) (x : Int) (hx : -9223372036854775808 ≤ x ∧ x ≤ 9223372036854775807) :
    Calls Tryz.prog 111 #[.int .i64 x, .int .i64 17] w fun e w' => e = .returned (.int .i64 (x % 17)) ∧ w = w' := by
  have ht : x.tmod 17 = x % 17 - (if 0 ≤ x ∨ (17 : Int) ∣ x then 0 else 17) := by
    rw [Int.tmod_eq_emod]
    split <;> rfl
  rcases Int.lt_or_le (x.tmod 17) 0 with h | h
  · have e : x.tmod 17 + 17 = x % 17 := by split at ht <;> omega
    have h2 := Int.emod_lt_of_pos x (show (0 : Int) < 17 by omega)
    have h3 := Int.emod_nonneg x (show (17 : Int) ≠ 0 by omega)
    have hwr : IntKind.i64.wrap (x.tmod 17) = x.tmod 17 := by rw [IntKind.wrap_i64]; omega
    have hwr2 : IntKind.i64.wrap (x.tmod 17 + 17) = x.tmod 17 + 17 := by rw [IntKind.wrap_i64]; omega
    clear ht
    go_enter Tryz.func111, Tryz.ntmps111
    go_wp2_with fail
    go_ret
    exact ⟨rfl, rfl⟩
  · have e : x.tmod 17 = x % 17 := by split at ht <;> omega
    have h2 := Int.emod_lt_of_pos x (show (0 : Int) < 17 by omega)
    have hwr : IntKind.i64.wrap (x.tmod 17) = x.tmod 17 := by rw [IntKind.wrap_i64]; omega
    clear ht
    go_enter Tryz.func111, Tryz.ntmps111
    go_wp2_with fail
    go_ret
    exact ⟨rfl, rfl⟩
theorem run_max2V {P : Program} {w : World} (ts : Array TypeId) (t : TypeId) (k k' : IntKind) (x y : Int) :
    (Builtin.max_ ts t #[.int k x, .int k' y]).run P w = .ok (.int k (if x < y then y else x)) w := by
  simp [Builtin.max_, Builtin.max2]
/-- How many cells, how large the area, how many blocks are cached. -/
def shC (c : Int) : Nat := 1 + (c % 12).toNat
def shA (c m : Int) : Nat := max 4 (shC c + 3) + (m % 20).toNat
def shK (k : Int) : Nat := (k % 17).toNat
theorem shC_bd (c : Int) : 1 ≤ shC c ∧ shC c ≤ 12 := by unfold shC; omega
theorem shA_bd (c m : Int) : 4 ≤ shA c m ∧ shC c + 3 ≤ shA c m ∧ shA c m ≤ 34 := by have := shC_bd c; unfold shA; omega
theorem shK_bd (k : Int) : shK k ≤ 16 := by unfold shK; omega
set_option maxRecDepth 100000 in
theorem lsizes_any (w : World) (c m k : Int) (hc : -9223372036854775808 ≤ c ∧ c ≤ 9223372036854775807) (hm : -9223372036854775808 ≤ m ∧ m ≤ 9223372036854775807) :
    Calls Tryz.prog 48 #[.agg #[.int .i64 c, .int .i64 m, .int .i64 k]] w fun e w' => e = .returned (.tuple #[.int .i64 ((shA c m + shC c : Nat) : Int), .int .i64 ((shA c m : Nat) : Int)]) ∧ LJ w w' := by
  obtain ⟨w1, hw1⟩ : ∃ w1, w.alloc (.cells #[.int .i64 c, .int .i64 m, .int .i64 k] 57) = w1 := ⟨_, rfl⟩
  have hb : w1.heap[w.heap.size]? = some (.cells #[.int .i64 c, .int .i64 m, .int .i64 k] 57 (0, 0)) := by rw [← hw1]; exact alloc_blk w _
  have HL1 := Lib.hid (show LJ w w1 from by rw [← hw1]; exact (LJ.refl w).alloc _)
  have k0 : w1.cell? ⟨w.heap.size, 0, none⟩ = some (.int .i64 c) := cell_blk hb 0
  have k1 : w1.cell? ⟨w.heap.size, 1, none⟩ = some (.int .i64 m) := cell_blk hb 1
  have b1 := shC_bd c
  obtain ⟨b2, b3, b4⟩ := shA_bd c m
  obtain ⟨mc, hmc⟩ : ∃ x : Nat, (c % 12).toNat = x := ⟨_, rfl⟩
  obtain ⟨mm, hmm⟩ : ∃ x : Nat, (m % 20).toNat = x := ⟨_, rfl⟩
  have e1 : c % 12 = (mc : Int) := by omega
  have e2 : m % 20 = (mm : Int) := by omega
  obtain ⟨C, hC⟩ : ∃ x : Nat, shC c = x := ⟨_, rfl⟩
  obtain ⟨A, hA⟩ : ∃ x : Nat, shA c m = x := ⟨_, rfl⟩
  have eC : C = 1 + mc := by rw [← hC, ← hmc]; rfl
  obtain ⟨mx, hmx⟩ : ∃ x : Nat, max 4 (C + 3) = x := ⟨_, rfl⟩
  have eA : A = mx + mm := by rw [← hA, ← hmm, ← hmx, ← hC]; rfl
  rw [hC] at b1 b3
  rw [hA] at b2 b3 b4
  have HP1 := Lib.hid (fun W => show Calls Tryz.prog 111 #[.int .i64 c, .int .i64 12] W fun e w' => e = .returned (.int .i64 (mc : Int)) ∧ W = w' from by have := lplace12_any W c hc; rw [e1] at this; exact this)
  have HP2 := Lib.hid (fun W => show Calls Tryz.prog 111 #[.int .i64 m, .int .i64 20] W fun e w' => e = .returned (.int .i64 (mm : Int)) ∧ W = w' from by have := lplace20_any W m hm; rw [e2] at this; exact this)
  have x1 : IntKind.i64.wrap (1 + (mc : Int)) = (C : Int) := by rw [IntKind.wrap_i64]; omega
  have x2 : IntKind.i64.wrap ((C : Int) + 3) = ((C + 3 : Nat) : Int) := by rw [IntKind.wrap_i64]; omega
  obtain ⟨C3, hC3⟩ : ∃ x : Nat, C + 3 = x := ⟨_, rfl⟩
  rw [hC3] at x2 hmx
  have hmq : ∀ W ts t, (Builtin.max_ ts t #[.int .i64 4, .int .i64 (C3 : Int)]).run Tryz.prog W = .ok (.int .i64 (mx : Int)) W := fun W ts t => by
    have e : (if (4 : Int) < (C3 : Int) then (C3 : Int) else 4) = (mx : Int) := by split <;> omega
    rw [run_max2V, e]
  have x3 : IntKind.i64.wrap ((mx : Int) + (mm : Int)) = (A : Int) := by rw [IntKind.wrap_i64]; omega
  obtain ⟨N, hN⟩ : ∃ x : Nat, A + C = x := ⟨_, rfl⟩
  have x4 : IntKind.i64.wrap ((A : Int) + (C : Int)) = (N : Int) := by rw [IntKind.wrap_i64]; omega
  have HW1 := Lib.hid hw1
  rw [hC, hA, hN]
  clear hw1 hb hC hA e1 e2 eC eA hmx hC3 b1 b2 b3 b4 hc hm hmc hmm hN
  go_enter Tryz.func48, Tryz.ntmps48
  go_upto_region 1 with fail
  rw [HW1.out]
  go_wp2_with (first
    | (go_at_call 111; (with_reducible refine (HP1.out _).mono ?_); rintro e w2 ⟨rfl, hw2⟩; subst hw2)
    | (go_at_call 111; (with_reducible refine (HP2.out _).mono ?_); rintro e w2 ⟨rfl, hw2⟩; subst hw2)
    | fail)
  go_ret2
  exact ⟨rfl, HL1.out⟩
end Go.Proofs.YtfpbocjmlhcgiaaGreatDoor
/- The law's open and laid: a volume on a journal's disk; on a new disk. -/
namespace Go.Proofs.YtfpbocjmlhcgiaaGreatDoor
open Go.RowKit PJ Go.Maps

theorem J0_vj {n area : Nat} (h4 : 4 ≤ area) (h40 : n - area ≤ 40) (hca : n - area ≤ area - 3) (hn : area < n) (hok : (J0 n area).OK) : VJ (J0 n area) [] := by
  refine ⟨VInv.nil, ⟨?_, fun c hc => ?_⟩, h40, hca, ⟨[], Jn.Whole.none hok rfl⟩⟩
  · show 2 ≤ 116 * (n - area)
    omega
  · show ((fun _ => none : Cells) c).getD ((V0 (area + c)).take 116) = _
    unfold V0
    rw [if_neg (by omega)]
    refine (take_blk (by simp) 0).trans ?_
    cases c with
    | zero => rfl
    | succ c =>
      unfold pcE
      rw [image_nil, List.drop_of_length_le (by rw [be_len]; omega)]
      rfl
def V17Open (w : World) (p : Nat) (F : Nat → Prop) (J : Jn) (l : List Ent) (e : Ending) (w' : World) : Prop :=
  ∃ b' jb' vb' J' F', e = .returned (.tuple #[.pointer (some ⟨vb', 0, none⟩), .int .i64 0]) ∧ VAt w' p b' jb' vb' F' J' l ∧ Near w F F' ∧ OnlyJ F w w' ∧ w.heap.size ≤ vb' ∧ J'.n = J.n ∧ J'.area = J.area ∧ J'.head ≤ J.head + 1 ∧ J'.next = J.next
set_option maxRecDepth 100000 in
set_option maxHeartbeats 4000000 in
theorem l17open_any (w : World) (p b jb : Nat) (F : Nat → Prop) (J : Jn) (l : List Ent) (h : JAt w p b jb F J) (hv : VJ J l) (hh : J.head < 4611686018427387904) (hnx : J.next ≤ 4611686018427387904) (c m k : Int) (hc : -9223372036854775808 ≤ c ∧ c ≤ 9223372036854775807) (hm : -9223372036854775808 ≤ m ∧ m ≤ 9223372036854775807) (hk : -9223372036854775808 ≤ k ∧ k ≤ 9223372036854775807) (hn : shA c m + shC c = J.n) (ha : shA c m = J.area) :
    Calls Tryz.prog 87 #[.pointer (some ⟨p, 0, none⟩), .agg #[.int .i64 c, .int .i64 m, .int .i64 k]] w (V17Open w p F J l) := by
  have hok := h.ok
  have hb1 := shC_bd c
  obtain ⟨hb2, hb3, hb4⟩ := shA_bd c m
  have hb5 := shK_bd k
  obtain ⟨g, mb, safe, U, hdk⟩ := h.disk
  obtain ⟨L, hL⟩ := hv.whole
  have hlF := h.lt
  obtain ⟨w1, hw1⟩ : ∃ w1, w.alloc (.cells #[.int .i64 c, .int .i64 m, .int .i64 k] 57) = w1 := ⟨_, rfl⟩
  obtain ⟨q3, hq3⟩ : ∃ q, w.heap.size = q := ⟨_, rfl⟩
  have HB1 := Lib.hid (show w1.heap[q3]? = some (.cells #[.int .i64 c, .int .i64 m, .int .i64 k] 57 (0, 0)) from by rw [← hw1, ← hq3]; exact alloc_blk w _)
  have HL1 := Lib.hid (show LJ w w1 from by rw [← hw1]; exact (LJ.refl w).alloc _)
  have k0 : w1.cell? ⟨q3, 0, none⟩ = some (.int .i64 c) := cell_blk HB1.out 0
  have k1 : w1.cell? ⟨q3, 1, none⟩ = some (.int .i64 m) := cell_blk HB1.out 1
  have k2 : w1.cell? ⟨q3, 2, none⟩ = some (.int .i64 k) := cell_blk HB1.out 2
  obtain ⟨kk, hkk⟩ : ∃ x : Nat, shK k = x := ⟨_, rfl⟩
  have hke : k % 17 = (kk : Int) := by rw [← hkk]; unfold shK; omega
  have HSI := Lib.hid (lsizes_any w1 c m k hc hm)
  rw [hn, ha] at HSI
  have HPL := Lib.hid (fun W => show Calls Tryz.prog 111 #[.int .i64 k, .int .i64 17] W fun e w' => e = .returned (.int .i64 (kk : Int)) ∧ W = w' from by have := lplace17_any W k hk; rw [hke] at this; exact this)
  have HBN := Lib.hid (fun W (hW : LJ w W) => show Calls Tryz.prog 13 #[.pointer (some ⟨p, 0, none⟩), .int .i64 0, .int .i64 J.n, .int .i64 (kk : Int)] W fun e w' =>
      e = .returned (.tuple #[.pointer (some ⟨W.heap.size, 0, none⟩), .int .i64 0]) ∧ Below W.heap.size W w' ∧ w'.heap[W.heap.size]? = some (.cells (devCells p 0 J.n kk (.slice none 0 0) 0) 105 (0, 0)) from
    bnew_any W p g mb J.n safe U (hdk.later hW) 0 J.n kk (by omega) (by omega) (by omega))
  have HOP := Lib.hid (fun W (hW : LJ w W) => jopen_home W p b jb F J (h.later hW) L hL hh hnx kk (by omega))
  have HVO := Lib.hid (fun W b' jb' F' J' (hj : JAt W p b' jb' F' J') (hn : J'.n = J.n) (ha : J'.area = J.area) (hc : ∀ c, c < J.n - J.area → J'.cell c = J.cell c) (hw : ∃ L, J'.Whole L) => vopen_any W p b' jb' F' J' l hj (hv.of hn ha hc hw))
  have HLF := Lib.hid hlF
  obtain ⟨n, hnn⟩ : ∃ n, J.n = n := ⟨_, rfl⟩
  obtain ⟨area, har⟩ : ∃ area, J.area = area := ⟨_, rfl⟩
  rw [hnn] at HSI HBN HOP HVO
  rw [har] at HSI HOP HVO
  obtain ⟨POST, hPOST⟩ : ∃ POST, V17Open w p F J l = POST := ⟨_, rfl⟩
  rw [hPOST]
  have HPOST := Lib.hid hPOST
  have HNA := Lib.hid (And.intro hnn har)
  have HW1 := Lib.hid hw1
  have HQ := Lib.hid hq3
  clear h hv hL hh hnx hok hdk hlF hnn har hPOST hb1 hb2 hb3 hb4 hb5 hn ha hc hm hk hke hkk hw1 hq3
  go_enter Tryz.func87, Tryz.ntmps87
  go_upto_region 1 with fail
  rw [HW1.out, HQ.out]
  go_wp2_with (first
    | (go_at_call 48; (with_reducible refine HSI.out.mono ?_); rintro e w2 ⟨rfl, hl2⟩; have k20 := hl2.cell k2; have HL2 := Lib.hid (HL1.out.trans hl2); have HBN2 := Lib.hid (HBN.out w2 HL2.out); have HOP2 := Lib.hid (HOP.out w2 HL2.out); clear hl2)
    | (go_at_call 111; (with_reducible refine (HPL.out _).mono ?_); rintro e w2 ⟨rfl, hw2⟩; subst hw2)
    | (go_at_call 13; (with_reducible refine HBN2.out.mono ?_); rintro e w3 ⟨rfl, hl3, hb3⟩; obtain ⟨J', hJ', hop⟩ := HOP2.out; have HJ' := Lib.hid hJ'; have HO3 := Lib.hid (hop w3 hl3 hb3); have HL3 := Lib.hid hl3; clear hl3 hb3 hJ' hop)
    | (go_at_call 143; (with_reducible refine HO3.out.mono ?_); rintro e w4 ⟨jb', rfl, hj4, ho4⟩; have HV4 := Lib.hid (HVO.out w4 _ _ _ J' hj4 HJ'.out.1 HJ'.out.2.1 HJ'.out.2.2.2.2.1 HJ'.out.2.2.2.2.2); have HO4 := Lib.hid ho4; have HJ4 := Lib.hid hj4; clear hj4 ho4)
    | (go_at_call 50; (with_reducible refine HV4.out.mono ?_); rintro e w5 ⟨vb, rfl, hv5, ho5, hge5⟩; have HV5 := Lib.hid hv5; have HO5 := Lib.hid (And.intro ho5 hge5); clear hv5 ho5 hge5)
    | fail)
  obtain ⟨ho5, hge5⟩ := HO5.out
  have s2 := Below.size HL2.out
  have s3 := Below.size HL3.out
  have s4 := HO4.out.size
  have s5 := ho5.size
  obtain ⟨z1, z2, z3, z4, z5, z6⟩ := HJ'.out
  rw [← HPOST.out]
  have key : ∀ q, q < w.heap.size → grow (grow F w2 w3) w3 w4 q → F q := by
    rintro q hq ((e | e) | e)
    · exact e
    · omega
    · omega
  refine ⟨w2.heap.size, jb', vb, J', _, rfl, HV5.out, ?_, ?_, by omega, z1.trans HNA.out.1.symm, z2.trans HNA.out.2.symm, z3, z4⟩
  · intro q hq hlt
    rcases hq with e | e
    · exact key q hlt e
    · omega
  · refine ⟨ho5.os.trans (HO4.out.os.trans (HL3.out.os.trans HL2.out.os)), ho5.tape.trans (HO4.out.tape.trans (HL3.out.tape.trans HL2.out.tape)), ho5.output.trans (HO4.out.output.trans (HL3.out.output.trans HL2.out.output)), by omega, fun q hq hne => ?_⟩
    refine (ho5.block q (by omega) ?_).trans ((HO4.out.block q (by omega) ?_).trans ((Below.block HL3.out q (by omega)).trans (Below.block HL2.out q hq)))
    · rintro ((e | e) | e)
      · exact hne e
      · omega
      · omega
    · rintro (e | e)
      · exact hne e
      · omega
set_option maxRecDepth 100000 in
set_option maxHeartbeats 4000000 in
theorem l17laid_any (w : World) (c m k : Int) (hc : -9223372036854775808 ≤ c ∧ c ≤ 9223372036854775807) (hm : -9223372036854775808 ≤ m ∧ m ≤ 9223372036854775807) (hk : -9223372036854775808 ≤ k ∧ k ≤ 9223372036854775807) :
    Calls Tryz.prog 31 #[.agg #[.int .i64 c, .int .i64 m, .int .i64 k]] w fun e w' => ∃ p b jb vb J, e = .returned (.tuple #[.pointer (some ⟨p, 0, none⟩), .pointer (some ⟨vb, 0, none⟩)]) ∧ VK w w' (fun _ => False) p b jb vb J [] 3 ∧ J.n = shA c m + shC c ∧ J.area = shA c m := by
  have hb1 := shC_bd c
  obtain ⟨hb2, hb3, hb4⟩ := shA_bd c m
  obtain ⟨area, har⟩ : ∃ area, shA c m = area := ⟨_, rfl⟩
  obtain ⟨n, hn⟩ : ∃ n, shA c m + shC c = n := ⟨_, rfl⟩
  obtain ⟨w1, hw1⟩ : ∃ w1, w.alloc (.cells #[.int .i64 c, .int .i64 m, .int .i64 k] 57) = w1 := ⟨_, rfl⟩
  obtain ⟨q3, hq3⟩ : ∃ q, w.heap.size = q := ⟨_, rfl⟩
  have HB1 := Lib.hid (show w1.heap[q3]? = some (.cells #[.int .i64 c, .int .i64 m, .int .i64 k] 57 (0, 0)) from by rw [← hw1, ← hq3]; exact alloc_blk w _)
  have HLA := Lib.hid (show LJ w w1 from by rw [← hw1]; exact (LJ.refl w).alloc _)
  have k0 : w1.cell? ⟨q3, 0, none⟩ = some (.int .i64 c) := cell_blk HB1.out 0
  have k1 : w1.cell? ⟨q3, 1, none⟩ = some (.int .i64 m) := cell_blk HB1.out 1
  have k2 : w1.cell? ⟨q3, 2, none⟩ = some (.int .i64 k) := cell_blk HB1.out 2
  have HSI := Lib.hid (lsizes_any w1 c m k hc hm)
  rw [hn, har] at HSI
  obtain ⟨z, hz⟩ : ∃ z, 128 * n = z := ⟨_, rfl⟩
  have hwr : IntKind.i64.wrap ((128 : Int) * (n : Int)) = (z : Int) := by rw [IntKind.wrap_i64]; omega
  have HNO := Lib.hid (fun W => lnoughts17_any W z (by omega))
  obtain ⟨Z, hZ⟩ : ∃ Z : ByteArray, (⟨(zs z).toArray⟩ : ByteArray) = Z := ⟨_, rfl⟩
  rw [hZ] at HNO
  have hZs : Z.size = 128 * n := by rw [← hZ, hz]; show (zs z).toArray.size = z; simp [zs]
  have HDN := Lib.hid (fun W => dnew_any Z W n (by omega) (by omega) hZs)
  have HBN := Lib.hid (fun W p g mb safe hd => show Calls Tryz.prog 13 #[.pointer (some ⟨p, 0, none⟩), .int .i64 0, .int .i64 n, .int .i64 0] W fun e w' =>
      e = .returned (.tuple #[.pointer (some ⟨W.heap.size, 0, none⟩), .int .i64 0]) ∧ Below W.heap.size W w' ∧ w'.heap[W.heap.size]? = some (.cells (devCells p 0 n 0 (.slice none 0 0) 0) 105 (0, 0)) from
    bnew_any W p g mb n safe (fun _ => none) hd 0 n 0 (by omega) (by omega) (by omega))
  have HF := Lib.hid (fun W p b (hd : NewDev' w1 n 0 p b W) => show Calls Tryz.prog 14 #[.pointer (some ⟨b, 0, none⟩), .int .i64 area] W fun e w' =>
      ∃ jb, e = .returned (.tuple #[.pointer (some ⟨jb, 0, none⟩), .int .i64 0]) ∧ JAt w' p b jb (since w1 w') (J0 n area) ∧ LJ w1 w' from by
    obtain ⟨hl, g, mb, R, V, hd⟩ := hd
    have hsz := Below.size hl
    refine (format_any W p g mb b n 0 R _ V V false hd area (by omega) (by omega)).mono ?_
    rintro e w' ⟨jb, rfl, hj, ho⟩
    have hs2 := ho.size
    exact ⟨jb, rfl, hj.kept (Nat.le_refl _) (fun _ _ => rfl) (since_grow hsz hs2) (fun q hq => hq.2), ⟨ho.os.trans hl.os, ho.tape.trans hl.tape, ho.output.trans hl.output, by omega, fun q hq => (ho.block q (by omega) (fun e => by have := e.1; omega)).trans (Below.block hl q hq)⟩⟩)
  have HOP := Lib.hid (fun W p b jb (hj : JAt W p b jb (since w1 W) (J0 n area)) => show Calls Tryz.prog 87 #[.pointer (some ⟨p, 0, none⟩), .agg #[.int .i64 c, .int .i64 m, .int .i64 k]] W (V17Open W p (since w1 W) (J0 n area) []) from
    l17open_any W p b jb _ (J0 n area) [] hj (J0_vj (by omega) (by omega) (by omega) (by omega) hj.ok) (by show 2 < 4611686018427387904; decide) (by show 1 ≤ 4611686018427387904; decide) c m k hc hm hk hn har)
  have HDIM := Lib.hid (And.intro hn har)
  have HW1 := Lib.hid hw1
  have HQ := Lib.hid hq3
  clear hZ hZs hz hc hm hk hn har hw1 hq3 hb1 hb2 hb3 hb4
  go_enter Tryz.func31, Tryz.ntmps31
  go_upto_region 1 with fail
  rw [HW1.out, HQ.out]
  go_upto_region 3 with (first
    | (go_at_call 48; (with_reducible refine HSI.out.mono ?_); rintro e wa ⟨rfl, hl2⟩; have k0a := hl2.cell k0; have k1a := hl2.cell k1; have k2a := hl2.cell k2; have HL0 := Lib.hid hl2; have HNO2 := Lib.hid (HNO.out wa); clear hl2)
    | (go_at_call 49; (with_reducible refine HNO2.out.mono ?_); rintro e wb ⟨rfl, hl1⟩; have k0b := hl1.cell k0a; have k1b := hl1.cell k1a; have k2b := hl1.cell k2a; have HL1 := Lib.hid (HL0.out.trans hl1); clear hl1)
    | (go_at_call 11; (with_reducible refine (HDN.out _).mono ?_); rintro e w2 ⟨rfl, hd2, hl2⟩; have HD2 := Lib.hid hd2; have HL2 := Lib.hid hl2; clear hd2 hl2)
    | fail)
  have hd2 := HD2.out
  have hlt := hd2
  obtain ⟨-, -, -, cap, cnt, ch, D, hpc, -, -, -, hgl, -, -, ⟨es, ck, hmm, -⟩, -⟩ := hlt
  have hpl := lt_blk hpc
  have hml := lt_blk hmm
  have HB := Lib.hid (HBN.out w2 _ _ _ _ hd2)
  have HND := Lib.hid (fun w3 hl3 hb3 => NewDev'.born (c := 0) (w3 := w3) (by omega) HL1.out HL2.out hd2 (by omega) (Nat.le_refl _) (by omega) hpl hgl hml hl3 hb3)
  have HSB := Lib.hid (And.intro k0 (And.intro k1 k2))
  clear hd2 hpc hmm hpl hml hgl k0 k1 k2 k0a k1a k2a k0b k1b k2b
  go_wp2_with (first
    | (go_at_call 13; (with_reducible refine HB.out.mono ?_); rintro e w3 ⟨rfl, hl3, hb3⟩; have HF3 := Lib.hid (HF.out w3 _ _ (HND.out w3 hl3 hb3)); clear hl3 hb3)
    | (go_at_call 14; (with_reducible refine HF3.out.mono ?_); rintro e w4 ⟨jb, rfl, hj4, hl4⟩; have k04 := hl4.cell HSB.out.1; have k14 := hl4.cell HSB.out.2.1; have k24 := hl4.cell HSB.out.2.2; have HO4 := Lib.hid (HOP.out w4 _ _ jb hj4); have HJ4 := Lib.hid hj4; have HL4 := Lib.hid hl4; clear hj4 hl4)
    | (go_at_call 87; (with_reducible refine HO4.out.mono ?_); rintro e w5 ⟨b', jb', vb', J', F', rfl, hv, hnr, ho, hge, hn', har, hh, hnx⟩
       have HE := Lib.hid (And.intro hv (And.intro hnr (And.intro ho (And.intro hge (And.intro hn' (And.intro har (And.intro hh hnx)))))))
       clear hv hnr ho hge hn' har hh hnx)
    | fail)
  go_ret2
  obtain ⟨hv, hnr, ho, hge, hn', har, hh, hnx⟩ := HE.out
  have s0 := Below.size HLA.out
  have s4 := Below.size HL4.out
  have hge' : ∀ q, since w1 w4 q → w.heap.size ≤ q := fun q hq => by have := hq.1; omega
  have l4 := HLA.out.trans HL4.out
  exact ⟨_, b', jb', vb', J', rfl, ⟨F', hv, near_ge hnr hge' (by omega), fun q hq => hq.elim, l4.only ho hge', by simp only [J0] at hh hnx; omega⟩, hn'.trans HDIM.out.1.symm, har.trans HDIM.out.2.symm⟩
end Go.Proofs.YtfpbocjmlhcgiaaGreatDoor
/- The law's fixed. -/
namespace Go.Proofs.YtfpbocjmlhcgiaaGreatDoor
open Go.RowKit PJ Go.Maps

/-- The volume of the law's fixed. -/
def VS (w W : World) (p b jb vb : Nat) (l : List Ent) (B : Nat) : Prop := ∃ J, VK w W (fun _ => False) p b jb vb J l B ∧ J.n = 9 ∧ J.area = 6
theorem vs_call {w W : World} {p b jb vb : Nat} {l : List Ent} {B : Nat} (h : VS w W p b jb vb l B) (hB : B < 1000) {a : Ans} {f : FuncId} {args : Array Value}
    (hc : ∀ F J, VAt W p b jb vb F J l → J.head < 4611686018427387904 → J.next < 4611686018427387904 → J.room' = 348 → Calls Tryz.prog f args W fun e w' => e = .returned (.int .i64 a.1) ∧ VOut W p b jb vb F (J.ans l a) a.2 w') :
    Calls Tryz.prog f args W fun e w' => e = .returned (.int .i64 a.1) ∧ VS w w' p b jb vb a.2 (B + 1) := by
  obtain ⟨J, hk, hn, ha⟩ := h
  have hb : J.head ≤ B ∧ J.next ≤ B := hk.elim fun _ h => h.2.2.2.2
  obtain ⟨d1, d2, -, -⟩ := ans_dim J l a
  refine (hk.call (a := a) (R := .returned (.int .i64 a.1)) (fun F hv => hc F J hv (by omega) (by omega) (by unfold Jn.room'; rw [hn, ha]))).mono ?_
  rintro e w' ⟨rfl, h1, -⟩
  exact ⟨rfl, _, h1, d1.trans hn, d2.trans ha⟩
theorem vs_free {w W : World} {p b jb vb : Nat} {l : List Ent} {B : Nat} (h : VS w W p b jb vb l B) (k : Nat) (hk : (imageE l).length = k) (r : Int) (hr : ((348 - k : Nat) : Int) = r) :
    Calls Tryz.prog 45 #[.pointer (some ⟨vb, 0, none⟩)] W fun e w' => e = .returned (.int .i64 r) ∧ VS w w' p b jb vb l B := by
  obtain ⟨J, hv, hn, ha⟩ := h
  obtain ⟨F, h1, -⟩ := id hv
  have h2 := vfree_any W p b jb vb F J l h1
  rw [show J.room' = 348 from by unfold Jn.room'; rw [hn, ha], hk, hr] at h2
  refine h2.mono ?_
  rintro e w' ⟨rfl, hl⟩
  exact ⟨rfl, J, hv.later hl, hn, ha⟩
theorem vs_sync {w W : World} {p b jb vb : Nat} {l : List Ent} {B : Nat} (h : VS w W p b jb vb l B) :
    Calls Tryz.prog 86 #[.pointer (some ⟨vb, 0, none⟩)] W fun e w' => e = .returned (.int .i64 0) ∧ VS w w' p b jb vb l B := by
  obtain ⟨J, ⟨F, h1, h2, h3, h4, h5⟩, hn, ha⟩ := h
  refine (vsync_any W p b jb vb F J l h1).mono ?_
  rintro e w' ⟨rfl, ho⟩
  exact ⟨rfl, _, (VK.of h1 h2 h3 h4 ho h5).1, hn, ha⟩
theorem fx_1 {w W : World} {p b jb vb : Nat} {B : Nat} (h : VS w W p b jb vb [] B) (hB : B < 1000) :
    Calls Tryz.prog 84 #[.pointer (some ⟨vb, 0, none⟩), .string ⟨#[47, 100]⟩] W fun e w' => e = .returned (.int .i64 0) ∧ VS w w' p b jb vb VF1 (B + 1) :=
  vs_call h hB (a := (0, VF1)) fun F J hv h1 h2 hr => by
    have := vmkdir_any W p b jb vb F J [] hv h1 h2 ⟨#[47, 100]⟩ (by decide)
    rw [hr, show (⟨#[47, 100]⟩ : ByteArray).data.toList = [47, 100] from rfl, vf_1] at this
    exact this
theorem fx_2 {w W : World} {p b jb vb : Nat} {B : Nat} (h : VS w W p b jb vb VF1 B) (hB : B < 1000) :
    Calls Tryz.prog 37 #[.pointer (some ⟨vb, 0, none⟩), .string ⟨#[47, 100, 47, 102]⟩] W fun e w' => e = .returned (.int .i64 0) ∧ VS w w' p b jb vb VF2 (B + 1) :=
  vs_call h hB (a := (0, VF2)) fun F J hv h1 h2 hr => by
    have := vcreate_any W p b jb vb F J VF1 hv h1 h2 ⟨#[47, 100, 47, 102]⟩ (by decide)
    rw [hr, show (⟨#[47, 100, 47, 102]⟩ : ByteArray).data.toList = [47, 100, 47, 102] from rfl, vf_2] at this
    exact this
theorem fx_3 {w W : World} {p b jb vb : Nat} {B : Nat} (h : VS w W p b jb vb VF2 B) (hB : B < 1000) :
    Calls Tryz.prog 37 #[.pointer (some ⟨vb, 0, none⟩), .string ⟨#[47, 100, 47, 102]⟩] W fun e w' => e = .returned (.int .i64 173) ∧ VS w w' p b jb vb VF2 (B + 1) :=
  vs_call h hB (a := (173, VF2)) fun F J hv h1 h2 hr => by
    have := vcreate_any W p b jb vb F J VF2 hv h1 h2 ⟨#[47, 100, 47, 102]⟩ (by decide)
    rw [hr, show (⟨#[47, 100, 47, 102]⟩ : ByteArray).data.toList = [47, 100, 47, 102] from rfl, vf_3] at this
    exact this
theorem fx_4 {w W : World} {p b jb vb : Nat} {B : Nat} (h : VS w W p b jb vb VF2 B) (hB : B < 1000) :
    Calls Tryz.prog 37 #[.pointer (some ⟨vb, 0, none⟩), .string ⟨#[47, 120, 47, 102]⟩] W fun e w' => e = .returned (.int .i64 172) ∧ VS w w' p b jb vb VF2 (B + 1) :=
  vs_call h hB (a := (172, VF2)) fun F J hv h1 h2 hr => by
    have := vcreate_any W p b jb vb F J VF2 hv h1 h2 ⟨#[47, 120, 47, 102]⟩ (by decide)
    rw [hr, show (⟨#[47, 120, 47, 102]⟩ : ByteArray).data.toList = [47, 120, 47, 102] from rfl, vf_4] at this
    exact this
theorem fx_5 {w W : World} {p b jb vb : Nat} {B : Nat} (h : VS w W p b jb vb VF2 B) (hB : B < 1000) :
    Calls Tryz.prog 37 #[.pointer (some ⟨vb, 0, none⟩), .string ⟨#[47, 100, 47, 102, 47, 103]⟩] W fun e w' => e = .returned (.int .i64 174) ∧ VS w w' p b jb vb VF2 (B + 1) :=
  vs_call h hB (a := (174, VF2)) fun F J hv h1 h2 hr => by
    have := vcreate_any W p b jb vb F J VF2 hv h1 h2 ⟨#[47, 100, 47, 102, 47, 103]⟩ (by decide)
    rw [hr, show (⟨#[47, 100, 47, 102, 47, 103]⟩ : ByteArray).data.toList = [47, 100, 47, 102, 47, 103] from rfl, vf_5] at this
    exact this
theorem fx_6 {w W : World} {p b jb vb : Nat} {B : Nat} (h : VS w W p b jb vb VF2 B) (hB : B < 1000) :
    Calls Tryz.prog 38 #[.pointer (some ⟨vb, 0, none⟩), .string ⟨#[47, 100, 47, 102]⟩, .int .i64 0, .string ⟨#[97, 98, 99]⟩] W fun e w' => e = .returned (.int .i64 0) ∧ VS w w' p b jb vb VF3 (B + 1) :=
  vs_call h hB (a := (0, VF3)) fun F J hv h1 h2 hr => by
    have := vwrite_any W p b jb vb F J VF2 hv h1 h2 ⟨#[47, 100, 47, 102]⟩ (by decide) 0 ⟨#[97, 98, 99]⟩ (by decide)
    rw [hr, show (⟨#[47, 100, 47, 102]⟩ : ByteArray).data.toList = [47, 100, 47, 102] from rfl, show (⟨#[97, 98, 99]⟩ : ByteArray).data.toList = [97, 98, 99] from rfl, vf_6] at this
    exact this
theorem fx_7 {w W : World} {p b jb vb : Nat} {B : Nat} (h : VS w W p b jb vb VF3 B) (hB : B < 1000) :
    Calls Tryz.prog 38 #[.pointer (some ⟨vb, 0, none⟩), .string ⟨#[47, 100, 47, 102]⟩, .int .i64 1, .string ⟨#[120]⟩] W fun e w' => e = .returned (.int .i64 0) ∧ VS w w' p b jb vb VF4 (B + 1) :=
  vs_call h hB (a := (0, VF4)) fun F J hv h1 h2 hr => by
    have := vwrite_any W p b jb vb F J VF3 hv h1 h2 ⟨#[47, 100, 47, 102]⟩ (by decide) 1 ⟨#[120]⟩ (by decide)
    rw [hr, show (⟨#[47, 100, 47, 102]⟩ : ByteArray).data.toList = [47, 100, 47, 102] from rfl, show (⟨#[120]⟩ : ByteArray).data.toList = [120] from rfl, vf_7] at this
    exact this
theorem fx_8 {w W : World} {p b jb vb : Nat} {B : Nat} (h : VS w W p b jb vb VF4 B) (hB : B < 1000) :
    Calls Tryz.prog 38 #[.pointer (some ⟨vb, 0, none⟩), .string ⟨#[47, 100, 47, 102]⟩, .int .i64 4, .string ⟨#[121]⟩] W fun e w' => e = .returned (.int .i64 1) ∧ VS w w' p b jb vb VF4 (B + 1) :=
  vs_call h hB (a := (1, VF4)) fun F J hv h1 h2 hr => by
    have := vwrite_any W p b jb vb F J VF4 hv h1 h2 ⟨#[47, 100, 47, 102]⟩ (by decide) 4 ⟨#[121]⟩ (by decide)
    rw [hr, show (⟨#[47, 100, 47, 102]⟩ : ByteArray).data.toList = [47, 100, 47, 102] from rfl, show (⟨#[121]⟩ : ByteArray).data.toList = [121] from rfl, vf_8] at this
    exact this
theorem fx_9 {w W : World} {p b jb vb : Nat} {B : Nat} (h : VS w W p b jb vb VF4 B) (hB : B < 1000) :
    Calls Tryz.prog 85 #[.pointer (some ⟨vb, 0, none⟩), .string ⟨#[47, 100]⟩] W fun e w' => e = .returned (.int .i64 177) ∧ VS w w' p b jb vb VF4 (B + 1) :=
  vs_call h hB (a := (177, VF4)) fun F J hv h1 h2 hr => by
    have := vremove_any W p b jb vb F J VF4 hv h1 h2 ⟨#[47, 100]⟩ (by decide)
    rw [hr, show (⟨#[47, 100]⟩ : ByteArray).data.toList = [47, 100] from rfl, vf_9] at this
    exact this
theorem fx_10 {w W : World} {p b jb vb : Nat} {B : Nat} (h : VS w W p b jb vb VF4 B) (hB : B < 1000) :
    Calls Tryz.prog 34 #[.pointer (some ⟨vb, 0, none⟩), .string ⟨#[47, 100, 47, 102]⟩, .string ⟨#[47, 103]⟩] W fun e w' => e = .returned (.int .i64 0) ∧ VS w w' p b jb vb VF5 (B + 1) :=
  vs_call h hB (a := (0, VF5)) fun F J hv h1 h2 hr => by
    have := vrename_any W p b jb vb F J VF4 hv h1 h2 ⟨#[47, 100, 47, 102]⟩ ⟨#[47, 103]⟩ (by decide) (by decide)
    rw [hr, show (⟨#[47, 100, 47, 102]⟩ : ByteArray).data.toList = [47, 100, 47, 102] from rfl, show (⟨#[47, 103]⟩ : ByteArray).data.toList = [47, 103] from rfl, vf_10] at this
    exact this
theorem vf_15 : rdE VF5 [47, 103] 0 9 = ([97, 120, 99], 0) := by kernel_rfl
theorem vf_16 : lsE VF5 [47] = ([[100], [103]], 0) := by kernel_rfl
/-- The volume opened anew. -/
def VT (w W : World) (vb : Nat) : Prop := LJ w W ∧ ∃ p b jb F J, VAt W p b jb vb F J VF5
theorem VT.later {w W W' : World} {vb : Nat} (h : VT w W vb) (hl : LJ W W') : VT w W' vb := by
  obtain ⟨h1, p, b, jb, F, J, h2⟩ := h
  exact ⟨h1.trans hl, p, b, jb, F, J, h2.later hl⟩
theorem fx_open {w W : World} {p b jb vb : Nat} {B : Nat} (h : VS w W p b jb vb VF5 B) (hB : B < 1000) :
    Calls Tryz.prog 87 #[.pointer (some ⟨p, 0, none⟩), .agg #[.int .i64 2, .int .i64 0, .int .i64 0]] W fun e w' => ∃ vb', e = .returned (.tuple #[.pointer (some ⟨vb', 0, none⟩), .int .i64 0]) ∧ VT w w' vb' := by
  obtain ⟨J, ⟨F, hv, h2, h3, h4, h5, h6⟩, hn, ha⟩ := h
  have hvj := hv.vj
  obtain ⟨mb, FJ, hj, g2, g3, g4, g5, g6, g7, g8⟩ := hv
  refine (l17open_any W p b jb FJ J VF5 hj hvj (by omega) (by omega) 2 0 0 (by omega) (by omega) (by omega) (by rw [hn]; rfl) (by rw [ha]; rfl)).mono ?_
  rintro e w' ⟨b', jb', vb', J', F', rfl, hv', hnr, ho, -, -⟩
  exact ⟨vb', rfl, h4.only ho (fun q hq => h2 q (g6 q (.inl hq))), p, b', jb', F', J', hv'⟩
theorem fx_read {w W : World} {vb : Nat} (h : VT w W vb) : Calls Tryz.prog 39 #[.pointer (some ⟨vb, 0, none⟩), .string ⟨#[47, 103]⟩, .int .i64 0, .int .i64 9] W fun e w' => e = .returned (.tuple #[.string ⟨#[97, 120, 99]⟩, .int .i64 0]) ∧ VT w w' vb := by
  obtain ⟨h1, p, b, jb, F, J, h2⟩ := id h
  have h3 := vreads_any W p b jb vb F J VF5 h2 ⟨#[47, 103]⟩ (by decide) 0 9 (by omega)
  rw [show (⟨#[47, 103]⟩ : ByteArray).data.toList = [47, 103] from rfl, vf_15] at h3
  refine h3.mono ?_
  rintro e w' ⟨rfl, hl⟩
  exact ⟨rfl, h.later hl⟩
theorem fx_list {w W : World} {vb : Nat} (h : VT w W vb) : Calls Tryz.prog 43 #[.pointer (some ⟨vb, 0, none⟩), .string ⟨#[47]⟩] W fun e w' => ∃ g c, e = .returned (.tuple #[.slice (some ⟨g, 0, none⟩) 2 c, .int .i64 0]) ∧ w'.cell? ⟨g, 0, none⟩ = some (.string ⟨#[100]⟩) ∧ VT w w' vb := by
  obtain ⟨h1, p, b, jb, F, J, h2⟩ := id h
  have h3 := vlist_any W p b jb vb F J VF5 h2 ⟨#[47]⟩ (by decide)
  rw [show (⟨#[47]⟩ : ByteArray).data.toList = [47] from rfl, vf_16] at h3
  refine h3.mono ?_
  rintro e w' ⟨v, rfl, hs, hl⟩
  rcases hs with ⟨-, hx⟩ | ⟨g, c, rfl, hc⟩
  · cases hx
  · exact ⟨g, c, rfl, hc 0 [100] rfl, h.later hl⟩
set_option maxRecDepth 100000 in
set_option maxHeartbeats 8000000 in
theorem fixed17_any (w : World) : Calls Tryz.prog 30 #[] w fun e w' => e = .returned (.bool true) ∧ LJ w w' := by
  have HLD := Lib.hid (show Calls Tryz.prog 31 #[.agg #[.int .i64 2, .int .i64 0, .int .i64 0]] w fun e w' => ∃ p b jb vb, e = .returned (.tuple #[.pointer (some ⟨p, 0, none⟩), .pointer (some ⟨vb, 0, none⟩)]) ∧ VS w w' p b jb vb [] 3 from by
    refine (l17laid_any w 2 0 0 (by omega) (by omega) (by omega)).mono ?_
    rintro e w' ⟨p, b, jb, vb, J, rfl, h1, h2, h3⟩
    exact ⟨p, b, jb, vb, rfl, J, h1, h2, h3⟩)
  have HP1 := Lib.hid (fun W => show Calls Tryz.prog 28 #[.string ⟨#[47, 97, 47, 98, 46, 99]⟩] W fun e w' => e = .returned (.bool true) ∧ LJ W w' from by
    have h3 := vpath_any W ⟨#[47, 97, 47, 98, 46, 99]⟩ (by decide)
    rw [show (⟨#[47, 97, 47, 98, 46, 99]⟩ : ByteArray).data.toList = [47, 97, 47, 98, 46, 99] from rfl, vf_13] at h3
    exact h3)
  have HP2 := Lib.hid (fun W => show Calls Tryz.prog 28 #[.string ⟨#[47, 46, 46]⟩] W fun e w' => e = .returned (.bool false) ∧ LJ W w' from by
    have h3 := vpath_any W ⟨#[47, 46, 46]⟩ (by decide)
    rw [show (⟨#[47, 46, 46]⟩ : ByteArray).data.toList = [47, 46, 46] from rfl, vf_14] at h3
    exact h3)
  go_enter Tryz.func30, Tryz.ntmps30
  go_upto_region 2 with (first
    | (go_at_call 31; (with_reducible refine HLD.out.mono ?_); rintro e w1 ⟨p, b, jb, vb, rfl, h1⟩; have H0 := Lib.hid h1; clear h1)
    | fail)
  go_upto_region 4 with (first
    | (go_at_call 45; first
        | ((with_reducible refine (vs_free (l := VF2) H5.out 16 vf_12 332 rfl).mono ?_); rintro e w8 ⟨rfl, h1⟩; have H6 := Lib.hid h1; clear h1)
        | ((with_reducible refine (vs_free (l := []) H0.out 2 vf_11 346 rfl).mono ?_); rintro e w2 ⟨rfl, h1⟩; have H0b := Lib.hid h1; clear h1))
    | (go_at_call 84; (with_reducible refine (fx_1 H0b.out (by omega)).mono ?_); rintro e w3 ⟨rfl, h1⟩; have H1 := Lib.hid h1; clear h1)
    | (go_at_call 37; first
        | ((with_reducible refine (fx_5 H4.out (by omega)).mono ?_); rintro e w7 ⟨rfl, h1⟩; have H5 := Lib.hid h1; clear h1)
        | ((with_reducible refine (fx_4 H3.out (by omega)).mono ?_); rintro e w6 ⟨rfl, h1⟩; have H4 := Lib.hid h1; clear h1)
        | ((with_reducible refine (fx_3 H2.out (by omega)).mono ?_); rintro e w5 ⟨rfl, h1⟩; have H3 := Lib.hid h1; clear h1)
        | ((with_reducible refine (fx_2 H1.out (by omega)).mono ?_); rintro e w4 ⟨rfl, h1⟩; have H2 := Lib.hid h1; clear h1))
    | fail)
  go_upto_region 6 with (first
    | (go_at_call 38; first
        | ((with_reducible refine (fx_8 H8.out (by omega)).mono ?_); rintro e wb ⟨rfl, h1⟩; have H9 := Lib.hid h1; clear h1)
        | ((with_reducible refine (fx_7 H7.out (by omega)).mono ?_); rintro e wa ⟨rfl, h1⟩; have H8 := Lib.hid h1; clear h1)
        | ((with_reducible refine (fx_6 H6.out (by omega)).mono ?_); rintro e w9 ⟨rfl, h1⟩; have H7 := Lib.hid h1; clear h1))
    | (go_at_call 85; (with_reducible refine (fx_9 H9.out (by omega)).mono ?_); rintro e wc ⟨rfl, h1⟩; have H10 := Lib.hid h1; clear h1)
    | (go_at_call 34; (with_reducible refine (fx_10 H10.out (by omega)).mono ?_); rintro e wd ⟨rfl, h1⟩; have H11 := Lib.hid h1; clear h1)
    | (go_at_call 86; (with_reducible refine (vs_sync H11.out).mono ?_); rintro e we ⟨rfl, h1⟩; have H12 := Lib.hid h1; clear h1)
    | fail)
  go_wp2_with (first
    | (go_at_call 87; (with_reducible refine (fx_open H12.out (by omega)).mono ?_); rintro e wf ⟨vb', rfl, h1⟩; have H13 := Lib.hid h1; clear h1)
    | (go_at_call 39; (with_reducible refine (fx_read H13.out).mono ?_); rintro e wg ⟨rfl, h1⟩; have H14 := Lib.hid h1; clear h1)
    | (go_at_call 43; (with_reducible refine (fx_list H14.out).mono ?_); rintro e wh ⟨g, c, rfl, c0, h1⟩; have H15 := Lib.hid h1; clear h1)
    | (go_at_call 28; first
        | ((with_reducible refine (HP1.out _).mono ?_); rintro e wi ⟨rfl, h1⟩; have H16 := Lib.hid h1; clear h1)
        | ((with_reducible refine (HP2.out _).mono ?_); rintro e wj ⟨rfl, h1⟩; have H17 := Lib.hid h1; clear h1))
    | fail)
  go_ret
  exact ⟨rfl, H15.out.1.trans (H16.out.trans H17.out)⟩
end Go.Proofs.YtfpbocjmlhcgiaaGreatDoor
/- The document's Names and Path. -/
namespace Go.Proofs.YtfpbocjmlhcgiaaGreatDoor
open Go.RowKit PJ Go.Maps Go.WideMaps Go.Shelf

def sgE (l : List UInt8) (f i : Nat) : List UInt8 := (l.drop f).take (i - f)
/-- Where the loop stands: from f on, at i. -/
def NmI (l : List UInt8) (PB : Bool) (f i : Nat) : Prop := 1 ≤ f ∧ f ≤ i ∧ i ≤ l.length + 1 ∧ (i ≤ l.length → (∀ c ∈ sgE l f i, c ≠ 47) ∧ (splitS (l.drop f)).all nameB = PB) ∧ (i = l.length + 1 → PB = true)
theorem nm_init {l : List UInt8} (h2 : 2 ≤ l.length) (h48 : l.length ≤ 48) (h0 : l[0]? = some 47) : NmI l (pathB l) 1 1 := by
  refine ⟨Nat.le_refl _, Nat.le_refl _, by omega, fun _ => ⟨by intro c hc; simp [sgE] at hc, ?_⟩, fun e => by omega⟩
  cases l with
  | nil => simp at h2
  | cons c r =>
    have hc : c = 47 := by simpa using h0
    subst hc
    have hr : r ≠ [] := by rintro rfl; simp at h2
    have hl := List.length_pos_iff.2 (splitS_ne r)
    show (splitS r).all nameB = _
    unfold pathB
    rw [show splitS (47 :: r) = [] :: splitS r from by rw [splitS, if_pos rfl]]
    have e1 : ((47 :: r : List UInt8) == [47]) = false := by simpa using hr
    rw [e1, Bool.false_or, decide_eq_true h48, Bool.true_and]
    have e2 : 1 < ([] :: splitS r : List (List UInt8)).length := by rw [List.length_cons]; omega
    rw [decide_eq_true e2, Bool.true_and]
    simp
theorem split_head {c : UInt8} (hc : c ≠ 47) (r : List UInt8) : ∃ x xs, splitS (c :: r) = (c :: x) :: xs := by
  rw [splitS, if_neg hc]
  cases h : splitS r with
  | nil => exact absurd h (splitS_ne r)
  | cons a b => exact ⟨_, _, rfl⟩
theorem nm_bad {l : List UInt8} (h1 : l ≠ [47]) (h : l.length < 2 ∨ 48 < l.length ∨ l[0]? ≠ some 47) : pathB l = false := by
  have e1 : (l == [47]) = false := by simpa using h1
  unfold pathB
  rw [e1, Bool.false_or]
  cases l with
  | nil => rfl
  | cons c r =>
    by_cases hc : c = 47
    · subst hc
      rcases h with h | h | h
      · have hr : r = [] := List.eq_nil_of_length_eq_zero (by simp at h; omega)
        subst hr
        exact absurd rfl h1
      · rw [decide_eq_false (by omega), Bool.false_and]
      · exact absurd rfl h
    · obtain ⟨x, xs, e⟩ := split_head hc r
      rw [e]
      simp
theorem nm_in {l : List UInt8} {PB : Bool} {f i : Nat} {u : UInt8} (h : NmI l PB f i) (hu : l[i]? = some u) (hn : u ≠ 47) : NmI l PB f (i + 1) := by
  obtain ⟨h1, h2, h3, h4, h5⟩ := h
  have hi := (List.getElem?_eq_some_iff.1 hu).1
  obtain ⟨h6, h7⟩ := h4 (by omega)
  refine ⟨h1, by omega, by omega, fun _ => ⟨?_, h7⟩, fun e => by omega⟩
  intro c hc
  unfold sgE at hc h6
  rw [show i + 1 - f = (i - f) + 1 from by omega, List.take_add_one, List.getElem?_drop, show f + (i - f) = i from by omega, hu] at hc
  rcases List.mem_append.1 hc with hc | hc
  · exact h6 c hc
  · have e : c = u := by simpa using hc
    rw [e]
    exact hn
theorem nm_cut {l : List UInt8} {PB : Bool} {f i : Nat} (h : NmI l PB f i) (hi : i ≤ l.length) (hu : i < l.length → l[i]? = some 47) : (nameB (sgE l f i) = false → PB = false) ∧ (nameB (sgE l f i) = true → NmI l PB (i + 1) (i + 1)) := by
  obtain ⟨h1, h2, h3, h4, h5⟩ := h
  obtain ⟨h6, h7⟩ := h4 hi
  rcases Nat.lt_or_ge i l.length with hlt | hge
  · have e : l.drop f = sgE l f i ++ 47 :: l.drop (i + 1) := by
      have e1 : l.drop i = 47 :: l.drop (i + 1) := by
        rw [List.drop_eq_getElem_cons hlt]
        have := hu hlt
        rw [List.getElem?_eq_getElem hlt] at this
        rw [Option.some.inj this]
      have e2 : (l.drop f).drop (i - f) = l.drop i := by rw [List.drop_drop]; congr 1; omega
      rw [← e1, ← e2]
      exact (List.take_append_drop _ _).symm
    rw [e, splitS_at _ _ h6, List.all_cons] at h7
    refine ⟨fun h => by rw [← h7, h]; rfl, fun h => ⟨by omega, Nat.le_refl _, by omega, fun _ => ⟨by intro c hc; simp [sgE] at hc, ?_⟩, fun e => by omega⟩⟩
    rw [← h7, h]
    rfl
  · have hil : i = l.length := by omega
    have e : l.drop f = sgE l f i := by
      unfold sgE
      rw [List.take_of_length_le (by rw [List.length_drop]; omega)]
    rw [e, splitS_none h6] at h7
    have h8 : nameB (sgE l f i) = PB := by simpa using h7
    exact ⟨fun h => by rw [← h8, h], fun h => ⟨by omega, Nat.le_refl _, by omega, fun e => by omega, fun _ => by rw [← h8, h]⟩⟩
theorem nm_last {l : List UInt8} {f : Nat} (h1 : 1 ≤ f) (h2 : l[f - 1]? = some 47) (h3 : ∀ c ∈ sgE l f l.length, c ≠ 47) : sgE l f l.length = lastN l := by
  have hf := (List.getElem?_eq_some_iff.1 h2).1
  have e : sgE l f l.length = l.drop f := by
    unfold sgE
    rw [List.take_of_length_le (by rw [List.length_drop]; omega)]
  have hl : lastS l = ((f - 1 : Nat) : Int) := lastS_is hf h2 fun j hj hjl e2 => by
    rw [e] at h3
    refine h3 47 (List.mem_of_getElem? (i := j - f) ?_) rfl
    rw [List.getElem?_drop, show f + (j - f) = j from by omega]
    exact e2
  unfold lastN
  rw [e, hl, show (((f - 1 : Nat) : Int) + 1).toNat = f from by omega]
/-- What Names leaves. -/
def NmO (w : World) (l : List UInt8) (b : Bool) (e : Ending) (w' : World) : Prop := (∃ v, e = .returned (.tuple #[v, .bool b]) ∧ (b = true → l ≠ [47] → ∃ g k cap, v = .slice (some ⟨g, 0, none⟩) (k + 1) cap ∧ k ≤ 50 ∧ w'.cell? ⟨g, k, none⟩ = some (.string ⟨(lastN l).toArray⟩))) ∧ LJ w w'
/-- The last one is the last name. -/
def NmX (l : List UInt8) (f i k : Nat) (xs : List Value) : Prop := (i ≤ l.length → l[f - 1]? = some 47) ∧ (i = l.length + 1 → ∃ k', k = k' + 1 ∧ xs.length = k ∧ xs[k']? = some (.string ⟨(lastN l).toArray⟩)) ∧ xs.length = k
theorem NmX.cut {l : List UInt8} {PB : Bool} {f i k : Nat} {xs : List Value} (h : NmX l f i k xs) (hI : NmI l PB f i) (hi : i ≤ l.length) (hu : i < l.length → l[i]? = some 47) {SG : ByteArray} (hs : SG.data.toList = sgE l f i) : NmX l (i + 1) (i + 1) (k + 1) (xs ++ [.string SG]) := by
  obtain ⟨h1, h2, h3⟩ := h
  refine ⟨fun hle => by rw [Nat.add_sub_cancel]; exact hu (by omega), fun e => ⟨k, rfl, by simp [h3], ?_⟩, by simp [h3]⟩
  have hil : i = l.length := by omega
  subst hil
  rw [List.getElem?_append_right (by omega), h3, Nat.sub_self]
  show some (Value.string SG) = _
  have hn := nm_last hI.1 (h1 (Nat.le_refl _)) (hI.2.2.2.1 (Nat.le_refl _)).1
  rw [← hn, ← hs]
set_option maxRecDepth 100000 in
set_option maxHeartbeats 8000000 in
theorem rnames_any (w : World) (s : ByteArray) (hs : s.size < 4611686018427387904) :
    Calls Tryz.prog 42 #[.string s] w (NmO w s.data.toList (pathB s.data.toList)) := by
  obtain ⟨l, hl⟩ : ∃ l, s.data.toList = l := ⟨_, rfl⟩
  have hsl : s.toList = l := by rw [ByteArray.toList_eq, hl]
  have hlen : l.length = s.size := by rw [← hl, Array.length_toList]; rfl
  obtain ⟨iS, hiS, hzS, hsS, hbS⟩ := info_parts info_strV
  rw [hl]
  obtain ⟨w1, hw1⟩ : ∃ w1, w.alloc (.cells #[] 9) = w1 := ⟨_, rfl⟩
  obtain ⟨q, hq⟩ : ∃ q, w.heap.size = q := ⟨_, rfl⟩
  have HL1 := Lib.hid (show LJ w w1 from by rw [← hw1]; exact (LJ.refl w).alloc _)
  have HB1 := Lib.hid (show w1.heap[q]? = some (.cells #[] 9 (0, 0)) from by rw [← hw1, ← hq]; exact alloc_blk w _)
  have HW1 := Lib.hid hw1
  have HQ := Lib.hid hq
  have HLE := Lib.hid hl
  have HLN := Lib.hid hlen
  obtain ⟨PB, hPB⟩ : ∃ B, pathB l = B := ⟨_, rfl⟩
  rw [hPB]
  have HPB := Lib.hid hPB
  clear hw1 hl hPB hq
  go_enter Tryz.func42, Tryz.ntmps42
  go_upto_region 2 with fail
  rw [HW1.out, HQ.out]
  by_cases h1 : l = [47]
  · have HT := Lib.hid (show PB = true from by rw [← HPB.out, h1]; rfl)
    have hc1 : (l == [47]) = true := by rw [h1]; rfl
    go_wp2_with fail
    go_ret2
    exact ⟨⟨_, by rw [HT.out]; rfl, fun _ h => absurd h1 h⟩, HL1.out⟩
  have hc1 : (l == [47]) = false := by simpa using h1
  by_cases h2 : s.size < 2
  · have HF := Lib.hid (show PB = false from by rw [← HPB.out]; exact nm_bad h1 (.inl (by omega)))
    have h2i : (s.size : Int) < 2 := by omega
    go_wp2_with fail
    go_ret2
    exact ⟨⟨_, by rw [HF.out]; rfl, fun h => by rw [HF.out] at h; cases h⟩, HL1.out⟩
  have h2i : ¬ (s.size : Int) < 2 := by omega
  by_cases h3 : 48 < s.size
  · have HF := Lib.hid (show PB = false from by rw [← HPB.out]; exact nm_bad h1 (.inr (.inl (by omega))))
    have h3i : (48 : Int) < (s.size : Int) := by omega
    go_wp2_with fail
    go_ret2
    exact ⟨⟨_, by rw [HF.out]; rfl, fun h => by rw [HF.out] at h; cases h⟩, HL1.out⟩
  have h3i : ¬ (48 : Int) < (s.size : Int) := by omega
  obtain ⟨u, hu⟩ : ∃ u, s.data.toList.getD 0 0 = u := ⟨_, rfl⟩
  have HG := Lib.hid (show l[0]? = some u from by rw [← HLE.out, ← hu]; exact get_iff (by omega))
  obtain ⟨c, hc⟩ : ∃ c : Int, (u.toNat : Int) = c := ⟨_, rfl⟩
  have hix : ∀ W : World, (Instr.index 9 (.string s) (.int .i64 0)).run Tryz.prog W = .ok (.int .u8 c) W := by
    intro W
    rw [← hc, ← hu]
    exact str_byte s (show 0 < s.size by omega) W
  have HCU := Lib.hid (show c = 47 ↔ u = 47 from by
    rw [← hc]
    constructor
    · intro h
      exact UInt8.toNat_inj.1 (by show u.toNat = 47; omega)
    · rintro rfl; rfl)
  clear hu hc
  by_cases h4 : c = 47
  case neg =>
    have HF := Lib.hid (show PB = false from by rw [← HPB.out]; exact nm_bad h1 (.inr (.inr (by rw [HG.out]; exact fun e => h4 (HCU.out.2 (Option.some.inj e))))))
    have h4b : (c != 47) = true := by simpa using h4
    go_wp2_with fail
    go_ret2
    exact ⟨⟨_, by rw [HF.out]; rfl, fun h => by rw [HF.out] at h; cases h⟩, HL1.out⟩
  case pos =>
    have h4b : (c != 47) = false := by simpa using h4
    have HI0 := Lib.hid (show NmI l PB 1 1 from by rw [← HPB.out]; exact nm_init (by omega) (by omega) (by rw [HG.out, HCU.out.1 h4]))
    have HX0 := Lib.hid (show NmX l 1 1 0 [] from ⟨fun _ => by rw [HG.out, HCU.out.1 h4], fun e => by omega, rfl⟩)
    have hn2 : 2 ≤ s.size := by omega
    have hn48 : s.size ≤ 48 := by omega
    have HROW0 := Lib.hid (show w1.ownsRow w.heap.size 9 1 (.slice (some ⟨q, 0, none⟩) 0 0) 0 [] from ⟨rfl, .inr ⟨q, 0, #[], rfl, by have := HQ.out; omega, HB1.out, by omega, by unfold maxLen; omega, rfl, rfl⟩⟩)
    go_upto_region 7 with fail
    go_wp2_with fail
    go_loopw [4, 5, 6] (fun v4 v5 v6 wr => ∃ (f i g cap k : Nat) (xs : List Value), i ≤ s.size + 1 ∧ v6 = .int .i64 (i : Int) ∧ v5 = .int .i64 (f : Int) ∧ v4 = .slice (some ⟨g, 0, none⟩) k cap ∧ k ≤ i ∧ Hid (NmX l f i k xs) ∧ Hid (NmI l PB f i) ∧ Hid (wr.ownsRow w.heap.size 9 1 (.slice (some ⟨g, 0, none⟩) k cap) k xs) ∧ Hid (LJ w wr)) (fun _ _ v6 _ => s.size + 1 - (intOf v6).toNat)
    case atStart => exact ⟨1, 1, q, 0, 0, [], by omega, rfl, rfl, rfl, by omega, HX0, HI0, HROW0, HL1⟩
    case round =>
      obtain ⟨f, i, g, cap, k, xs, hi, rfl, rfl, rfl, hki, HX, HI, HR, HLR⟩ := hrel
      have hbw : w.heap.size ≤ wr.heap.size := Below.size HLR.out
      obtain ⟨n1, n2, n3, n4, n5⟩ := HI.out
      by_cases hle : i ≤ s.size
      · have hlei : (i : Int) ≤ (s.size : Int) := by omega
        have hw1 : IntKind.i64.wrap ((i : Int) + 1) = (i : Int) + 1 := by rw [IntKind.wrap_i64]; omega
        have HWI := Lib.hid hw1
        have HIN := Lib.hid hle
        obtain ⟨SG, hSG⟩ : ∃ S, s.extract f i = S := ⟨_, rfl⟩
        have hSGd : SG.data.toList = sgE l f i := by rw [← hSG, ex_list, HLE.out]; rfl
        have hSGs : SG.size ≤ 48 := by rw [← hSG, ByteArray.size_extract]; omega
        have hf0 : (0 : Int) ≤ (f : Int) := by omega
        have hfi : (f : Int) ≤ (i : Int) := by omega
        have hft : (f : Int).toNat = f := by omega
        have hit : (i : Int).toNat = i := by omega
        by_cases hlt : i < s.size
        · have hlti : (i : Int) < (s.size : Int) := by omega
          obtain ⟨u, hu⟩ : ∃ u, s.data.toList.getD i 0 = u := ⟨_, rfl⟩
          have HGU := Lib.hid (show l[i]? = some u from by rw [← HLE.out, ← hu]; exact get_iff hlt)
          obtain ⟨d, hd⟩ : ∃ d : Int, (u.toNat : Int) = d := ⟨_, rfl⟩
          have hiy : ∀ W : World, (Instr.index 9 (.string s) (.int .i64 (i : Int))).run Tryz.prog W = .ok (.int .u8 d) W := by
            intro W
            rw [← hd, ← hu]
            exact str_byte s hlt W
          have HDU := Lib.hid (show d = 47 ↔ u = 47 from by
            rw [← hd]
            constructor
            · intro h
              exact UInt8.toNat_inj.1 (by show u.toNat = 47; omega)
            · rintro rfl; rfl)
          clear hu hd
          by_cases h47 : d = 47
          · have hd47 : (d != 47) = false := by simpa using h47
            have hcut := nm_cut HI.out (by omega) (fun _ => by rw [HGU.out, HDU.out.1 h47])
            have HXN := Lib.hid (HX.out.cut HI.out (by omega) (fun _ => by rw [HGU.out, HDU.out.1 h47]) hSGd)
            obtain ⟨NB, hNB⟩ : ∃ B, nameB (sgE l f i) = B := ⟨_, rfl⟩
            have HNM := Lib.hid (fun W => show Calls Tryz.prog 106 #[.string SG] W fun e w' => e = .returned (.bool NB) ∧ W = w' from by have h3 := rname_any W SG (by omega); rw [hSGd, hNB] at h3; exact h3)
            have HCUT := Lib.hid hcut
            rw [hNB] at HCUT
            clear hNB hcut hSGd
            cases NB with
            | false =>
              have HPF := Lib.hid (HCUT.out.1 rfl)
              go_wp2_with (first
                | (go_at_call 106; (with_reducible refine (HNM.out _).mono ?_); rintro e wx ⟨rfl, hwx⟩; subst hwx)
                | (at_builtin; refine wpList_append_lies _ rfl (.tmp 46) (.tmp 51) 24 rfl w.heap.size 9 iS (.string ⟨#[]⟩) 1 16 Tryz.underlying24 hiS hzS hsS hbS rfl (by decide) _ _ _ rfl (HR.out.alloc _) ⟨wr.heap.size, 0, none⟩ 1 1 [.string SG] rfl rfl (cells_newJ wr [.string SG] 9) (by intro u hu; simp only [List.mem_cons, List.not_mem_nil, or_false] at hu; rcases hu with rfl; rfl) (by omega) (by unfold maxLen; omega) (by omega) (by simp; omega) _ rfl ?_; intro g5 cap5 w5 hown5 hgrow5 hat5 hlt5)
                | fail)
              go_ret2
              exact ⟨⟨_, by rw [HPF.out]; rfl, fun h => by rw [HPF.out] at h; cases h⟩, HLR.out⟩
            | true =>
              have HNX := Lib.hid (HCUT.out.2 rfl)
              go_wp2_with (first
                | (go_at_call 106; (with_reducible refine (HNM.out _).mono ?_); rintro e wx ⟨rfl, hwx⟩; subst hwx)
                | (at_builtin; refine wpList_append_lies _ rfl (.tmp 46) (.tmp 51) 24 rfl w.heap.size 9 iS (.string ⟨#[]⟩) 1 16 Tryz.underlying24 hiS hzS hsS hbS rfl (by decide) _ _ _ rfl (HR.out.alloc _) ⟨wr.heap.size, 0, none⟩ 1 1 [.string SG] rfl rfl (cells_newJ wr [.string SG] 9) (by intro u hu; simp only [List.mem_cons, List.not_mem_nil, or_false] at hu; rcases hu with rfl; rfl) (by omega) (by unfold maxLen; omega) (by omega) (by simp; omega) _ rfl ?_; intro g5 cap5 w5 hown5 hgrow5 hat5 hlt5)
                | fail)
              go_roundw
              case rel =>
                have hsz := hgrow5.size
                simp only [World.size_alloc] at hsz
                have hrow := fun q (hq : q < wr.heap.size) hne => (hgrow5.block q (by simp; omega) hne).trans (Below.heap_alloc _ _ _ hq)
                have hge := HR.out.lt g rfl
                exact ⟨i + 1, i + 1, g5, cap5, k + 1, _, by have := HIN.out; omega, by simp [HWI.out], by simp [HWI.out], rfl, by omega, HXN, Lib.hid HNX.out, Lib.hid hown5, Lib.hid ⟨hgrow5.os.trans HLR.out.os, hgrow5.tape.trans HLR.out.tape, hgrow5.output.trans HLR.out.output, by omega, fun q hq => (hrow q (by omega) (fun e => by have e' : q = g := Option.some.inj e; omega)).trans (Below.block HLR.out q hq)⟩⟩
              case measure => have := HWI.out; simp [intOf]; omega
          · have hd47 : (d != 47) = true := by simpa using h47
            have HNX := Lib.hid (nm_in HI.out HGU.out (fun e => h47 (HDU.out.2 e)))
            have HXI := Lib.hid (show NmX l f (i + 1) k xs from ⟨fun _ => HX.out.1 (by have := HLN.out; omega), fun e => by have := HLN.out; omega, HX.out.2.2⟩)
            clear hft hit hSG hSGd n4 n5
            go_wp2_with fail
            go_roundw
            case rel => exact ⟨f, i + 1, g, cap, k, xs, by have := HIN.out; omega, by simp [HWI.out], rfl, rfl, by omega, HXI, HNX, HR, HLR⟩
            case measure => have := HWI.out; simp [intOf]; omega
        · have hlti : ¬ (i : Int) < (s.size : Int) := by omega
          have hcut := nm_cut HI.out (by omega) (fun h => by omega)
          have HXN := Lib.hid (HX.out.cut HI.out (by omega) (fun h => by omega) hSGd)
          obtain ⟨NB, hNB⟩ : ∃ B, nameB (sgE l f i) = B := ⟨_, rfl⟩
          have HNM := Lib.hid (fun W => show Calls Tryz.prog 106 #[.string SG] W fun e w' => e = .returned (.bool NB) ∧ W = w' from by have h3 := rname_any W SG (by omega); rw [hSGd, hNB] at h3; exact h3)
          have HCUT := Lib.hid hcut
          rw [hNB] at HCUT
          clear hNB hcut hSGd
          cases NB with
          | false =>
            have HPF := Lib.hid (HCUT.out.1 rfl)
            go_wp2_with (first
              | (go_at_call 106; (with_reducible refine (HNM.out _).mono ?_); rintro e wx ⟨rfl, hwx⟩; subst hwx)
              | (at_builtin; refine wpList_append_lies _ rfl (.tmp 46) (.tmp 51) 24 rfl w.heap.size 9 iS (.string ⟨#[]⟩) 1 16 Tryz.underlying24 hiS hzS hsS hbS rfl (by decide) _ _ _ rfl (HR.out.alloc _) ⟨wr.heap.size, 0, none⟩ 1 1 [.string SG] rfl rfl (cells_newJ wr [.string SG] 9) (by intro u hu; simp only [List.mem_cons, List.not_mem_nil, or_false] at hu; rcases hu with rfl; rfl) (by omega) (by unfold maxLen; omega) (by omega) (by simp; omega) _ rfl ?_; intro g5 cap5 w5 hown5 hgrow5 hat5 hlt5)
              | fail)
            go_ret2
            exact ⟨⟨_, by rw [HPF.out]; rfl, fun h => by rw [HPF.out] at h; cases h⟩, HLR.out⟩
          | true =>
            have HNX := Lib.hid (HCUT.out.2 rfl)
            go_wp2_with (first
              | (go_at_call 106; (with_reducible refine (HNM.out _).mono ?_); rintro e wx ⟨rfl, hwx⟩; subst hwx)
              | (at_builtin; refine wpList_append_lies _ rfl (.tmp 46) (.tmp 51) 24 rfl w.heap.size 9 iS (.string ⟨#[]⟩) 1 16 Tryz.underlying24 hiS hzS hsS hbS rfl (by decide) _ _ _ rfl (HR.out.alloc _) ⟨wr.heap.size, 0, none⟩ 1 1 [.string SG] rfl rfl (cells_newJ wr [.string SG] 9) (by intro u hu; simp only [List.mem_cons, List.not_mem_nil, or_false] at hu; rcases hu with rfl; rfl) (by omega) (by unfold maxLen; omega) (by omega) (by simp; omega) _ rfl ?_; intro g5 cap5 w5 hown5 hgrow5 hat5 hlt5)
              | fail)
            go_roundw
            case rel =>
              have hsz := hgrow5.size
              simp only [World.size_alloc] at hsz
              have hrow := fun q (hq : q < wr.heap.size) hne => (hgrow5.block q (by simp; omega) hne).trans (Below.heap_alloc _ _ _ hq)
              have hge := HR.out.lt g rfl
              exact ⟨i + 1, i + 1, g5, cap5, k + 1, _, by have := HIN.out; omega, by simp [HWI.out], by simp [HWI.out], rfl, by omega, HXN, Lib.hid HNX.out, Lib.hid hown5, Lib.hid ⟨hgrow5.os.trans HLR.out.os, hgrow5.tape.trans HLR.out.tape, hgrow5.output.trans HLR.out.output, by omega, fun q hq => (hrow q (by omega) (fun e => by have e' : q = g := Option.some.inj e; omega)).trans (Below.block HLR.out q hq)⟩⟩
            case measure => have := HWI.out; simp [intOf]; omega
      · have hlei : ¬ (i : Int) ≤ (s.size : Int) := by omega
        have HT := Lib.hid (show PB = true from n5 (by omega))
        have HXE := Lib.hid (show ∃ k', k = k' + 1 ∧ k' ≤ 50 ∧ wr.cell? ⟨g, k', none⟩ = some (.string ⟨(lastN l).toArray⟩) from by
          obtain ⟨k', e1, e2, e3⟩ := HX.out.2.1 (by have := HLN.out; omega)
          exact ⟨k', e1, by omega, (HR.out.cellAt k' (by omega)).trans e3⟩)
        go_wp2_with fail
        go_ret2
        exact ⟨⟨_, by rw [HT.out]; rfl, fun _ _ => by
          obtain ⟨k', e1, e2, e3⟩ := HXE.out
          exact ⟨g, k', cap, by rw [e1]; rfl, e2, e3⟩⟩, HLR.out⟩
end Go.Proofs.YtfpbocjmlhcgiaaGreatDoor
/- The document's Path; the law VolumePaths. -/
namespace Go.Proofs.YtfpbocjmlhcgiaaGreatDoor
open Go.RowKit PJ Go.Maps

set_option maxRecDepth 100000 in
theorem rpath_any (w : World) (s : ByteArray) (hs : s.size < 4611686018427387904) :
    Calls Tryz.prog 29 #[.string s] w fun e w' => e = .returned (.bool (pathB s.data.toList)) ∧ LJ w w' := by
  have HN := Lib.hid (rnames_any w s hs)
  obtain ⟨PB, hPB⟩ : ∃ B, pathB s.data.toList = B := ⟨_, rfl⟩
  rw [hPB] at HN ⊢
  clear hPB
  go_enter Tryz.func29, Tryz.ntmps29
  go_wp2_with (first
    | (go_at_call 42; (with_reducible refine HN.out.mono ?_); rintro e w2 ⟨⟨v, rfl, -⟩, hl2⟩; have HL2 := Lib.hid hl2; clear hl2)
    | fail)
  go_ret
  exact ⟨rfl, HL2.out⟩
end Go.Proofs.YtfpbocjmlhcgiaaGreatDoor
/- What the volume's cards share: the laid tables, an argument that reads as before. -/
namespace Go.Proofs.YtfpbocjmlhcgiaaGreatDoor
open Go.ChangeShapes Go.WideShapes Go.ChangeAt Go.RowKit PJ Go.Maps

/-- The rows' list. -/
abbrev rowLaid : List (String × DataW Unit) := [("unicode/utf8.acceptRanges", Rows.laid_unicode_utf8_acceptRanges), ("unicode/utf8.first", Rows.laid_unicode_utf8_first)]
/-- The cells of a datum that is laid: numbers, and arrays and structs of numbers. -/
def cellsOfData : Nat → DataW Unit → List Value
  | 0, _ => []
  | _ + 1, .lit (.int k n) => [.int k n]
  | f + 1, .agg l => l.flatMap (cellsOfData f)
  | _ + 1, _ => []
def putCells (g : Nat) (cs : List Value) (h : Array Obj) : Array Obj := h.modify g fun
  | .cells _ t frozen => .cells cs.toArray t frozen
  | o => o
/-- The settled world; the tables hold what their initialisers lay. -/
noncomputable def laidWorld (os : Os) : World :=
  let w0 := World.holding Tryz.prog os ⟨#[], #[], []⟩
  { w0 with heap := putCells 1 (cellsOfData 3 Rows.laid_unicode_utf8_first) (putCells 2 (cellsOfData 3 Rows.laid_unicode_utf8_acceptRanges) w0.heap) }
theorem own : ownKnob Tryz.prog.godebug = none := by kernel_rfl
theorem laidOut : laidOutB Tryz.prog = true := by kernel_rfl
/-- An argument reads as before. -/
theorem back {H : Type} {enc : TypeId × Value → H} {W W' : World} {t : TypeId} {v : Value} {d : DataW H} {p : List MemPlace} (hr : Tryz.prog.readableRec t = true) (hrow : t < Tryz.prog.types.size)
    (h : DataW.Trod enc Tryz.prog W 0 (fun _ => true) true t v d p) (hb : Below W.heap.size W W') (hlt : ∀ x ∈ p, x.block < W.heap.size) : DataW.Trod enc Tryz.prog W' 0 (fun b => decide (b < W.heap.size)) true t v d p :=
  Below.trod laidOut hr hrow h hb hlt
def I64 (n : Int) : Prop := -9223372036854775808 ≤ n ∧ n ≤ 9223372036854775807
theorem i64_of_wf {n : Int} (h : (Lit.int .i64 n).wf = true) : I64 n := by
  simp [Lit.wf, IntKind.min, IntKind.max, IntKind.signed, IntKind.bits] at h
  unfold I64; omega
end Go.Proofs.YtfpbocjmlhcgiaaGreatDoor
