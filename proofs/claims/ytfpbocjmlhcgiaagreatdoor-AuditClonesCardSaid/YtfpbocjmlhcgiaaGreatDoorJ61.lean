/- The power goes, nothing chosen of what is unsafe: the disk's left, After, dies, Crash; Revive. -/
import Derived.Test.YtfpbocjmlhcgiaaGreatDoorJg16
import Derived.Maps.RangeWalk
set_option linter.unusedSimpArgs false
set_option linter.unusedVariables false
namespace Go.Proofs.YtfpbocjmlhcgiaaGreatDoor
open Go.RowKit PJ Go.Maps

theorem plain_inv {v : Value} {y : DataW Unit × List MemPlace} (h : plainElem (H := Unit) Tryz.prog 9 v = some y) : ∃ s, v = .string s := by
  have hu := Tryz.underlying9
  cases v with
  | string s => exact ⟨s, rfl⟩
  | _ =>
    exfalso
    generalize Tryz.prog = P at h hu
    simp [plainElem, hu] at h
theorem copy_zero (W : World) (ty : TypeId) (g o n cap : Nat) : (Builtin.copy_ #[99, 9] ty #[.slice (some ⟨g, o, none⟩) n cap, .string ⟨#[]⟩]).run Tryz.prog W = .ok (goInt 0) W :=
  run_copy_string (P := Tryz.prog) W 99 9 ty 5 g o n cap ⟨#[]⟩ Tryz.underlying99 (fun _ => by kernel_rfl) (Nat.zero_le _) (fun j hj => absurd hj (Nat.not_lt_zero _)) (fun j hj => absurd hj (Nat.not_lt_zero _))
theorem LJ.own {w w' : World} {B : Nat} {T : TypeId} {s : Nat} {v : Value} {n : Nat} {xs : List Value} (h : w.ownsRow B T s v n xs) (hb : LJ w w') : w'.ownsRow B T s v n xs := own_below h hb
set_option maxRecDepth 100000 in
theorem bclone_any (w : World) (g cap : Nat) (l : List UInt8) (hl : l.length ≤ 1000000) (hg : g < w.heap.size) (hc : ∀ j, j < l.length → w.cell? ⟨g, j, none⟩ = some (.int .u8 ((l.getD j 0).toNat : Int))) :
    Calls Tryz.prog 69 #[.slice (some ⟨g, 0, none⟩) l.length cap] w fun e w' => ∃ v, e = .returned v ∧ w'.ownsRow w.heap.size 5 1 v l.length (bys l) ∧ LJ w w' := by
  have heq : (binOp .eql 99 (.slice (some ⟨g, 0, none⟩) l.length cap) (.slice none 0 0)).run Tryz.prog w = .ok (.bool false) w := run_eql_slice_nil w _ _ (some ⟨g, 0, none⟩) l.length cap Tryz.underlying99
  obtain ⟨iK, hiK, hzK, hsK, hbK⟩ := info_parts info_u8
  have hcells : ∀ j u, (bys l)[j]? = some u → w.cell? ⟨g, 0 + j, none⟩ = some u := by
    intro j u hu
    have hj : j < l.length := by have := (List.getElem?_eq_some_iff.1 hu).1; simpa [bys] using this
    have e : (bys l)[j]? = some (.int .u8 ((l[j]).toNat : Int)) := by simp [bys, hj]
    rw [e] at hu
    rw [Nat.zero_add, hc j hj, List.getD_eq_getElem?_getD, List.getElem?_eq_getElem hj]
    exact hu
  have HC := Lib.hid hcells
  have HL := Lib.hid (show (bys l).length = l.length * 1 by simp [bys])
  have HO := Lib.hid (show ∀ u ∈ bys l, u.oneCell' = true by
    intro u hu
    obtain ⟨c, -, rfl⟩ := List.mem_map.1 hu
    rfl)
  obtain ⟨n, hnn⟩ : ∃ n, l.length = n := ⟨_, rfl⟩
  rw [hnn] at HL heq hl ⊢
  clear hc hcells hnn
  go_enter Tryz.func69, Tryz.ntmps69
  go_wp2_with (first
    | (at_builtin; refine wpList_append_own _ rfl (.tmp 5) (.tmp 6) 99 rfl w.heap.size 5 iK (.int .u8 0) 1 1 Tryz.underlying99 hiK hzK hsK hbK rfl (by decide) _ 0 [] rfl ⟨rfl, Or.inr ⟨w.heap.size, 0, #[], rfl, Nat.le_refl _, alloc_blk w _, Nat.le_refl _, by unfold maxLen; omega, rfl, rfl⟩⟩ ⟨g, 0, none⟩ n cap (bys l) rfl HL.out (fun j u hu => by rw [addr_none]; exact ((alloc_below w _).cell (p := ⟨g, 0 + j, none⟩) hg).trans (HC.out j u hu)) HO.out (by unfold maxLen; omega) (by omega) (by simp) ?_; intro v' w1 hown1 hgrow1 _)
    | fail)
  go_ret
  have h7 : w.heap.size ≤ w1.heap.size := Nat.le_trans (alloc_below w (.cells #[] 5)).size hgrow1.size
  rw [Nat.zero_add, List.nil_append] at hown1
  exact ⟨_, rfl, hown1, ⟨hgrow1.os, hgrow1.tape, hgrow1.output, h7, fun k hk => (hgrow1.block k (Nat.lt_of_lt_of_le hk (alloc_below w (.cells #[] 5)).size) (fun e => absurd (Option.some.inj (show some k = some w.heap.size from e)) (Nat.ne_of_lt hk))).trans (Below.heap_alloc _ _ _ hk)⟩⟩
set_option maxRecDepth 100000 in
theorem after1_nil (w : World) (i : Int) (q : Nat) (h0 : 0 ≤ i) (hq : w.cell? ⟨q, 0, none⟩ = some (.slice none 0 0)) :
    Calls Tryz.prog 233 #[.int .i64 i, .pointer (some ⟨q, 0, none⟩)] w fun e w' => e = .returned (.int .i64 0) ∧ w = w' := by
  have g1 : ¬ i < 0 := by omega
  go_enter Tryz.func233, Tryz.ntmps233
  go_wp2_with fail
  go_ret
  exact ⟨rfl, rfl⟩
set_option maxRecDepth 100000 in
set_option maxHeartbeats 4000000 in
theorem left_any (w : World) (p g mb n : Nat) (safe : List UInt8) (U : Int → Option (List UInt8)) (h : DiskAt w p g mb n safe U) (hkeys : ∀ i s, U i = some s → 0 ≤ i ∧ i < n ∧ s.length = 128) (q : Nat)
    (hK : ∀ W, LJ w W → ∀ i, (U i).isSome = true → Calls Tryz.prog 233 #[.int .i64 i, .pointer (some ⟨q, 0, none⟩)] W fun e w' => e = .returned (.int .i64 0) ∧ W = w') :
    Calls Tryz.prog 76 #[.pointer (some ⟨p, 0, none⟩), .func (.func 233) #[] #[.pointer (some ⟨q, 0, none⟩)]] w fun e w' => e = .returned (.string ⟨safe.toArray⟩) ∧ LJ w w' := by
  obtain ⟨hl1, hl2, hl3, cap, cnt, ch, D, hp, hcap, hcs, hpg, hg, hmp, hmg, ho, hm, hcn⟩ := h
  have c0 : w.cell? ⟨p, 0, none⟩ = some (.slice (some ⟨g, 0, none⟩) (128 * n) cap) := cell_blk hp 0
  have c1 : w.cell? ⟨p, 1, none⟩ = some (.map (some mb)) := cell_blk hp 1
  have HCL := bclone_any w g cap safe (by omega) hg (fun j hj => (hcs j (by omega)).1)
  rw [hl1] at HCL
  have HCL := Lib.hid HCL
  have HK := Lib.hid hK
  have HKEYS := Lib.hid hkeys
  have HO := Lib.hid ho
  have HMI := Lib.hid hm
  have HL := Lib.hid hl1
  have hnc : (128 * (n : Int)) ≤ 524288 := by omega
  clear hp hcs ho hm hcn hK hkeys hl1 hcap hpg
  go_enter Tryz.func76, Tryz.ntmps76
  go_upto_region 2 with (first
    | (go_at_call 69; (with_reducible refine HCL.out.mono ?_); rintro e w1 ⟨v1, rfl, hown1, hlj1⟩; have HO1 := Lib.hid hown1; have HL1 := Lib.hid hlj1; have d1 := LJ.cell hlj1 c1; clear hown1 hlj1)
    | fail)
  rcases HO1.out.2 with ⟨-, hz⟩ | ⟨og, ocap, ocur, rfl, hBo, hog, hoc, hom, -⟩
  · omega
  have homap : w1.ownsMap Tryz.prog 3 (plainElem Tryz.prog 9) mb cnt D := by
    obtain ⟨es, clock, h4, h5⟩ := HO.out
    exact ⟨es, clock, HL1.out.block h4, h5⟩
  have hom1 := HO1.out
  go_wp2_with (first
    | (at_range; refine wpList_range_own _ rfl _ 100 rfl 3 9 law_int Tryz.underlying100 _ mb cnt D rfl homap ?_; intro w2 hrg2 hg2 hs2)
    | fail)
  go_frame
  have HOR2 := Lib.hid (show w2.ownsRow w.heap.size 5 1 (.slice (some ⟨og, 0, none⟩) (128 * n) ocap) (128 * n) (bys safe) from hom1.kept hg2 (.inr (by simp [Value.ownBlock])))
  have hl12 : LJ w1 w2 := ⟨hg2.os, hg2.tape, hg2.output, hg2.size, fun k hk => hg2.block k hk (by simp)⟩
  have HL2 := Lib.hid (HL1.out.trans hl12)
  have HRG2 := Lib.hid hrg2
  obtain ⟨r, hr⟩ : ∃ r, w1.heap.size = r := ⟨_, rfl⟩
  rw [hr] at HRG2 ⊢
  have hogr : og < r := by rw [← hr]; exact lt_blk hog
  have hrw : w.heap.size ≤ r := by rw [← hr]; exact Below.size HL1.out
  clear hrg2 hg2 hs2 hl12 homap hom1 d1 hr
  go_loopw [6, 7] (fun _ _ wr => ∃ (left : Lit → Bool) (c : Nat), Hid (wr.ranges Tryz.prog 3 (plainElem Tryz.prog 9) mb r cnt D left c) ∧ Hid (wr.ownsRow w.heap.size 5 1 (.slice (some ⟨og, 0, none⟩) (128 * n) ocap) (128 * n) (bys safe)) ∧ Hid (LJ w wr)) (fun _ _ wr => wr.rangeLeft mb r)
  case atStart => exact ⟨_, _, HRG2, HOR2, HL2⟩
  case round =>
    obtain ⟨left, c, HRG, HOR, HLR⟩ := hrel
    go_wp2_with (first
      | (at_next; refine wpList_next_ranges _ rfl _ rfl 3 law_int (plainElem Tryz.prog 9) (Value.int .i64) Value.string (fun key kl hkey => by obtain ⟨x, rfl, _⟩ := Maps.keyOf_int_inv Tryz.underlying3 hkey; exact ⟨x, rfl⟩) (fun v y hv => ?_) mb r cnt D left c rfl HRG.out ?_ ?_)
      | fail)
    · exact plain_inv hv
    · intro hc0 hl0
      obtain ⟨g2, cap2, he, hcv⟩ := own_conv (l := safe) (n := 128 * n) (v := .slice (some ⟨og, 0, none⟩) (128 * n) ocap) (by rw [HL.out]; exact HOR.out) HL.out (by omega)
      rw [← he] at hcv
      obtain ⟨OUT, hO⟩ : ∃ OUT : ByteArray, (⟨safe.toArray⟩ : ByteArray) = OUT := ⟨_, rfl⟩
      rw [hO] at hcv
      have HOUT := Lib.hid hO
      clear hc0 hl0 he hO
      go_wp2_with fail
      go_ret
      exact ⟨ret_str HOUT.out.symm, HLR.out⟩
    · intro x s kl y ys w5 c5 hkey hlk hR hat hrg5 hlt5 hgr5 hsz5 hen
      obtain ⟨x', ex, hkl, hwx⟩ := Maps.keyOf_int_inv Tryz.underlying3 hkey
      cases ex
      subst hkl
      have hhas : has D (.int .i64 x) = true := has_true_of_atKey hat
      rw [(HMI.out x).1] at hhas
      obtain ⟨us, hus⟩ := Option.isSome_iff_exists.1 hhas
      obtain ⟨k1, k2, -⟩ := HKEYS.out x us hus
      have hl5 : LJ w w5 := ⟨hgr5.os.trans HLR.out.os, hgr5.tape.trans HLR.out.tape, hgr5.output.trans HLR.out.output, by have := Below.size HLR.out; omega, fun k hk => (hgr5.block k (by have := Below.size HLR.out; omega) (by simp; omega)).trans (Below.block HLR.out k hk)⟩
      have HCA := Lib.hid (HK.out w5.drew hl5.drew x hhas)
      have HOR5 := Lib.hid (HOR.out.kept hgr5 (.inr (by simp [Value.ownBlock]; omega)))
      have HL5 := Lib.hid hl5
      have HRG5 := Lib.hid hrg5
      obtain ⟨k, rfl⟩ := Int.eq_ofNat_of_zero_le k1
      have hk : k < n := by omega
      have hwk : IntKind.i64.wrap ((k : Int) * 128) = (k : Int) * 128 := by rw [IntKind.wrap_i64]; omega
      have hk0 : ¬ (k : Int) * 128 < 0 := by omega
      have hk00 : (0 : Int) ≤ (k : Int) * 128 := by omega
      have hk1 : (k : Int) * 128 ≤ 128 * (n : Int) := by omega
      have hkt : ((k : Int) * 128).toNat = k * 128 := by omega
      have hkb : k * 128 ≤ 128 * n := by omega
      have hkc : 128 * n ≤ ocap := hoc
      have hex : s.extract 0 0 = ⟨#[]⟩ := by
        apply ByteArray.ext
        apply Array.toList_inj.1
        have := ex_list s 0 0
        rw [this]
        simp
      have hcz := copy_zero
      have hcz2 : ∀ (W : World) (ty : TypeId), (Builtin.copy_ #[99, 9] ty #[.slice (some ⟨og, k * 128, none⟩) (128 * n - k * 128) (ocap - k * 128), .string (s.extract 0 (min (0 : Int) 128).toNat)]).run Tryz.prog W = .ok (goInt 0) W := fun W ty => by
        have e : (min (0 : Int) 128).toNat = 0 := by decide
        rw [e, hex]
        exact copy_zero W ty og _ _ _
      clear hlk hR hat hgr5 hsz5 hl5 hrg5 hhas hus hkey hwx
      go_upto_region 5 with fail
      go_region_with (go_at_call 233; (with_reducible refine HCA.out.mono ?_); rintro e w6 ⟨rfl, hw6⟩; subst hw6)
      all_goals
        go_wp2_with fail
        go_roundw
        case rel => exact ⟨_, _, Lib.hid (show w5.drew.ranges Tryz.prog 3 (plainElem Tryz.prog 9) mb r cnt D (fun z => left z && !z.sameKey (.int .i64 (k : Int))) c5 from HRG5.out), Lib.hid (show w5.drew.ownsRow w.heap.size 5 1 (.slice (some ⟨og, 0, none⟩) (128 * n) ocap) (128 * n) (bys safe) from HOR5.out), Lib.hid HL5.out.drew⟩
        case measure => (first | (show World.rangeLeft _ mb r < _; rw [show World.rangeLeft w5.drew mb r = World.rangeLeft w5 mb r from rfl, HRG5.out.left_eq, HRG.out.left_eq]; exact hlt5) | (rw [HRG5.out.left_eq, HRG.out.left_eq]; exact hlt5))
/-- A disk whose power is gone, nothing unsafe. -/
def DeadAt (w : World) (p g mb n : Nat) (safe : List UInt8) : Prop :=
  safe.length = 128 * n ∧ 1 ≤ n ∧ n ≤ 4096 ∧ ∃ cap, ∃ ch : Option Addr × Nat × Nat, w.heap[p]? = some (.cells #[.slice (some ⟨g, 0, none⟩) (128 * n) cap, .map (some mb), .int .i64 0, .slice ch.1 ch.2.1 ch.2.2, .bool true] 102 (0, 0)) ∧ 128 * n ≤ cap ∧
    (∀ j, j < 128 * n → w.cell? ⟨g, j, none⟩ = some (.int .u8 ((safe.getD j 0).toNat : Int)) ∧ w.frozen? ⟨g, j, none⟩ = false) ∧ p ≠ g ∧ g < w.heap.size ∧ mb ≠ p ∧ mb ≠ g ∧ w.heap[mb]? = some (.map #[] 0)
set_option maxRecDepth 100000 in
set_option maxHeartbeats 2000000 in
theorem after_any (w : World) (p g mb n : Nat) (safe : List UInt8) (U : Int → Option (List UInt8)) (h : DiskAt w p g mb n safe U) (hkeys : ∀ i s, U i = some s → 0 ≤ i ∧ i < n ∧ s.length = 128) (a : Option Addr) (n' c : Nat) (hv : Value.slice a n' c = .slice none 0 0 ∨ ∀ i, U i = none) :
    Calls Tryz.prog 209 #[.pointer (some ⟨p, 0, none⟩), .slice a n' c] w fun e w' => e = .returned (.string ⟨safe.toArray⟩) ∧ LJ w w' := by
  have hmf : ∀ (fn : Fn) (first cap : Array Value) (w : World), (Instr.makeFunc fn first cap).run Tryz.prog w = .ok (.func fn first cap) w := fun _ _ _ _ => rfl
  · skip
    obtain ⟨w1, hw1⟩ : ∃ w1, w.alloc (.cells #[.slice a n' c] 64) = w1 := ⟨_, rfl⟩
    have hl1 : LJ w w1 := by rw [← hw1]; exact (LJ.refl w).alloc _
    have x0 : w1.cell? ⟨w.heap.size, 0, none⟩ = some (.slice a n' c) := by rw [← hw1]; exact cell_blk (alloc_blk w _) 0
    have HLF := Lib.hid (left_any w1 p g mb n safe U (h.later hl1) hkeys w.heap.size (fun W hW i hi => by
      obtain ⟨s, hs⟩ := Option.isSome_iff_exists.1 hi
      rcases hv with e | e
      · rw [e] at x0
        exact after1_nil W i w.heap.size (hkeys i s hs).1 (LJ.cell hW x0)
      · rw [e i] at hs; cases hs))
    have HW1 := Lib.hid hw1
    have HL1 := Lib.hid hl1
    clear h hkeys hv hw1 hl1 x0
    go_enter Tryz.func209, Tryz.ntmps209
    go_upto_region 1 with fail
    rw [HW1.out]
    go_wp2_with (first
      | (go_at_call 76; (with_reducible refine HLF.out.mono ?_); rintro e w2 ⟨rfl, hl2⟩)
      | fail)
    go_ret
    exact ⟨rfl, HL1.out.trans hl2⟩
theorem DeadAt.born (w1 w2 w3 : World) (p n : Nat) (s : ByteArray) (safe : List UInt8) (hs : s.data.toList = safe) (hl : safe.length = 128 * n) (h1 : 1 ≤ n) (h2 : n ≤ 4096) (hp : p < w1.heap.size) (cap : Nat) (hcap : grownCap w1 s.size 0 5 = cap) (hw2 : Lib.bytesWorld w1 5 s = w2) (hw3 : w2.alloc (.map #[] 0) = w3)
    (cs : Array Value) (ch : Option Addr × Nat × Nat) (hcs : ((((cs.setIfInBounds 0 (.slice (some ⟨w1.heap.size, 0, none⟩) s.size cap)).setIfInBounds 1 (.map (some (w1.heap.size + 1)))).setIfInBounds 2 (.int .i64 0)).setIfInBounds 4 (.bool true)) = #[.slice (some ⟨w1.heap.size, 0, none⟩) s.size cap, .map (some (w1.heap.size + 1)), .int .i64 0, .slice ch.1 ch.2.1 ch.2.2, .bool true])
    (hc : w3.heap[p]? = some (.cells cs 102 (0, 0))) (w' : World)
    (hw' : ((((w3.setCell ⟨p, 0, none⟩ (.slice (some ⟨w1.heap.size, 0, none⟩) s.size cap)).setCell ⟨p, 1, none⟩ (.map (some (w1.heap.size + 1)))).setCell ⟨p, 2, none⟩ (.int .i64 0)).setCell ⟨p, 4, none⟩ (.bool true)) = w') :
    DeadAt w' p w1.heap.size (w1.heap.size + 1) n safe ∧ w1.heap.size + 1 < w'.heap.size ∧ OnlyJ (fun q => q = p) w3 w' := by
  have hsz : s.size = 128 * n := by rw [← hl, ← hs, Array.length_toList]; rfl
  have hge : s.size ≤ cap := by rw [← hcap]; exact grownCap_ge _ _ _ _
  have hz2 : w2.heap.size = w1.heap.size + 1 := by rw [← hw2]; exact Lib.bytesWorld_size _ _ _
  have hz3 : w3.heap.size = w1.heap.size + 1 + 1 := by rw [← hw3, World.size_alloc, hz2]
  have ho : OnlyJ (fun q => q = p) w3 w' := by
    rw [← hw']
    exact (((setCell_only w3 p 0 _).trans (setCell_only _ p 1 _)).trans (setCell_only _ p 2 _)).trans (setCell_only _ p 4 _)
  have hcell : ∀ j, j < s.size → w2.cell? ⟨w1.heap.size, j, none⟩ = some (.int .u8 (s.data.toList.getD j 0).toNat) := fun j hj => by rw [← hw2]; exact Lib.bytesWorld_cell _ _ _ _ hj
  have hfr : ∀ j, j < s.size → w2.frozen? ⟨w1.heap.size, j, none⟩ = false := fun j hj => by
    rw [← hw2]
    simp only [World.frozen?, Lib.bytesWorld_at_new]
    have hb : s.size ≤ (Lib.bytesCells w1 5 s).size := by
      simp [Lib.bytesCells]
    simp
    omega
  have hg3 : w3.heap[w1.heap.size]? = w2.heap[w1.heap.size]? := by rw [← hw3]; exact Below.heap_alloc _ _ _ (by omega)
  have hg' : w'.heap[w1.heap.size]? = w2.heap[w1.heap.size]? := (ho.block _ (by omega) (by show w1.heap.size ≠ p; omega)).trans hg3
  have hm' : w'.heap[w1.heap.size + 1]? = some (.map #[] 0) := by
    rw [ho.block _ (by omega) (by show w1.heap.size + 1 ≠ p; omega), ← hw3]
    have := alloc_blk w2 (.map #[] 0)
    rw [hz2] at this
    exact this
  have hp' : w'.heap[p]? = some (.cells #[.slice (some ⟨w1.heap.size, 0, none⟩) s.size cap, .map (some (w1.heap.size + 1)), .int .i64 0, .slice ch.1 ch.2.1 ch.2.2, .bool true] 102 (0, 0)) := by
    have c4 := heap_setCell_same _ _ 4 _ _ (.bool true) (heap_setCell_same _ _ 2 _ _ (.int .i64 0) (heap_setCell_same _ _ 1 _ _ (.map (some (w1.heap.size + 1))) (heap_setCell_same _ _ 0 _ _ (.slice (some ⟨w1.heap.size, 0, none⟩) s.size cap) hc)))
    rw [hw', hcs] at c4
    exact c4
  have hsz' := ho.size
  refine ⟨⟨hl, h1, h2, cap, ch, by rw [← hsz]; exact hp', by omega, fun j hj => ?_, by omega, by omega, by omega, by omega, hm'⟩, by omega, ho⟩
  rw [← hs]
  exact ⟨(World.cell?_of_block (a := ⟨w1.heap.size, j, none⟩) hg').trans (hcell j (by omega)), (World.frozen?_of_block (a := ⟨w1.heap.size, j, none⟩) hg').trans (hfr j (by omega))⟩
set_option maxRecDepth 100000 in
set_option maxHeartbeats 2000000 in
theorem dies_any (w : World) (p g mb n : Nat) (safe : List UInt8) (U : Int → Option (List UInt8)) (h : DiskAt w p g mb n safe U) (hkeys : ∀ i s, U i = some s → 0 ≤ i ∧ i < n ∧ s.length = 128) (a : Option Addr) (n' c : Nat) (hv : Value.slice a n' c = .slice none 0 0 ∨ ∀ i, U i = none) :
    Calls Tryz.prog 171 #[.pointer (some ⟨p, 0, none⟩), .slice a n' c] w fun e w' => e = .returned (.tuple #[]) ∧ ∃ g' mb', DeadAt w' p g' mb' n safe ∧ w.heap.size ≤ g' ∧ w.heap.size ≤ mb' ∧ mb' < w'.heap.size ∧ OnlyJ (fun q => q = p) w w' := by
  have hmm := @run_makeMap Tryz.prog
  have HA := Lib.hid (after_any w p g mb n safe U h hkeys a n' c hv)
  obtain ⟨hl1, hl2, hl3, cap, cnt, ch, D, hp, hcap, hcs, hpg, hg, hmp, hmg, ho, hm, hcn⟩ := h
  obtain ⟨OUT, hO⟩ : ∃ OUT : ByteArray, (⟨safe.toArray⟩ : ByteArray) = OUT := ⟨_, rfl⟩
  have hOd : OUT.data.toList = safe := by rw [← hO]
  have hOs : OUT.size = 128 * n := by
    have : OUT.data.toList.length = 128 * n := by rw [hOd, hl1]
    rw [← this, Array.length_toList]; rfl
  have HOS := Lib.hid hOs
  clear hOs
  rw [hO] at HA
  have hconv : ∀ W : World, (convert 9 99 (.string OUT)).run Tryz.prog W = .ok (.slice (some ⟨W.heap.size, 0, none⟩) OUT.size (grownCap W OUT.size 0 5)) (Lib.bytesWorld W 5 OUT) :=
    fun W => Lib.run_convert_string_bytes W _ _ _ OUT Tryz.underlying9 Tryz.underlying99 Tryz.underlying5
  have hpl := lt_blk hp
  have HP := Lib.hid hp
  have HOD := Lib.hid hOd
  have HL := Lib.hid (And.intro hl1 (And.intro hl2 hl3))
  clear hcs ho hm hcn hO hOd hl1 hcap hpg hv hkeys hp hmp hmg hg
  go_enter Tryz.func171, Tryz.ntmps171
  go_wp2_with (first
    | (go_at_call 209; (with_reducible refine HA.out.mono ?_); rintro e w1 ⟨rfl, hlj1⟩; have HL1 := Lib.hid hlj1
       have hc1 := hconv w1
       obtain ⟨w2, hw2⟩ : ∃ w2, Lib.bytesWorld w1 5 OUT = w2 := ⟨_, rfl⟩
       obtain ⟨cp, hcp⟩ : ∃ cp, grownCap w1 OUT.size 0 5 = cp := ⟨_, rfl⟩
       rw [hw2, hcp] at hc1
       have hz2 : w2.heap.size = w1.heap.size + 1 := by rw [← hw2]; exact Lib.bytesWorld_size _ _ _
       have hmk := hmm 100 w2
       rw [hz2] at hmk
       obtain ⟨w3, hw3⟩ : ∃ w3, w2.alloc (.map #[] 0) = w3 := ⟨_, rfl⟩
       rw [hw3] at hmk
       have hl13 : LJ w1 w3 := (by rw [← hw3, ← hw2]; exact LJ.trans (below_bytes w1 5 OUT) ((LJ.refl _).alloc _))
       have hp3 := hl13.block (hlj1.block HP.out)
       have f0 := free_blk hp3 0
       have f1 := free_blk hp3 1
       have f2 := free_blk hp3 2
       have f4 := free_blk hp3 4
       have k0 : w3.cell? ⟨p, 0, none⟩ = some (.slice (some ⟨g, 0, none⟩) (128 * n) cap) := cell_blk hp3 0
       have k1 : w3.cell? ⟨p, 1, none⟩ = some (.map (some mb)) := cell_blk hp3 1
       have k2 : w3.cell? ⟨p, 2, none⟩ = some (.int .i64 0) := cell_blk hp3 2
       have k4 : w3.cell? ⟨p, 4, none⟩ = some (.bool false) := cell_blk hp3 4
       have HP3 := Lib.hid hp3
       have HW2 := Lib.hid hw2
       have HW3 := Lib.hid hw3
       have HL13 := Lib.hid hl13
       have HCP := Lib.hid hcp
       have HZ2 := Lib.hid hz2
       clear hlj1 hw2 hw3 hl13 hp3 hconv hmm hcp hz2)
    | fail)
  go_end0
  have hps : p < w1.heap.size := by have := Below.size HL1.out; omega
  obtain ⟨hd, hs, ho⟩ := DeadAt.born w1 w2 w3 p n OUT safe HOD.out HL.out.1 HL.out.2.1 HL.out.2.2 hps cp HCP.out HW2.out HW3.out _ ch rfl HP3.out _ rfl
  have h03 : LJ w w3 := HL1.out.trans HL13.out
  have hw1 := Below.size HL1.out
  exact ⟨rfl, w1.heap.size, w1.heap.size + 1, hd, hw1, by omega, hs, (OnlyJ.of_below h03).trans ho⟩
end Go.Proofs.YtfpbocjmlhcgiaaGreatDoor
