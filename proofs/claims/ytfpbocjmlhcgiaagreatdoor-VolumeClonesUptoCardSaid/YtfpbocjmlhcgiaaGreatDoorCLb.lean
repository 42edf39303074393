/- CLb, merged: CL3 CL5 CL1. -/
import Derived.Test.YtfpbocjmlhcgiaaGreatDoorJ61
import Derived.Test.YtfpbocjmlhcgiaaGreatDoorJg19
import Derived.Laws.Rows
import Derived.BigQuiet
set_option linter.unusedSimpArgs false
set_option linter.unusedVariables false
/- What is left of a disk, whatever is chosen; the disk's Image. -/
namespace Go.Proofs.YtfpbocjmlhcgiaaGreatDoor
open Go.RowKit PJ Go.Maps

/-- So many bytes of a sector that was written, the others as they were. -/
def mixT (m : Int) (s base : List UInt8) : List UInt8 := s.take (min (max 0 m) 128).toNat ++ base.drop (min (max 0 m) 128).toNat
theorem mixT_same (m : Int) (s : List UInt8) : mixT m s s = s := List.take_append_drop _ _
theorem mixT_all {m : Int} (hm : 128 ≤ m) {s base : List UInt8} (h1 : s.length = 128) (h2 : base.length = 128) : mixT m s base = s := by
  unfold mixT
  rw [show (min (max 0 m) 128).toNat = 128 from by omega, List.take_of_length_le (by omega), List.drop_eq_nil_of_le (by omega), List.append_nil]
theorem safT_len {L : List UInt8} {n i : Nat} (hl : L.length = 128 * n) (hi : i < n) : (safT L i).length = 128 := by
  unfold safT
  rw [List.length_take, List.length_drop]
  omega
theorem safT_set {L : List UInt8} {n i k : Nat} {s : List UInt8} (hl : L.length = 128 * n) (hk : k < n) (hs : s.length = 128) (hi : i < n) : safT (setSec L k s) i = if i = k then s else safT L i := by
  unfold safT
  split
  · rename_i e
    subst e
    refine sec_of (setSec_length hl hk hs) hk hs fun j hj => ?_
    rw [setSec_in hl hk hs _ (by omega) (by omega)]
    congr 1
    omega
  · rename_i e
    refine sec_of (n := n) (setSec_length hl hk hs) hi (by rw [List.length_take, List.length_drop]; omega) fun j hj => ?_
    rw [setSec_out hl hk hs _ (by omega), List.getD_eq_getElem?_getD, List.getD_eq_getElem?_getD, List.getElem?_take, if_pos hj, List.getElem?_drop]
theorem setSec_part {L : List UInt8} {n k t : Nat} {s : List UInt8} (hl : L.length = 128 * n) (hk : k < n) (hs : s.length = 128) (ht : t ≤ 128) :
    setSec L k (s.take t ++ (safT L k).drop t) = L.take (128 * k) ++ (s.take t ++ L.drop (128 * k + t)) := by
  unfold setSec safT
  rw [List.append_assoc, List.append_assoc]
  congr 2
  rw [List.drop_take, List.drop_drop]
  have e : (L.drop (128 * k + t)).take (128 - t) ++ (L.drop (128 * k + t)).drop (128 - t) = L.drop (128 * k + t) := List.take_append_drop _ _
  rw [List.drop_drop, show 128 * k + t + (128 - t) = 128 * k + 128 from by omega] at e
  exact e
theorem own_sets {g cap n : Nat} {B : Nat} {T : TypeId} : ∀ (vs : List Value) (o : Nat) (w : World) (xs : List Value), w.ownsRow B T 1 (.slice (some ⟨g, 0, none⟩) n cap) n xs → o + vs.length ≤ n → (w.setCells g o vs).ownsRow B T 1 (.slice (some ⟨g, 0, none⟩) n cap) n (xs.take o ++ (vs ++ xs.drop (o + vs.length)))
  | [], o, w, xs, h, _ => by
    rw [List.nil_append, List.length_nil, Nat.add_zero, List.take_append_drop]
    exact h
  | v :: r, o, w, xs, h, ho => by
    have hx : xs.length = n * 1 := h.1
    simp only [List.length_cons] at ho
    have h2 := own_sets r (o + 1) (w.setCell ⟨g, o, none⟩ v) (xs.set o v) (h.stored o v).1 (by omega)
    have e : (xs.set o v).take (o + 1) ++ (r ++ (xs.set o v).drop (o + 1 + r.length)) = xs.take o ++ (v :: r ++ xs.drop (o + (v :: r).length)) := by
      rw [List.take_add_one, List.getElem?_set_self (by omega), List.take_set_of_le (Nat.le_refl _), List.drop_set_of_lt (by omega), Option.toList_some, List.append_assoc, List.length_cons, show o + (r.length + 1) = o + 1 + r.length from by omega]
      rfl
    rw [e] at h2
    exact h2
set_option maxRecDepth 100000 in
set_option maxHeartbeats 4000000 in
theorem left_gen (w : World) (p g mb n : Nat) (safe : List UInt8) (U : Int → Option (List UInt8)) (h : DiskAt w p g mb n safe U) (hkeys : ∀ i s, U i = some s → 0 ≤ i ∧ i < n ∧ s.length = 128) (kf : Nat) (hkf : ∀ args w, (callFunc kf args).run Tryz.prog w = .ok (.enter kf args) w) (capv : Array Value) (m : Nat → Int) (hm64 : ∀ i, -9223372036854775808 ≤ m i ∧ m i ≤ 9223372036854775807)
    (hK : ∀ W, LJ w W → ∀ i : Nat, (U i).isSome = true → Calls Tryz.prog kf (#[.int .i64 i] ++ capv) W fun e w' => e = .returned (.int .i64 (m i)) ∧ W = w') :
    Calls Tryz.prog 76 #[.pointer (some ⟨p, 0, none⟩), .func (.func kf) #[] capv] w fun e w' => ∃ L : List UInt8, e = .returned (.string ⟨L.toArray⟩) ∧ L.length = 128 * n ∧ (∀ i, i < n → safT L i = mixT (m i) (secT safe U i) (safT safe i)) ∧ LJ w w' := by
  obtain ⟨hl1, hl2, hl3, cap, cnt, ch, D, hp, hcap, hcs, hpg, hg, hmp, hmg, ho, hm, hcn⟩ := h
  have c0 : w.cell? ⟨p, 0, none⟩ = some (.slice (some ⟨g, 0, none⟩) (128 * n) cap) := cell_blk hp 0
  have c1 : w.cell? ⟨p, 1, none⟩ = some (.map (some mb)) := cell_blk hp 1
  have HCL := bclone_any w g cap safe (by omega) hg (fun j hj => (hcs j (by omega)).1)
  rw [hl1] at HCL
  have HCL := Lib.hid HCL
  have HK := Lib.hid hK
  have HKEYS := Lib.hid hkeys
  have HO := Lib.hid ho
  have HMI := Lib.hid hm
  have HL := Lib.hid hl1
  have HM64 := Lib.hid hm64
  have hnc : (128 * (n : Int)) ≤ 524288 := by omega
  clear hp hcs ho hm hcn hK hkeys hl1 hcap hpg hm64
  go_enter Tryz.func76, Tryz.ntmps76
  go_upto_region 2 with (first
    | (go_at_call 69; (with_reducible refine HCL.out.mono ?_); rintro e w1 ⟨v1, rfl, hown1, hlj1⟩; have HO1 := Lib.hid hown1; have HL1 := Lib.hid hlj1; have d1 := LJ.cell hlj1 c1; clear hown1 hlj1)
    | fail)
  rcases HO1.out.2 with ⟨-, hz⟩ | ⟨og, ocap, ocur, rfl, hBo, hog, hoc, hom, -⟩
  · omega
  have homap : w1.ownsMap Tryz.prog 3 (plainElem Tryz.prog 9) mb cnt D := by
    obtain ⟨es, clock, h4, h5⟩ := HO.out
    exact ⟨es, clock, HL1.out.block h4, h5⟩
  have hom1 := HO1.out
  go_wp2_with (first
    | (at_range; refine wpList_range_own _ rfl _ 100 rfl 3 9 law_int Tryz.underlying100 _ mb cnt D rfl homap ?_; intro w2 hrg2 hg2 hs2)
    | fail)
  go_frame
  have HOR2 := Lib.hid (show w2.ownsRow w.heap.size 5 1 (.slice (some ⟨og, 0, none⟩) (128 * n) ocap) (128 * n) (bys safe) from hom1.kept hg2 (.inr (by simp [Value.ownBlock])))
  have hl12 : LJ w1 w2 := ⟨hg2.os, hg2.tape, hg2.output, hg2.size, fun k hk => hg2.block k hk (by simp)⟩
  have HL2 := Lib.hid (HL1.out.trans hl12)
  have HRG2 := Lib.hid hrg2
  have HORG := Lib.hid (show mb < w.heap.size ∧ w.heap.size ≤ og from ⟨HO.out.lt, hBo⟩)
  obtain ⟨r, hr⟩ : ∃ r, w1.heap.size = r := ⟨_, rfl⟩
  rw [hr] at HRG2 ⊢
  have hogr : og < r := by rw [← hr]; exact lt_blk hog
  have hrw : w.heap.size ≤ r := by rw [← hr]; exact Below.size HL1.out
  clear hrg2 hg2 hs2 hl12 homap hom1 d1 hr
  go_loopw [6, 7] (fun _ _ wr => ∃ (left : Lit → Bool) (c : Nat) (L : List UInt8), Hid (wr.ranges Tryz.prog 3 (plainElem Tryz.prog 9) mb r cnt D left c) ∧ Hid (wr.ownsRow w.heap.size 5 1 (.slice (some ⟨og, 0, none⟩) (128 * n) ocap) (128 * n) (bys L)) ∧ Hid (L.length = 128 * n ∧ ∀ i, i < n → safT L i = if left (.int .i64 i) = true then safT safe i else mixT (m i) (secT safe U i) (safT safe i)) ∧ Hid (LJ w wr)) (fun _ _ wr => wr.rangeLeft mb r)
  case atStart =>
    refine ⟨_, _, safe, HRG2, HOR2, Lib.hid ⟨HL.out, fun i hi => ?_⟩, HL2⟩
    split
    · rfl
    · rename_i hno
      have h1 := (HMI.out (i : Int)).1
      rw [h1] at hno
      have h2 : U (i : Int) = none := by
        cases hu : U (i : Int) with
        | none => rfl
        | some s => rw [hu] at hno; exact absurd rfl hno
      rw [show secT safe U i = safT safe i from by unfold secT; rw [h2]; rfl, mixT_same]
  case round =>
    obtain ⟨left, c, L, HRG, HOR, HLL, HLR⟩ := hrel
    go_wp2_with (first
      | (at_next; refine wpList_next_ranges _ rfl _ rfl 3 law_int (plainElem Tryz.prog 9) (Value.int .i64) Value.string (fun key kl hkey => by obtain ⟨x, rfl, _⟩ := Maps.keyOf_int_inv Tryz.underlying3 hkey; exact ⟨x, rfl⟩) (fun v y hv => ?_) mb r cnt D left c rfl HRG.out ?_ ?_)
      | fail)
    · exact plain_inv hv
    · intro hc0 hl0
      have HL0 := Lib.hid hl0
      obtain ⟨g2, cap2, he, hcv⟩ := own_conv (l := L) (n := 128 * n) (v := .slice (some ⟨og, 0, none⟩) (128 * n) ocap) (by rw [HLL.out.1]; exact HOR.out) HLL.out.1 (by omega)
      rw [← he] at hcv
      obtain ⟨OUT, hO⟩ : ∃ OUT : ByteArray, (⟨L.toArray⟩ : ByteArray) = OUT := ⟨_, rfl⟩
      rw [hO] at hcv
      have HOUT := Lib.hid hO
      clear hc0 hl0 he hO
      go_wp2_with fail
      go_ret
      refine ⟨L, ret_str HOUT.out.symm, HLL.out.1, fun i hi => ?_, HLR.out⟩
      have h1 := HLL.out.2 i hi
      rw [if_neg (by rw [HL0.out]; simp)] at h1
      exact h1
    · intro x s kl y ys w5 c5 hkey hlk hR hat hrg5 hlt5 hgr5 hsz5 hen
      obtain ⟨x', ex, hkl, hwx⟩ := Maps.keyOf_int_inv Tryz.underlying3 hkey
      cases ex
      subst hkl
      have hhas : has D (.int .i64 x) = true := has_true_of_atKey hat
      rw [(HMI.out x).1] at hhas
      obtain ⟨us, hus⟩ := Option.isSome_iff_exists.1 hhas
      obtain ⟨k1, k2, k3⟩ := HKEYS.out x us hus
      have hsd : s.data.toList = us := by
        have h1 := hat (.lit (.string []))
        rw [(HMI.out x).2, hus] at h1
        have h1' : (DataW.lit (.string us) : DataW Unit) = y := h1
        subst h1'
        have h2 := plain_str hR
        have h3 : s = ⟨us.toArray⟩ := Value.string.inj h2
        rw [h3]
      obtain ⟨k, rfl⟩ := Int.eq_ofNat_of_zero_le k1
      have hk : k < n := by omega
      have hs128 : s.size = 128 := by
        have : s.data.toList.length = s.size := by rw [Array.length_toList]; rfl
        rw [hsd, k3] at this
        omega
      have hl5 : LJ w w5 := ⟨hgr5.os.trans HLR.out.os, hgr5.tape.trans HLR.out.tape, hgr5.output.trans HLR.out.output, by have := Below.size HLR.out; omega, fun k hk => (hgr5.block k (by have := Below.size HLR.out; omega) (by simp; omega)).trans (Below.block HLR.out k hk)⟩
      obtain ⟨M, hM⟩ : ∃ M, m k = M := ⟨_, rfl⟩
      have hM64 := HM64.out k
      rw [hM] at hM64
      obtain ⟨t, ht⟩ : ∃ t : Nat, min (max 0 M) 128 = (t : Int) := ⟨(min (max 0 M) 128).toNat, by omega⟩
      have ht2 : t ≤ 128 := by omega
      have HCA := HK.out w5.drew hl5.drew k hhas
      rw [hM] at HCA
      have HCA := Lib.hid HCA
      have HOR5 := Lib.hid (HOR.out.kept hgr5 (.inr (by simp [Value.ownBlock]; omega)))
      have HL5 := Lib.hid hl5
      have HRG5 := Lib.hid hrg5
      obtain ⟨ST, hST⟩ : ∃ ST : ByteArray, s.extract 0 t = ST := ⟨_, rfl⟩
      have hSTl : ST.data.toList = us.take t := by rw [← hST, ex_list, hsd]; simp
      have hSTs : ST.size = t := by
        have : ST.data.toList.length = ST.size := by rw [Array.length_toList]; rfl
        rw [hSTl, List.length_take, k3] at this
        omega
      obtain ⟨wq, hwq⟩ : ∃ wq, w5.drew.setCells og (k * 128) ((us.take t).map fun x => Value.int .u8 (x.toNat : Int)) = wq := ⟨_, rfl⟩
      have hcopy : ∀ (ty : TypeId) (cp : Nat), (Builtin.copy_ #[99, 9] ty #[.slice (some ⟨og, k * 128, none⟩) (128 * n - k * 128) cp, .string ST]).run Tryz.prog w5.drew = .ok (goInt ST.size) wq := fun ty cp => by
        have h1 := run_copy_string (P := Tryz.prog) w5.drew 99 9 ty 5 og (k * 128) (128 * n - k * 128) cp ST Tryz.underlying99 (fun _ => by kernel_rfl) (by omega) (fun j hj => by
          have e1 := HOR5.out.cellAt (k * 128 + j) (by omega)
          show (w5.cell? ⟨og, k * 128 + j, none⟩).isSome = true
          rw [e1, List.getElem?_eq_getElem (by rw [HOR5.out.1]; omega)]
          rfl) (fun j hj => HOR5.out.frozenAt _)
        rw [hSTl, hwq] at h1
        exact h1
      have hwk : IntKind.i64.wrap ((k : Int) * 128) = (k : Int) * 128 := by rw [IntKind.wrap_i64]; omega
      have hk0 : ¬ (k : Int) * 128 < 0 := by omega
      have hk00 : (0 : Int) ≤ (k : Int) * 128 := by omega
      have hk1 : (k : Int) * 128 ≤ 128 * (n : Int) := by omega
      have hkt : ((k : Int) * 128).toNat = k * 128 := by omega
      have hkb : k * 128 ≤ 128 * n := by omega
      have hkc : 128 * n ≤ ocap := hoc
      have hst : ∀ W : World, (Instr.slice 9 (.string s) none (some (.int .i64 (t : Int))) none).run Tryz.prog W = .ok (.string ST) W := fun W => by
        have := run_slice_string_h (P := Tryz.prog) W 9 s Tryz.underlying9 .i64 (t : Int) (by omega) (by omega)
        rw [Int.toNat_natCast, hST] at this
        exact this
      have HFIN := Lib.hid (show ∃ L', wq.ownsRow w.heap.size 5 1 (.slice (some ⟨og, 0, none⟩) (128 * n) ocap) (128 * n) (bys L') ∧ (L'.length = 128 * n ∧ ∀ i, i < n → safT L' i = if (left (.int .i64 i) && !(Lit.int .i64 (i : Int)).sameKey (.int .i64 (k : Int))) = true then safT safe i else mixT (m i) (secT safe U i) (safT safe i)) ∧ w5.drew.grownBy wq (some og) ∧ LJ w wq from by
        have hmx : (us.take t ++ (safT L k).drop t).length = 128 := by
          rw [List.length_append, List.length_take, List.length_drop, safT_len HLL.out.1 hk, k3]
          omega
        have hpart := setSec_part (n := n) HLL.out.1 hk k3 ht2
        refine ⟨setSec L k (us.take t ++ (safT L k).drop t), ?_, ⟨setSec_length HLL.out.1 hk hmx, fun i hi => ?_⟩, ?_, ?_⟩
        · have h1 := own_sets ((us.take t).map fun x => Value.int .u8 (x.toNat : Int)) (k * 128) w5.drew (bys L) (show w5.drew.ownsRow _ _ _ _ _ _ from HOR5.out) (by rw [List.length_map, List.length_take]; omega)
          rw [hwq] at h1
          rw [hpart]
          have e : bys (L.take (128 * k) ++ (us.take t ++ L.drop (128 * k + t))) = (bys L).take (k * 128) ++ ((us.take t).map (fun x => Value.int .u8 (x.toNat : Int)) ++ (bys L).drop (k * 128 + ((us.take t).map fun x => Value.int .u8 (x.toNat : Int)).length)) := by
            unfold bys
            rw [List.map_append, List.map_append, List.map_take, List.map_drop, List.length_map, List.length_take, k3, show min t 128 = t from by omega, Nat.mul_comm 128 k]
          rw [e]
          exact h1
        · rw [safT_set HLL.out.1 hk hmx hi]
          by_cases e : i = k
          · subst e
            rw [if_pos rfl, if_neg (by simp [Lit.sameKey])]
            have h1 := HLL.out.2 i hi
            rw [if_pos hlk] at h1
            rw [h1, hM]
            unfold mixT
            rw [show (min (max 0 M) 128).toNat = t from by omega, show secT safe U i = us from by unfold secT; rw [hus]; rfl]
          · rw [if_neg e, HLL.out.2 i hi]
            have h2 : (Lit.int .i64 (i : Int)).sameKey (.int .i64 (k : Int)) = false := by
              simp [Lit.sameKey]
              omega
            rw [h2, Bool.not_false, Bool.and_true]
        · rw [← hwq]
          obtain ⟨q1, q2, q3, q4⟩ := cells_parts og ((us.take t).map fun x => Value.int .u8 (x.toNat : Int)) (k * 128) w5.drew
          exact ⟨q1, q2, q3, by rw [q4]; exact Nat.le_refl _, fun j hj hne => World.heap_setCells_other _ _ _ _ hj (fun e => hne (by rw [e]))⟩
        · rw [← hwq]
          obtain ⟨q1, q2, q3, q4⟩ := cells_parts og ((us.take t).map fun x => Value.int .u8 (x.toNat : Int)) (k * 128) w5.drew
          have s5 := Below.size hl5
          exact ⟨q1.trans hl5.os, q2.trans hl5.tape, q3.trans hl5.output, by rw [q4]; exact s5, fun j hj => (World.heap_setCells_other _ _ _ _ (by show j < w5.heap.size; omega) (by omega)).trans (Below.block hl5 j hj)⟩)
      have HSTS := Lib.hid hSTs
      clear hlk hR hat hgr5 hsz5 hl5 hrg5 hhas hus hkey hwx hM64 hM hST hSTl hwq hsd hSTs
      go_upto_region 5 with fail
      go_region_with (go_at_fn kf; (with_reducible refine HCA.out.mono ?_); rintro e w6 ⟨rfl, hw6⟩; subst hw6)
      all_goals
        go_wp2_with fail
        go_roundw
        case rel =>
          obtain ⟨L', f1, f2, f3, f4⟩ := HFIN.out
          exact ⟨_, _, L', Lib.hid ((show w5.drew.ranges Tryz.prog 3 (plainElem Tryz.prog 9) mb r cnt D (fun z => left z && !z.sameKey (.int .i64 (k : Int))) c5 from HRG5.out).kept f3 (by have := HRG5.out.owns.lt; intro e; have e' : mb = og := Option.some.inj e; have h1 := HORG.out; omega) (by intro e; have e' : r = og := Option.some.inj e; omega)), Lib.hid f1, Lib.hid f2, Lib.hid f4⟩
        case measure =>
          obtain ⟨L', f1, f2, f3, f4⟩ := HFIN.out
          have hkp := (show w5.drew.ranges Tryz.prog 3 (plainElem Tryz.prog 9) mb r cnt D (fun z => left z && !z.sameKey (.int .i64 (k : Int))) c5 from HRG5.out).kept f3 (by have := HRG5.out.owns.lt; intro e; have e' : mb = og := Option.some.inj e; have h1 := HORG.out; omega) (by intro e; have e' : r = og := Option.some.inj e; omega)
          rw [hkp.left_eq, HRG.out.left_eq]
          exact hlt5
end Go.Proofs.YtfpbocjmlhcgiaaGreatDoor
/- The disk's Image. -/
namespace Go.Proofs.YtfpbocjmlhcgiaaGreatDoor
open Go.RowKit PJ Go.Maps

/-- All sectors, one behind the other. -/
def imgV (n : Nat) (V : View) : List UInt8 := (List.range n).flatMap V
theorem imgV_of {L : List UInt8} {n : Nat} {V : View} (hl : L.length = 128 * n) (hV : ∀ i, i < n → safT L i = V i) : L = imgV n V := by
  have key : ∀ k, k ≤ n → L.take (128 * k) = (List.range k).flatMap V := by
    intro k
    induction k with
    | zero => intro _; simp
    | succ k ih =>
      intro hk
      rw [List.range_succ, List.flatMap_append, ← ih (by omega), List.flatMap_cons, List.flatMap_nil, List.append_nil, ← hV k (by omega), show 128 * (k + 1) = 128 * k + 128 from by omega, List.take_add]
      rfl
  have := key n (Nat.le_refl _)
  rw [List.take_of_length_le (by omega)] at this
  exact this
theorem imgV_congr {n : Nat} {V V' : View} (h : ∀ i, i < n → V i = V' i) : imgV n V = imgV n V' := by
  unfold imgV
  have : ∀ l : List Nat, (∀ i ∈ l, i < n) → l.flatMap V = l.flatMap V' := by
    intro l
    induction l with
    | nil => intro _; rfl
    | cons x r ih =>
      intro hl
      rw [List.flatMap_cons, List.flatMap_cons, h x (hl x (List.mem_cons_self ..)), ih fun i hi => hl i (List.mem_cons_of_mem _ hi)]
  exact this _ fun i hi => List.mem_range.1 hi
set_option maxRecDepth 100000 in
theorem image1_any (w : World) (i : Int) : Calls Tryz.prog 77 #[.int .i64 i] w fun e w' => e = .returned (.int .i64 128) ∧ w = w' := by
  go_enter Tryz.func77, Tryz.ntmps77
  go_wp2_with fail
  go_ret
  exact ⟨rfl, rfl⟩
set_option maxRecDepth 100000 in
theorem dimage_any (w : World) (p g mb n : Nat) (safe : List UInt8) (U : Int → Option (List UInt8)) (h : DiskAt w p g mb n safe U) (hkeys : ∀ i s, U i = some s → 0 ≤ i ∧ i < n ∧ s.length = 128) :
    Calls Tryz.prog 26 #[.pointer (some ⟨p, 0, none⟩)] w fun e w' => e = .returned (.string ⟨(imgV n (secT safe U)).toArray⟩) ∧ LJ w w' := by
  have hl1 := h.1
  have HLF := Lib.hid (left_gen w p g mb n safe U h hkeys 77 (enters_of Tryz.func77 (by kernel_rfl) rfl) #[] (fun _ => 128) (fun _ => by omega) (fun W _ i _ => image1_any W i))
  have HIM := Lib.hid (fun (L : List UInt8) (hl : L.length = 128 * n) (hs : ∀ i, i < n → safT L i = mixT 128 (secT safe U i) (safT safe i)) => show (⟨L.toArray⟩ : ByteArray) = ⟨(imgV n (secT safe U)).toArray⟩ from by
    rw [imgV_of hl (V := secT safe U) fun i hi => ?_]
    have h1 : (secT safe U i).length = 128 := by
      unfold secT
      cases hu : U (i : Int) with
      | none => exact safT_len hl1 hi
      | some s => exact (hkeys _ _ hu).2.2
    rw [hs i hi, mixT_all (by omega) h1 (safT_len hl1 hi)])
  clear h hkeys
  go_enter Tryz.func26, Tryz.ntmps26
  go_wp2_with (first
    | (go_at_call 76; (with_reducible refine HLF.out.mono ?_); rintro e w2 ⟨L, rfl, h1, h2, h3⟩)
    | fail)
  go_ret
  exact ⟨ret_str (HIM.out L h1 h2), h3⟩
end Go.Proofs.YtfpbocjmlhcgiaaGreatDoor
/- Clones: the disk's. -/
namespace Go.Proofs.YtfpbocjmlhcgiaaGreatDoor
open Go.RowKit PJ Go.Maps Go.Shelf

theorem crow_heap (w : World) (g : Nat) (cur cs : Array Value) (t : TypeId) (h : w.heap[g]? = some (.cells cur t (0, 0))) : (w.setRow g cs).heap[g]? = some (.cells cs t (0, 0)) := setRow_heap w g cur cs t (0, 0) h
theorem crow_only (w : World) (g : Nat) (cs : Array Value) : OnlyJ (fun q => q = g) w (w.setRow g cs) := ⟨rfl, rfl, rfl, by rw [setRow_size]; exact Nat.le_refl _, fun q _ hne => setRow_other w g q cs hne⟩
theorem mclone_any (w : World) (b n : Nat) (D : DataW Unit) (hown : w.ownsMap Tryz.prog 3 (plainElem Tryz.prog 9) b n D) :
    Calls Tryz.prog 70 #[.map (some b)] w fun e w' => e = .returned (.map (some w.heap.size)) ∧ w'.ownsMap Tryz.prog 3 (plainElem Tryz.prog 9) w.heap.size n D ∧ LJ w w' := by
  have h := AnyW.maps_Clone_owns Tryz.icloneA 3 (plainElem Tryz.prog 9) b n D w hown
  change Calls Tryz.prog 70 _ _ _ at h
  exact h.mono (by rintro e w' ⟨rfl, h1, _, hB⟩; exact ⟨rfl, h1, hB⟩)
set_option maxRecDepth 100000 in
set_option maxHeartbeats 4000000 in
theorem dclone_any (w : World) (p g mb n : Nat) (safe : List UInt8) (U : Int → Option (List UInt8)) (h : DiskAt w p g mb n safe U) :
    Calls Tryz.prog 16 #[.pointer (some ⟨p, 0, none⟩)] w fun e w' => ∃ p' g' mb', e = .returned (.pointer (some ⟨p', 0, none⟩)) ∧ DiskAt w' p' g' mb' n safe U ∧ (w.heap.size ≤ p' ∧ w.heap.size ≤ g' ∧ w.heap.size ≤ mb') ∧ (p' < w'.heap.size ∧ g' < w'.heap.size ∧ mb' < w'.heap.size) ∧ LJ w w' := by
  obtain ⟨hl1, hl2, hl3, cap, cnt, ch, D, hp, hcap, hcs, hpg, hg, hmp, hmg, ho, hm, hcn⟩ := h
  have HCL := fun W (hW : LJ w W) => bclone_any W g cap safe (by omega) (Nat.lt_of_lt_of_le hg (Below.size hW)) (fun j hj => hW.cell (hcs j (by omega)).1)
  rw [hl1] at HCL
  have HCL := Lib.hid HCL
  have HMC := Lib.hid (fun W (hW : LJ w W) => show Calls Tryz.prog 70 #[.map (some mb)] W fun e w' => e = .returned (.map (some W.heap.size)) ∧ w'.ownsMap Tryz.prog 3 (plainElem Tryz.prog 9) W.heap.size cnt D ∧ LJ W w' from by
    obtain ⟨es, clock, h4, h5⟩ := ho
    exact mclone_any W mb cnt D ⟨es, clock, hW.block h4, h5⟩)
  have HP := Lib.hid hp
  have HPL := Lib.hid (lt_blk hp)
  have HD := Lib.hid (And.intro hl1 (And.intro hl2 (And.intro hl3 (And.intro hm hcn))))
  obtain ⟨m, hmm⟩ : ∃ m, 128 * n = m := ⟨_, rfl⟩
  have hm1 : 1 ≤ m := by omega
  rw [hmm] at HP HCL
  have HM := Lib.hid hmm
  clear hp hcs ho hm hcn hl1 hcap hpg hg hmp hmg hl2 hl3 hmm
  go_enter Tryz.func16, Tryz.ntmps16
  go_upto_region 1 with fail
  refine wp_region_held_drew (S := fun w' => w'.heap[p]? = some (.cells #[.slice (some ⟨g, 0, none⟩) m cap, .map (some mb), .int .i64 0, .slice ch.1 ch.2.1 ch.2.2, .bool false] 102 (0, 0))) (by kernel_rfl) HP.out (fun hHeld => ?_)
  have hL := Lib.hid (LJ.refl w).drew
  refine tkS 0 hHeld ?_
  refine tkS 1 hHeld ?_
  refine tkS 2 hHeld ?_
  refine tkS 3 hHeld ?_ (hy := by intro w hSw; have l0 := cell_blk hSw 0; have l1 := cell_blk hSw 1; have l2 := cell_blk hSw 2; have l3 := cell_blk hSw 3; have l4 := cell_blk hSw 4; go_simp; (try with_reducible rfl))
  refine tkS 5 hHeld ?_
  refine tkS 6 hHeld ?_
  refine tkS 7 hHeld ?_
  refine tkS 8 hHeld ?_ (hy := by intro w hSw; have l0 := cell_blk hSw 0; have l1 := cell_blk hSw 1; have l2 := cell_blk hSw 2; have l3 := cell_blk hSw 3; have l4 := cell_blk hSw 4; go_simp; (try with_reducible rfl))
  refine tkS 10 hHeld ?_
  refine tkS 11 hHeld ?_
  refine tkS 12 hHeld ?_
  refine tkS 13 hHeld ?_ (hy := by intro w hSw; have l0 := cell_blk hSw 0; have l1 := cell_blk hSw 1; have l2 := cell_blk hSw 2; have l3 := cell_blk hSw 3; have l4 := cell_blk hSw 4; go_simp; (try with_reducible rfl))
  refine tkS 14 hHeld ?_
  refine tkS 15 hHeld ?_
  refine tkS 16 hHeld ?_
  refine tkS 17 hHeld ?_ (hy := by intro w hSw; have l0 := cell_blk hSw 0; have l1 := cell_blk hSw 1; have l2 := cell_blk hSw 2; have l3 := cell_blk hSw 3; have l4 := cell_blk hSw 4; go_simp; (try with_reducible rfl))
  refine tkS 18 hHeld ?_
  refine tkS 19 hHeld ?_
  refine tkS 20 hHeld ?_
  refine tkS 21 hHeld ?_ (hy := by intro w hSw; have l0 := cell_blk hSw 0; have l1 := cell_blk hSw 1; have l2 := cell_blk hSw 2; have l3 := cell_blk hSw 3; have l4 := cell_blk hSw 4; go_simp; (try with_reducible rfl))
  refine wpAnyH_ready (rs := [4]) (by kernel_rfl) (by simp) ?_
  refine AllReadyH.cons rfl (fun K hK => ?_) AllReadyH.nil
  go_simp
  (with_reducible refine (HCL.out _ hL.out).mono ?_); rintro e w1 ⟨v1, rfl, hown1, hx⟩
  have HO1 := Lib.hid hown1
  have hS2 := hx.block hHeld
  have hL1 := Lib.hid (hL.out.trans hx)
  clear hx hown1
  refine hK.out _ _ hS2 (fun hHeld => ?_)
  clear hK K hS2
  refine wpAnyH_ready (rs := [9]) (by kernel_rfl) (by simp) ?_
  refine AllReadyH.cons rfl (fun K hK => ?_) AllReadyH.nil
  go_simp
  (with_reducible refine (HMC.out _ hL1.out).mono ?_); rintro e w2 ⟨rfl, hown2, hx⟩
  have HO2 := Lib.hid hown2
  have HL12 := Lib.hid hx
  have hS2 := hx.block hHeld
  have hL2 := Lib.hid (hL1.out.trans hx)
  clear hx hown2
  refine hK.out _ _ hS2 (fun hHeld => ?_)
  clear hK K hS2
  rcases HO1.out.2 with ⟨-, hz⟩ | ⟨og, ocap, ocur, rfl, hBo, hog, hoc, hom, -⟩
  · omega
  refine tkS 22 hHeld ?_
  refine wpAnyH_ready (rs := [23]) (by kernel_rfl) (by simp) ?_
  refine AllReadyH.cons rfl (fun K hK => ?_) AllReadyH.nil
  go_simp
  refine hK.out _ _ (((LJ.refl w2).alloc _).block hHeld) (fun hHeld => ?_)
  clear hK K
  refine tkS 24 hHeld ?_
  refine wpAnyH_done (by kernel_rfl) ?_ _
  go_simp
  go_wp2_with fail
  go_ret
  obtain ⟨d1, d2, d3, d4, d5⟩ := HD.out
  have hmn := HM.out
  have s1 := Below.size hL1.out
  have s12 := Below.size HL12.out
  have hlW : LJ w1 (w2.alloc (.cells #[.slice (some ⟨og, 0, none⟩) m ocap, .map (some w1.heap.size), .int .i64 0, .slice ch.1 ch.2.1 ch.2.2, .bool false] 102)) := HL12.out.alloc _
  have hl2W : LJ w2 (w2.alloc (.cells #[.slice (some ⟨og, 0, none⟩) m ocap, .map (some w1.heap.size), .int .i64 0, .slice ch.1 ch.2.1 ch.2.2, .bool false] 102)) := (LJ.refl w2).alloc _
  have hogl := lt_blk hog
  have hbo : w.heap.size ≤ og := hBo
  have hml := HO2.out.lt
  have hzW : (w2.alloc (.cells #[.slice (some ⟨og, 0, none⟩) m ocap, .map (some w1.heap.size), .int .i64 0, .slice ch.1 ch.2.1 ch.2.2, .bool false] 102)).heap.size = w2.heap.size + 1 := World.size_alloc _ _
  have hblk := alloc_blk w2 (.cells #[.slice (some ⟨og, 0, none⟩) m ocap, .map (some w1.heap.size), .int .i64 0, .slice ch.1 ch.2.1 ch.2.2, .bool false] 102)
  refine ⟨w2.heap.size, og, w1.heap.size, rfl, ⟨d1, d2, d3, ocap, cnt, ch, D, by rw [hmn]; exact hblk, by omega, fun j hj => ?_, by omega, by omega, by omega, by omega, ?_, d4, d5⟩, ⟨by omega, by omega, by omega⟩, ⟨by omega, by omega, by omega⟩, hL2.out.alloc _⟩
  · have hbk := Below.block hlW og hogl
    refine ⟨(World.cell?_of_block (a := ⟨og, j, none⟩) hbk).trans ?_, (World.frozen?_of_block (a := ⟨og, j, none⟩) hbk).trans (HO1.out.frozenAt j)⟩
    rw [HO1.out.cellAt j (by omega)]
    have hjl : j < safe.length := by omega
    simp [bys, hjl]
  · obtain ⟨es, clock, h4, h5⟩ := HO2.out
    exact ⟨es, clock, hl2W.block h4, h5⟩
end Go.Proofs.YtfpbocjmlhcgiaaGreatDoor
