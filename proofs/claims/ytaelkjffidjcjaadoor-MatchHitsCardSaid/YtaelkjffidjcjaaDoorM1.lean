/- M1, merged: Steps Long Joins Counts. -/
import Derived.Test.YtaelkjffidjcjaaDoorR4
import Derived.Test.YtaelkjffidjcjaaDoorB1
import Derived.Deep.RegionHeld3
import Derived.Deep.AppendLies
set_option linter.unusedSimpArgs false
set_option linter.unusedVariables false
/- The walk of MatchSteps. -/
namespace Go.Proofs.YtaelkjffidjcjaaDoor
open Go.RowKit PX

/-- A machine, and the table that its steps read. -/
structure MX (w : World) (p : Nat) (x : Rx) : Prop where
  m : Machine w p x
  t : TabAt 0 Lib.deBruijn64tab w
theorem MX.below {w w' : World} {p : Nat} {x : Rx} (h : MX w p x) (hb : Below w.heap.size w w') : MX w' p x := ⟨h.m.below hb, TabAt.below h.t hb⟩
theorem ba_len (S : ByteArray) : S.data.toList.length = S.size := by rw [Array.length_toList]; rfl
theorem hit_some (w : World) (p : Nat) (x : Rx) (h : MX w p x) (S : ByteArray) (f a b : Nat) (hl : S.size ≤ 256) (hh : IsHit x.lang S.data.toList f a b) :
    Calls Tryd.prog 24 #[.pointer (some ⟨p, 0, none⟩), .string S, .int .i64 f] w fun e w' => e = .returned (.tuple #[.int .i64 a, .int .i64 b, .bool true]) ∧ Below w.heap.size w w' := by
  have hfl : f ≤ S.size := by have := hh.1; have := hh.2.1; have := hh.2.2.1; rw [ba_len] at this; omega
  refine (hit_any w p x S f h.m h.t ⟨by omega, by omega⟩).mono ?_
  rintro e w' ⟨hs, hb⟩
  rcases hs with ⟨hn, -⟩ | ⟨-, g, hg, -, ⟨a', b', rfl, hh'⟩ | ⟨hn, -⟩⟩
  · exact absurd ⟨by rw [ba_len]; exact hl, by omega, by rw [ba_len]; omega⟩ hn
  · obtain rfl : g = f := by omega
    obtain ⟨rfl, rfl⟩ := isHit_unique hh' hh
    exact ⟨rfl, hb⟩
  · obtain rfl : g = f := by omega
    exact (isHit_noHit hh hn).elim
theorem hit_none (w : World) (p : Nat) (x : Rx) (h : MX w p x) (S : ByteArray) (f : Nat) (hf : f ≤ 1000) (hh : 256 < S.size ∨ NoHit x.lang S.data.toList f) :
    Calls Tryd.prog 24 #[.pointer (some ⟨p, 0, none⟩), .string S, .int .i64 f] w fun e w' => e = .returned (.tuple #[.int .i64 0, .int .i64 0, .bool false]) ∧ Below w.heap.size w w' := by
  refine (hit_any w p x S f h.m h.t ⟨by omega, by omega⟩).mono ?_
  rintro e w' ⟨hs, hb⟩
  rcases hs with ⟨-, he⟩ | ⟨hl, g, hg, -, ⟨a', b', rfl, hh'⟩ | ⟨-, he⟩⟩
  · exact ⟨he, hb⟩
  · obtain rfl : g = f := by omega
    rw [ba_len] at hl
    rcases hh with hh | hh
    · omega
    · exact (isHit_noHit hh' hh).elim
  · exact ⟨he, hb⟩
theorem isHit_later {L : List UInt8 → Prop} {s : List UInt8} {f g a b : Nat} (h : IsHit L s f a b) (h1 : f ≤ g) (h2 : g ≤ a) : IsHit L s g a b :=
  ⟨h2, h.2.1, h.2.2.1, h.2.2.2.1, h.2.2.2.2.1, fun c hc => h.2.2.2.2.2 c (by omega)⟩

set_option maxRecDepth 100000 in
set_option maxHeartbeats 2000000 in
theorem steps_any (w : World) (B : Nat) (X : RxA) (S : ByteArray) (f : Int) (hB : B ≤ w.heap.size) (hin : X.In w B) (hf : I64 f) (hT : TabAt 0 Lib.deBruijn64tab w) :
    Calls Tryd.prog 8 #[X.val, .string S, .int .i64 f] w fun e w' => e = .returned (.bool true) ∧ Below w.heap.size w w' := by
  have hnew := new_any X (w.alloc (.cells X.cells.toArray 26)) B (by simp; omega) (in_box _ hB hin)
  have hbb := (Below.refl w.heap.size w).alloc (Nat.le_refl _) (.cells X.cells.toArray 26)
  have hsz : (w.alloc (.cells X.cells.toArray 26)).heap.size = w.heap.size + 1 := by simp
  obtain ⟨x, hx⟩ : ∃ x, X.bare = x := ⟨_, rfl⟩
  rw [hx] at hnew
  obtain ⟨k, mn, mx, s0, s1, s2, s3, a, cap, l⟩ := X
  simp only [RxA.val, RxA.cells] at hnew hbb hsz ⊢
  clear hx hin
  have HT := Lib.hid hT; clear hT
  by_cases hc : checkR x = 0
  · have hn2 := hnew.mono (R' := fun e w' => ∃ p, e = .returned (.tuple #[.pointer (some ⟨p, 0, none⟩), .int .i64 0]) ∧ Below w.heap.size w w' ∧ MX w' p x) (by
      rintro e w' ⟨hb, ⟨-, p, he, hp, hm⟩ | ⟨hc', -⟩⟩
      · have hbw := hbb.trans (hb.mono (by omega))
        exact ⟨p, he, hbw, hm, TabAt.below HT.out hbw⟩
      · exact absurd hc hc')
    have HN := Lib.hid hn2; clear hn2 hnew hbb hsz hc
    go_enter Tryd.func8, Tryd.ntmps8
    go_wp2_with (first
      | (go_at_call 14; refine HN.out.mono ?_; rintro e w1 ⟨p, rfl, hb1, hm1⟩; have HM1 := Lib.hid hm1; clear hm1)
      | (go_at_call 15; refine (fixed_any _ HM1.out.t).mono ?_; rintro e w2 ⟨rfl, hb2⟩; have HM2 := Lib.hid (HM1.out.below hb2); have hc2 := hb1.trans (hb2.mono hb1.size))
      | (go_at_call 22; refine (hits_any _ p x S HM2.out.m HM2.out.t).mono ?_; rintro e w3 ⟨v, hl, rfl, hsay, hown, hl256, hb3⟩; have HM3 := Lib.hid (HM2.out.below hb3); have hc3 := hc2.trans (hb3.mono hc2.size); obtain ⟨av, cv, hv, hpc⟩ := pairs_of_row hown; subst hv; have HPC := Lib.hid hpc; clear hpc; have HSAY := Lib.hid hsay; clear hown hsay))
    have hlen := ba_len S
    obtain ⟨n, hnl⟩ : ∃ n, hl.length = n := ⟨_, rfl⟩
    rw [hnl] at hl256 ⊢
    have HNL := Lib.hid hnl; clear hnl
    go_loopw [10, 11] (fun at_ i wr => ∃ k q : Nat, k ≤ n ∧ i = .int .i64 k ∧ at_ = .int .i64 q ∧ Below w3.heap.size w3 wr ∧ q ≤ 256 ∧ ((S.size ≤ 256 ∧ HitsFrom x.lang S.data.toList q (hl.drop k)) ∨ (256 < S.size ∧ hl = []))) (fun _ i _ => n - (intOf i).toNat)
    case atStart =>
      refine ⟨0, 0, by omega, rfl, rfl, Below.refl _ _, by omega, ?_⟩
      rcases HSAY.out with ⟨h1, h2⟩ | ⟨h1, h2⟩
      · exact .inl ⟨by omega, by simpa using h2⟩
      · exact .inr ⟨by omega, h2⟩
    case round =>
      obtain ⟨k, q, hk, rfl, rfl, hbr, hq, hcs⟩ := hrel
      have HMR := Lib.hid (HM3.out.below hbr)
      have hbw := hc3.trans (hbr.mono hc3.size)
      by_cases hke : k = n
      · subst hke
        have hno : 256 < S.size ∨ NoHit x.lang S.data.toList q := by
          rcases hcs with ⟨-, h⟩ | ⟨h, -⟩
          · rw [List.drop_eq_nil_of_le (by rw [HNL.out]; exact Nat.le_refl _)] at h
            cases h with
            | nil h => exact .inr h
          · exact .inl h
        have HNO := Lib.hid hno; clear hno hcs
        go_wp2_with (go_at_call 24; refine (hit_none _ p x HMR.out S q (by omega) HNO.out).mono ?_; rintro e w4 ⟨rfl, hb4⟩)
        go_ret
        exact ⟨rfl, hbw.trans (hb4.mono hbw.size)⟩
      · have hkl : k < hl.length := by rw [HNL.out]; omega
        have hne : hl ≠ [] := by rintro rfl; simp at hkl
        obtain ⟨hs256, hfr⟩ : S.size ≤ 256 ∧ HitsFrom x.lang S.data.toList q (hl.drop k) := hcs.resolve_right (fun h => hne h.2)
        obtain ⟨⟨a, b⟩, hab⟩ : ∃ r, hl[k]? = some r := ⟨hl[k], List.getElem?_eq_getElem hkl⟩
        have hdrop : hl.drop k = (a, b) :: hl.drop (k + 1) := by
          rw [List.drop_eq_getElem_cons hkl]
          rw [List.getElem?_eq_getElem hkl] at hab
          rw [Option.some.inj hab]
        rw [hdrop] at hfr
        obtain ⟨hit, hrest⟩ : IsHit x.lang S.data.toList q a b ∧ HitsFrom x.lang S.data.toList b (hl.drop (k + 1)) := by
          cases hfr with
          | cons h r => exact ⟨h, r⟩
        obtain ⟨bp, hbp, hcells⟩ := HPC.out.resolve_left hne
        obtain ⟨c0, c1⟩ := hcells k (a, b) hab
        have lt0 := World.block_lt_of_cell? _ _ c0
        have d0 : wr.cell? ⟨bp, k * 2, none⟩ = some (.int .i64 (a : Int)) := (hbr.cell (p := ⟨bp, k * 2, none⟩) lt0).trans c0
        have d1 : wr.cell? ⟨bp, k * 2 + 1, none⟩ = some (.int .i64 (b : Int)) := (hbr.cell (p := ⟨bp, k * 2 + 1, none⟩) lt0).trans c1
        have lt1 := World.block_lt_of_cell? _ _ d0
        have HD0 := Lib.hid d0
        have HD1 := Lib.hid d1
        have hqa := hit.1
        have hab2 := hit.2.1
        have hbs := hit.2.2.1
        rw [hlen] at hbs
        have HIT := Lib.hid hit
        have HRST := Lib.hid hrest
        subst hbp
        clear hit hrest hfr hdrop hab hcells c0 c1 hcs hne d0 d1
        have hkn : (k : Int) < n := by omega
        have i1 : ¬ (a : Int) < q := by omega
        have i2 : ¬ (b : Int) ≤ a := by omega
        have i3 : ¬ a < q := by omega
        have i4 : ¬ b ≤ a := by omega
        by_cases h1 : (q : Int) ≤ f
        · by_cases h2 : f ≤ a
          · obtain ⟨g, rfl⟩ : ∃ g : Nat, f = g := ⟨f.toNat, by omega⟩
            have HIT2 := Lib.hid (isHit_later HIT.out (by omega : q ≤ g) (by omega))
            have HH1 := Lib.hid (hit_some wr p x HMR.out S q a b hs256 HIT.out)
            go_wp2_with (first
              | (go_at_call 24; (with_reducible refine HH1.out.mono ?_); rintro e w4 ⟨rfl, hb4⟩; have HM4 := Lib.hid (HMR.out.below hb4); have e0 := (hb4.cell (p := ⟨bp, k * 2, none⟩) lt1).trans HD0.out; have e1 := (hb4.cell (p := ⟨bp, k * 2 + 1, none⟩) lt1).trans HD1.out)
              | (go_at_call 24; (with_reducible refine (hit_some _ p x HM4.out S g a b hs256 HIT2.out).mono ?_); rintro e w5 ⟨rfl, hb5⟩))
            have hb34 := hbr.trans (hb4.mono hbr.size)
            exact ⟨⟨k + 1, b, by omega, by simp, rfl, hb34.trans (hb5.mono hb34.size), by omega, .inl ⟨hs256, HRST.out⟩⟩, by simp only [intOf]; omega⟩
          · have HH1 := Lib.hid (hit_some wr p x HMR.out S q a b hs256 HIT.out)
            go_wp2_with (go_at_call 24; (with_reducible refine HH1.out.mono ?_); rintro e w4 ⟨rfl, hb4⟩; have HM4 := Lib.hid (HMR.out.below hb4); have e0 := (hb4.cell (p := ⟨bp, k * 2, none⟩) lt1).trans HD0.out; have e1 := (hb4.cell (p := ⟨bp, k * 2 + 1, none⟩) lt1).trans HD1.out)
            exact ⟨⟨k + 1, b, by omega, by simp, rfl, hbr.trans (hb4.mono hbr.size), by omega, .inl ⟨hs256, HRST.out⟩⟩, by simp only [intOf]; omega⟩
        · have HH1 := Lib.hid (hit_some wr p x HMR.out S q a b hs256 HIT.out)
          go_wp2_with (go_at_call 24; (with_reducible refine HH1.out.mono ?_); rintro e w4 ⟨rfl, hb4⟩; have HM4 := Lib.hid (HMR.out.below hb4); have e0 := (hb4.cell (p := ⟨bp, k * 2, none⟩) lt1).trans HD0.out; have e1 := (hb4.cell (p := ⟨bp, k * 2 + 1, none⟩) lt1).trans HD1.out)
          exact ⟨⟨k + 1, b, by omega, by simp, rfl, hbr.trans (hb4.mono hbr.size), by omega, .inl ⟨hs256, HRST.out⟩⟩, by simp only [intOf]; omega⟩
  · have hn2 := hnew.mono (R' := fun e w' => ∃ n : Int, e = .returned (.tuple #[.pointer none, .int .i64 n]) ∧ (n != 0) = true ∧ Below w.heap.size w w') (by
      rintro e w' ⟨hb, ⟨hc', -⟩ | ⟨-, he⟩⟩
      · exact absurd hc' hc
      · exact ⟨checkR x, he, by rw [bne_iff_ne]; exact hc, hbb.trans (hb.mono (by omega))⟩)
    have HN := Lib.hid hn2; clear hn2 hnew hbb hsz hc
    go_enter Tryd.func8, Tryd.ntmps8
    go_wp2_with (first
      | (go_at_call 14; refine HN.out.mono ?_; rintro e w1 ⟨n, rfl, hn0, hb1⟩)
      | (go_at_call 15; refine (fixed_any _ (TabAt.below HT.out hb1)).mono ?_; rintro e w2 ⟨rfl, hb2⟩))
    go_ret
    exact ⟨rfl, hb1.trans (hb2.mono hb1.size)⟩
end Go.Proofs.YtaelkjffidjcjaaDoor

/- The walk of MatchLongest. -/
namespace Go.Proofs.YtaelkjffidjcjaaDoor
open Go.RowKit PX

theorem extract_sub (S : ByteArray) (a b : Nat) : (S.extract a b).data.toList = sub S.data.toList a b := by
  rw [ByteArray.data_extract, Array.toList_extract, sub, List.extract_eq_take_drop, List.drop_take]
theorem extract_size (S : ByteArray) (a b : Nat) (hb : b ≤ S.size) : (S.extract a b).size = b - a := by
  rw [ByteArray.size_extract]; omega
/-- Is a part of a text in a machine's language? -/
theorem in_sub (w : World) (p : Nat) (x : Rx) (h : MX w p x) (S : ByteArray) (a b : Nat) (hb : b ≤ S.size) (hs : S.size ≤ 256) :
    Calls Tryd.prog 21 #[.pointer (some ⟨p, 0, none⟩), .string (S.extract a b)] w fun e w' => Below w.heap.size w w' ∧ ∃ r : Bool, e = .returned (.bool r) ∧ (r = true ↔ x.lang (sub S.data.toList a b)) := by
  refine (in_any w p x _ h.m h.t).mono ?_
  rintro e w' ⟨hb', r, he, hr⟩
  refine ⟨hb', r, he, ?_⟩
  rw [hr, extract_sub, extract_size _ _ _ hb]
  exact ⟨fun h => h.2, fun h => ⟨by omega, h⟩⟩
theorem in_sub_yes (w : World) (p : Nat) (x : Rx) (h : MX w p x) (S : ByteArray) (a b : Nat) (hb : b ≤ S.size) (hs : S.size ≤ 256) (hl : x.lang (sub S.data.toList a b)) :
    Calls Tryd.prog 21 #[.pointer (some ⟨p, 0, none⟩), .string (S.extract a b)] w fun e w' => e = .returned (.bool true) ∧ Below w.heap.size w w' := by
  refine (in_sub w p x h S a b hb hs).mono ?_
  rintro e w' ⟨hb', r, he, hr⟩
  rw [hr.2 hl] at he
  exact ⟨he, hb'⟩

theorem fits_good (w : World) (B : Nat) (X : RxA) (hB : B ≤ w.heap.size) (hin : X.In w B) (hT : TabAt 0 Lib.deBruijn64tab w) (hc : checkR X.bare = 0) :
    Calls Tryd.prog 20 #[X.val] w fun e w' => ∃ p, e = .returned (.pointer (some ⟨p, 0, none⟩)) ∧ Below w.heap.size w w' ∧ MX w' p X.bare := by
  refine (fits_any X w B hB hin).mono ?_
  rintro e w' ⟨hb, ⟨-, p, he, -, hm⟩ | ⟨hc', -⟩⟩
  · exact ⟨p, he, hb, hm, TabAt.below hT hb⟩
  · exact absurd hc hc'
theorem fits_bad (w : World) (B : Nat) (X : RxA) (hB : B ≤ w.heap.size) (hin : X.In w B) (hc : checkR X.bare ≠ 0) :
    Calls Tryd.prog 20 #[X.val] w fun e w' => e = .returned (.pointer none) ∧ Below w.heap.size w w' := by
  refine (fits_any X w B hB hin).mono ?_
  rintro e w' ⟨hb, ⟨hc', -⟩ | ⟨-, he⟩⟩
  · exact absurd hc' hc
  · exact ⟨he, hb⟩

theorem below_of_drewN {B n : Nat} {w w' : World} (h : Below B (w.drewN n) w') : Below B w w' := ⟨h.os, h.tape, h.output, h.size, h.block⟩

/-- What the loops over the parts of a text find, at a hit, and behind the last one. -/
def PartsOk (L : List UInt8 → Prop) (s : List UInt8) (q bg en : Nat) : Prop := ∀ a b, q ≤ a → a ≤ bg → a < b → b ≤ s.length → L (sub s a b) → bg ≤ a ∧ b ≤ en
theorem partsOk_hit {L : List UInt8 → Prop} {s : List UInt8} {q a b : Nat} (h : IsHit L s q a b) : PartsOk L s q a b := by
  intro c d h1 h2 h3 h4 h5
  by_cases hc : c < a
  · exact absurd h5 (h.2.2.2.2.2 c h1 hc d h3 h4)
  · obtain rfl : c = a := by omega
    refine ⟨Nat.le_refl _, ?_⟩
    by_cases hd : b < d
    · exact absurd h5 (h.2.2.2.2.1 d hd h4)
    · omega
theorem partsOk_none {L : List UInt8 → Prop} {s : List UInt8} {q bg en : Nat} (h : NoHit L s q) : PartsOk L s q bg en :=
  fun a b h1 _ h3 h4 h5 => absurd h5 (h a b h1 h3 h4)

set_option maxRecDepth 100000 in
set_option maxHeartbeats 4000000 in
theorem longest_main (w : World) (B : Nat) (X : RxA) (S : ByteArray) (hB : B ≤ w.heap.size) (hin : X.In w B) (hT : TabAt 0 Lib.deBruijn64tab w) (hc : checkR X.bare = 0) (hS : S.size ≤ 24) :
    Calls Tryd.prog 5 #[X.val, .string S] w fun e w' => e = .returned (.bool true) ∧ Below w.heap.size w w' := by
  have hbb := (Below.refl w.heap.size w).alloc (Nat.le_refl _) (.cells X.cells.toArray 26)
  have hsz : (w.alloc (.cells X.cells.toArray 26)).heap.size = w.heap.size + 1 := by simp
  have hfit := fits_good (w.alloc (.cells X.cells.toArray 26)) B X (by omega) (in_box _ hB hin) (TabAt.below hT hbb) hc
  obtain ⟨x, hx⟩ : ∃ x, X.bare = x := ⟨_, rfl⟩
  rw [hx] at hfit
  have hfit2 := hfit.mono (R' := fun e w' => ∃ p, e = .returned (.pointer (some ⟨p, 0, none⟩)) ∧ Below w.heap.size w w' ∧ MX w' p x) (by
    rintro e w' ⟨p, he, hb, hm⟩
    exact ⟨p, he, hbb.trans (hb.mono (by omega)), hm⟩)
  obtain ⟨k, mn, mx, s0, s1, s2, s3, a, cap, l⟩ := X
  simp only [RxA.val, RxA.cells] at hfit2 ⊢
  have HFIT := Lib.hid hfit2; clear hfit2 hfit hin hx hc hbb hsz hT
  have hS2 : ¬ (24 : Int) < S.size := by omega
  have hS256 : S.size ≤ 256 := by omega
  have hlen := ba_len S
  have HLEN := Lib.hid hlen; clear hlen
  go_enter Tryd.func5, Tryd.ntmps5
  go_wp2_with (first
    | (go_at_call 20; (with_reducible refine HFIT.out.mono ?_); rintro e w1 ⟨p, rfl, hb1, hm1⟩; have HM1 := Lib.hid hm1; clear hm1)
    | (go_at_call 15; refine (fixed_any _ HM1.out.t).mono ?_; rintro e w2 ⟨rfl, hb2⟩; have HM2 := Lib.hid (HM1.out.below hb2); have hc2 := hb1.trans (hb2.mono hb1.size))
    | (go_at_call 22; refine (hits_any _ p x S HM2.out.m HM2.out.t).mono ?_; rintro e w3 ⟨v, hl, rfl, hsay, hown, hl256, hb3⟩; have HM3 := Lib.hid (HM2.out.below hb3); have hc3 := hc2.trans (hb3.mono hc2.size); obtain ⟨av, cv, hv, hpc⟩ := pairs_of_row hown; subst hv; have HPC := Lib.hid hpc; clear hpc; have HSAY := Lib.hid hsay; clear hown hsay))
  obtain ⟨n, hnl⟩ : ∃ n, hl.length = n := ⟨_, rfl⟩
  rw [hnl] at hl256 ⊢
  have HNL := Lib.hid hnl; clear hnl
  have hfrom : HitsFrom x.lang S.data.toList 0 hl := by
    rcases HSAY.out with ⟨-, h⟩ | ⟨h, -⟩
    · exact h
    · rw [HLEN.out] at h; omega
  have HFROM := Lib.hid hfrom; clear hfrom HSAY
  go_loopw [7, 8] (fun at_ i wr => ∃ k q : Nat, k ≤ n + 1 ∧ i = .int .i64 k ∧ at_ = .int .i64 q ∧ Below w3.heap.size w3 wr ∧ q ≤ S.size ∧ (k ≤ n → HitsFrom x.lang S.data.toList q (hl.drop k))) (fun _ i _ => n + 1 - (intOf i).toNat)
  case atStart => exact ⟨0, 0, by omega, rfl, rfl, Below.refl _ _, by omega, fun _ => by simpa using HFROM.out⟩
  case round =>
    obtain ⟨k, q, hk, rfl, rfl, hbr, hq, hcs⟩ := hrel
    have HMR := Lib.hid (HM3.out.below hbr)
    have hbw := hc3.trans (hbr.mono hc3.size)
    have HCS := Lib.hid hcs; clear hcs
    by_cases hke : k = n + 1
    · subst hke
      go_wp2_with fail
      go_ret
      exact ⟨rfl, hbw⟩
    · have hkn : (k : Int) ≤ n := by omega
      have hfr := HCS.out (by omega)
      have HFR := Lib.hid hfr; clear hfr HCS
      go_upto_if 40 with fail
      go_cut [9, 10] from 40 to 73 (fun b e wx => ∃ bg en : Nat, b = .int .i64 bg ∧ e = .int .i64 en ∧ q ≤ bg ∧ bg ≤ S.size ∧ en ≤ S.size ∧ PartsOk x.lang S.data.toList q bg en ∧ (k + 1 ≤ n → HitsFrom x.lang S.data.toList en (hl.drop (k + 1))) ∧ Below wr.heap.size wr wx)
      case first =>
        by_cases hkl : k < n
        · have hkl2 : (k : Int) < n := by omega
          have hkll : k < hl.length := by rw [HNL.out]; exact hkl
          have hne : hl ≠ [] := by rintro rfl; simp at hkll
          obtain ⟨⟨a, b⟩, hab⟩ : ∃ r, hl[k]? = some r := ⟨hl[k], List.getElem?_eq_getElem hkll⟩
          have hdrop : hl.drop k = (a, b) :: hl.drop (k + 1) := by
            rw [List.drop_eq_getElem_cons hkll]
            rw [List.getElem?_eq_getElem hkll] at hab
            rw [Option.some.inj hab]
          obtain ⟨hit, hrest⟩ : IsHit x.lang S.data.toList q a b ∧ HitsFrom x.lang S.data.toList b (hl.drop (k + 1)) := by
            have hfr := HFR.out
            rw [hdrop] at hfr
            cases hfr with
            | cons h r => exact ⟨h, r⟩
          obtain ⟨bp, hbp, hcells⟩ := HPC.out.resolve_left hne
          obtain ⟨c0, c1⟩ := hcells k (a, b) hab
          have lt0 := World.block_lt_of_cell? _ _ c0
          have d0 : wr.cell? ⟨bp, k * 2, none⟩ = some (.int .i64 (a : Int)) := (hbr.cell (p := ⟨bp, k * 2, none⟩) lt0).trans c0
          have d1 : wr.cell? ⟨bp, k * 2 + 1, none⟩ = some (.int .i64 (b : Int)) := (hbr.cell (p := ⟨bp, k * 2 + 1, none⟩) lt0).trans c1
          have hqa := hit.1
          have hab2 := hit.2.1
          have hbs := hit.2.2.1
          rw [HLEN.out] at hbs
          have HIN := Lib.hid (fun wx hmx => in_sub_yes wx p x hmx S a b hbs hS256 hit.2.2.2.1)
          have HOK := Lib.hid (partsOk_hit hit)
          have HRST := Lib.hid hrest
          subst hbp
          clear hit hrest hdrop hab hcells c0 c1 hne
          have i1 : ¬ (a : Int) < q := by omega
          have i2 : ¬ (b : Int) ≤ a := by omega
          have i3 : ¬ a < q := by omega
          have i4 : ¬ b ≤ a := by omega
          have i5 : ¬ (S.size : Int) < b := by omega
          have i6 : (a : Int) ≤ b := by omega
          go_wp2_with fail
          go_quiet (fail)
          go_wp2_with (go_at_call 21; (with_reducible refine (HIN.out _ (HMR.out.below (below_drewN (Below.refl _ _) _))).mono ?_); rintro e w4 ⟨rfl, hb4⟩)
          go_meet
          case rel => exact ⟨a, b, rfl, rfl, hqa, by omega, hbs, HOK.out, fun _ => HRST.out, below_of_drewN hb4⟩
        · have hkl2 : ¬ (k : Int) < n := by omega
          have hno : NoHit x.lang S.data.toList q := by
            have hfr := HFR.out
            rw [List.drop_eq_nil_of_le (by rw [HNL.out]; omega)] at hfr
            cases hfr with
            | nil h => exact h
          go_wp2_with fail
          go_meet
          case rel => exact ⟨S.size, S.size, rfl, rfl, hq, Nat.le_refl _, Nat.le_refl _, partsOk_none hno, fun h => absurd h (by omega), Below.refl _ _⟩
      case rest =>
        obtain ⟨bg, en, rfl, rfl, hqb, hbs, hes, hok, hnx, hbx⟩ := hcut
        have HOK := Lib.hid hok; clear hok
        have HNX := Lib.hid hnx; clear hnx
        have HMC := Lib.hid (HMR.out.below hbx)
        have hbc := hbr.trans (hbx.mono hbr.size)
        have HLEN2 := HLEN.out
        go_wp2_with fail
        go_loopw [11] (fun a_ wx => ∃ j : Nat, q ≤ j ∧ j ≤ bg + 1 ∧ a_ = .int .i64 j ∧ Below wc.heap.size wc wx) (fun a_ _ => bg + 1 - (intOf a_).toNat)
        case atStart => exact ⟨q, Nat.le_refl _, by omega, rfl, Below.refl _ _⟩
        case round =>
          obtain ⟨j, hqj, hjb, rfl, hbj⟩ := hrel
          have HMJ := Lib.hid (HMC.out.below hbj)
          have hbcj := hbc.trans (hbj.mono hbc.size)
          by_cases hje : j = bg + 1
          · subst hje
            go_wp2_with fail
            go_roundw
            case measure => simp only [intOf]; omega
            case rel => exact ⟨k + 1, en, by omega, by simp, rfl, hbcj, hes, HNX.out⟩
          · have hjb2 : (j : Int) ≤ bg := by omega
            go_wp2_with fail
            obtain ⟨wj, hwj⟩ : ∃ v, v = wr := ⟨_, rfl⟩
            subst hwj
            go_loopw [12] (fun b_ wx => ∃ m : Nat, j + 1 ≤ m ∧ m ≤ S.size + 1 ∧ b_ = .int .i64 m ∧ Below wj.heap.size wj wx) (fun b_ _ => S.size + 1 - (intOf b_).toNat)
            case atStart => exact ⟨j + 1, Nat.le_refl _, by omega, by simp, Below.refl _ _⟩
            case round =>
              obtain ⟨m, hjm, hms, rfl, hbm⟩ := hrel
              have HMM := Lib.hid (HMJ.out.below hbm)
              have hbcm := hbj.trans (hbm.mono hbj.size)
              by_cases hme : m = S.size + 1
              · subst hme
                go_wp2_with fail
                go_roundw
                case measure => simp only [intOf]; omega
                case rel => exact ⟨j + 1, by omega, by omega, by simp, hbcm⟩
              · have hms2 : (m : Int) ≤ S.size := by omega
                have hms3 : m ≤ S.size := by omega
                have hjm2 : (j : Int) ≤ m := by omega
                have hcall := (in_sub wr p x HMM.out S j m hms3 hS256).mono (R' := fun e w' => Below wr.heap.size wr w' ∧ (e = .returned (.bool false) ∨ (e = .returned (.bool true) ∧ decide (j < bg) = false ∧ decide (en < m) = false))) (by
                  rintro e w' ⟨hb, r, rfl, hr⟩
                  refine ⟨hb, ?_⟩
                  cases r with
                  | false => exact .inl rfl
                  | true =>
                    have := HOK.out j m hqj (by omega) (by omega) (by rw [HLEN2]; exact hms3) (hr.1 rfl)
                    exact .inr ⟨rfl, by simp; omega, by simp; omega⟩)
                have HC := Lib.hid hcall; clear hcall
                go_wp2_with (go_at_call 21; (with_reducible refine HC.out.mono ?_); rintro e w4 ⟨hb4, rfl | ⟨rfl, f1, f2⟩⟩)
                all_goals
                  go_roundw
                  case measure => simp only [intOf]; omega
                  case rel => exact ⟨m + 1, by omega, by omega, by simp, hbm.trans (hb4.mono hbm.size)⟩

set_option maxRecDepth 100000 in
set_option maxHeartbeats 1000000 in
theorem longest_any (w : World) (B : Nat) (X : RxA) (S : ByteArray) (hB : B ≤ w.heap.size) (hin : X.In w B) (hT : TabAt 0 Lib.deBruijn64tab w) :
    Calls Tryd.prog 5 #[X.val, .string S] w fun e w' => e = .returned (.bool true) ∧ Below w.heap.size w w' := by
  have hbb := (Below.refl w.heap.size w).alloc (Nat.le_refl _) (.cells X.cells.toArray 26)
  have hsz : (w.alloc (.cells X.cells.toArray 26)).heap.size = w.heap.size + 1 := by simp
  by_cases hc : checkR X.bare = 0
  · by_cases hS : S.size ≤ 24
    · exact longest_main w B X S hB hin hT hc hS
    · have hfit := fits_good (w.alloc (.cells X.cells.toArray 26)) B X (by omega) (in_box _ hB hin) (TabAt.below hT hbb) hc
      have hfit2 := hfit.mono (R' := fun e w' => ∃ p, e = .returned (.pointer (some ⟨p, 0, none⟩)) ∧ Below w.heap.size w w') (by
        rintro e w' ⟨p, he, hb, hm⟩
        exact ⟨p, he, hbb.trans (hb.mono (by omega))⟩)
      obtain ⟨k, mn, mx, s0, s1, s2, s3, a, cap, l⟩ := X
      simp only [RxA.val, RxA.cells] at hfit2 ⊢
      have HT := Lib.hid hT
      have HFIT := Lib.hid hfit2; clear hfit2 hfit hin hc hbb hsz hT
      have hS2 : (24 : Int) < S.size := by omega
      go_enter Tryd.func5, Tryd.ntmps5
      go_wp2_with (first
        | (go_at_call 20; (with_reducible refine HFIT.out.mono ?_); rintro e w1 ⟨p, rfl, hb1⟩)
        | (go_at_call 15; refine (fixed_any _ (TabAt.below HT.out hb1)).mono ?_; rintro e w2 ⟨rfl, hb2⟩))
      go_ret
      exact ⟨rfl, hb1.trans (hb2.mono hb1.size)⟩
  · have hfit := fits_bad (w.alloc (.cells X.cells.toArray 26)) B X (by omega) (in_box _ hB hin) hc
    have hfit2 := hfit.mono (R' := fun e w' => e = .returned (.pointer none) ∧ Below w.heap.size w w') (by
      rintro e w' ⟨he, hb⟩
      exact ⟨he, hbb.trans (hb.mono (by omega))⟩)
    obtain ⟨k, mn, mx, s0, s1, s2, s3, a, cap, l⟩ := X
    simp only [RxA.val, RxA.cells] at hfit2 ⊢
    have HT := Lib.hid hT
    have HFIT := Lib.hid hfit2; clear hfit2 hfit hin hc hbb hsz hT
    go_enter Tryd.func5, Tryd.ntmps5
    go_wp2_with (first
      | (go_at_call 20; (with_reducible refine HFIT.out.mono ?_); rintro e w1 ⟨rfl, hb1⟩)
      | (go_at_call 15; refine (fixed_any _ (TabAt.below HT.out hb1)).mono ?_; rintro e w2 ⟨rfl, hb2⟩))
    go_ret
    exact ⟨rfl, hb1.trans (hb2.mono hb1.size)⟩
end Go.Proofs.YtaelkjffidjcjaaDoor

/- The walk of MatchJoins. -/
namespace Go.Proofs.YtaelkjffidjcjaaDoor
open Go.RowKit PX

/-- A world that comes behind another one: what was there is as it was. -/
def Later (a b : World) : Prop := Below a.heap.size a b
theorem Later.refl (w : World) : Later w w := Below.refl _ _
theorem Later.trans {a b c : World} (h : Later a b) (k : Later b c) : Later a c := Below.trans h (Below.mono k (Below.size h))
theorem Later.alloc {a b : World} (h : Later a b) (o : Obj) : Later a (b.alloc o) := Below.alloc h (Below.size h) o
theorem Later.drew {a b : World} (h : Later a b) : Later a b.drew := Below.drew h
theorem Later.block {a b : World} (h : Later a b) {k : Nat} {o : Obj} (hk : a.heap[k]? = some o) : b.heap[k]? = some o := (Below.block h k (lt_of_block hk)).trans hk
theorem Later.of {a b : World} (h : Below a.heap.size a b) : Later a b := h
theorem Later.out {a b : World} (h : Later a b) : Below a.heap.size a b := h
theorem Later.cell {a b : World} (h : Later a b) {p : Addr} {v : Value} (hp : a.cell? p = some v) : b.cell? p = some v := (Below.cell h (World.block_lt_of_cell? _ _ hp)).trans hp

theorem MX.later {w w' : World} {p : Nat} {x : Rx} (h : MX w p x) (hl : Later w w') : MX w' p x := h.below hl

/-- A machine of an expression, or none, as fits tells it. -/
def MaybeX (w : World) (v : Value) (x : Rx) : Prop := (checkR x = 0 ∧ ∃ p, v = .pointer (some ⟨p, 0, none⟩) ∧ MX w p x) ∨ (checkR x ≠ 0 ∧ v = .pointer none)
theorem MaybeX.later {w w' : World} {v : Value} {x : Rx} (h : MaybeX w v x) (hl : Later w w') : MaybeX w' v x := by
  rcases h with ⟨h1, p, h2, h3⟩ | h
  · exact .inl ⟨h1, p, h2, h3.below hl⟩
  · exact .inr h

open Classical in
/-- Is a text in a language? -/
noncomputable def inB (L : List UInt8 → Prop) (s : List UInt8) : Bool := decide (L s)
theorem inB_iff {L : List UInt8 → Prop} {s : List UInt8} : inB L s = true ↔ L s := by
  unfold inB; exact @decide_eq_true_iff _ (Classical.propDecidable _)
theorem in_is (w : World) (p : Nat) (x : Rx) (h : MX w p x) (S : ByteArray) (hs : S.size ≤ 256) :
    Calls Tryd.prog 21 #[.pointer (some ⟨p, 0, none⟩), .string S] w fun e w' => e = .returned (.bool (inB x.lang S.data.toList)) ∧ Later w w' := by
  refine (in_any w p x S h.m h.t).mono ?_
  rintro e w' ⟨hb, r, rfl, hr⟩
  refine ⟨?_, hb⟩
  rw [show r = inB x.lang S.data.toList from by rw [Bool.eq_iff_iff, hr, inB_iff]; exact ⟨fun h => h.2, fun h => ⟨hs, h⟩⟩]
theorem in_part (w : World) (p : Nat) (x : Rx) (h : MX w p x) (S : ByteArray) (a b : Nat) (hb : b ≤ S.size) (hs : S.size ≤ 256) :
    Calls Tryd.prog 21 #[.pointer (some ⟨p, 0, none⟩), .string (S.extract a b)] w fun e w' => e = .returned (.bool (inB x.lang (sub S.data.toList a b))) ∧ Later w w' := by
  have := in_is w p x h (S.extract a b) (by rw [extract_size _ _ _ hb]; omega)
  rw [extract_sub] at this
  exact this

/-- fits, of an expression that lies somewhere. -/
theorem fits_of (w : World) (X : RxA) (hin : X.In w w.heap.size) (hT : TabAt 0 Lib.deBruijn64tab w) :
    Calls Tryd.prog 20 #[X.val] w fun e w' => ∃ v, e = .returned v ∧ Later w w' ∧ MaybeX w' v X.bare := by
  refine (fits_any X w w.heap.size (Nat.le_refl _) hin).mono ?_
  rintro e w' ⟨hb, ⟨h1, p, rfl, -, hm⟩ | ⟨h1, rfl⟩⟩
  · exact ⟨_, rfl, hb, .inl ⟨h1, p, rfl, hm, TabAt.below hT hb⟩⟩
  · exact ⟨_, rfl, hb, .inr ⟨h1, rfl⟩⟩
/-- What a call of fits needs: the table, and the two expressions. -/
structure JW (w : World) (X Y : RxA) : Prop where
  t : TabAt 0 Lib.deBruijn64tab w
  x : X.In w w.heap.size
  y : Y.In w w.heap.size
theorem alloc_at {w : World} {o : Obj} {k : Nat} (h : w.heap.size = k) : (w.alloc o).heap[k]? = some o := by subst h; exact alloc_block w o
theorem drew_block {w : World} {k : Nat} {o : Obj} (h : w.heap[k]? = some o) : w.drew.heap[k]? = some o := h
theorem JW.later {w w' : World} {X Y : RxA} (h : JW w X Y) (hl : Later w w') : JW w' X Y :=
  ⟨TabAt.below h.t hl, (h.x.below hl (Nat.le_refl _)).later (Below.size hl) (fun _ _ _ => rfl), (h.y.below hl (Nat.le_refl _)).later (Below.size hl) (fun _ _ _ => rfl)⟩
theorem fits_of2 {w0 w : World} {X Y : RxA} (h : JW w0 X Y) (hl : Later w0 w) (b : Nat) (cs : Array Value) (fr : Nat × Nat) (hb : w.heap[b]? = some (.cells cs 26 fr)) (hcs : cs = (X.cells ++ Y.cells).toArray) (k : Int) (hk : I64 k) :
    Calls Tryd.prog 20 #[.agg #[.int .i64 k, .int .i64 0, .int .i64 0, .int .u64 0, .int .u64 0, .int .u64 0, .int .u64 0, .slice (some ⟨b, 0, none⟩) 2 2]] w fun e w' => ∃ v, e = .returned v ∧ Later w w' ∧ MaybeX w' v (.node k 0 0 0 0 0 0 [X.bare, Y.bare]) := by
  have hj := h.later hl
  have hc : ∀ j, w.cell? ⟨b, j, none⟩ = cs[j]? := fun j => by simp [World.cell?, hb]
  refine fits_of w (.node k 0 0 0 0 0 0 (some ⟨b, 0, none⟩) 2 [X, Y]) ?_ hj.t
  simp only [RxA.In]
  refine ⟨⟨hk, ⟨by omega, by omega⟩, ⟨by omega, by omega⟩, ⟨by omega, by omega⟩, ⟨by omega, by omega⟩, ⟨by omega, by omega⟩, ⟨by omega, by omega⟩⟩, by simp, by decide, by simp, .inr ⟨b, 0, rfl, lt_of_block hb, ?_⟩⟩
  refine inL_of_row (fun j u hu => ?_) (fun Z hZ => ?_)
  · rw [Nat.zero_add, hc, hcs]; simpa [rxCells] using hu
  · rcases List.mem_cons.1 hZ with rfl | hZ
    · exact hj.x
    · rw [List.mem_singleton.1 hZ]; exact hj.y
theorem fits_of1 {w0 w : World} {X Y : RxA} (h : JW w0 X Y) (hl : Later w0 w) (b : Nat) (cs : Array Value) (fr : Nat × Nat) (hb : w.heap[b]? = some (.cells cs 26 fr)) (hcs : cs = X.cells.toArray) (mn mx : Int) (hmn : I64 mn) (hmx : I64 mx) :
    Calls Tryd.prog 20 #[.agg #[.int .i64 3, .int .i64 mn, .int .i64 mx, .int .u64 0, .int .u64 0, .int .u64 0, .int .u64 0, .slice (some ⟨b, 0, none⟩) 1 1]] w fun e w' => ∃ v, e = .returned v ∧ Later w w' ∧ MaybeX w' v (.node 3 mn mx 0 0 0 0 [X.bare]) := by
  have hj := h.later hl
  have hc : ∀ j, w.cell? ⟨b, j, none⟩ = cs[j]? := fun j => by simp [World.cell?, hb]
  refine fits_of w (.node 3 mn mx 0 0 0 0 (some ⟨b, 0, none⟩) 1 [X]) ?_ hj.t
  simp only [RxA.In]
  refine ⟨⟨⟨by omega, by omega⟩, hmn, hmx, ⟨by omega, by omega⟩, ⟨by omega, by omega⟩, ⟨by omega, by omega⟩, ⟨by omega, by omega⟩⟩, by simp, by decide, by simp, .inr ⟨b, 0, rfl, lt_of_block hb, ?_⟩⟩
  refine inL_of_row (fun j u hu => ?_) (fun Z hZ => ?_)
  · rw [Nat.zero_add, hc, hcs]; simpa [rxCells] using hu
  · rw [List.mem_singleton.1 hZ]; exact hj.x

/-- What the loop finds of cuts: up to a place. -/
noncomputable def cutB (x y : Rx) (s : List UInt8) : Nat → Bool
  | 0 => false
  | k + 1 => cutB x y s k || (inB x.lang (sub s 0 k) && inB y.lang (sub s k s.length))
theorem cutB_iff (x y : Rx) (s : List UInt8) : ∀ k, cutB x y s k = true ↔ ∃ i, i < k ∧ x.lang (sub s 0 i) ∧ y.lang (sub s i s.length)
  | 0 => by simp [cutB]
  | k + 1 => by
    simp only [cutB, Bool.or_eq_true, Bool.and_eq_true, inB_iff, cutB_iff x y s k]
    constructor
    · rintro (⟨i, h, h'⟩ | h)
      · exact ⟨i, by omega, h'⟩
      · exact ⟨k, by omega, h⟩
    · rintro ⟨i, h, h'⟩
      by_cases hi : i < k
      · exact .inl ⟨i, hi, h'⟩
      · obtain rfl : i = k := by omega
        exact .inr h'
theorem cutB_row (x y : Rx) (s : List UInt8) : cutB x y s (s.length + 1) = inB (Rx.node 1 0 0 0 0 0 0 [x, y]).lang s := by
  rw [Bool.eq_iff_iff, cutB_iff, inB_iff, seq2_lang]
  refine exists_congr fun i => ?_
  rw [sub_take, sub_drop]
  exact and_congr (by omega) Iff.rfl
noncomputable def againB (x m : Rx) (s : List UInt8) : Nat → Bool
  | 0 => s.isEmpty
  | k + 1 => againB x m s k || (decide (0 < k) && (inB x.lang (sub s 0 k) && inB m.lang (sub s k s.length)))
theorem againB_iff (x m : Rx) (s : List UInt8) : ∀ k, againB x m s k = true ↔ s = [] ∨ ∃ i, 0 < i ∧ i < k ∧ x.lang (sub s 0 i) ∧ m.lang (sub s i s.length)
  | 0 => by simp [againB]
  | k + 1 => by
    simp only [againB, Bool.or_eq_true, Bool.and_eq_true, inB_iff, againB_iff x m s k, decide_eq_true_iff]
    constructor
    · rintro ((h | ⟨i, h0, h, h'⟩) | ⟨h0, h⟩)
      · exact .inl h
      · exact .inr ⟨i, h0, by omega, h'⟩
      · exact .inr ⟨k, h0, by omega, h⟩
    · rintro (h | ⟨i, h0, h, h'⟩)
      · exact .inl (.inl h)
      · by_cases hi : i < k
        · exact .inl (.inr ⟨i, h0, hi, h'⟩)
        · obtain rfl : i = k := by omega
          exact .inr ⟨h0, h'⟩
theorem againB_many (x : Rx) (s : List UInt8) : againB x (.node 3 0 (-1) 0 0 0 0 [x]) s (s.length + 1) = inB (Rx.node 3 0 (-1) 0 0 0 0 [x]).lang s := by
  rw [Bool.eq_iff_iff, againB_iff, inB_iff, many_lang]
  refine or_congr Iff.rfl (exists_congr fun i => ?_)
  rw [sub_take, sub_drop]
  exact and_congr Iff.rfl (and_congr (by omega) Iff.rfl)
theorem inB_alt (x y : Rx) (s : List UInt8) : inB (Rx.node 2 0 0 0 0 0 0 [x, y]).lang s = (inB x.lang s || inB y.lang s) := by
  rw [Bool.eq_iff_iff, inB_iff, alt2_lang, Bool.or_eq_true, inB_iff, inB_iff]

set_option maxRecDepth 100000 in
set_option maxHeartbeats 4000000 in
theorem joins_any (w : World) (X Y : RxA) (S : ByteArray) (hJ : JW w X Y) :
    Calls Tryd.prog 4 #[X.val, Y.val, .string S] w fun e w' => e = .returned (.bool true) ∧ Later w w' := by
  obtain ⟨w0, hw0⟩ : ∃ w0, (w.alloc (.cells X.cells.toArray 26)).alloc (.cells Y.cells.toArray 26) = w0 := ⟨_, rfl⟩
  have hl0 : Later w w0 := by rw [← hw0]; exact ((Later.refl w).alloc _).alloc _
  have hJ0 := hJ.later hl0
  have hx0 : w0.heap[w.heap.size]? = some (.cells X.cells.toArray 26 (0, 0)) := by rw [← hw0]; exact alloc_old (alloc_block w _) _
  have hy0 : w0.heap[w.heap.size + 1]? = some (.cells Y.cells.toArray 26 (0, 0)) := by
    have := alloc_block (w.alloc (.cells X.cells.toArray 26)) (.cells Y.cells.toArray 26)
    rw [World.size_alloc] at this
    rw [← hw0]; exact this
  have hfx := fun w1 (h1 : Later w0 w1) => fits_of w1 X (hJ0.later h1).x (hJ0.later h1).t
  have hfy := fun w1 (h1 : Later w0 w1) => fits_of w1 Y (hJ0.later h1).y (hJ0.later h1).t
  have hf2 := fun w1 (h1 : Later w0 w1) => @fits_of2 w0 w1 X Y hJ0 h1
  have hf1 := fun w1 (h1 : Later w0 w1) => @fits_of1 w0 w1 X Y hJ0 h1
  have hfix := fun w1 (h1 : Later w0 w1) => fixed_any w1 (hJ0.later h1).t
  obtain ⟨x, hx⟩ : ∃ x, X.bare = x := ⟨_, rfl⟩
  obtain ⟨y, hy⟩ : ∃ y, Y.bare = y := ⟨_, rfl⟩
  rw [hx] at hfx hf2 hf1
  rw [hy] at hfy hf2
  clear hJ hJ0 hx hy
  obtain ⟨k, mn, mx, s0, s1, s2, s3, a, cap, l⟩ := X
  obtain ⟨k', mn', mx', s0', s1', s2', s3', a', cap', l'⟩ := Y
  simp only [RxA.val, RxA.cells, List.cons_append, List.nil_append] at hfx hfy hf2 hf1 hx0 hy0 hw0 ⊢
  obtain ⟨b0, hb0⟩ : ∃ b0, w.heap.size = b0 := ⟨_, rfl⟩
  obtain ⟨n, hn⟩ : ∃ n, l.length = n := ⟨_, rfl⟩
  obtain ⟨n', hn'⟩ : ∃ n', l'.length = n' := ⟨_, rfl⟩
  rw [hn] at hfx hf2 hf1 hx0 hw0
  rw [hn'] at hfy hf2 hy0 hw0
  rw [hn, hn']
  rw [hb0] at hx0 hy0
  have hS : ∀ w', Later w0 w' → w'.cell? ⟨b0, 0, none⟩ = some (.int .i64 k) ∧ w'.cell? ⟨b0, 1, none⟩ = some (.int .i64 mn) ∧ w'.cell? ⟨b0, 2, none⟩ = some (.int .i64 mx) ∧ w'.cell? ⟨b0, 3, none⟩ = some (.int .u64 s0) ∧ w'.cell? ⟨b0, 4, none⟩ = some (.int .u64 s1) ∧ w'.cell? ⟨b0, 5, none⟩ = some (.int .u64 s2) ∧ w'.cell? ⟨b0, 6, none⟩ = some (.int .u64 s3) ∧ w'.cell? ⟨b0, 7, none⟩ = some (.slice a n cap) ∧
      w'.cell? ⟨b0 + 1, 0, none⟩ = some (.int .i64 k') ∧ w'.cell? ⟨b0 + 1, 1, none⟩ = some (.int .i64 mn') ∧ w'.cell? ⟨b0 + 1, 2, none⟩ = some (.int .i64 mx') ∧ w'.cell? ⟨b0 + 1, 3, none⟩ = some (.int .u64 s0') ∧ w'.cell? ⟨b0 + 1, 4, none⟩ = some (.int .u64 s1') ∧ w'.cell? ⟨b0 + 1, 5, none⟩ = some (.int .u64 s2') ∧ w'.cell? ⟨b0 + 1, 6, none⟩ = some (.int .u64 s3') ∧ w'.cell? ⟨b0 + 1, 7, none⟩ = some (.slice a' n' cap') := by
    intro w' h'
    have h1 := h'.block hx0
    have h2 := h'.block hy0
    refine ⟨?_, ?_, ?_, ?_, ?_, ?_, ?_, ?_, ?_, ?_, ?_, ?_, ?_, ?_, ?_, ?_⟩ <;> first | exact cell_of_block h1 _ | exact cell_of_block h2 _
  have HS := Lib.hid hS; clear hS
  have HFX := Lib.hid hfx; clear hfx
  have HFY := Lib.hid hfy; clear hfy
  have HF2 := Lib.hid hf2; clear hf2
  have HF1 := Lib.hid hf1; clear hf1
  have HFIX := Lib.hid hfix; clear hfix
  have HL0 := Lib.hid hl0; clear hl0
  have HW0 := Lib.hid hw0; clear hw0 hn hn' hx0 hy0
  have HB0 := Lib.hid hb0
  go_enter Tryd.func4, Tryd.ntmps4
  go_wp2_with fail
  rw [HW0.out]
  have HL := Lib.hid (Later.refl w0)
  clear HW0 hb0
  go_region_held3 (fun w' => w'.cell? ⟨b0, 0, none⟩ = some (.int .i64 k) ∧ w'.cell? ⟨b0, 1, none⟩ = some (.int .i64 mn) ∧ w'.cell? ⟨b0, 2, none⟩ = some (.int .i64 mx) ∧ w'.cell? ⟨b0, 3, none⟩ = some (.int .u64 s0) ∧ w'.cell? ⟨b0, 4, none⟩ = some (.int .u64 s1) ∧ w'.cell? ⟨b0, 5, none⟩ = some (.int .u64 s2) ∧ w'.cell? ⟨b0, 6, none⟩ = some (.int .u64 s3) ∧ w'.cell? ⟨b0, 7, none⟩ = some (.slice a n cap) ∧
      w'.cell? ⟨b0 + 1, 0, none⟩ = some (.int .i64 k') ∧ w'.cell? ⟨b0 + 1, 1, none⟩ = some (.int .i64 mn') ∧ w'.cell? ⟨b0 + 1, 2, none⟩ = some (.int .i64 mx') ∧ w'.cell? ⟨b0 + 1, 3, none⟩ = some (.int .u64 s0') ∧ w'.cell? ⟨b0 + 1, 4, none⟩ = some (.int .u64 s1') ∧ w'.cell? ⟨b0 + 1, 5, none⟩ = some (.int .u64 s2') ∧ w'.cell? ⟨b0 + 1, 6, none⟩ = some (.int .u64 s3') ∧ w'.cell? ⟨b0 + 1, 7, none⟩ = some (.slice a' n' cap'))
    (first | exact HS.out _ (by repeat (first | assumption | exact Later.refl _ | refine Later.drew ?_ | refine Later.trans ?_ (by assumption)))) (first
      | (go_at_call 20; (with_reducible refine (HFX.out _ (by repeat (first | assumption | exact Later.refl _ | refine Later.drew ?_ | refine Later.trans ?_ (by assumption)))).mono ?_); rintro e w1 ⟨vx, rfl, hl1, hmx⟩)
      | (go_at_call 20; (with_reducible refine (HFY.out _ (by repeat (first | assumption | exact Later.refl _ | refine Later.drew ?_ | refine Later.trans ?_ (by assumption)))).mono ?_); rintro e w2 ⟨vy, rfl, hl2, hmy⟩)
      | fail)
  rcases hmx with ⟨hcx, px, rfl, hpx⟩ | ⟨hcx, rfl⟩
  · rcases hmy with ⟨hcy, py, rfl, hpy⟩ | ⟨hcy, rfl⟩
    · have HPX := Lib.hid (hpx.below hl2); clear hpx
      have HPY := Lib.hid hpy; clear hpy
      go_wp2_with (go_at_call 15; (with_reducible refine (HFIX.out _ (by repeat (first | assumption | exact Later.refl _ | refine Later.drew ?_ | refine Later.alloc ?_ _ | refine Later.trans ?_ (by assumption)))).mono ?_); rintro e w3 ⟨rfl, hb3⟩; have hl3 := Later.of hb3; clear hb3)
      · go_ret
        exact ⟨rfl, HL0.out.trans (by repeat (first | assumption | exact Later.refl _ | refine Later.drew ?_ | refine Later.alloc ?_ _ | refine Later.trans ?_ (by assumption)))⟩
      · have hsz : (S.size : Int) ≤ 24 := by assumption
        have hS256 : S.size ≤ 256 := by omega
        have HSZ := Lib.hid hsz; clear hsz
        go_cut [9, 10, 11] from 32 to 45 (fun a b c wx => MaybeX wx a (.node 1 0 0 0 0 0 0 [x, y]) ∧ MaybeX wx b (.node 2 0 0 0 0 0 0 [x, y]) ∧ MaybeX wx c (.node 3 0 (-1) 0 0 0 0 [x]) ∧ Later w3 wx)
        case first =>
          go_region_held3 (fun w' => w'.cell? ⟨b0, 0, none⟩ = some (.int .i64 k) ∧ w'.cell? ⟨b0, 1, none⟩ = some (.int .i64 mn) ∧ w'.cell? ⟨b0, 2, none⟩ = some (.int .i64 mx) ∧ w'.cell? ⟨b0, 3, none⟩ = some (.int .u64 s0) ∧ w'.cell? ⟨b0, 4, none⟩ = some (.int .u64 s1) ∧ w'.cell? ⟨b0, 5, none⟩ = some (.int .u64 s2) ∧ w'.cell? ⟨b0, 6, none⟩ = some (.int .u64 s3) ∧ w'.cell? ⟨b0, 7, none⟩ = some (.slice a n cap) ∧
      w'.cell? ⟨b0 + 1, 0, none⟩ = some (.int .i64 k') ∧ w'.cell? ⟨b0 + 1, 1, none⟩ = some (.int .i64 mn') ∧ w'.cell? ⟨b0 + 1, 2, none⟩ = some (.int .i64 mx') ∧ w'.cell? ⟨b0 + 1, 3, none⟩ = some (.int .u64 s0') ∧ w'.cell? ⟨b0 + 1, 4, none⟩ = some (.int .u64 s1') ∧ w'.cell? ⟨b0 + 1, 5, none⟩ = some (.int .u64 s2') ∧ w'.cell? ⟨b0 + 1, 6, none⟩ = some (.int .u64 s3') ∧ w'.cell? ⟨b0 + 1, 7, none⟩ = some (.slice a' n' cap'))
            (first | exact HS.out _ (by repeat (first | assumption | exact Later.refl _ | refine Later.drew ?_ | refine Later.alloc ?_ _ | refine Later.trans ?_ (by assumption))))
            (first
              | (go_at_call 20; (with_reducible refine (HF2.out _ (by repeat (first | assumption | exact Later.refl _ | refine Later.drew ?_ | refine Later.alloc ?_ _ | refine Later.trans ?_ (by assumption))) _ _ _ (by repeat (first | assumption | refine drew_block ?_ | (refine alloc_at ?_; (simp; done)) | refine alloc_old ?_ _ | refine Later.block (by assumption) ?_)) (by rfl) _ (by unfold I64; omega)).mono ?_); rintro e w4 ⟨v, rfl, hl4, hm4⟩)
              | (go_at_call 20; (with_reducible refine (HF1.out _ (by repeat (first | assumption | exact Later.refl _ | refine Later.drew ?_ | refine Later.alloc ?_ _ | refine Later.trans ?_ (by assumption))) _ _ _ (by repeat (first | assumption | refine drew_block ?_ | (refine alloc_at ?_; (simp; done)) | refine alloc_old ?_ _ | refine Later.block (by assumption) ?_)) (by rfl) _ _ (by unfold I64; omega) (by unfold I64; omega)).mono ?_); rintro e w4 ⟨v, rfl, hl4, hm4⟩)
              | fail)
          all_goals
            go_wp2_with fail
            go_meet
            case rel => exact ⟨MaybeX.later (by assumption) (by repeat (first | assumption | exact Later.refl _ | refine Later.drew ?_ | refine Later.alloc ?_ _ | refine Later.trans ?_ (by assumption))), MaybeX.later (by assumption) (by repeat (first | assumption | exact Later.refl _ | refine Later.drew ?_ | refine Later.alloc ?_ _ | refine Later.trans ?_ (by assumption))), MaybeX.later (by assumption) (by repeat (first | assumption | exact Later.refl _ | refine Later.drew ?_ | refine Later.alloc ?_ _ | refine Later.trans ?_ (by assumption))), (by repeat (first | assumption | exact Later.refl _ | refine Later.drew ?_ | refine Later.alloc ?_ _ | refine Later.trans ?_ (by assumption)))⟩
        case rest =>
          obtain ⟨hrow, halt, hmany, hl4⟩ := hcut
          have HROW := Lib.hid hrow; clear hrow
          have HMANY := Lib.hid hmany; clear hmany
          have HPX2 := Lib.hid ((HPX.out.below hl3).below hl4)
          have HPY2 := Lib.hid ((HPY.out.below hl3).below hl4)
          have hlw : Later w wc := HL0.out.trans (by repeat (first | assumption | exact Later.refl _ | refine Later.drew ?_ | refine Later.alloc ?_ _ | refine Later.trans ?_ (by assumption)))
          have HLW := Lib.hid hlw
          clear hlw hl1 hl2 hl3 hl4 HPX HPY
          go_upto_region 7 with fail
          go_cut [61] from 46 to 60 (fun v wx => v = .bool false ∧ Later wc wx)
          case first =>
            rcases halt with ⟨hca, pa, rfl, hpa⟩ | ⟨hca, rfl⟩
            · have hia := fun w1 (h1 : Later wc w1) => in_is w1 pa _ (hpa.below h1) S hS256
              have hix := fun w1 (h1 : Later wc w1) => in_is w1 px _ (HPX2.out.below h1) S hS256
              have hiy := fun w1 (h1 : Later wc w1) => in_is w1 py _ (HPY2.out.below h1) S hS256
              rw [inB_alt] at hia
              obtain ⟨bx, hbx⟩ : ∃ bx, inB x.lang S.data.toList = bx := ⟨_, rfl⟩
              obtain ⟨bY, hbY⟩ : ∃ bY, inB y.lang S.data.toList = bY := ⟨_, rfl⟩
              rw [hbx] at hia hix
              rw [hbY] at hia hiy
              clear hbx hbY
              cases bx <;> cases bY <;> (
                simp only [Bool.or_false, Bool.or_true] at hia
                have HIA := Lib.hid hia
                have HIX := Lib.hid hix
                have HIY := Lib.hid hiy
                clear hia hix hiy
                go_wp2_with (first
                  | (go_at_call 21; (with_reducible refine (HIA.out _ (by repeat (first | assumption | exact Later.refl _ | refine Later.drew ?_ | refine Later.alloc ?_ _ | refine Later.trans ?_ (by assumption)))).mono ?_); rintro e w5 ⟨rfl, hl5⟩)
                  | (go_at_call 21; (with_reducible refine (HIX.out _ (by repeat (first | assumption | exact Later.refl _ | refine Later.drew ?_ | refine Later.alloc ?_ _ | refine Later.trans ?_ (by assumption)))).mono ?_); rintro e w6 ⟨rfl, hl6⟩)
                  | (go_at_call 21; (with_reducible refine (HIY.out _ (by repeat (first | assumption | exact Later.refl _ | refine Later.drew ?_ | refine Later.alloc ?_ _ | refine Later.trans ?_ (by assumption)))).mono ?_); rintro e w7 ⟨rfl, hl7⟩))
                go_meet
                case rel => exact ⟨rfl, (by repeat (first | assumption | exact Later.refl _ | refine Later.drew ?_ | refine Later.alloc ?_ _ | refine Later.trans ?_ (by assumption)))⟩)
            · go_wp2_with fail
              go_meet
              case rel => exact ⟨rfl, Later.refl _⟩
          case rest =>
            obtain ⟨rfl, hl5⟩ := hcut
            have HROW2 := Lib.hid (HROW.out.later hl5)
            have HMANY2 := Lib.hid (HMANY.out.later hl5)
            have HPX3 := Lib.hid (HPX2.out.below hl5)
            have HPY3 := Lib.hid (HPY2.out.below hl5)
            have HLW2 := Lib.hid (HLW.out.trans hl5)
            have hemp : S.toList.isEmpty = S.data.toList.isEmpty := by rw [Lib.toList_data]
            obtain ⟨g0, hg0⟩ : ∃ g0, S.data.toList.isEmpty = g0 := ⟨_, rfl⟩
            rw [hg0] at hemp
            have HG0 := Lib.hid hg0; clear hg0 hl5 HROW HMANY HPX2 HPY2 HLW
            obtain ⟨wd, hwd⟩ : ∃ v, v = wc := ⟨_, rfl⟩
            subst hwd
            go_wp2_with fail
            have HEMP := Lib.hid hemp; clear hemp
            have HLEN := Lib.hid (ba_len S)
            go_loopw [12, 13, 14] (fun c g i wx => ∃ (k : Nat) (gb : Bool), k ≤ S.size + 1 ∧ i = .int .i64 k ∧ c = .bool (cutB x y S.data.toList k) ∧ g = .bool gb ∧ (checkR (.node 3 0 (-1) 0 0 0 0 [x]) = 0 → gb = againB x (.node 3 0 (-1) 0 0 0 0 [x]) S.data.toList k) ∧ Later wd wx) (fun _ _ i _ => S.size + 1 - (intOf i).toNat)
            case atStart => exact ⟨0, g0, by omega, rfl, rfl, rfl, fun _ => HG0.out.symm, Later.refl _⟩
            case round =>
              obtain ⟨k, gb, hk, rfl, rfl, rfl, hgb, hlr⟩ := hrel
              have HGB := Lib.hid hgb; clear hgb
              by_cases hke : k = S.size + 1
              · subst hke
                have hcr : cutB x y S.data.toList (S.size + 1) = inB (Rx.node 1 0 0 0 0 0 0 [x, y]).lang S.data.toList := by rw [← HLEN.out]; exact cutB_row x y _
                have hgm : checkR (.node 3 0 (-1) 0 0 0 0 [x]) = 0 → gb = inB (Rx.node 3 0 (-1) 0 0 0 0 [x]).lang S.data.toList := fun h => by rw [HGB.out h, ← HLEN.out]; exact againB_many x _
                have hrow2 := HROW2.out.later hlr
                have hmany2 := HMANY2.out.later hlr
                have hlw := HLW2.out.trans hlr
                have hir := fun w1 p (h1 : MX w1 p (.node 1 0 0 0 0 0 0 [x, y])) => in_is w1 p _ h1 S hS256
                have him := fun w1 p (h1 : MX w1 p (.node 3 0 (-1) 0 0 0 0 [x])) => in_is w1 p _ h1 S hS256
                rw [hcr]
                obtain ⟨cr, hcr2⟩ : ∃ cr, inB (Rx.node 1 0 0 0 0 0 0 [x, y]).lang S.data.toList = cr := ⟨_, rfl⟩
                rw [hcr2] at hir ⊢
                have HIR := Lib.hid hir
                have HIM := Lib.hid him
                have HGM := Lib.hid hgm
                clear hir him hgm hcr hcr2
                rcases hrow2 with ⟨hcr, pr, rfl, hpr⟩ | ⟨hcr, rfl⟩
                · rcases hmany2 with ⟨hcm, pm, rfl, hpm⟩ | ⟨hcm, rfl⟩
                  · have hgm := HGM.out hcm
                    have him := HIM.out
                    rw [← hgm] at him
                    have HIM2 := Lib.hid him
                    clear him hgm
                    cases cr <;> cases gb <;> (
                      go_wp2_with (first
                        | (go_at_call 21; (with_reducible refine (HIR.out _ _ hpr).mono ?_); rintro e w5 ⟨rfl, hl5⟩)
                        | (go_at_call 21; (with_reducible refine (HIM2.out _ _ (hpm.later hl5)).mono ?_); rintro e w6 ⟨rfl, hl6⟩))
                      go_ret
                      exact ⟨rfl, (by repeat (first | assumption | exact Later.refl _ | refine Later.drew ?_ | refine Later.alloc ?_ _ | refine Later.trans ?_ (by assumption)))⟩)
                  · cases cr <;> (
                      go_wp2_with (first
                        | (go_at_call 21; (with_reducible refine (HIR.out _ _ hpr).mono ?_); rintro e w5 ⟨rfl, hl5⟩))
                      go_ret
                      exact ⟨rfl, (by repeat (first | assumption | exact Later.refl _ | refine Later.drew ?_ | refine Later.alloc ?_ _ | refine Later.trans ?_ (by assumption)))⟩)
                · rcases hmany2 with ⟨hcm, pm, rfl, hpm⟩ | ⟨hcm, rfl⟩
                  · have hgm := HGM.out hcm
                    have him := HIM.out
                    rw [← hgm] at him
                    have HIM2 := Lib.hid him
                    clear him hgm
                    cases gb <;> (
                      go_wp2_with (first
                        | (go_at_call 21; (with_reducible refine (HIM2.out _ _ hpm).mono ?_); rintro e w6 ⟨rfl, hl6⟩))
                      go_ret
                      exact ⟨rfl, (by repeat (first | assumption | exact Later.refl _ | refine Later.drew ?_ | refine Later.alloc ?_ _ | refine Later.trans ?_ (by assumption)))⟩)
                  · go_wp2_with fail
                    go_ret
                    exact ⟨rfl, (by repeat (first | assumption | exact Later.refl _ | refine Later.drew ?_ | refine Later.alloc ?_ _ | refine Later.trans ?_ (by assumption)))⟩
              · have hks : (k : Int) ≤ S.size := by omega
                have hks2 : k ≤ S.size := by omega
                have hxk := fun w1 (h1 : Later wr w1) => in_part w1 px _ (HPX3.out.below (hlr.trans h1)) S 0 k hks2 hS256
                have hyk := fun w1 (h1 : Later wr w1) => in_part w1 py _ (HPY3.out.below (hlr.trans h1)) S k S.size (Nat.le_refl _) hS256
                have hcs : cutB x y S.data.toList (k + 1) = (cutB x y S.data.toList k || (inB x.lang (sub S.data.toList 0 k) && inB y.lang (sub S.data.toList k S.size))) := by rw [cutB, HLEN.out]
                have has : againB x (.node 3 0 (-1) 0 0 0 0 [x]) S.data.toList (k + 1) = (againB x (.node 3 0 (-1) 0 0 0 0 [x]) S.data.toList k || (decide (0 < k) && (inB x.lang (sub S.data.toList 0 k) && inB (Rx.node 3 0 (-1) 0 0 0 0 [x]).lang (sub S.data.toList k S.size)))) := by rw [againB, HLEN.out]
                obtain ⟨c, hc⟩ : ∃ c, cutB x y S.data.toList k = c := ⟨_, rfl⟩
                obtain ⟨a, ha⟩ : ∃ a, inB x.lang (sub S.data.toList 0 k) = a := ⟨_, rfl⟩
                obtain ⟨b, hb⟩ : ∃ b, inB y.lang (sub S.data.toList k S.size) = b := ⟨_, rfl⟩
                obtain ⟨m, hm⟩ : ∃ m, inB (Rx.node 3 0 (-1) 0 0 0 0 [x]).lang (sub S.data.toList k S.size) = m := ⟨_, rfl⟩
                have hmk := fun w1 p (h1 : MX w1 p (.node 3 0 (-1) 0 0 0 0 [x])) => in_part w1 p _ h1 S k S.size (Nat.le_refl _) hS256
                rw [hc, ha, hb] at hcs
                rw [ha, hm] at has
                rw [ha] at hxk
                rw [hb] at hyk
                rw [hm] at hmk
                rw [hc]
                have HXK := Lib.hid hxk
                have HYK := Lib.hid hyk
                have HMK := Lib.hid hmk
                have HCS := Lib.hid hcs
                have HAS := Lib.hid has
                clear hxk hyk hmk hcs has hc ha hb hm
                go_upto_region 13 with fail
                go_cut [12] from 70 to 84 (fun v wx => v = .bool (c || (a && b)) ∧ Later wr wx)
                case first =>
                  cases c <;> cases a <;> cases b <;> (
                    go_wp2_with (first
                      | (go_at_call 21; (with_reducible refine (HXK.out _ (by repeat (first | assumption | exact Later.refl _ | refine Later.drew ?_ | refine Later.alloc ?_ _ | refine Later.trans ?_ (by assumption)))).mono ?_); rintro e w5 ⟨rfl, hl5⟩)
                      | (go_at_call 21; (with_reducible refine (HYK.out _ (by repeat (first | assumption | exact Later.refl _ | refine Later.drew ?_ | refine Later.alloc ?_ _ | refine Later.trans ?_ (by assumption)))).mono ?_); rintro e w6 ⟨rfl, hl6⟩))
                    go_meet
                    case rel => exact ⟨rfl, (by repeat (first | assumption | exact Later.refl _ | refine Later.drew ?_ | refine Later.alloc ?_ _ | refine Later.trans ?_ (by assumption)))⟩)
                case rest =>
                  obtain ⟨rfl, hl6⟩ := hcut
                  rw [← HCS.out]
                  have hmany2 := HMANY2.out.later (hlr.trans hl6)
                  rcases hmany2 with ⟨hcm, pm, rfl, hpm⟩ | ⟨hcm, rfl⟩
                  · have hgbk := HGB.out hcm
                    have has := HAS.out
                    rw [← hgbk] at has
                    have HAS2 := Lib.hid has
                    have HXK2 := Lib.hid (fun w1 (h1 : Later wc w1) => HXK.out w1 (hl6.trans h1))
                    have HMK2 := Lib.hid (fun w1 (h1 : Later wc w1) => HMK.out w1 pm (hpm.below h1))
                    clear has hgbk
                    have HLR := Lib.hid (hlr.trans hl6)
                    clear hlr hl6
                    by_cases hk0 : k = 0
                    · subst hk0
                      go_wp2_with fail
                      go_roundw
                      case measure => simp only [intOf]; omega
                      case rel => exact ⟨1, gb, by omega, by simp, rfl, rfl, fun _ => by rw [HAS2.out]; simp, HLR.out⟩
                    · have hk1 : (0 : Int) < k := by omega
                      have hk2 : decide (0 < k) = true := by simp; omega
                      cases gb <;> cases a <;> cases m <;> (
                        go_wp2_with (first
                          | (go_at_call 21; (with_reducible refine (HXK2.out _ (by repeat (first | assumption | exact Later.refl _ | refine Later.drew ?_ | refine Later.alloc ?_ _ | refine Later.trans ?_ (by assumption)))).mono ?_); rintro e w5 ⟨rfl, hl5⟩)
                          | (go_at_call 21; (with_reducible refine (HMK2.out _ (by repeat (first | assumption | exact Later.refl _ | refine Later.drew ?_ | refine Later.alloc ?_ _ | refine Later.trans ?_ (by assumption)))).mono ?_); rintro e w6 ⟨rfl, hl6⟩))
                        go_roundw
                        case measure => simp only [intOf]; omega
                        case rel => exact ⟨k + 1, _, by omega, by simp, rfl, rfl, fun _ => by rw [HAS2.out, hk2]; rfl, HLR.out.trans (by repeat (first | assumption | exact Later.refl _ | refine Later.drew ?_ | refine Later.alloc ?_ _ | refine Later.trans ?_ (by assumption)))⟩)
                  · go_wp2_with fail
                    go_roundw
                    case measure => simp only [intOf]; omega
                    case rel => exact ⟨k + 1, gb, by omega, by simp, rfl, rfl, fun h => absurd h hcm, hlr.trans hl6⟩
    · go_wp2_with (go_at_call 15; (with_reducible refine (HFIX.out _ (by repeat (first | assumption | exact Later.refl _ | refine Later.drew ?_ | refine Later.alloc ?_ _ | refine Later.trans ?_ (by assumption)))).mono ?_); rintro e w3 ⟨rfl, hb3⟩)
      go_ret
      have hl3 := Later.of hb3
      exact ⟨rfl, HL0.out.trans (by repeat (first | assumption | exact Later.refl _ | refine Later.drew ?_ | refine Later.alloc ?_ _ | refine Later.trans ?_ (by assumption)))⟩
  · go_wp2_with (go_at_call 15; (with_reducible refine (HFIX.out _ (by repeat (first | assumption | exact Later.refl _ | refine Later.drew ?_ | refine Later.alloc ?_ _ | refine Later.trans ?_ (by assumption)))).mono ?_); rintro e w3 ⟨rfl, hb3⟩)
    go_ret
    have hl3 := Later.of hb3
    exact ⟨rfl, HL0.out.trans (by repeat (first | assumption | exact Later.refl _ | refine Later.drew ?_ | refine Later.alloc ?_ _ | refine Later.trans ?_ (by assumption)))⟩
end Go.Proofs.YtaelkjffidjcjaaDoor

/- The walk of MatchCounts. -/
namespace Go.Proofs.YtaelkjffidjcjaaDoor
open Go.RowKit PX

theorem checkR_zero (x : Rx) : checkR x = 0 ↔ x.formB = true ∧ x.big ≤ 256 := by
  unfold checkR
  rw [Rx.sizeI_eq]
  cases x.formB with
  | false => simp
  | true =>
    simp only [if_true, true_and]
    split <;> constructor <;> intro h <;> first | omega | (exfalso; omega) | rfl
theorem MaybeX.good {w : World} {v : Value} {x : Rx} (h : MaybeX w v x) (hc : checkR x = 0) : ∃ p, v = .pointer (some ⟨p, 0, none⟩) ∧ MX w p x := by
  rcases h with ⟨-, h⟩ | ⟨h, -⟩
  · exact h
  · exact absurd hc h
theorem mul_mono {a b c : Int} (h : a ≤ b) (hc : 0 ≤ c) : a * c ≤ b * c := Int.mul_le_mul_of_nonneg_right h hc
theorem Later.drewN {a b : World} (h : Later a b) (n : Nat) : Later a (b.drewN n) := below_drewN h n
/-- Of a number of times that may be, so many times may be; and a row of as many. -/
theorem check_kk {x : Rx} {lo hi k : Nat} (h : checkR (.node 3 lo hi 0 0 0 0 [x]) = 0) (h1 : lo ≤ k) (h2 : k ≤ hi) : checkR (.node 3 k k 0 0 0 0 [x]) = 0 := by
  rw [checkR_zero, rep_form, rep_big] at h ⊢
  obtain ⟨⟨h3, h4⟩, h5⟩ := h
  have hp := x.big_pos
  have := mul_mono (show max (max (1 : Int) (k : Int)) (k : Int) ≤ max (max (1 : Int) (lo : Int)) (hi : Int) by omega) (show 0 ≤ x.big by omega)
  exact ⟨⟨by omega, h4⟩, Int.le_trans (Int.add_le_add_left this 1) h5⟩
theorem check_row {x : Rx} {lo hi k : Nat} (h : checkR (.node 3 lo hi 0 0 0 0 [x]) = 0) (h1 : 2 ≤ k) (h2 : k ≤ hi) : checkR (.node 1 0 0 0 0 0 0 (List.replicate k x)) = 0 := by
  rw [checkR_zero] at h ⊢
  rw [rep_form, rep_big] at h
  obtain ⟨⟨h3, h4⟩, h5⟩ := h
  rw [row_big]
  have hp := x.big_pos
  have := mul_mono (show (k : Int) ≤ max (max (1 : Int) (lo : Int)) (hi : Int) by omega) (show 0 ≤ x.big by omega)
  exact ⟨row_form h4 h1, Int.le_trans (Int.add_le_add_left this 1) h5⟩
theorem rep_kk (x : Rx) (k : Nat) (s : List UInt8) : (Rx.node 3 k k 0 0 0 0 [x]).lang s ↔ Pow x.lang k s := by
  rw [rep_lang]
  constructor
  · rintro ⟨j, h1, h2, h⟩
    obtain rfl : j = k := by omega
    exact h
  · intro h; exact ⟨k, by omega, .inr (by omega), h⟩
/-- Is a text, that is not too long, in a language? -/
noncomputable def inT (S : ByteArray) (L : List UInt8 → Prop) : Bool := decide (S.size ≤ 256) && inB L S.data.toList
theorem inT_iff {S : ByteArray} {L : List UInt8 → Prop} : inT S L = true ↔ S.size ≤ 256 ∧ L S.data.toList := by
  unfold inT; rw [Bool.and_eq_true, inB_iff, decide_eq_true_iff]
theorem in_tells (w : World) (p : Nat) (x : Rx) (h : MX w p x) (S : ByteArray) :
    Calls Tryd.prog 21 #[.pointer (some ⟨p, 0, none⟩), .string S] w fun e w' => e = .returned (.bool (inT S x.lang)) ∧ Later w w' := by
  refine (in_any w p x S h.m h.t).mono ?_
  rintro e w' ⟨hb, r, rfl, hr⟩
  refine ⟨?_, hb⟩
  rw [show r = inT S x.lang from by rw [Bool.eq_iff_iff, hr, inT_iff]]
theorem inT_row_kk (x : Rx) (k : Nat) (S : ByteArray) : inT S (Rx.node 1 0 0 0 0 0 0 (List.replicate k x)).lang = inT S (Rx.node 3 k k 0 0 0 0 [x]).lang := by
  rw [Bool.eq_iff_iff, inT_iff, inT_iff, row_lang, langSeq_replicate, rep_kk]
/-- What the loop over the numbers of times has found. -/
noncomputable def oneB (x : Rx) (S : ByteArray) (lo : Nat) : Nat → Bool
  | 0 => false
  | n + 1 => oneB x S lo n || inT S (Rx.node 3 (lo + n : Nat) (lo + n : Nat) 0 0 0 0 [x]).lang
theorem oneB_iff (x : Rx) (S : ByteArray) (lo : Nat) : ∀ n, oneB x S lo n = true ↔ S.size ≤ 256 ∧ ∃ k, lo ≤ k ∧ k < lo + n ∧ Pow x.lang k S.data.toList
  | 0 => by simp [oneB]; intro _ k h1 h2; omega
  | n + 1 => by
    simp only [oneB, Bool.or_eq_true, inT_iff, rep_kk, oneB_iff x S lo n]
    constructor
    · rintro (⟨hs, k, h1, h2, h⟩ | ⟨hs, h⟩)
      · exact ⟨hs, k, h1, by omega, h⟩
      · exact ⟨hs, lo + n, by omega, by omega, h⟩
    · rintro ⟨hs, k, h1, h2, h⟩
      by_cases hk : k < lo + n
      · exact .inl ⟨hs, k, h1, hk, h⟩
      · obtain rfl : k = lo + n := by omega
        exact .inr ⟨hs, h⟩
theorem oneB_all (x : Rx) (S : ByteArray) (lo hi : Nat) (h : lo ≤ hi) : oneB x S lo (hi + 1 - lo) = inT S (Rx.node 3 lo hi 0 0 0 0 [x]).lang := by
  rw [Bool.eq_iff_iff, inT_iff, oneB_iff, rep_lang]
  refine and_congr Iff.rfl (exists_congr fun k => ?_)
  constructor
  · rintro ⟨h1, h2, h3⟩; exact ⟨by omega, .inr (by omega), h3⟩
  · rintro ⟨h1, h2, h3⟩; exact ⟨by omega, by omega, h3⟩

def lenOf : Option Value → Nat
  | some (.slice _ n _) => n
  | _ => 0

theorem bareAll_replicate (X : RxA) (k : Nat) : bareAll (List.replicate k X) = List.replicate k X.bare := by rw [bareAll_eq, List.map_replicate]
theorem rxCells_snoc (l : List RxA) (X : RxA) : rxCells (l ++ [X]) = rxCells l ++ X.cells := by rw [rxCells_append]; simp [rxCells]

/-- A call of fits, of a row of equal expressions. -/
theorem fits_rowof {w : World} {X : RxA} {base k cap : Nat} {a : Option Addr} (hT : TabAt 0 Lib.deBruijn64tab w) (hX : X.In w w.heap.size) (hown : w.ownsRow base 26 8 (.slice a k cap) k (rxCells (List.replicate k X))) (hk : k ≤ 15) (hk2 : 2 ≤ k) :
    Calls Tryd.prog 20 #[.agg #[.int .i64 1, .int .i64 0, .int .i64 0, .int .u64 0, .int .u64 0, .int .u64 0, .int .u64 0, .slice a k cap]] w fun e w' => ∃ v, e = .returned v ∧ Later w w' ∧ MaybeX w' v (.node 1 0 0 0 0 0 0 (List.replicate k X.bare)) := by
  obtain ⟨a', cap', he, h1, h2, h3⟩ := row_value hown
  simp only [Value.slice.injEq, true_and] at he
  obtain ⟨rfl, rfl⟩ := he
  rcases h3 with ⟨h0, -⟩ | ⟨g, rfl, hg, hg2, -⟩
  · omega
  have := fits_of w (.node 1 0 0 0 0 0 0 (some ⟨g, 0, none⟩) cap (List.replicate k X)) ?_ hT
  · simp only [RxA.val, RxA.cells, List.length_replicate, RxA.bare, bareAll_replicate] at this
    exact this
  · simp only [RxA.In, List.length_replicate]
    refine ⟨⟨⟨by omega, by omega⟩, ⟨by omega, by omega⟩, ⟨by omega, by omega⟩, ⟨by omega, by omega⟩, ⟨by omega, by omega⟩, ⟨by omega, by omega⟩, ⟨by omega, by omega⟩⟩, h1, h2, by omega, .inr ⟨g, 0, rfl, hg2, ?_⟩⟩
    refine inL_of_row (fun j u hu => ?_) (fun Z hZ => ?_)
    · have hj : j < (rxCells (List.replicate k X)).length := (List.getElem?_eq_some_iff.1 hu).1
      rw [rxCells_length, List.length_replicate] at hj
      rw [Nat.zero_add, hown.cellAt j hj]; exact hu
    · rw [(List.mem_replicate.1 hZ).2]; exact hX

set_option maxRecDepth 100000 in
set_option maxHeartbeats 4000000 in
theorem counts_any (w : World) (X : RxA) (low high : Int) (hlo : I64 low) (hhi : I64 high) (S : ByteArray) (hJ : JW w X X) :
    Calls Tryd.prog 7 #[X.val, .agg #[.int .i64 low, .int .i64 high], .string S] w fun e w' => e = .returned (.bool true) ∧ Later w w' := by
  obtain ⟨w0, hw0⟩ : ∃ w0, (w.alloc (.cells X.cells.toArray 26)).alloc (.cells #[.int .i64 low, .int .i64 high] 41) = w0 := ⟨_, rfl⟩
  have hl0 : Later w w0 := by rw [← hw0]; exact ((Later.refl w).alloc _).alloc _
  have hJ0 := hJ.later hl0
  have hx0 : w0.heap[w.heap.size]? = some (.cells X.cells.toArray 26 (0, 0)) := by rw [← hw0]; exact alloc_old (alloc_block w _) _
  have hy0 : w0.heap[w.heap.size + 1]? = some (.cells #[.int .i64 low, .int .i64 high] 41 (0, 0)) := by
    have := alloc_block (w.alloc (.cells X.cells.toArray 26)) (.cells #[.int .i64 low, .int .i64 high] 41)
    rw [World.size_alloc] at this
    rw [← hw0]; exact this
  have hf1 := fun w1 (h1 : Later w0 w1) => @fits_of1 w0 w1 X X hJ0 h1
  have hfr := fun w1 (h1 : Later w0 w1) base k cap a => @fits_rowof w1 X base k cap a (hJ0.later h1).t (hJ0.later h1).x
  have hfix := fun w1 (h1 : Later w0 w1) => fixed_any w1 (hJ0.later h1).t
  obtain ⟨x, hx⟩ : ∃ x, X.bare = x := ⟨_, rfl⟩
  rw [hx] at hf1 hfr
  obtain ⟨i0, hif, hz0, hz1, hz2⟩ := info_parts info_rx3
  have h1x := rx_one X
  clear hJ hJ0 hx
  obtain ⟨XX, hXX⟩ : ∃ XX, XX = X := ⟨_, rfl⟩
  rw [← hXX] at hfr
  have hxc : XX.cells = X.cells := by rw [hXX]
  clear hXX
  obtain ⟨k, mn, mx, s0, s1, s2, s3, a, cap, l⟩ := X
  simp only [RxA.val, RxA.cells, List.cons_append, List.nil_append] at hf1 hx0 hy0 hw0 h1x ⊢
  have hxc : XX.cells = [.int .i64 k, .int .i64 mn, .int .i64 mx, .int .u64 s0, .int .u64 s1, .int .u64 s2, .int .u64 s3, .slice a l.length cap] := hxc
  obtain ⟨b0, hb0⟩ : ∃ b0, w.heap.size = b0 := ⟨_, rfl⟩
  obtain ⟨n, hn⟩ : ∃ n, l.length = n := ⟨_, rfl⟩
  rw [hn] at hf1 hx0 hw0 hxc h1x ⊢
  rw [hb0] at hx0 hy0
  have HX0 := Lib.hid hx0
  have HF1 := Lib.hid hf1; clear hf1
  have HFR := Lib.hid hfr; clear hfr
  have HXC := Lib.hid hxc; clear hxc
  have H1X := Lib.hid h1x; clear h1x
  have HFIX := Lib.hid hfix; clear hfix
  have HL0 := Lib.hid hl0; clear hl0
  have HW0 := Lib.hid hw0; clear hw0 hn
  have p0 : w0.cell? ⟨b0 + 1, 0, none⟩ = some (.int .i64 low) := by rw [cell_of_block hy0]; rfl
  have p1 : w0.cell? ⟨b0 + 1, 1, none⟩ = some (.int .i64 high) := by rw [cell_of_block hy0]; rfl
  have hsx : ∀ w', Later w0 w' → w'.cell? ⟨b0, 0, none⟩ = some (.int .i64 k) ∧ w'.cell? ⟨b0, 1, none⟩ = some (.int .i64 mn) ∧ w'.cell? ⟨b0, 2, none⟩ = some (.int .i64 mx) ∧ w'.cell? ⟨b0, 3, none⟩ = some (.int .u64 s0) ∧ w'.cell? ⟨b0, 4, none⟩ = some (.int .u64 s1) ∧ w'.cell? ⟨b0, 5, none⟩ = some (.int .u64 s2) ∧ w'.cell? ⟨b0, 6, none⟩ = some (.int .u64 s3) ∧ w'.cell? ⟨b0, 7, none⟩ = some (.slice a n cap) := by
    intro w' h'
    have h1 := h'.block hx0
    refine ⟨?_, ?_, ?_, ?_, ?_, ?_, ?_, ?_⟩ <;> exact cell_of_block h1 _
  have HSX := Lib.hid hsx
  clear hx0 hy0 hsx HX0
  have hq : ∀ n, Later w0 (w0.drewN n) := fun n => (Later.refl w0).drewN n
  have HQ := Lib.hid hq
  clear hq
  by_cases hg : 0 ≤ low ∧ low ≤ high ∧ high ≤ 15
  · obtain ⟨lo, rfl⟩ : ∃ lo : Nat, low = lo := ⟨low.toNat, by omega⟩
    obtain ⟨hi, rfl⟩ : ∃ hi : Nat, high = hi := ⟨high.toNat, by omega⟩
    obtain ⟨hg1, hg2, hg3⟩ := hg
    have hlh : lo ≤ hi := by omega
    have hi15 : hi ≤ 15 := by omega
    have t1 : ¬ (lo : Int) < 0 := by omega
    have t2 : decide (hi < lo) = false := by simp; omega
    have t3 : ¬ (15 : Int) < hi := by omega
    have HB0 := Lib.hid hb0
    go_enter Tryd.func7, Tryd.ntmps7
    go_wp2_with fail
    rw [HW0.out]
    clear HW0 hb0
    go_quiet (fail)
    go_wp2_with (first
      | (go_at_call 15; (with_reducible refine (HFIX.out _ (by repeat (first | assumption | exact Later.refl _ | refine Later.drew ?_ | refine Later.drewN ?_ _ | refine Later.alloc ?_ _ | refine Later.trans ?_ (by assumption)))).mono ?_); rintro e w3 ⟨rfl, hb3⟩; have hl3 := Later.of hb3; clear hb3; have hq := HSX.out w3 (by repeat (first | assumption | exact Later.refl _ | refine Later.drew ?_ | refine Later.drewN ?_ _ | refine Later.alloc ?_ _ | refine Later.trans ?_ (by assumption))); obtain ⟨q0, q1, q2, q3, q4, q5, q6, q7⟩ := hq)
      | (go_at_call 20; (with_reducible refine (HF1.out _ (by repeat (first | assumption | exact Later.refl _ | refine Later.drew ?_ | refine Later.drewN ?_ _ | refine Later.alloc ?_ _ | refine Later.trans ?_ (by assumption))) _ _ _ (by repeat (first | assumption | refine drew_block ?_ | (refine alloc_at ?_; (simp; done)) | refine alloc_old ?_ _ | refine Later.block (by assumption) ?_)) (by rfl) _ _ (by unfold I64; omega) (by unfold I64; omega)).mono ?_); rintro e w4 ⟨v, rfl, hl4, ⟨hc, pa, rfl, hpa⟩ | ⟨hc, rfl⟩⟩)
      | fail)
    · have hlw4 : Later w0 w4 := (by repeat (first | assumption | exact Later.refl _ | refine Later.drew ?_ | refine Later.drewN ?_ _ | refine Later.alloc ?_ _ | refine Later.trans ?_ (by assumption)))
      have HLW4 := Lib.hid hlw4
      have HPA := Lib.hid hpa
      have HC := Lib.hid hc
      clear hl3 hl4 hlw4 q0 q1 q2 q3 q4 q5 q6 q7 p0 p1 hpa hc t1 t2 t3
      go_loopw [10, 11] (fun o_ k_ wx => ∃ j : Nat, lo ≤ j ∧ j ≤ hi + 1 ∧ k_ = .int .i64 j ∧ o_ = .bool (oneB x S lo (j - lo)) ∧ Later w4 wx) (fun _ k_ _ => hi + 1 - (intOf k_).toNat)
      case atStart => exact ⟨lo, Nat.le_refl _, by omega, rfl, by rw [Nat.sub_self]; rfl, Later.refl _⟩
      case round =>
        obtain ⟨j, hlj, hjh, rfl, rfl, hlr⟩ := hrel
        by_cases hje : j = hi + 1
        · subst hje
          have hall := in_tells wr pa _ (HPA.out.later hlr) S
          rw [oneB_all x S lo hi hlh]
          obtain ⟨o, ho⟩ : ∃ o, inT S (Rx.node 3 lo hi 0 0 0 0 [x]).lang = o := ⟨_, rfl⟩
          rw [ho] at hall ⊢
          have HALL := Lib.hid hall
          clear hall ho
          go_wp2_with (first
            | (go_at_call 21; (with_reducible refine HALL.out.mono ?_); rintro e w6 ⟨rfl, hl6⟩)
            | fail)
          go_ret
          exact ⟨by simp, (HL0.out.trans HLW4.out).trans (hlr.trans hl6)⟩
        · have hjh2 : (j : Int) ≤ hi := by omega
          have hck := check_kk HC.out hlj (by omega : j ≤ hi)
          have hcr := fun h2 : 2 ≤ j => check_row HC.out h2 (by omega : j ≤ hi)
          have hin := fun w1 p (h1 : MX w1 p (.node 3 j j 0 0 0 0 [x])) => in_tells w1 p _ h1 S
          have hir := fun w1 p (h1 : MX w1 p (.node 1 0 0 0 0 0 0 (List.replicate j x))) => in_tells w1 p _ h1 S
          have hone : oneB x S lo (j + 1 - lo) = (oneB x S lo (j - lo) || inT S (Rx.node 3 j j 0 0 0 0 [x]).lang) := by
            rw [show j + 1 - lo = (j - lo) + 1 by omega, oneB, show lo + (j - lo) = j by omega]
          rw [inT_row_kk] at hir
          obtain ⟨o, ho⟩ : ∃ o, oneB x S lo (j - lo) = o := ⟨_, rfl⟩
          obtain ⟨ij, hij⟩ : ∃ ij, inT S (Rx.node 3 j j 0 0 0 0 [x]).lang = ij := ⟨_, rfl⟩
          rw [hij] at hin hir hone
          rw [ho] at hone ⊢
          have HIN := Lib.hid hin
          have HIR := Lib.hid hir
          have HONE := Lib.hid hone
          have HCK := Lib.hid hck
          have HCR := Lib.hid hcr
          clear hin hir hone hck hcr ho hij
          have hlr0 := HLW4.out.trans hlr
          obtain ⟨q0, q1, q2, q3, q4, q5, q6, q7⟩ := HSX.out wr hlr0
          have HLR := Lib.hid hlr; clear hlr
          go_upto_region 17 with (first
            | (go_at_call 20; (with_reducible refine (HF1.out _ (by repeat (first | assumption | exact Later.refl _ | refine Later.drew ?_ | refine Later.drewN ?_ _ | refine Later.alloc ?_ _ | refine Later.trans ?_ (by assumption))) _ _ _ (by repeat (first | assumption | refine drew_block ?_ | (refine alloc_at ?_; (simp; done)) | refine alloc_old ?_ _ | refine Later.block (by assumption) ?_)) (by rfl) _ _ (by unfold I64; omega) (by unfold I64; omega)).mono ?_); rintro e w5 ⟨v, rfl, hl5, hm5⟩; obtain ⟨pk, rfl, hpk⟩ := hm5.good HCK.out; clear hm5; have HPK := Lib.hid hpk; clear hpk)
            | (go_at_call 21; (with_reducible refine (HIN.out _ _ HPK.out).mono ?_); rintro e w6 ⟨rfl, hl6⟩)
            | fail)
          have hlw6 : Later wr w6 := (by repeat (first | assumption | exact Later.refl _ | refine Later.drew ?_ | refine Later.drewN ?_ _ | refine Later.alloc ?_ _ | refine Later.trans ?_ (by assumption)))
          go_cut [10] from 58 to 61 (fun v wx => v = .bool (o || ij) ∧ wx = w6)
          case first =>
            cases o <;> (
              go_wp2_with fail
              go_meet
              case rel => exact ⟨rfl, rfl⟩)
          case rest =>
            obtain ⟨rfl, rfl⟩ := hcut
            by_cases hj2 : j < 2
            · have hj3 : (j : Int) < 2 := by omega
              go_wp2_with fail
              go_roundw
              case measure => simp only [intOf]; omega
              case rel => exact ⟨j + 1, by omega, by omega, by simp, by rw [HONE.out], HLR.out.trans hlw6⟩
            · have hj3 : ¬ (j : Int) < 2 := by omega
              have hj4 : 2 ≤ j := by omega
              obtain ⟨W7, hW7⟩ : ∃ W7, wc.alloc (.cells #[.int .i64 1, .int .i64 0, .int .i64 0, .int .u64 0, .int .u64 0, .int .u64 0, .int .u64 0, .slice none 0 0] 26) = W7 := ⟨_, rfl⟩
              have hl67 : Later wc W7 := by rw [← hW7]; exact (Later.refl _).alloc _
              have hr7 : W7.heap[wc.heap.size]? = some (.cells #[.int .i64 1, .int .i64 0, .int .i64 0, .int .u64 0, .int .u64 0, .int .u64 0, .int .u64 0, .slice none 0 0] 26 (0, 0)) := by rw [← hW7]; exact alloc_block _ _
              have hs7 : W7.heap.size = wc.heap.size + 1 := by rw [← hW7]; simp
              obtain ⟨r, hr⟩ : ∃ r, wc.heap.size = r := ⟨_, rfl⟩
              rw [hr] at hr7 hs7
              have HR7 := Lib.hid hr7; clear hr7
              have HS7 := Lib.hid hs7; clear hs7
              have HW7 := Lib.hid hW7; clear hW7
              have HL67 := Lib.hid ((hlr0.trans hlw6).trans hl67)
              have HLW7 := Lib.hid (hlw6.trans hl67)
              have HBR : Hid (w0.heap.size ≤ r) := Lib.hid (by have := Below.size (hlr0.trans hlw6); omega)
              have HBK : Hid (wr.heap.size ≤ r) := Lib.hid (by have := Below.size hlw6; omega)
              clear hl67 hl5 hl6 hlw6 hlr0 q0 q1 q2 q3 q4 q5 q6 q7
              go_wp2_with fail
              rw [HW7.out]
              clear HW7 hr HPK
              obtain ⟨wk, hwk⟩ : ∃ v, v = wr := ⟨_, rfl⟩
              subst hwk
              go_loopw [] (fun wx => ∃ (jj cp : Nat) (ad : Option Addr), jj ≤ j ∧ wx.heap[r]? = some (.cells #[.int .i64 1, .int .i64 0, .int .i64 0, .int .u64 0, .int .u64 0, .int .u64 0, .int .u64 0, .slice ad jj cp] 26 (0, 0)) ∧ wx.ownsRow (r + 1) 26 8 (.slice ad jj cp) jj (rxCells (List.replicate jj XX)) ∧ Only (fun q => q = r) W7 wx) (fun wx => j - lenOf (wx.cell? ⟨r, 7, none⟩))
              case atStart =>
                exact ⟨0, 0, none, by omega, HR7.out, ⟨rfl, .inl ⟨rfl, rfl⟩⟩, Only.refl _ _⟩
              case round =>
                obtain ⟨jj, cp, ad, hjj, hbr, hown, hon⟩ := hrel
                have hsz := hon.size
                rw [HS7.out] at hsz
                have hl7 : Later w0 wr := Below.trans HL67.out (hon.below (by have := HBR.out; rw [HS7.out]; omega) (by rintro q rfl; exact HBR.out))
                have hlk : Later wk wr := Below.trans HLW7.out (hon.below (by have := HBK.out; rw [HS7.out]; omega) (by rintro q rfl; exact HBK.out))
                have HON := Lib.hid hon
                have HLK := Lib.hid hlk
                have HL7 := Lib.hid hl7
                clear hon hlk
                obtain ⟨ad', cp', hv, hcv1, hcv2, -⟩ := row_value hown
                simp only [Value.slice.injEq, true_and] at hv
                obtain ⟨rfl, rfl⟩ := hv
                have hcv2 : cp ≤ 9223372036854775807 := by unfold maxLen at hcv2; omega
                have HOWN := Lib.hid hown
                clear hown
                by_cases hje : jj = j
                · subst hje
                  have r0 : wr.cell? ⟨r, 0, none⟩ = some (.int .i64 1) := by rw [cell_of_block hbr]; rfl
                  have r1 : wr.cell? ⟨r, 1, none⟩ = some (.int .i64 0) := by rw [cell_of_block hbr]; rfl
                  have r2 : wr.cell? ⟨r, 2, none⟩ = some (.int .i64 0) := by rw [cell_of_block hbr]; rfl
                  have r3 : wr.cell? ⟨r, 3, none⟩ = some (.int .u64 0) := by rw [cell_of_block hbr]; rfl
                  have r4 : wr.cell? ⟨r, 4, none⟩ = some (.int .u64 0) := by rw [cell_of_block hbr]; rfl
                  have r5 : wr.cell? ⟨r, 5, none⟩ = some (.int .u64 0) := by rw [cell_of_block hbr]; rfl
                  have r6 : wr.cell? ⟨r, 6, none⟩ = some (.int .u64 0) := by rw [cell_of_block hbr]; rfl
                  have r7 : wr.cell? ⟨r, 7, none⟩ = some (.slice ad jj cp) := by rw [cell_of_block hbr]; rfl
                  have HBRW := Lib.hid hbr; clear hbr
                  have hjj15 : jj ≤ 15 := by omega
                  go_wp2_with (first
                    | (go_at_call 20; (with_reducible refine (HFR.out wr hl7 _ _ _ _ HOWN.out hjj15 hj4).mono ?_); rintro e w8 ⟨v, rfl, hl8, hm8⟩; obtain ⟨pn, rfl, hpn⟩ := hm8.good (HCR.out hj4); clear hm8; have HPN := Lib.hid hpn; clear hpn)
                    | (go_at_call 21; (with_reducible refine (HIR.out _ _ HPN.out).mono ?_); rintro e w9 ⟨rfl, hl9⟩)
                    | fail)
                  go_roundw
                  case measure => simp only [intOf]; omega
                  case rel => exact ⟨jj + 1, by omega, by omega, by simp, by rw [HONE.out], (HLR.out.trans HLK.out).trans (hl8.trans hl9)⟩
                · have hjj2 : (jj : Int) < j := by omega
                  have hjj3 : jj + 1 ≤ 15 := by omega
                  obtain ⟨q0, q1, q2, q3, q4, q5, q6, q7⟩ := HSX.out wr hl7
                  have r7 : wr.cell? ⟨r, 7, none⟩ = some (.slice ad jj cp) := by rw [cell_of_block hbr]; rfl
                  have hrlt := lt_of_block hbr
                  have HBRW := Lib.hid hbr; clear hbr
                  have HOW2 := Lib.hid (HOWN.out.alloc (.cells ([.int .i64 k, .int .i64 mn, .int .i64 mx, .int .u64 s0, .int .u64 s1, .int .u64 s2, .int .u64 s3, .slice a n cap] : List Value).toArray 26))
                  have hb2 := alloc_old HBRW.out (.cells ([.int .i64 k, .int .i64 mn, .int .i64 mx, .int .u64 s0, .int .u64 s1, .int .u64 s2, .int .u64 s3, .slice a n cap] : List Value).toArray 26)
                  have HB2 := Lib.hid hb2
                  have hnb : some r ≠ (Value.slice ad jj cp).ownBlock := by
                    intro he
                    have := (HOWN.out.lt r he.symm).1
                    omega
                  have HNB := Lib.hid hnb
                  clear hb2 hnb
                  go_wp2_with (first
                    | (refine wpList_append_lies _ rfl (.tmp 71) (.tmp 73) 24 rfl (r + 1) 26 i0 _ 8 80 Tryd.underlying24 hif hz0 hz1 hz2 rfl (by decide) (.slice ad jj cp) jj (rxCells (List.replicate jj XX)) rfl HOW2.out ⟨wr.heap.size, 0, none⟩ 1 1 [.int .i64 k, .int .i64 mn, .int .i64 mx, .int .u64 s0, .int .u64 s1, .int .u64 s2, .int .u64 s3, .slice a n cap] rfl rfl (cells_new wr [.int .i64 k, .int .i64 mn, .int .i64 mx, .int .u64 s0, .int .u64 s1, .int .u64 s2, .int .u64 s3, .slice a n cap] 26) H1X.out (by decide) (by unfold maxLen; omega) (by omega) (by simp; omega) _ rfl ?_
                       intro g cp2 w3 hown3 hgrow hgat hglt
                       have hv3 := (hgrow.block r (by simp; omega) HNB.out).trans HB2.out
                       have hf3 : w3.frozen? ⟨r, 7, none⟩ = false := free_of_block hv3 7
                       have hc3 : w3.cell? ⟨r, 7, none⟩ = some (.slice ad jj cp) := cell_of_block hv3 7
                       have HV3 := Lib.hid hv3
                       clear hv3)
                    | fail)
                  have hblk := setCell_block HV3.out 7 (.slice (some ⟨g, 0, none⟩) (jj + 1) cp2)
                  have hon3 : Only (fun q => q = r) w3 (w3.setCell ⟨r, 7, none⟩ (.slice (some ⟨g, 0, none⟩) (jj + 1) cp2)) := (Only.refl (fun q => q = r) w3).setCell (.inl rfl) _
                  refine ⟨⟨jj + 1, cp2, some ⟨g, 0, none⟩, by omega, hblk, ?_, ?_⟩, ?_⟩
                  · have := hon3.ownsRow hown3 (fun q hq hqr => by
                      have := (hown3.lt q hq).1
                      omega)
                    rw [List.replicate_succ', rxCells_snoc, HXC.out]
                    exact this
                  · refine ((HON.out.alloc _).grown hgrow (fun q hq => .inr ?_)).setCell (.inl rfl) _
                    have := (HOWN.out.lt q hq).1
                    rw [HS7.out]
                    exact this
                  · rw [cell_of_block hblk 7, r7]
                    show j - (jj + 1) < j - jj
                    omega
    · go_ret
      exact ⟨rfl, HL0.out.trans (by repeat (first | assumption | exact Later.refl _ | refine Later.drew ?_ | refine Later.drewN ?_ _ | refine Later.alloc ?_ _ | refine Later.trans ?_ (by assumption)))⟩
  · go_enter Tryd.func7, Tryd.ntmps7
    go_wp2_with fail
    rw [HW0.out]
    clear HW0
    go_quiet (fail)
    go_wp2_with (first
      | (go_at_call 15; (with_reducible refine (HFIX.out _ (by repeat (first | assumption | exact Later.refl _ | refine Later.drew ?_ | refine Later.drewN ?_ _ | refine Later.alloc ?_ _ | refine Later.trans ?_ (by assumption)))).mono ?_); rintro e w3 ⟨rfl, hb3⟩; have hl3 := Later.of hb3; clear hb3; have hq := HSX.out w3 (by repeat (first | assumption | exact Later.refl _ | refine Later.drew ?_ | refine Later.drewN ?_ _ | refine Later.alloc ?_ _ | refine Later.trans ?_ (by assumption))); obtain ⟨q0, q1, q2, q3, q4, q5, q6, q7⟩ := hq)
      | fail)
    all_goals (go_ret; exact ⟨rfl, HL0.out.trans (by repeat (first | assumption | exact Later.refl _ | refine Later.drew ?_ | refine Later.drewN ?_ _ | refine Later.alloc ?_ _ | refine Later.trans ?_ (by assumption)))⟩)
end Go.Proofs.YtaelkjffidjcjaaDoor
