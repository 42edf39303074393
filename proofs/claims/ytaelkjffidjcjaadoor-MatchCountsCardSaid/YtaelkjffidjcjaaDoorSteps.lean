/- The walk of MatchSteps. -/
import Derived.Test.YtaelkjffidjcjaaDoorFixed
import Derived.Test.YtaelkjffidjcjaaDoorLx
set_option linter.unusedSimpArgs false
set_option linter.unusedVariables false
namespace Go.Proofs.YtaelkjffidjcjaaDoor
open Go.RowKit PX

/-- A machine, and the table that its steps read. -/
structure MX (w : World) (p : Nat) (x : Rx) : Prop where
  m : Machine w p x
  t : TabAt 0 Lib.deBruijn64tab w
theorem MX.below {w w' : World} {p : Nat} {x : Rx} (h : MX w p x) (hb : Below w.heap.size w w') : MX w' p x := ⟨h.m.below hb, TabAt.below h.t hb⟩
theorem ba_len (S : ByteArray) : S.data.toList.length = S.size := by rw [Array.length_toList]; rfl
theorem hit_some (w : World) (p : Nat) (x : Rx) (h : MX w p x) (S : ByteArray) (f a b : Nat) (hl : S.size ≤ 256) (hh : IsHit x.lang S.data.toList f a b) :
    Calls Tryd.prog 24 #[.pointer (some ⟨p, 0, none⟩), .string S, .int .i64 f] w fun e w' => e = .returned (.tuple #[.int .i64 a, .int .i64 b, .bool true]) ∧ Below w.heap.size w w' := by
  have hfl : f ≤ S.size := by have := hh.1; have := hh.2.1; have := hh.2.2.1; rw [ba_len] at this; omega
  refine (hit_any w p x S f h.m h.t ⟨by omega, by omega⟩).mono ?_
  rintro e w' ⟨hs, hb⟩
  rcases hs with ⟨hn, -⟩ | ⟨-, g, hg, -, ⟨a', b', rfl, hh'⟩ | ⟨hn, -⟩⟩
  · exact absurd ⟨by rw [ba_len]; exact hl, by omega, by rw [ba_len]; omega⟩ hn
  · obtain rfl : g = f := by omega
    obtain ⟨rfl, rfl⟩ := isHit_unique hh' hh
    exact ⟨rfl, hb⟩
  · obtain rfl : g = f := by omega
    exact (isHit_noHit hh hn).elim
theorem hit_none (w : World) (p : Nat) (x : Rx) (h : MX w p x) (S : ByteArray) (f : Nat) (hf : f ≤ 1000) (hh : 256 < S.size ∨ NoHit x.lang S.data.toList f) :
    Calls Tryd.prog 24 #[.pointer (some ⟨p, 0, none⟩), .string S, .int .i64 f] w fun e w' => e = .returned (.tuple #[.int .i64 0, .int .i64 0, .bool false]) ∧ Below w.heap.size w w' := by
  refine (hit_any w p x S f h.m h.t ⟨by omega, by omega⟩).mono ?_
  rintro e w' ⟨hs, hb⟩
  rcases hs with ⟨-, he⟩ | ⟨hl, g, hg, -, ⟨a', b', rfl, hh'⟩ | ⟨-, he⟩⟩
  · exact ⟨he, hb⟩
  · obtain rfl : g = f := by omega
    rw [ba_len] at hl
    rcases hh with hh | hh
    · omega
    · exact (isHit_noHit hh' hh).elim
  · exact ⟨he, hb⟩
theorem isHit_later {L : List UInt8 → Prop} {s : List UInt8} {f g a b : Nat} (h : IsHit L s f a b) (h1 : f ≤ g) (h2 : g ≤ a) : IsHit L s g a b :=
  ⟨h2, h.2.1, h.2.2.1, h.2.2.2.1, h.2.2.2.2.1, fun c hc => h.2.2.2.2.2 c (by omega)⟩

set_option maxRecDepth 100000 in
set_option maxHeartbeats 2000000 in
theorem steps_any (w : World) (B : Nat) (X : RxA) (S : ByteArray) (f : Int) (hB : B ≤ w.heap.size) (hin : X.In w B) (hf : I64 f) (hT : TabAt 0 Lib.deBruijn64tab w) :
    Calls Tryd.prog 8 #[X.val, .string S, .int .i64 f] w fun e w' => e = .returned (.bool true) ∧ Below w.heap.size w w' := by
  have hnew := new_any X (w.alloc (.cells X.cells.toArray 26)) B (by simp; omega) (in_box _ hB hin)
  have hbb := (Below.refl w.heap.size w).alloc (Nat.le_refl _) (.cells X.cells.toArray 26)
  have hsz : (w.alloc (.cells X.cells.toArray 26)).heap.size = w.heap.size + 1 := by simp
  obtain ⟨x, hx⟩ : ∃ x, X.bare = x := ⟨_, rfl⟩
  rw [hx] at hnew
  obtain ⟨k, mn, mx, s0, s1, s2, s3, a, cap, l⟩ := X
  simp only [RxA.val, RxA.cells] at hnew hbb hsz ⊢
  clear hx hin
  have HT := Lib.hid hT; clear hT
  by_cases hc : checkR x = 0
  · have hn2 := hnew.mono (R' := fun e w' => ∃ p, e = .returned (.tuple #[.pointer (some ⟨p, 0, none⟩), .int .i64 0]) ∧ Below w.heap.size w w' ∧ MX w' p x) (by
      rintro e w' ⟨hb, ⟨-, p, he, hp, hm⟩ | ⟨hc', -⟩⟩
      · have hbw := hbb.trans (hb.mono (by omega))
        exact ⟨p, he, hbw, hm, TabAt.below HT.out hbw⟩
      · exact absurd hc hc')
    have HN := Lib.hid hn2; clear hn2 hnew hbb hsz hc
    go_enter Tryd.func8, Tryd.ntmps8
    go_wp2_with (first
      | (go_at_call 14; refine HN.out.mono ?_; rintro e w1 ⟨p, rfl, hb1, hm1⟩; have HM1 := Lib.hid hm1; clear hm1)
      | (go_at_call 15; refine (fixed_any _ HM1.out.t).mono ?_; rintro e w2 ⟨rfl, hb2⟩; have HM2 := Lib.hid (HM1.out.below hb2); have hc2 := hb1.trans (hb2.mono hb1.size))
      | (go_at_call 22; refine (hits_any _ p x S HM2.out.m HM2.out.t).mono ?_; rintro e w3 ⟨v, hl, rfl, hsay, hown, hl256, hb3⟩; have HM3 := Lib.hid (HM2.out.below hb3); have hc3 := hc2.trans (hb3.mono hc2.size); obtain ⟨av, cv, hv, hpc⟩ := pairs_of_row hown; subst hv; have HPC := Lib.hid hpc; clear hpc; have HSAY := Lib.hid hsay; clear hown hsay))
    have hlen := ba_len S
    obtain ⟨n, hnl⟩ : ∃ n, hl.length = n := ⟨_, rfl⟩
    rw [hnl] at hl256 ⊢
    have HNL := Lib.hid hnl; clear hnl
    go_loopw [10, 11] (fun at_ i wr => ∃ k q : Nat, k ≤ n ∧ i = .int .i64 k ∧ at_ = .int .i64 q ∧ Below w3.heap.size w3 wr ∧ q ≤ 256 ∧ ((S.size ≤ 256 ∧ HitsFrom x.lang S.data.toList q (hl.drop k)) ∨ (256 < S.size ∧ hl = []))) (fun _ i _ => n - (intOf i).toNat)
    case atStart =>
      refine ⟨0, 0, by omega, rfl, rfl, Below.refl _ _, by omega, ?_⟩
      rcases HSAY.out with ⟨h1, h2⟩ | ⟨h1, h2⟩
      · exact .inl ⟨by omega, by simpa using h2⟩
      · exact .inr ⟨by omega, h2⟩
    case round =>
      obtain ⟨k, q, hk, rfl, rfl, hbr, hq, hcs⟩ := hrel
      have HMR := Lib.hid (HM3.out.below hbr)
      have hbw := hc3.trans (hbr.mono hc3.size)
      by_cases hke : k = n
      · subst hke
        have hno : 256 < S.size ∨ NoHit x.lang S.data.toList q := by
          rcases hcs with ⟨-, h⟩ | ⟨h, -⟩
          · rw [List.drop_eq_nil_of_le (by rw [HNL.out]; exact Nat.le_refl _)] at h
            cases h with
            | nil h => exact .inr h
          · exact .inl h
        have HNO := Lib.hid hno; clear hno hcs
        go_wp2_with (go_at_call 24; refine (hit_none _ p x HMR.out S q (by omega) HNO.out).mono ?_; rintro e w4 ⟨rfl, hb4⟩)
        go_ret
        exact ⟨rfl, hbw.trans (hb4.mono hbw.size)⟩
      · have hkl : k < hl.length := by rw [HNL.out]; omega
        have hne : hl ≠ [] := by rintro rfl; simp at hkl
        obtain ⟨hs256, hfr⟩ : S.size ≤ 256 ∧ HitsFrom x.lang S.data.toList q (hl.drop k) := hcs.resolve_right (fun h => hne h.2)
        obtain ⟨⟨a, b⟩, hab⟩ : ∃ r, hl[k]? = some r := ⟨hl[k], List.getElem?_eq_getElem hkl⟩
        have hdrop : hl.drop k = (a, b) :: hl.drop (k + 1) := by
          rw [List.drop_eq_getElem_cons hkl]
          rw [List.getElem?_eq_getElem hkl] at hab
          rw [Option.some.inj hab]
        rw [hdrop] at hfr
        obtain ⟨hit, hrest⟩ : IsHit x.lang S.data.toList q a b ∧ HitsFrom x.lang S.data.toList b (hl.drop (k + 1)) := by
          cases hfr with
          | cons h r => exact ⟨h, r⟩
        obtain ⟨bp, hbp, hcells⟩ := HPC.out.resolve_left hne
        obtain ⟨c0, c1⟩ := hcells k (a, b) hab
        have lt0 := World.block_lt_of_cell? _ _ c0
        have d0 : wr.cell? ⟨bp, k * 2, none⟩ = some (.int .i64 (a : Int)) := (hbr.cell (p := ⟨bp, k * 2, none⟩) lt0).trans c0
        have d1 : wr.cell? ⟨bp, k * 2 + 1, none⟩ = some (.int .i64 (b : Int)) := (hbr.cell (p := ⟨bp, k * 2 + 1, none⟩) lt0).trans c1
        have lt1 := World.block_lt_of_cell? _ _ d0
        have HD0 := Lib.hid d0
        have HD1 := Lib.hid d1
        have hqa := hit.1
        have hab2 := hit.2.1
        have hbs := hit.2.2.1
        rw [hlen] at hbs
        have HIT := Lib.hid hit
        have HRST := Lib.hid hrest
        subst hbp
        clear hit hrest hfr hdrop hab hcells c0 c1 hcs hne d0 d1
        have hkn : (k : Int) < n := by omega
        have i1 : ¬ (a : Int) < q := by omega
        have i2 : ¬ (b : Int) ≤ a := by omega
        have i3 : ¬ a < q := by omega
        have i4 : ¬ b ≤ a := by omega
        by_cases h1 : (q : Int) ≤ f
        · by_cases h2 : f ≤ a
          · obtain ⟨g, rfl⟩ : ∃ g : Nat, f = g := ⟨f.toNat, by omega⟩
            have HIT2 := Lib.hid (isHit_later HIT.out (by omega : q ≤ g) (by omega))
            have HH1 := Lib.hid (hit_some wr p x HMR.out S q a b hs256 HIT.out)
            go_wp2_with (first
              | (go_at_call 24; (with_reducible refine HH1.out.mono ?_); rintro e w4 ⟨rfl, hb4⟩; have HM4 := Lib.hid (HMR.out.below hb4); have e0 := (hb4.cell (p := ⟨bp, k * 2, none⟩) lt1).trans HD0.out; have e1 := (hb4.cell (p := ⟨bp, k * 2 + 1, none⟩) lt1).trans HD1.out)
              | (go_at_call 24; (with_reducible refine (hit_some _ p x HM4.out S g a b hs256 HIT2.out).mono ?_); rintro e w5 ⟨rfl, hb5⟩))
            have hb34 := hbr.trans (hb4.mono hbr.size)
            exact ⟨⟨k + 1, b, by omega, by simp, rfl, hb34.trans (hb5.mono hb34.size), by omega, .inl ⟨hs256, HRST.out⟩⟩, by simp only [intOf]; omega⟩
          · have HH1 := Lib.hid (hit_some wr p x HMR.out S q a b hs256 HIT.out)
            go_wp2_with (go_at_call 24; (with_reducible refine HH1.out.mono ?_); rintro e w4 ⟨rfl, hb4⟩; have HM4 := Lib.hid (HMR.out.below hb4); have e0 := (hb4.cell (p := ⟨bp, k * 2, none⟩) lt1).trans HD0.out; have e1 := (hb4.cell (p := ⟨bp, k * 2 + 1, none⟩) lt1).trans HD1.out)
            exact ⟨⟨k + 1, b, by omega, by simp, rfl, hbr.trans (hb4.mono hbr.size), by omega, .inl ⟨hs256, HRST.out⟩⟩, by simp only [intOf]; omega⟩
        · have HH1 := Lib.hid (hit_some wr p x HMR.out S q a b hs256 HIT.out)
          go_wp2_with (go_at_call 24; (with_reducible refine HH1.out.mono ?_); rintro e w4 ⟨rfl, hb4⟩; have HM4 := Lib.hid (HMR.out.below hb4); have e0 := (hb4.cell (p := ⟨bp, k * 2, none⟩) lt1).trans HD0.out; have e1 := (hb4.cell (p := ⟨bp, k * 2 + 1, none⟩) lt1).trans HD1.out)
          exact ⟨⟨k + 1, b, by omega, by simp, rfl, hbr.trans (hb4.mono hbr.size), by omega, .inl ⟨hs256, HRST.out⟩⟩, by simp only [intOf]; omega⟩
  · have hn2 := hnew.mono (R' := fun e w' => ∃ n : Int, e = .returned (.tuple #[.pointer none, .int .i64 n]) ∧ (n != 0) = true ∧ Below w.heap.size w w') (by
      rintro e w' ⟨hb, ⟨hc', -⟩ | ⟨-, he⟩⟩
      · exact absurd hc' hc
      · exact ⟨checkR x, he, by rw [bne_iff_ne]; exact hc, hbb.trans (hb.mono (by omega))⟩)
    have HN := Lib.hid hn2; clear hn2 hnew hbb hsz hc
    go_enter Tryd.func8, Tryd.ntmps8
    go_wp2_with (first
      | (go_at_call 14; refine HN.out.mono ?_; rintro e w1 ⟨n, rfl, hn0, hb1⟩)
      | (go_at_call 15; refine (fixed_any _ (TabAt.below HT.out hb1)).mono ?_; rintro e w2 ⟨rfl, hb2⟩))
    go_ret
    exact ⟨rfl, hb1.trans (hb2.mono hb1.size)⟩
end Go.Proofs.YtaelkjffidjcjaaDoor
