/- The walk of MatchLongest. -/
import Derived.Test.YtaelkjffidjcjaaDoorSteps
set_option linter.unusedSimpArgs false
set_option linter.unusedVariables false
namespace Go.Proofs.YtaelkjffidjcjaaDoor
open Go.RowKit PX

theorem extract_sub (S : ByteArray) (a b : Nat) : (S.extract a b).data.toList = sub S.data.toList a b := by
  rw [ByteArray.data_extract, Array.toList_extract, sub, List.extract_eq_take_drop, List.drop_take]
theorem extract_size (S : ByteArray) (a b : Nat) (hb : b ≤ S.size) : (S.extract a b).size = b - a := by
  rw [ByteArray.size_extract]; omega
/-- Is a part of a text in a machine's language? -/
theorem in_sub (w : World) (p : Nat) (x : Rx) (h : MX w p x) (S : ByteArray) (a b : Nat) (hb : b ≤ S.size) (hs : S.size ≤ 256) :
    Calls Tryd.prog 21 #[.pointer (some ⟨p, 0, none⟩), .string (S.extract a b)] w fun e w' => Below w.heap.size w w' ∧ ∃ r : Bool, e = .returned (.bool r) ∧ (r = true ↔ x.lang (sub S.data.toList a b)) := by
  refine (in_any w p x _ h.m h.t).mono ?_
  rintro e w' ⟨hb', r, he, hr⟩
  refine ⟨hb', r, he, ?_⟩
  rw [hr, extract_sub, extract_size _ _ _ hb]
  exact ⟨fun h => h.2, fun h => ⟨by omega, h⟩⟩
theorem in_sub_yes (w : World) (p : Nat) (x : Rx) (h : MX w p x) (S : ByteArray) (a b : Nat) (hb : b ≤ S.size) (hs : S.size ≤ 256) (hl : x.lang (sub S.data.toList a b)) :
    Calls Tryd.prog 21 #[.pointer (some ⟨p, 0, none⟩), .string (S.extract a b)] w fun e w' => e = .returned (.bool true) ∧ Below w.heap.size w w' := by
  refine (in_sub w p x h S a b hb hs).mono ?_
  rintro e w' ⟨hb', r, he, hr⟩
  rw [hr.2 hl] at he
  exact ⟨he, hb'⟩

theorem fits_good (w : World) (B : Nat) (X : RxA) (hB : B ≤ w.heap.size) (hin : X.In w B) (hT : TabAt 0 Lib.deBruijn64tab w) (hc : checkR X.bare = 0) :
    Calls Tryd.prog 20 #[X.val] w fun e w' => ∃ p, e = .returned (.pointer (some ⟨p, 0, none⟩)) ∧ Below w.heap.size w w' ∧ MX w' p X.bare := by
  refine (fits_any X w B hB hin).mono ?_
  rintro e w' ⟨hb, ⟨-, p, he, -, hm⟩ | ⟨hc', -⟩⟩
  · exact ⟨p, he, hb, hm, TabAt.below hT hb⟩
  · exact absurd hc hc'
theorem fits_bad (w : World) (B : Nat) (X : RxA) (hB : B ≤ w.heap.size) (hin : X.In w B) (hc : checkR X.bare ≠ 0) :
    Calls Tryd.prog 20 #[X.val] w fun e w' => e = .returned (.pointer none) ∧ Below w.heap.size w w' := by
  refine (fits_any X w B hB hin).mono ?_
  rintro e w' ⟨hb, ⟨hc', -⟩ | ⟨-, he⟩⟩
  · exact absurd hc' hc
  · exact ⟨he, hb⟩

theorem below_of_drewN {B n : Nat} {w w' : World} (h : Below B (w.drewN n) w') : Below B w w' := ⟨h.os, h.tape, h.output, h.size, h.block⟩

/-- What the loops over the parts of a text find, at a hit, and behind the last one. -/
def PartsOk (L : List UInt8 → Prop) (s : List UInt8) (q bg en : Nat) : Prop := ∀ a b, q ≤ a → a ≤ bg → a < b → b ≤ s.length → L (sub s a b) → bg ≤ a ∧ b ≤ en
theorem partsOk_hit {L : List UInt8 → Prop} {s : List UInt8} {q a b : Nat} (h : IsHit L s q a b) : PartsOk L s q a b := by
  intro c d h1 h2 h3 h4 h5
  by_cases hc : c < a
  · exact absurd h5 (h.2.2.2.2.2 c h1 hc d h3 h4)
  · obtain rfl : c = a := by omega
    refine ⟨Nat.le_refl _, ?_⟩
    by_cases hd : b < d
    · exact absurd h5 (h.2.2.2.2.1 d hd h4)
    · omega
theorem partsOk_none {L : List UInt8 → Prop} {s : List UInt8} {q bg en : Nat} (h : NoHit L s q) : PartsOk L s q bg en :=
  fun a b h1 _ h3 h4 h5 => absurd h5 (h a b h1 h3 h4)

set_option maxRecDepth 100000 in
set_option maxHeartbeats 4000000 in
theorem longest_main (w : World) (B : Nat) (X : RxA) (S : ByteArray) (hB : B ≤ w.heap.size) (hin : X.In w B) (hT : TabAt 0 Lib.deBruijn64tab w) (hc : checkR X.bare = 0) (hS : S.size ≤ 24) :
    Calls Tryd.prog 5 #[X.val, .string S] w fun e w' => e = .returned (.bool true) ∧ Below w.heap.size w w' := by
  have hbb := (Below.refl w.heap.size w).alloc (Nat.le_refl _) (.cells X.cells.toArray 26)
  have hsz : (w.alloc (.cells X.cells.toArray 26)).heap.size = w.heap.size + 1 := by simp
  have hfit := fits_good (w.alloc (.cells X.cells.toArray 26)) B X (by omega) (in_box _ hB hin) (TabAt.below hT hbb) hc
  obtain ⟨x, hx⟩ : ∃ x, X.bare = x := ⟨_, rfl⟩
  rw [hx] at hfit
  have hfit2 := hfit.mono (R' := fun e w' => ∃ p, e = .returned (.pointer (some ⟨p, 0, none⟩)) ∧ Below w.heap.size w w' ∧ MX w' p x) (by
    rintro e w' ⟨p, he, hb, hm⟩
    exact ⟨p, he, hbb.trans (hb.mono (by omega)), hm⟩)
  obtain ⟨k, mn, mx, s0, s1, s2, s3, a, cap, l⟩ := X
  simp only [RxA.val, RxA.cells] at hfit2 ⊢
  have HFIT := Lib.hid hfit2; clear hfit2 hfit hin hx hc hbb hsz hT
  have hS2 : ¬ (24 : Int) < S.size := by omega
  have hS256 : S.size ≤ 256 := by omega
  have hlen := ba_len S
  have HLEN := Lib.hid hlen; clear hlen
  go_enter Tryd.func5, Tryd.ntmps5
  go_wp2_with (first
    | (go_at_call 20; (with_reducible refine HFIT.out.mono ?_); rintro e w1 ⟨p, rfl, hb1, hm1⟩; have HM1 := Lib.hid hm1; clear hm1)
    | (go_at_call 15; refine (fixed_any _ HM1.out.t).mono ?_; rintro e w2 ⟨rfl, hb2⟩; have HM2 := Lib.hid (HM1.out.below hb2); have hc2 := hb1.trans (hb2.mono hb1.size))
    | (go_at_call 22; refine (hits_any _ p x S HM2.out.m HM2.out.t).mono ?_; rintro e w3 ⟨v, hl, rfl, hsay, hown, hl256, hb3⟩; have HM3 := Lib.hid (HM2.out.below hb3); have hc3 := hc2.trans (hb3.mono hc2.size); obtain ⟨av, cv, hv, hpc⟩ := pairs_of_row hown; subst hv; have HPC := Lib.hid hpc; clear hpc; have HSAY := Lib.hid hsay; clear hown hsay))
  obtain ⟨n, hnl⟩ : ∃ n, hl.length = n := ⟨_, rfl⟩
  rw [hnl] at hl256 ⊢
  have HNL := Lib.hid hnl; clear hnl
  have hfrom : HitsFrom x.lang S.data.toList 0 hl := by
    rcases HSAY.out with ⟨-, h⟩ | ⟨h, -⟩
    · exact h
    · rw [HLEN.out] at h; omega
  have HFROM := Lib.hid hfrom; clear hfrom HSAY
  go_loopw [7, 8] (fun at_ i wr => ∃ k q : Nat, k ≤ n + 1 ∧ i = .int .i64 k ∧ at_ = .int .i64 q ∧ Below w3.heap.size w3 wr ∧ q ≤ S.size ∧ (k ≤ n → HitsFrom x.lang S.data.toList q (hl.drop k))) (fun _ i _ => n + 1 - (intOf i).toNat)
  case atStart => exact ⟨0, 0, by omega, rfl, rfl, Below.refl _ _, by omega, fun _ => by simpa using HFROM.out⟩
  case round =>
    obtain ⟨k, q, hk, rfl, rfl, hbr, hq, hcs⟩ := hrel
    have HMR := Lib.hid (HM3.out.below hbr)
    have hbw := hc3.trans (hbr.mono hc3.size)
    have HCS := Lib.hid hcs; clear hcs
    by_cases hke : k = n + 1
    · subst hke
      go_wp2_with fail
      go_ret
      exact ⟨rfl, hbw⟩
    · have hkn : (k : Int) ≤ n := by omega
      have hfr := HCS.out (by omega)
      have HFR := Lib.hid hfr; clear hfr HCS
      go_upto_if 40 with fail
      go_cut [9, 10] from 40 to 73 (fun b e wx => ∃ bg en : Nat, b = .int .i64 bg ∧ e = .int .i64 en ∧ q ≤ bg ∧ bg ≤ S.size ∧ en ≤ S.size ∧ PartsOk x.lang S.data.toList q bg en ∧ (k + 1 ≤ n → HitsFrom x.lang S.data.toList en (hl.drop (k + 1))) ∧ Below wr.heap.size wr wx)
      case first =>
        by_cases hkl : k < n
        · have hkl2 : (k : Int) < n := by omega
          have hkll : k < hl.length := by rw [HNL.out]; exact hkl
          have hne : hl ≠ [] := by rintro rfl; simp at hkll
          obtain ⟨⟨a, b⟩, hab⟩ : ∃ r, hl[k]? = some r := ⟨hl[k], List.getElem?_eq_getElem hkll⟩
          have hdrop : hl.drop k = (a, b) :: hl.drop (k + 1) := by
            rw [List.drop_eq_getElem_cons hkll]
            rw [List.getElem?_eq_getElem hkll] at hab
            rw [Option.some.inj hab]
          obtain ⟨hit, hrest⟩ : IsHit x.lang S.data.toList q a b ∧ HitsFrom x.lang S.data.toList b (hl.drop (k + 1)) := by
            have hfr := HFR.out
            rw [hdrop] at hfr
            cases hfr with
            | cons h r => exact ⟨h, r⟩
          obtain ⟨bp, hbp, hcells⟩ := HPC.out.resolve_left hne
          obtain ⟨c0, c1⟩ := hcells k (a, b) hab
          have lt0 := World.block_lt_of_cell? _ _ c0
          have d0 : wr.cell? ⟨bp, k * 2, none⟩ = some (.int .i64 (a : Int)) := (hbr.cell (p := ⟨bp, k * 2, none⟩) lt0).trans c0
          have d1 : wr.cell? ⟨bp, k * 2 + 1, none⟩ = some (.int .i64 (b : Int)) := (hbr.cell (p := ⟨bp, k * 2 + 1, none⟩) lt0).trans c1
          have hqa := hit.1
          have hab2 := hit.2.1
          have hbs := hit.2.2.1
          rw [HLEN.out] at hbs
          have HIN := Lib.hid (fun wx hmx => in_sub_yes wx p x hmx S a b hbs hS256 hit.2.2.2.1)
          have HOK := Lib.hid (partsOk_hit hit)
          have HRST := Lib.hid hrest
          subst hbp
          clear hit hrest hdrop hab hcells c0 c1 hne
          have i1 : ¬ (a : Int) < q := by omega
          have i2 : ¬ (b : Int) ≤ a := by omega
          have i3 : ¬ a < q := by omega
          have i4 : ¬ b ≤ a := by omega
          have i5 : ¬ (S.size : Int) < b := by omega
          have i6 : (a : Int) ≤ b := by omega
          go_wp2_with fail
          go_quiet (fail)
          go_wp2_with (go_at_call 21; (with_reducible refine (HIN.out _ (HMR.out.below (below_drewN (Below.refl _ _) _))).mono ?_); rintro e w4 ⟨rfl, hb4⟩)
          go_meet
          case rel => exact ⟨a, b, rfl, rfl, hqa, by omega, hbs, HOK.out, fun _ => HRST.out, below_of_drewN hb4⟩
        · have hkl2 : ¬ (k : Int) < n := by omega
          have hno : NoHit x.lang S.data.toList q := by
            have hfr := HFR.out
            rw [List.drop_eq_nil_of_le (by rw [HNL.out]; omega)] at hfr
            cases hfr with
            | nil h => exact h
          go_wp2_with fail
          go_meet
          case rel => exact ⟨S.size, S.size, rfl, rfl, hq, Nat.le_refl _, Nat.le_refl _, partsOk_none hno, fun h => absurd h (by omega), Below.refl _ _⟩
      case rest =>
        obtain ⟨bg, en, rfl, rfl, hqb, hbs, hes, hok, hnx, hbx⟩ := hcut
        have HOK := Lib.hid hok; clear hok
        have HNX := Lib.hid hnx; clear hnx
        have HMC := Lib.hid (HMR.out.below hbx)
        have hbc := hbr.trans (hbx.mono hbr.size)
        have HLEN2 := HLEN.out
        go_wp2_with fail
        go_loopw [11] (fun a_ wx => ∃ j : Nat, q ≤ j ∧ j ≤ bg + 1 ∧ a_ = .int .i64 j ∧ Below wc.heap.size wc wx) (fun a_ _ => bg + 1 - (intOf a_).toNat)
        case atStart => exact ⟨q, Nat.le_refl _, by omega, rfl, Below.refl _ _⟩
        case round =>
          obtain ⟨j, hqj, hjb, rfl, hbj⟩ := hrel
          have HMJ := Lib.hid (HMC.out.below hbj)
          have hbcj := hbc.trans (hbj.mono hbc.size)
          by_cases hje : j = bg + 1
          · subst hje
            go_wp2_with fail
            go_roundw
            case measure => simp only [intOf]; omega
            case rel => exact ⟨k + 1, en, by omega, by simp, rfl, hbcj, hes, HNX.out⟩
          · have hjb2 : (j : Int) ≤ bg := by omega
            go_wp2_with fail
            obtain ⟨wj, hwj⟩ : ∃ v, v = wr := ⟨_, rfl⟩
            subst hwj
            go_loopw [12] (fun b_ wx => ∃ m : Nat, j + 1 ≤ m ∧ m ≤ S.size + 1 ∧ b_ = .int .i64 m ∧ Below wj.heap.size wj wx) (fun b_ _ => S.size + 1 - (intOf b_).toNat)
            case atStart => exact ⟨j + 1, Nat.le_refl _, by omega, by simp, Below.refl _ _⟩
            case round =>
              obtain ⟨m, hjm, hms, rfl, hbm⟩ := hrel
              have HMM := Lib.hid (HMJ.out.below hbm)
              have hbcm := hbj.trans (hbm.mono hbj.size)
              by_cases hme : m = S.size + 1
              · subst hme
                go_wp2_with fail
                go_roundw
                case measure => simp only [intOf]; omega
                case rel => exact ⟨j + 1, by omega, by omega, by simp, hbcm⟩
              · have hms2 : (m : Int) ≤ S.size := by omega
                have hms3 : m ≤ S.size := by omega
                have hjm2 : (j : Int) ≤ m := by omega
                have hcall := (in_sub wr p x HMM.out S j m hms3 hS256).mono (R' := fun e w' => Below wr.heap.size wr w' ∧ (e = .returned (.bool false) ∨ (e = .returned (.bool true) ∧ decide (j < bg) = false ∧ decide (en < m) = false))) (by
                  rintro e w' ⟨hb, r, rfl, hr⟩
                  refine ⟨hb, ?_⟩
                  cases r with
                  | false => exact .inl rfl
                  | true =>
                    have := HOK.out j m hqj (by omega) (by omega) (by rw [HLEN2]; exact hms3) (hr.1 rfl)
                    exact .inr ⟨rfl, by simp; omega, by simp; omega⟩)
                have HC := Lib.hid hcall; clear hcall
                go_wp2_with (go_at_call 21; (with_reducible refine HC.out.mono ?_); rintro e w4 ⟨hb4, rfl | ⟨rfl, f1, f2⟩⟩)
                all_goals
                  go_roundw
                  case measure => simp only [intOf]; omega
                  case rel => exact ⟨m + 1, by omega, by omega, by simp, hbm.trans (hb4.mono hbm.size)⟩

set_option maxRecDepth 100000 in
set_option maxHeartbeats 1000000 in
theorem longest_any (w : World) (B : Nat) (X : RxA) (S : ByteArray) (hB : B ≤ w.heap.size) (hin : X.In w B) (hT : TabAt 0 Lib.deBruijn64tab w) :
    Calls Tryd.prog 5 #[X.val, .string S] w fun e w' => e = .returned (.bool true) ∧ Below w.heap.size w w' := by
  have hbb := (Below.refl w.heap.size w).alloc (Nat.le_refl _) (.cells X.cells.toArray 26)
  have hsz : (w.alloc (.cells X.cells.toArray 26)).heap.size = w.heap.size + 1 := by simp
  by_cases hc : checkR X.bare = 0
  · by_cases hS : S.size ≤ 24
    · exact longest_main w B X S hB hin hT hc hS
    · have hfit := fits_good (w.alloc (.cells X.cells.toArray 26)) B X (by omega) (in_box _ hB hin) (TabAt.below hT hbb) hc
      have hfit2 := hfit.mono (R' := fun e w' => ∃ p, e = .returned (.pointer (some ⟨p, 0, none⟩)) ∧ Below w.heap.size w w') (by
        rintro e w' ⟨p, he, hb, hm⟩
        exact ⟨p, he, hbb.trans (hb.mono (by omega))⟩)
      obtain ⟨k, mn, mx, s0, s1, s2, s3, a, cap, l⟩ := X
      simp only [RxA.val, RxA.cells] at hfit2 ⊢
      have HT := Lib.hid hT
      have HFIT := Lib.hid hfit2; clear hfit2 hfit hin hc hbb hsz hT
      have hS2 : (24 : Int) < S.size := by omega
      go_enter Tryd.func5, Tryd.ntmps5
      go_wp2_with (first
        | (go_at_call 20; (with_reducible refine HFIT.out.mono ?_); rintro e w1 ⟨p, rfl, hb1⟩)
        | (go_at_call 15; refine (fixed_any _ (TabAt.below HT.out hb1)).mono ?_; rintro e w2 ⟨rfl, hb2⟩))
      go_ret
      exact ⟨rfl, hb1.trans (hb2.mono hb1.size)⟩
  · have hfit := fits_bad (w.alloc (.cells X.cells.toArray 26)) B X (by omega) (in_box _ hB hin) hc
    have hfit2 := hfit.mono (R' := fun e w' => e = .returned (.pointer none) ∧ Below w.heap.size w w') (by
      rintro e w' ⟨he, hb⟩
      exact ⟨he, hbb.trans (hb.mono (by omega))⟩)
    obtain ⟨k, mn, mx, s0, s1, s2, s3, a, cap, l⟩ := X
    simp only [RxA.val, RxA.cells] at hfit2 ⊢
    have HT := Lib.hid hT
    have HFIT := Lib.hid hfit2; clear hfit2 hfit hin hc hbb hsz hT
    go_enter Tryd.func5, Tryd.ntmps5
    go_wp2_with (first
      | (go_at_call 20; (with_reducible refine HFIT.out.mono ?_); rintro e w1 ⟨rfl, hb1⟩)
      | (go_at_call 15; refine (fixed_any _ (TabAt.below HT.out hb1)).mono ?_; rintro e w2 ⟨rfl, hb2⟩))
    go_ret
    exact ⟨rfl, hb1.trans (hb2.mono hb1.size)⟩
end Go.Proofs.YtaelkjffidjcjaaDoor
