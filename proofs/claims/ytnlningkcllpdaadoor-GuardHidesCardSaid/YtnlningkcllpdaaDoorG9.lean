/- The walk of GuardHides where a payload is redacted. (Printed by wip/gen_hides2.py.) -/
import Derived.Test.YtnlningkcllpdaaDoorG8
import Derived.Lib.ConvBytes
set_option linter.unusedSimpArgs false
set_option linter.unusedVariables false
namespace Go.Proofs.YtnlningkcllpdaaDoor
open Go.RowKit PX

set_option maxRecDepth 100000 in
set_option maxHeartbeats 2000000 in
theorem hides_yes (w : World) (P Q S : ByteArray) (x y : Rx) (hx : parseR P.data.toList = .inl x) (hy : parseR Q.data.toList = .inl y) (hc : checkG [hb P Q] 8 = 0) (hs : S.size ≤ 200) (hi : inB x.lang S.data.toList = true) (hT : TabAt 0 Lib.deBruijn64tab w) :
    Calls Tryd.prog 5 #[.string P, .string Q, .string S] w fun e w' => e = .returned (.bool true) ∧ Later w w' := by
  have h0 : Later w (w.alloc (.cells #[.int .i64 1, .int .i64 0, .int .i64 2, .string P, .string Q] 32)) := (Later.refl w).alloc _
  have HR0 : Hid (RulesIn (w.alloc (.cells #[.int .i64 1, .int .i64 0, .int .i64 2, .string P, .string Q] 32)) (some ⟨w.heap.size, 0, none⟩) 1 [hv P Q]) := Lib.hid (hv_in w P Q)
  have HR := Lib.hid (fun w1 (h1 : Later (w.alloc (.cells #[.int .i64 1, .int .i64 0, .int .i64 2, .string P, .string Q] 32)) w1) => HR0.out.later h1)
  clear HR0
  have HT := Lib.hid (fun w1 (h1 : Later w w1) => TabAt.below hT h1)
  have HFIX := Lib.hid (fun w1 (h1 : Later w w1) => gfixed_any w1 (TabAt.below hT h1))
  clear hT
  obtain ⟨OUT, HOUT⟩ : ∃ OUT : ByteArray, Hid (⟨(starsFrom (hitsG y.lang S.data.toList) 0 S.data.toList).toArray⟩ = OUT) := ⟨_, Lib.hid rfl⟩
  have HD := Lib.hid (fun w1 a (h1 : RulesIn w1 a 1 [hv P Q]) h2 => (show Calls Tryd.prog 6 #[.slice a 1 1, .int .i64 1, .int .i64 0, .string S] w1 fun e w' => e = .returned (.tuple #[.agg #[.int .i64 0, .int .i64 2, .string OUT], .int .i64 0]) ∧ Later w1 w' from by
    rw [← HOUT.out]
    exact hdec ((decide_some (fr := 1) (tu := 0) (s := S.data.toList) hc (by rw [ba_len]; exact hs) (hb_some hx hi)).trans (by
      show (((0 : Nat) : Int), (2 : Int), outG (hb P Q) S.data.toList, (0 : Int)) = (0, 2, starsFrom (hitsG y.lang S.data.toList) 0 S.data.toList, 0)
      rw [show outG (hb P Q) S.data.toList = starsFrom (hitsG y.lang S.data.toList) 0 S.data.toList from by
        unfold outG
        rw [if_neg (show ¬ (hb P Q).act = 0 from (by decide : ¬ (2 : Int) = 0)), if_neg (show ¬ (hb P Q).act = 1 from (by decide : ¬ (2 : Int) = 1)), langP_eq (s := (hb P Q).wth) hy]]
      rfl)) w1 a h1 h2))
  have HO1 := Lib.hid (fun w1 => hof hx w1)
  have HO2 := Lib.hid (fun w1 => hof hy w1)
  have HIS := Lib.hid (fun w1 p (h : MX w1 p x) => (show Calls Tryd.prog 9 #[.pointer (some ⟨p, 0, none⟩), .string S] w1 fun e w' => e = .returned (.tuple #[.bool true, .int .i64 0]) ∧ Later w1 w' from by rw [← hi]; exact is_in w1 p x h S (by omega)))
  have hconv : ∀ W : World, (convert 9 41 (.string S)).run Tryd.prog W = .ok (.slice (some ⟨W.heap.size, 0, none⟩) S.size (grownCap W S.size 0 5)) (Lib.bytesWorld W 5 S) :=
    fun W => Lib.run_convert_string_bytes W _ _ _ S Tryd.underlying9 Tryd.underlying41 Tryd.underlying5
  clear hc hx hy hi
  go_enter Tryd.func5, Tryd.ntmps5
  go_upto_region 13 with (first
    | (go_at_call 6; (with_reducible refine (HD.out _ _ (HR.out _ (by repeat (first | assumption | exact Later.refl _ | refine Later.alloc ?_ _ | refine Later.drew ?_ | refine Later.trans ?_ (by assumption)))) (HT.out _ (by repeat (first | assumption | exact Later.refl _ | refine Later.alloc ?_ _ | refine Later.drew ?_ | refine Later.trans ?_ (by assumption))))).mono ?_); rintro e w1 ⟨rfl, hl1⟩; have HE1 := Lib.hid (alloc_block w1 (.cells #[.int .i64 0, .int .i64 2, .string OUT] 26)); have ha1 : Later w1 (w1.alloc (.cells #[.int .i64 0, .int .i64 2, .string OUT] 26)) := (Later.refl w1).alloc _)
    | (go_at_call 8; (with_reducible refine (HO1.out _).mono ?_); rintro e w3 ⟨p3, rfl, hp3, hm3, hb3⟩; have hl3 := Later.of hb3; have HM3 := Lib.hid (MX.mk hm3 (HT.out _ (by repeat (first | assumption | exact Later.refl _ | refine Later.alloc ?_ _ | refine Later.drew ?_ | refine Later.trans ?_ (by assumption))))); clear hb3 hm3 hp3)
    | (go_at_call 8; (with_reducible refine (HO2.out _).mono ?_); rintro e w4 ⟨p4, rfl, hp4, hm4, hb4⟩; have hl4 := Later.of hb4; have HM4 := Lib.hid (MX.mk hm4 (HT.out _ (by repeat (first | assumption | exact Later.refl _ | refine Later.alloc ?_ _ | refine Later.drew ?_ | refine Later.trans ?_ (by assumption))))); clear hb4 hm4 hp4)
    | (go_at_call 9; (with_reducible refine (HIS.out _ _ (HM3.out.later (by repeat (first | assumption | exact Later.refl _ | refine Later.alloc ?_ _ | refine Later.drew ?_ | refine Later.trans ?_ (by assumption))))).mono ?_); rintro e w5 ⟨rfl, hl5⟩; have hE5 := (show Later (w1.alloc (.cells #[.int .i64 0, .int .i64 2, .string OUT] 26)) w5 from (by repeat (first | assumption | exact Later.refl _ | refine Later.alloc ?_ _ | refine Later.drew ?_ | refine Later.trans ?_ (by assumption)))).block HE1.out; have q0 : w5.cell? ⟨w1.heap.size, 0, none⟩ = some (.int .i64 0) := cell_of_block hE5 0; have q1 : w5.cell? ⟨w1.heap.size, 1, none⟩ = some (.int .i64 2) := cell_of_block hE5 1; have q2 : w5.cell? ⟨w1.heap.size, 2, none⟩ = some (.string OUT) := cell_of_block hE5 2; clear hE5)
    | fail)
  clear hconv q0 q1 q2
  obtain ⟨W2, hW2⟩ : ∃ W2, Lib.bytesWorld w5 5 S = W2 := ⟨_, rfl⟩
  obtain ⟨bb, hbb⟩ : ∃ bb, w5.heap.size = bb := ⟨_, rfl⟩
  rw [hW2, hbb]
  generalize grownCap w5 S.size 0 5 = cap0
  have hs2 : W2.heap.size = bb + 1 := by rw [← hW2, Lib.bytesWorld_size, hbb]
  have hl52 : Later w5 W2 := by
    rw [← hW2]
    exact ⟨rfl, rfl, rfl, by rw [Lib.bytesWorld_size]; omega, fun k hk => Lib.bytesWorld_at_old _ _ _ _ hk⟩
  have hst : StarsAt W2 bb S (fun _ => false) := by
    intro j hj
    rw [← hW2, ← hbb]
    exact ⟨Lib.bytesWorld_cell _ _ _ _ hj, bytes_free _ _ _ _ hj⟩
  have HST := Lib.hid hst
  have HBB := Lib.hid hbb
  have HS2 := Lib.hid hs2
  have h15 : Later (w1.alloc (.cells #[.int .i64 0, .int .i64 2, .string OUT] 26)) w5 := (by repeat (first | assumption | exact Later.refl _ | refine Later.alloc ?_ _ | refine Later.drew ?_ | refine Later.trans ?_ (by assumption)))
  have h05 : Later w w5 := (by repeat (first | assumption | exact Later.refl _ | refine Later.alloc ?_ _ | refine Later.drew ?_ | refine Later.trans ?_ (by assumption)))
  have HE5 := Lib.hid (h15.block HE1.out)
  have hlt5 := lt_of_block HE5.out
  have HL5 := Lib.hid h05
  have HMY := Lib.hid ((HM4.out.later (w' := W2) (by repeat (first | assumption | exact Later.refl _ | refine Later.alloc ?_ _ | refine Later.drew ?_ | refine Later.trans ?_ (by assumption)))))
  clear hst hbb hs2 hW2 h15 h05 HE1 HM3 HM4 HO1 HO2 HIS HD HR HT hl1 ha1 hl3 hl4 hl5 h0
  go_upto_region 14 with (first
    | (go_at_call 11; refine (hits_any _ p4 y S HMY.out.m HMY.out.t).mono ?_; rintro e w6 ⟨v, l, rfl, hsay, hown, hl256, hb6⟩; have hl6 := Later.of hb6; obtain ⟨av, cv, hv, hpc⟩ := row_pairs hown; subst hv; have HPC := Lib.hid hpc; have HSAY := Lib.hid hsay; have HST6 := Lib.hid (HST.out.later (by have := HS2.out; omega) hl6); clear hb6 hown hpc hsay)
    | fail)
  have hin : ∀ q ∈ l, q.1 < q.2 ∧ q.2 ≤ S.size := by
    rcases HSAY.out with ⟨-, h⟩ | ⟨-, rfl⟩
    · intro q hq
      have := hits_in h q hq
      rw [Array.length_toList] at this
      exact this
    · intro q hq; cases hq
  have hgl : hitsG y.lang S.data.toList = l := by
    rcases HSAY.out with ⟨-, h⟩ | ⟨h, -⟩
    · exact hitsG_eq h
    · rw [Array.length_toList] at h
      exact absurd hs (by show ¬ S.size ≤ 200; have : S.data.size = S.size := rfl; omega)
  rw [hgl] at HOUT
  have HIN := Lib.hid hin
  have hz6 : bb + 1 ≤ w6.heap.size := by have := HS2.out; have := Below.size hl6; omega
  have HL6 := Lib.hid (show Later w5 w6 from hl52.trans hl6)
  clear hin hgl hl52 hl6
  go_wp2_with fail
  go_loopw [18] (fun v wr => ∃ k : Nat, k ≤ l.length ∧ v = .int .i64 k ∧ Only (fun c => c = bb) w6 wr ∧ StarsAt wr bb S (starB (l.take k))) (fun v _ => l.length - (intOf v).toNat)
  case atStart => exact ⟨0, by omega, rfl, Only.refl _ _, HST6.out⟩
  case round =>
    obtain ⟨k, hk, rfl, hon, hst⟩ := hrel
    have HON := Lib.hid hon
    have HSR := Lib.hid hst
    have hzr := hon.size
    clear hon hst
    by_cases hlt : k < l.length
    · have hq := HIN.out l[k] (List.getElem_mem hlt)
      obtain ⟨g, rfl, hg1, hg2, hgc⟩ := (HPC.out).resolve_left (by rintro rfl; simp at hlt)
      obtain ⟨d0, d1⟩ := hgc k l[k] (List.getElem?_eq_getElem hlt)
      have hgb : ¬ g = bb := by have := HS2.out; omega
      have c0 := (HON.out.cell (p := ⟨g, k * 2, none⟩) hg2 hgb).trans d0
      have c1 := (HON.out.cell (p := ⟨g, k * 2 + 1, none⟩) hg2 hgb).trans d1
      have htk : ∀ j, starB (l.take (k + 1)) j = (starB (l.take k) j || decide (l[k].1 ≤ j ∧ j < l[k].2)) := by
        intro j; rw [List.take_succ_eq_append_getElem hlt, starB_snoc]
      obtain ⟨⟨a, b⟩, hab⟩ : ∃ q, l[k] = q := ⟨_, rfl⟩
      rw [hab] at c0 c1 hq htk
      have HTK := Lib.hid htk
      obtain ⟨hq1, hq2⟩ := hq
      simp only at c0 c1 hq1 hq2
      clear d0 d1 hgc hab htk
      have hb256 : b ≤ 256 := by omega
      have hgz : g < wr.heap.size := by omega
      have hg2' := hg2
      clear hg1 hg2
      have HC1 := Lib.hid c1
      have hkl : (k : Int) < (l.length : Int) := by omega
      obtain ⟨wx, rfl⟩ : ∃ wx : World, wx = wr := ⟨_, rfl⟩
      have hlen : l.length ≤ 256 := hl256
      go_wp2_with fail
      go_loopw [19] (fun v wi => ∃ i : Nat, a ≤ i ∧ i ≤ b ∧ v = .int .i64 i ∧ Only (fun c => c = bb) wx wi ∧ StarsAt wi bb S (fun j => starB (l.take k) j || decide (a ≤ j ∧ j < i))) (fun v _ => b - (intOf v).toNat)
      case atStart =>
        refine ⟨a, Nat.le_refl _, by omega, rfl, Only.refl _ _, HSR.out.congr fun j hj => ?_⟩
        rw [decide_eq_false (by omega), Bool.or_false]
      case round =>
        obtain ⟨i, hai, hib, rfl, hoi, hsi⟩ := hrel
        have e1 := (hoi.cell (p := ⟨g, k * 2 + 1, none⟩) hgz hgb).trans HC1.out
        have HOI := Lib.hid hoi
        have HSI := Lib.hid hsi
        clear hoi hsi c0 c1
        by_cases hil : (i : Int) < (b : Int)
        · obtain ⟨f0, f1⟩ := HSI.out i (by omega)
          have hi256 : i ≤ 256 := by omega
          have his : (i : Int) < (S.size : Int) := by omega
          go_wp2_with fail
          refine ⟨⟨i + 1, by omega, by omega, by simp, HOI.out.setCell (.inl rfl) _, HSI.out.set (by omega) fun j => ?_⟩, by simp only [intOf]; omega⟩
          rw [Bool.or_assoc]
          congr 1
          rw [Bool.eq_iff_iff]
          simp only [Bool.or_eq_true, decide_eq_true_eq]
          omega
        · go_wp2_with fail
          refine ⟨⟨k + 1, by omega, by simp, HON.out.trans (HOI.out.mono fun c _ h => .inl h), HSI.out.congr fun j hj => ?_⟩, by simp only [intOf]; omega⟩
          rw [HTK.out]
          have : i = b := by omega
          rw [this]
    · obtain rfl : k = l.length := by omega
      have hst := HSR.out
      rw [List.take_length] at hst
      have hcv : (convert 41 9 (.slice (some ⟨bb, 0, none⟩) S.size cap0)).run Tryd.prog wr = .ok (.string OUT) wr := by
        have h := run_convert_bytes_back wr 41 9 5 ⟨bb, 0, none⟩ cap0 (starsFrom l 0 S.data.toList) Tryd.underlying41 Tryd.underlying5 Tryd.underlying9 hst.list
        rw [stars_len, HOUT.out] at h
        exact h
      have hl5r : Later w5 wr := Below.trans HL6.out (HON.out.below (B := w5.heap.size) (by have := HBB.out; omega) (by intro c hc; have := HBB.out; omega))
      have hlw := HL5.out
      have hEr := hl5r.block HE5.out
      have q0 : wr.cell? ⟨w1.heap.size, 0, none⟩ = some (.int .i64 0) := cell_of_block hEr 0
      have q1 : wr.cell? ⟨w1.heap.size, 1, none⟩ = some (.int .i64 2) := cell_of_block hEr 1
      have q2 : wr.cell? ⟨w1.heap.size, 2, none⟩ = some (.string OUT) := cell_of_block hEr 2
      clear hst hEr
      go_wp2_with (first
        | (go_at_call 7; (with_reducible refine (HFIX.out _ (by repeat (first | assumption | exact Later.refl _ | refine Later.alloc ?_ _ | refine Later.drew ?_ | refine Later.trans ?_ (by assumption)))).mono ?_); rintro e w7 ⟨rfl, hl7⟩)
        | fail)
      go_ret
      exact ⟨rfl, (by repeat (first | assumption | exact Later.refl _ | refine Later.alloc ?_ _ | refine Later.drew ?_ | refine Later.trans ?_ (by assumption)))⟩
theorem hides_any (w : World) (P Q S : ByteArray) (hT : TabAt 0 Lib.deBruijn64tab w) :
    Calls Tryd.prog 5 #[.string P, .string Q, .string S] w fun e w' => e = .returned (.bool true) ∧ Later w w' := by
  by_cases hc : checkG [hb P Q] 8 = 0
  · by_cases hs : S.size ≤ 200
    · obtain ⟨⟨x, hx⟩, y, hy⟩ := hb_ok hc
      by_cases hi : inB x.lang S.data.toList = true
      · exact hides_yes w P Q S x y hx hy hc hs hi hT
      · exact hides_no w P Q S x y hx hy hc hs (by simpa using hi) hT
    · exact hides_long w P Q S hc (by omega) hT
  · exact hides_bad w P Q S _ rfl (by simpa using hc) hT
end Go.Proofs.YtnlningkcllpdaaDoor

