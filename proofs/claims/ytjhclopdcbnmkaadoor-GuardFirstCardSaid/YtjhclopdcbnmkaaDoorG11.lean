/- The walk of GuardFirst. (Printed by wip/gen_first.py.) -/
import Derived.Test.YtjhclopdcbnmkaaDoorG10b
import Derived.Laws.OwnMore
import Derived.Deep.AppendLies
import Derived.BigQuiet
set_option linter.unusedSimpArgs false
set_option linter.unusedVariables false
namespace Go.Proofs.YtjhclopdcbnmkaaDoor
open Go.RowKit PX

theorem idx_byte (S : ByteArray) (i : Nat) (hi : i < S.size) (w : World) : (Instr.index 9 (.string S) (.int .i64 i)).run Tryd.prog w = .ok (.int .u8 ((S.data.toList.getD i 0).toNat : Int)) w := by
  have hl : i < S.data.toList.length := by rw [Array.length_toList]; exact hi
  have h : (0 : Int) ≤ (i : Int) ∧ (i : Int) < (S.size : Int) := by omega
  rw [run_index_string (h := Tryd.underlying9), dif_pos h, List.getD_eq_getElem?_getD, List.getElem?_eq_getElem hl]
  rfl

set_option maxRecDepth 100000 in
set_option maxHeartbeats 2000000 in
theorem first_bad (w : World) (a : Option Addr) (cap : Nat) (l : List RuV) (fr tu lv : Int) (S : ByteArray) (c : Int) (hR : RulesIn w a cap l) (hn : (c != 0) = true) (hD : decideG (l.map RuV.bare) fr tu S.data.toList = (0, 0, [], c)) (hT : TabAt 0 Lib.deBruijn64tab w) :
    Calls Tryd.prog 7 #[.slice a l.length cap, .agg #[.int .i64 fr, .int .i64 tu, .int .i64 lv], .string S] w fun e w' => e = .returned (.bool true) ∧ Later w w' := by
  have h0 : Later w (w.alloc (.cells #[.int .i64 fr, .int .i64 tu, .int .i64 lv] 44)) := (Later.refl w).alloc _
  obtain ⟨m, hm⟩ : ∃ m, l.length = m := ⟨_, rfl⟩
  have HR := Lib.hid (fun w1 (h1 : Later w w1) => hR.later h1)
  have HT := Lib.hid (fun w1 (h1 : Later w w1) => TabAt.below hT h1)
  have HFIX := Lib.hid (fun w1 (h1 : Later w w1) => gfixed_any w1 (TabAt.below hT h1))
  have HD := Lib.hid (fun w1 (h1 : Later w w1) => (show Calls Tryd.prog 17 #[.slice a m cap, .int .i64 fr, .int .i64 tu, .string S] w1 fun e w' => e = .returned (.tuple #[.agg #[.int .i64 0, .int .i64 0, .string ⟨#[]⟩], .int .i64 c]) ∧ Later w1 w' from by
    have h2 := decide_any w1 a cap l fr tu S (hR.later h1) (TabAt.below hT h1)
    rw [hm, hD] at h2
    exact h2))
  clear hT hR hD
  rw [hm]
  clear hm
  go_enter Tryd.func7, Tryd.ntmps7
  go_wp2_with (first
    | (go_at_call 17; (with_reducible refine (HD.out _ (by repeat (first | assumption | exact Later.refl _ | refine Later.alloc ?_ _ | refine Later.drew ?_ | refine Later.trans ?_ (by assumption)))).mono ?_); rintro e w1 ⟨rfl, hl1⟩; have HE1 := Lib.hid (alloc_block w1 (.cells #[.int .i64 0, .int .i64 0, .string ⟨#[]⟩] 46)); have ha1 : Later w1 (w1.alloc (.cells #[.int .i64 0, .int .i64 0, .string ⟨#[]⟩] 46)) := (Later.refl w1).alloc _)
    | (go_at_call 18; (with_reducible refine (HFIX.out _ (by repeat (first | assumption | exact Later.refl _ | refine Later.alloc ?_ _ | refine Later.drew ?_ | refine Later.trans ?_ (by assumption)))).mono ?_); rintro e w3 ⟨rfl, hl3⟩)
    | fail)
  go_ret
  exact ⟨rfl, (by repeat (first | assumption | exact Later.refl _ | refine Later.alloc ?_ _ | refine Later.drew ?_ | refine Later.trans ?_ (by assumption)))⟩
theorem info_rule : (Tryd.prog.info? 50).map (fun i => (i.zero, i.size, i.bytes)) = some (some (.agg #[.int .i64 0, .int .i64 0, .int .i64 0, .string ⟨#[]⟩, .string ⟨#[]⟩]), 5, 56) := by kernel_rfl
set_option maxRecDepth 100000 in
set_option maxHeartbeats 2000000 in
theorem first_ok (w : World) (a : Option Addr) (cap : Nat) (l : List RuV) (fr tu lv : Int) (S OUT : ByteArray) (f0 ac : Int) (hR : RulesIn w a cap l) (hc : checkG (l.map RuV.bare) 8 = 0) (hs : S.size ≤ 200) (hD : decideG (l.map RuV.bare) fr tu S.data.toList = (f0, ac, OUT.data.toList, 0)) (hT : TabAt 0 Lib.deBruijn64tab w) :
    Calls Tryd.prog 7 #[.slice a l.length cap, .agg #[.int .i64 fr, .int .i64 tu, .int .i64 lv], .string S] w fun e w' => e = .returned (.bool true) ∧ Later w w' := by
  have h0 : Later w (w.alloc (.cells #[.int .i64 fr, .int .i64 tu, .int .i64 lv] 44)) := (Later.refl w).alloc _
  obtain ⟨m, hm⟩ : ∃ m, l.length = m := ⟨_, rfl⟩
  have HR := Lib.hid (fun w1 (h1 : Later w w1) => hR.later h1)
  have HT := Lib.hid (fun w1 (h1 : Later w w1) => TabAt.below hT h1)
  have HFIX := Lib.hid (fun w1 (h1 : Later w w1) => gfixed_any w1 (TabAt.below hT h1))
  obtain ⟨O, hO⟩ : ∃ O : List UInt8, O = OUT.data.toList := ⟨_, rfl⟩
  have HD := Lib.hid (fun w1 (h1 : Later w w1) => (show Calls Tryd.prog 17 #[.slice a m cap, .int .i64 fr, .int .i64 tu, .string S] w1 fun e w' => e = .returned (.tuple #[.agg #[.int .i64 f0, .int .i64 ac, .string OUT], .int .i64 0]) ∧ Later w1 w' from by
    have h2 := decide_any w1 a cap l fr tu S (hR.later h1) (TabAt.below hT h1)
    rw [hm, hD] at h2
    exact h2))
  have HM := Lib.hid hm
  have HDD := Lib.hid hD
  clear hT hR hD hO
  rw [hm]
  clear hm
  go_enter Tryd.func7, Tryd.ntmps7
  go_wp2_with (first
    | (go_at_call 17; (with_reducible refine (HD.out _ (by repeat (first | assumption | exact Later.refl _ | refine Later.alloc ?_ _ | refine Later.drew ?_ | refine Later.trans ?_ (by assumption)))).mono ?_); rintro e w1 ⟨rfl, hl1⟩; have HE1 := Lib.hid (alloc_block w1 (.cells #[.int .i64 f0, .int .i64 ac, .string OUT] 46)); have ha1 : Later w1 (w1.alloc (.cells #[.int .i64 f0, .int .i64 ac, .string OUT] 46)) := (Later.refl w1).alloc _)
    | fail)
  have HEB := Lib.hid (alloc_block (w1.alloc (.cells #[.int .i64 f0, .int .i64 ac, .string OUT] 46)) (.cells #[] 50))
  obtain ⟨wb, hwb⟩ : ∃ wb, (w1.alloc (.cells #[.int .i64 f0, .int .i64 ac, .string OUT] 46)).alloc (.cells #[] 50) = wb := ⟨_, rfl⟩
  have hb0 : w1.heap.size + 1 ≤ wb.heap.size := by rw [← hwb]; simp
  have hlb : Later (w1.alloc (.cells #[.int .i64 f0, .int .i64 ac, .string OUT] 46)) wb := by rw [← hwb]; exact (Later.refl _).alloc _
  have hown0 : wb.ownsRow (w1.heap.size + 1) 50 5 (.slice (some ⟨w1.heap.size + 1, 0, none⟩) 0 0) 0 [] := by
    have h := HEB.out
    rw [hwb] at h
    simp only [World.size_alloc] at h
    exact ⟨rfl, .inr ⟨_, 0, #[], rfl, Nat.le_refl _, h, Nat.le_refl _, by unfold maxLen; omega, rfl, rfl⟩⟩
  rw [hwb]
  have HOWN0 := Lib.hid hown0
  have HLB := Lib.hid hlb
  have HC := Lib.hid hc
  clear hown0 hlb hwb HEB hc HD
  go_loopw [9, 10, 11] (fun vf vo vi wr => OwnAt fr tu S.data.toList (w1.heap.size + 1) l vf vo vi wr ∧ Later (w1.alloc (.cells #[.int .i64 f0, .int .i64 ac, .string OUT] 46)) wr) (fun _ _ vi _ => m - (intOf vi).toNat)
  case atStart => exact ⟨⟨0, by omega, rfl, rfl, [], rfl, HOWN0.out⟩, HLB.out⟩
  case round =>
    obtain ⟨⟨k, hk, rfl, rfl, ol, hol, hrow⟩, hlr⟩ := hrel
    have hmm := HM.out
    have HROW := Lib.hid hrow
    have HOL := Lib.hid hol
    have hlw : Later w wr := (show Later w w1 from h0.trans hl1).trans (ha1.trans hlr)
    have HLW := Lib.hid hlw
    have HLR := Lib.hid hlr
    have hszr : w1.heap.size + 1 ≤ wr.heap.size := by have := Below.size hlr; simpa using this
    have HSZ := Lib.hid hszr
    clear hrow hol hszr
    by_cases hlt : k < m
    · have hkl : k < l.length := by omega
      have hl32 : l.length ≤ 32 := by have := (checkG_all HC.out).1; simpa using this
      have hol32 : ol.length ≤ 32 := by
        have h1 := ownG_length fr tu S.data.toList ((l.take k).map RuV.bare)
        rw [← HOL.out] at h1
        simp only [List.length_map, List.length_take] at h1
        omega
      have hok := (checkG_all HC.out).2 l[k].bare (List.mem_map.2 ⟨_, List.getElem_mem hkl, rfl⟩)
      obtain ⟨-, ⟨x, hx⟩, -⟩ := okB_parts hok
      obtain ⟨b, o, rfl, c0, c1, c2, c3, c4⟩ := rules_at (HR.out wr hlw) hkl
      have HSKIP := Lib.hid (fun w' h => own_skip (w := wr) (w' := w') hkl HOL.out HROW.out h)
      have HPUSH := Lib.hid (fun (h : l[k].bare.of fr tu = true) hf v' w' => own_push (base := w1.heap.size + 1) (v' := v') (w' := w') hkl HOL.out h hf)
      obtain ⟨r, hr⟩ : ∃ r, l[k] = r := ⟨_, rfl⟩
      rw [hr] at c0 c1 c2 c3 c4 hx HSKIP HPUSH
      obtain ⟨rf, rt, ra, rp, rq⟩ := r
      simp only at c0 c1 c2 c3 c4
      have hE4 := (show Later (w.alloc (.cells #[.int .i64 fr, .int .i64 tu, .int .i64 lv] 44)) (wr.alloc (.cells #[.int .i64 rf, .int .i64 rt, .int .i64 ra, .string rp, .string rq] 50)) from (hl1.trans (ha1.trans hlr)).alloc _).block (alloc_block w (.cells #[.int .i64 fr, .int .i64 tu, .int .i64 lv] 44))
      have p0 : (wr.alloc (.cells #[.int .i64 rf, .int .i64 rt, .int .i64 ra, .string rp, .string rq] 50)).cell? ⟨w.heap.size, 0, none⟩ = some (.int .i64 fr) := cell_of_block hE4 0
      have p1 : (wr.alloc (.cells #[.int .i64 rf, .int .i64 rt, .int .i64 ra, .string rp, .string rq] 50)).cell? ⟨w.heap.size, 1, none⟩ = some (.int .i64 tu) := cell_of_block hE4 1
      clear hE4 hlw hlr hok hr
      have hkm : (k : Int) < (m : Int) := by omega
      have hm32 : m ≤ 32 := by omega
      by_cases h1 : rf = fr ∧ rt = tu
      · obtain ⟨rfl, rfl⟩ := h1
        have hof1 : (RuV.bare ⟨rf, rt, ra, rp, rq⟩).of rf rt = true := by simp [Rul.of, RuV.bare]
        have htk : (RuV.bare ⟨rf, rt, ra, rp, rq⟩).takes rf rt S.data.toList = inB x.lang S.data.toList := takes_is rfl rfl hx
        have HOF := Lib.hid (fun w1 => hof hx w1)
        obtain ⟨bi, hbi⟩ : ∃ bi, inB x.lang S.data.toList = bi := ⟨_, rfl⟩
        have HIS := Lib.hid (fun w1 p (h : MX w1 p x) => (show Calls Tryd.prog 20 #[.pointer (some ⟨p, 0, none⟩), .string S] w1 fun e w' => e = .returned (.tuple #[.bool bi, .int .i64 0]) ∧ Later w1 w' from by rw [← hbi]; exact is_in w1 p x h S (by omega)))
        rw [hbi] at htk
        have HTK := Lib.hid htk
        have HOF1 := Lib.hid hof1
        clear htk hof1 hbi hx
        obtain ⟨iR, hiR, hz0, hz1, hz2⟩ := info_parts info_rule
        obtain ⟨F, hF⟩ : ∃ F, firstG rf rt S.data.toList 0 ((l.take k).map RuV.bare) = F := ⟨_, rfl⟩
        rw [hF] at HSKIP HPUSH ⊢
        clear hF
        cases F with
        | none =>
          rw [show firstI none = -1 from rfl]
          cases bi with
          | true =>
            go_wp2_with (first
          | (go_at_call 19; (with_reducible refine (HOF.out _).mono ?_); rintro e w5 ⟨p5, rfl, hp5, hm5, hb5⟩; have hl5 := Later.of hb5; have HM5 := Lib.hid (MX.mk hm5 (HT.out w5 ((HLW.out.alloc _).trans hl5))); clear hb5 hm5 hp5)
          | (go_at_call 20; (with_reducible refine (HIS.out _ _ HM5.out).mono ?_); rintro e w6 ⟨rfl, hl6⟩; have h56 : Later (wr.alloc (.cells #[.int .i64 rf, .int .i64 rt, .int .i64 ra, .string rp, .string rq] 50)) w6 := hl5.trans hl6; have HOW6 := Lib.hid (ownsRow_later HROW.out (((Later.refl wr).alloc _).trans h56)); have hsz6 : w1.heap.size + 1 ≤ w6.heap.size := (by have := Below.size h56; have := HSZ.out; simp only [World.size_alloc] at *; omega); have hE6 := h56.block (alloc_block wr (.cells #[.int .i64 rf, .int .i64 rt, .int .i64 ra, .string rp, .string rq] 50)); have q0 : w6.cell? ⟨wr.heap.size, 0, none⟩ = some (.int .i64 rf) := cell_of_block hE6 0; have q1 : w6.cell? ⟨wr.heap.size, 1, none⟩ = some (.int .i64 rt) := cell_of_block hE6 1; have q2 : w6.cell? ⟨wr.heap.size, 2, none⟩ = some (.int .i64 ra) := cell_of_block hE6 2; have q3 : w6.cell? ⟨wr.heap.size, 3, none⟩ = some (.string rp) := cell_of_block hE6 3; have q4 : w6.cell? ⟨wr.heap.size, 4, none⟩ = some (.string rq) := cell_of_block hE6 4; clear hE6)
          | (refine wpList_append_lies _ rfl (.tmp 85) (.tmp 87) 42 rfl (w1.heap.size + 1) 50 iR _ 5 56 Tryd.underlying42 hiR hz0 hz1 hz2 rfl (by decide) u10 ol.length (ruCells ol) rfl (HOW6.out.alloc _) ⟨w6.heap.size, 0, none⟩ 1 1 [.int .i64 rf, .int .i64 rt, .int .i64 ra, .string rp, .string rq] rfl rfl (cells_new w6 [.int .i64 rf, .int .i64 rt, .int .i64 ra, .string rp, .string rq] 50) (by intro u hu; simp only [List.mem_cons, List.not_mem_nil, or_false] at hu; rcases hu with rfl | rfl | rfl | rfl | rfl <;> rfl) (by decide) (by unfold maxLen; omega) (by omega) (by simp; omega) _ rfl ?_
             intro g cap' w7 hown7 hgrow7 hgat hglt)
          | (refine wpList_append_lies _ rfl (.tmp 95) (.tmp 97) 42 rfl (w1.heap.size + 1) 50 iR _ 5 56 Tryd.underlying42 hiR hz0 hz1 hz2 rfl (by decide) u10 ol.length (ruCells ol) rfl (HOW6.out.alloc _) ⟨w6.heap.size, 0, none⟩ 1 1 [.int .i64 rf, .int .i64 rt, .int .i64 ra, .string rp, .string rq] rfl rfl (cells_new w6 [.int .i64 rf, .int .i64 rt, .int .i64 ra, .string rp, .string rq] 50) (by intro u hu; simp only [List.mem_cons, List.not_mem_nil, or_false] at hu; rcases hu with rfl | rfl | rfl | rfl | rfl <;> rfl) (by decide) (by unfold maxLen; omega) (by omega) (by simp; omega) _ rfl ?_
             intro g cap' w7 hown7 hgrow7 hgat hglt)
          | fail)
            refine ⟨⟨?_, ?_⟩, by simp only [intOf]; omega⟩
            · have hp := HPUSH.out HOF1.out (by trivial) _ _ hown7
              rw [HTK.out] at hp
              exact hp
            · have hA := ((HLR.out.alloc _).trans h56).alloc (.cells #[.int .i64 rf, .int .i64 rt, .int .i64 ra, .string rp, .string rq] 50)
              refine Below.grown hA hgrow7 (Below.size hA) (fun q hq => ?_)
              have := (HROW.out.lt q hq).1
              simp only [World.size_alloc]
              omega
          | false =>
            go_wp2_with (first
          | (go_at_call 19; (with_reducible refine (HOF.out _).mono ?_); rintro e w5 ⟨p5, rfl, hp5, hm5, hb5⟩; have hl5 := Later.of hb5; have HM5 := Lib.hid (MX.mk hm5 (HT.out w5 ((HLW.out.alloc _).trans hl5))); clear hb5 hm5 hp5)
          | (go_at_call 20; (with_reducible refine (HIS.out _ _ HM5.out).mono ?_); rintro e w6 ⟨rfl, hl6⟩; have h56 : Later (wr.alloc (.cells #[.int .i64 rf, .int .i64 rt, .int .i64 ra, .string rp, .string rq] 50)) w6 := hl5.trans hl6; have HOW6 := Lib.hid (ownsRow_later HROW.out (((Later.refl wr).alloc _).trans h56)); have hsz6 : w1.heap.size + 1 ≤ w6.heap.size := (by have := Below.size h56; have := HSZ.out; simp only [World.size_alloc] at *; omega); have hE6 := h56.block (alloc_block wr (.cells #[.int .i64 rf, .int .i64 rt, .int .i64 ra, .string rp, .string rq] 50)); have q0 : w6.cell? ⟨wr.heap.size, 0, none⟩ = some (.int .i64 rf) := cell_of_block hE6 0; have q1 : w6.cell? ⟨wr.heap.size, 1, none⟩ = some (.int .i64 rt) := cell_of_block hE6 1; have q2 : w6.cell? ⟨wr.heap.size, 2, none⟩ = some (.int .i64 ra) := cell_of_block hE6 2; have q3 : w6.cell? ⟨wr.heap.size, 3, none⟩ = some (.string rp) := cell_of_block hE6 3; have q4 : w6.cell? ⟨wr.heap.size, 4, none⟩ = some (.string rq) := cell_of_block hE6 4; clear hE6)
          | (refine wpList_append_lies _ rfl (.tmp 85) (.tmp 87) 42 rfl (w1.heap.size + 1) 50 iR _ 5 56 Tryd.underlying42 hiR hz0 hz1 hz2 rfl (by decide) u10 ol.length (ruCells ol) rfl (HOW6.out.alloc _) ⟨w6.heap.size, 0, none⟩ 1 1 [.int .i64 rf, .int .i64 rt, .int .i64 ra, .string rp, .string rq] rfl rfl (cells_new w6 [.int .i64 rf, .int .i64 rt, .int .i64 ra, .string rp, .string rq] 50) (by intro u hu; simp only [List.mem_cons, List.not_mem_nil, or_false] at hu; rcases hu with rfl | rfl | rfl | rfl | rfl <;> rfl) (by decide) (by unfold maxLen; omega) (by omega) (by simp; omega) _ rfl ?_
             intro g cap' w7 hown7 hgrow7 hgat hglt)
          | (refine wpList_append_lies _ rfl (.tmp 95) (.tmp 97) 42 rfl (w1.heap.size + 1) 50 iR _ 5 56 Tryd.underlying42 hiR hz0 hz1 hz2 rfl (by decide) u10 ol.length (ruCells ol) rfl (HOW6.out.alloc _) ⟨w6.heap.size, 0, none⟩ 1 1 [.int .i64 rf, .int .i64 rt, .int .i64 ra, .string rp, .string rq] rfl rfl (cells_new w6 [.int .i64 rf, .int .i64 rt, .int .i64 ra, .string rp, .string rq] 50) (by intro u hu; simp only [List.mem_cons, List.not_mem_nil, or_false] at hu; rcases hu with rfl | rfl | rfl | rfl | rfl <;> rfl) (by decide) (by unfold maxLen; omega) (by omega) (by simp; omega) _ rfl ?_
             intro g cap' w7 hown7 hgrow7 hgat hglt)
          | fail)
            refine ⟨⟨?_, ?_⟩, by simp only [intOf]; omega⟩
            · have hp := HPUSH.out HOF1.out (by trivial) _ _ hown7
              rw [HTK.out] at hp
              exact hp
            · have hA := ((HLR.out.alloc _).trans h56).alloc (.cells #[.int .i64 rf, .int .i64 rt, .int .i64 ra, .string rp, .string rq] 50)
              refine Below.grown hA hgrow7 (Below.size hA) (fun q hq => ?_)
              have := (HROW.out.lt q hq).1
              simp only [World.size_alloc]
              omega
        | some q =>
          obtain ⟨q, rq'⟩ := q
          rw [show firstI (some (q, rq')) = q from rfl] at HSKIP ⊢
          have hq : ¬ (q : Int) < 0 := by omega
          cases bi with
          | true =>
            go_wp2_with (first
          | (go_at_call 19; (with_reducible refine (HOF.out _).mono ?_); rintro e w5 ⟨p5, rfl, hp5, hm5, hb5⟩; have hl5 := Later.of hb5; have HM5 := Lib.hid (MX.mk hm5 (HT.out w5 ((HLW.out.alloc _).trans hl5))); clear hb5 hm5 hp5)
          | (go_at_call 20; (with_reducible refine (HIS.out _ _ HM5.out).mono ?_); rintro e w6 ⟨rfl, hl6⟩; have h56 : Later (wr.alloc (.cells #[.int .i64 rf, .int .i64 rt, .int .i64 ra, .string rp, .string rq] 50)) w6 := hl5.trans hl6; have HOW6 := Lib.hid (ownsRow_later HROW.out (((Later.refl wr).alloc _).trans h56)); have hsz6 : w1.heap.size + 1 ≤ w6.heap.size := (by have := Below.size h56; have := HSZ.out; simp only [World.size_alloc] at *; omega); have hE6 := h56.block (alloc_block wr (.cells #[.int .i64 rf, .int .i64 rt, .int .i64 ra, .string rp, .string rq] 50)); have q0 : w6.cell? ⟨wr.heap.size, 0, none⟩ = some (.int .i64 rf) := cell_of_block hE6 0; have q1 : w6.cell? ⟨wr.heap.size, 1, none⟩ = some (.int .i64 rt) := cell_of_block hE6 1; have q2 : w6.cell? ⟨wr.heap.size, 2, none⟩ = some (.int .i64 ra) := cell_of_block hE6 2; have q3 : w6.cell? ⟨wr.heap.size, 3, none⟩ = some (.string rp) := cell_of_block hE6 3; have q4 : w6.cell? ⟨wr.heap.size, 4, none⟩ = some (.string rq) := cell_of_block hE6 4; clear hE6)
          | (refine wpList_append_lies _ rfl (.tmp 85) (.tmp 87) 42 rfl (w1.heap.size + 1) 50 iR _ 5 56 Tryd.underlying42 hiR hz0 hz1 hz2 rfl (by decide) u10 ol.length (ruCells ol) rfl (HOW6.out.alloc _) ⟨w6.heap.size, 0, none⟩ 1 1 [.int .i64 rf, .int .i64 rt, .int .i64 ra, .string rp, .string rq] rfl rfl (cells_new w6 [.int .i64 rf, .int .i64 rt, .int .i64 ra, .string rp, .string rq] 50) (by intro u hu; simp only [List.mem_cons, List.not_mem_nil, or_false] at hu; rcases hu with rfl | rfl | rfl | rfl | rfl <;> rfl) (by decide) (by unfold maxLen; omega) (by omega) (by simp; omega) _ rfl ?_
             intro g cap' w7 hown7 hgrow7 hgat hglt)
          | (refine wpList_append_lies _ rfl (.tmp 95) (.tmp 97) 42 rfl (w1.heap.size + 1) 50 iR _ 5 56 Tryd.underlying42 hiR hz0 hz1 hz2 rfl (by decide) u10 ol.length (ruCells ol) rfl (HOW6.out.alloc _) ⟨w6.heap.size, 0, none⟩ 1 1 [.int .i64 rf, .int .i64 rt, .int .i64 ra, .string rp, .string rq] rfl rfl (cells_new w6 [.int .i64 rf, .int .i64 rt, .int .i64 ra, .string rp, .string rq] 50) (by intro u hu; simp only [List.mem_cons, List.not_mem_nil, or_false] at hu; rcases hu with rfl | rfl | rfl | rfl | rfl <;> rfl) (by decide) (by unfold maxLen; omega) (by omega) (by simp; omega) _ rfl ?_
             intro g cap' w7 hown7 hgrow7 hgat hglt)
          | fail)
            exact ⟨⟨HSKIP.out _ (.inr rfl) (((Later.refl wr).alloc _).trans h56), (HLR.out.alloc _).trans h56⟩, by simp only [intOf]; omega⟩
          | false =>
            go_wp2_with (first
          | (go_at_call 19; (with_reducible refine (HOF.out _).mono ?_); rintro e w5 ⟨p5, rfl, hp5, hm5, hb5⟩; have hl5 := Later.of hb5; have HM5 := Lib.hid (MX.mk hm5 (HT.out w5 ((HLW.out.alloc _).trans hl5))); clear hb5 hm5 hp5)
          | (go_at_call 20; (with_reducible refine (HIS.out _ _ HM5.out).mono ?_); rintro e w6 ⟨rfl, hl6⟩; have h56 : Later (wr.alloc (.cells #[.int .i64 rf, .int .i64 rt, .int .i64 ra, .string rp, .string rq] 50)) w6 := hl5.trans hl6; have HOW6 := Lib.hid (ownsRow_later HROW.out (((Later.refl wr).alloc _).trans h56)); have hsz6 : w1.heap.size + 1 ≤ w6.heap.size := (by have := Below.size h56; have := HSZ.out; simp only [World.size_alloc] at *; omega); have hE6 := h56.block (alloc_block wr (.cells #[.int .i64 rf, .int .i64 rt, .int .i64 ra, .string rp, .string rq] 50)); have q0 : w6.cell? ⟨wr.heap.size, 0, none⟩ = some (.int .i64 rf) := cell_of_block hE6 0; have q1 : w6.cell? ⟨wr.heap.size, 1, none⟩ = some (.int .i64 rt) := cell_of_block hE6 1; have q2 : w6.cell? ⟨wr.heap.size, 2, none⟩ = some (.int .i64 ra) := cell_of_block hE6 2; have q3 : w6.cell? ⟨wr.heap.size, 3, none⟩ = some (.string rp) := cell_of_block hE6 3; have q4 : w6.cell? ⟨wr.heap.size, 4, none⟩ = some (.string rq) := cell_of_block hE6 4; clear hE6)
          | (refine wpList_append_lies _ rfl (.tmp 85) (.tmp 87) 42 rfl (w1.heap.size + 1) 50 iR _ 5 56 Tryd.underlying42 hiR hz0 hz1 hz2 rfl (by decide) u10 ol.length (ruCells ol) rfl (HOW6.out.alloc _) ⟨w6.heap.size, 0, none⟩ 1 1 [.int .i64 rf, .int .i64 rt, .int .i64 ra, .string rp, .string rq] rfl rfl (cells_new w6 [.int .i64 rf, .int .i64 rt, .int .i64 ra, .string rp, .string rq] 50) (by intro u hu; simp only [List.mem_cons, List.not_mem_nil, or_false] at hu; rcases hu with rfl | rfl | rfl | rfl | rfl <;> rfl) (by decide) (by unfold maxLen; omega) (by omega) (by simp; omega) _ rfl ?_
             intro g cap' w7 hown7 hgrow7 hgat hglt)
          | (refine wpList_append_lies _ rfl (.tmp 95) (.tmp 97) 42 rfl (w1.heap.size + 1) 50 iR _ 5 56 Tryd.underlying42 hiR hz0 hz1 hz2 rfl (by decide) u10 ol.length (ruCells ol) rfl (HOW6.out.alloc _) ⟨w6.heap.size, 0, none⟩ 1 1 [.int .i64 rf, .int .i64 rt, .int .i64 ra, .string rp, .string rq] rfl rfl (cells_new w6 [.int .i64 rf, .int .i64 rt, .int .i64 ra, .string rp, .string rq] 50) (by intro u hu; simp only [List.mem_cons, List.not_mem_nil, or_false] at hu; rcases hu with rfl | rfl | rfl | rfl | rfl <;> rfl) (by decide) (by unfold maxLen; omega) (by omega) (by simp; omega) _ rfl ?_
             intro g cap' w7 hown7 hgrow7 hgat hglt)
          | fail)
            exact ⟨⟨HSKIP.out _ (.inr rfl) (((Later.refl wr).alloc _).trans h56), (HLR.out.alloc _).trans h56⟩, by simp only [intOf]; omega⟩
      · have hof0 : (RuV.bare ⟨rf, rt, ra, rp, rq⟩).of fr tu = false := by
          simp only [Rul.of, RuV.bare]
          rw [Bool.eq_false_iff]
          intro h
          rw [Bool.and_eq_true] at h
          exact h1 ⟨of_decide_eq_true h.1, of_decide_eq_true h.2⟩
        by_cases h2 : rf = fr
        · have h3 : ¬ rt = tu := fun h => h1 ⟨h2, h⟩
          subst h2
          clear h1
          go_wp2_with fail
          exact ⟨⟨HSKIP.out _ (.inl hof0) ((Later.refl wr).alloc _), HLR.out.alloc _⟩, by simp only [intOf]; omega⟩
        · go_wp2_with fail
          exact ⟨⟨HSKIP.out _ (.inl hof0) ((Later.refl wr).alloc _), HLR.out.alloc _⟩, by simp only [intOf]; omega⟩
    · obtain rfl : k = l.length := by omega
      have hEr := HLR.out.block HE1.out
      have q0 : wr.cell? ⟨w1.heap.size, 0, none⟩ = some (.int .i64 f0) := cell_of_block hEr 0
      have q1 : wr.cell? ⟨w1.heap.size, 1, none⟩ = some (.int .i64 ac) := cell_of_block hEr 1
      have q2 : wr.cell? ⟨w1.heap.size, 2, none⟩ = some (.string OUT) := cell_of_block hEr 2
      have hl3 : (S.data.toList).length ≤ 200 := by rw [ba_len]; exact hs
      have hol := HOL.out
      rw [List.take_length] at hol ⊢
      cases hF : firstG fr tu S.data.toList 0 (l.map RuV.bare) with
      | none =>
        have hx := (decide_none HC.out hl3 hF).symm.trans HDD.out
        simp only [Prod.mk.injEq] at hx
        obtain ⟨h1, h2, h3, -⟩ := hx
        obtain rfl : OUT = ⟨#[]⟩ := by
          have : OUT.data = #[] := Array.toList_inj.1 h3.symm
          cases OUT
          simp only at this
          rw [this]
        subst h1 h2
        rw [show firstI none = -1 from rfl]
        clear hEr hl3 hol h3 hF HDD
        go_wp2_with (first
          | (go_at_call 18; (with_reducible refine (HFIX.out _ HLW.out).mono ?_); rintro e w9 ⟨rfl, hl9⟩)
          | fail)
        go_ret
        exact ⟨rfl, HLW.out.trans hl9⟩
      | some q =>
        obtain ⟨n, r⟩ := q
        have hx := (decide_some HC.out hl3 hF).symm.trans HDD.out
        simp only [Prod.mk.injEq] at hx
        obtain ⟨h1, h2, h3, -⟩ := hx
        have hdo := decide_own HC.out hl3 hF
        rw [← hol, h2, h3] at hdo
        obtain ⟨N, hN⟩ : ∃ N, ol.length = N := ⟨_, rfl⟩
        obtain ⟨U, hU⟩ : ∃ U : Int, (N : Int) - 1 = U := ⟨_, rfl⟩
        have hN32 : 1 ≤ N ∧ N ≤ 32 := by
          obtain ⟨u, -, hu⟩ := firstG_own (j := 0) hF
          rw [← hol, List.length_map] at hu
          have h9 := ownG_length fr tu S.data.toList (l.map RuV.bare)
          rw [← hol] at h9
          simp only [List.length_map] at h9
          have := (checkG_all HC.out).1
          simp only [List.length_map] at this
          omega
        rw [List.length_map, hN, hU] at hdo
        obtain ⟨ao, co, rfl, hro⟩ := rules_of_row HROW.out
        have HD2 := Lib.hid (show Calls Tryd.prog 17 #[.slice ao ol.length co, .int .i64 fr, .int .i64 tu, .string S] wr fun e w' => e = .returned (.tuple #[.agg #[.int .i64 U, .int .i64 ac, .string OUT], .int .i64 0]) ∧ Later wr w' from by
          have h2 := decide_any wr ao co ol fr tu S hro (HT.out wr HLW.out)
          rw [hdo] at h2
          exact h2)
        rw [hN] at HD2 ⊢
        have hw1 : IntKind.i64.wrap ((N : Int) - 1) = U := by rw [IntKind.wrap_i64]; omega
        have HU := Lib.hid hU
        have HW1 := Lib.hid hw1
        clear hU hw1 hN
        subst h1
        rw [show firstI (some (n, r)) = n from rfl]
        have hn0 : ¬ (n : Int) < 0 := by omega
        have hE4 := (show Later (w.alloc (.cells #[.int .i64 fr, .int .i64 tu, .int .i64 lv] 44)) wr from (hl1.trans (ha1.trans hlr))).block (alloc_block w (.cells #[.int .i64 fr, .int .i64 tu, .int .i64 lv] 44))
        have p0 : wr.cell? ⟨w.heap.size, 0, none⟩ = some (.int .i64 fr) := cell_of_block hE4 0
        have p1 : wr.cell? ⟨w.heap.size, 1, none⟩ = some (.int .i64 tu) := cell_of_block hE4 1
        have HG := Lib.hid (firstG_get hF)
        have HOUT := Lib.hid h3
        have HACT := Lib.hid h2
        clear hE4 hEr hl3 hol h3 h2 hF HDD hdo hro
        go_upto_region 25 with (first
          | (go_at_call 17; (with_reducible refine HD2.out.mono ?_); rintro e w8 ⟨rfl, hl8⟩)
          | fail)
        have hl9 : Later wr (w8.alloc (.cells #[.int .i64 U, .int .i64 ac, .string OUT] 46)) := hl8.alloc _
        have hE17 := alloc_block w8 (.cells #[.int .i64 U, .int .i64 ac, .string OUT] 46)
        have s0 : (w8.alloc (.cells #[.int .i64 U, .int .i64 ac, .string OUT] 46)).cell? ⟨w8.heap.size, 0, none⟩ = some (.int .i64 U) := cell_of_block hE17 0
        have s1 : (w8.alloc (.cells #[.int .i64 U, .int .i64 ac, .string OUT] 46)).cell? ⟨w8.heap.size, 1, none⟩ = some (.int .i64 ac) := cell_of_block hE17 1
        have s2 : (w8.alloc (.cells #[.int .i64 U, .int .i64 ac, .string OUT] 46)).cell? ⟨w8.heap.size, 2, none⟩ = some (.string OUT) := cell_of_block hE17 2
        have z0 := hl9.cell q0
        have z1 := hl9.cell q1
        have z2 := hl9.cell q2
        have hnl : n < l.length := by
          have := (List.getElem?_eq_some_iff.1 HG.out).1
          simpa using this
        obtain ⟨b, o, rfl, -, -, c2, -, -⟩ := rules_at (HR.out (w8.alloc (.cells #[.int .i64 U, .int .i64 ac, .string OUT] 46)) (HLW.out.trans hl9)) hnl
        have hac : l[n].act = ac := by
          have h := HG.out
          rw [List.getElem?_map, List.getElem?_eq_getElem hnl] at h
          simp only [Option.map_some, Option.some.injEq] at h
          rw [← HACT.out, ← h]
          rfl
        rw [hac] at c2
        have hnm : (n : Int) < (m : Int) := by omega
        have hn00 : (0 : Int) ≤ (n : Int) := by omega
        have hw1 := HW1.out
        have hw2 := HU.out
        clear hE17 hac q0 q1 q2 p0 p1
        have hact : 0 ≤ ac ∧ ac ≤ 2 := by
          have := okB_parts ((checkG_all HC.out).2 r (List.mem_of_getElem? HG.out))
          rw [HACT.out] at this
          exact this.1
        have hHL := HLW.out.trans hl9
        have HHL := Lib.hid hHL
        clear hHL
        obtain ⟨W9, hW9⟩ : ∃ W9, w8.alloc (.cells #[.int .i64 U, .int .i64 ac, .string OUT] 46) = W9 := ⟨_, rfl⟩
        rw [hW9] at s0 s1 s2 z0 z1 z2 c2 HHL ⊢
        clear hW9
        go_quiet (fail)
        clear hw1 hw2 s0 s1 s2 c2 hnm hn00
        obtain ⟨W10, hW10⟩ : ∃ W10, W9.drewN nq = W10 := ⟨_, rfl⟩
        have hl10 : Later W9 W10 := by rw [← hW10]; exact (Later.refl W9).drewN nq
        rw [hW10]
        clear hW10
        have y1 := hl10.cell z1
        have y2 := hl10.cell z2
        have HW := Lib.hid (HHL.out.trans hl10)
        clear z0 z1 z2 hl10 hl9 hl8 hn0
        by_cases hc0 : ac = 0
        · subst hc0
          obtain rfl : OUT = ⟨#[]⟩ := by
            have h := HOUT.out
            rw [outG_drop HACT.out] at h
            have h2 : OUT.data = #[] := Array.toList_inj.1 h.symm
            cases OUT
            simp only at h2
            rw [h2]
          go_wp2_with (first
            | (go_at_call 18; (with_reducible refine (HFIX.out _ HW.out).mono ?_); rintro e w19 ⟨rfl, hl19⟩)
            | fail)
          go_ret
          exact ⟨rfl, HW.out.trans hl19⟩
        · have hra : r.act ≠ 0 := by rw [HACT.out]; exact hc0
          have hsz : OUT.size = S.size := by
            have h := outG_length (s := S.data.toList) hra
            rw [HOUT.out, ba_len, ba_len] at h
            exact h
          have hby : ∀ i, i < S.size → OUT.data.toList.getD i 0 = S.data.toList.getD i 0 ∨ OUT.data.toList.getD i 0 = 42 := by
            intro i hi
            have h := outG_byte (s := S.data.toList) hra i (by rw [ba_len]; exact hi)
            rw [HOUT.out] at h
            exact h
          have HBY := Lib.hid hby
          have HSZO := Lib.hid hsz
          clear hra hby
          by_cases hc1 : ac = 1
          · subst hc1
            obtain rfl : OUT = S := by
              have h := HOUT.out
              rw [outG_pass HACT.out] at h
              have h2 : S.data = OUT.data := Array.toList_inj.1 h
              cases OUT
              cases S
              simp only at h2
              rw [h2]
            clear hsz hc0
            go_wp2_with fail
            go_loopw [19] (fun v wx => ∃ i : Nat, i ≤ OUT.size ∧ v = .int .i64 i ∧ Later W10 wx) (fun v _ => OUT.size - (intOf v).toNat)
            case atStart => exact ⟨0, by omega, rfl, Later.refl _⟩
            case round =>
              obtain ⟨i, hi, rfl, hlx⟩ := hrel
              have x2 := hlx.cell y2
              by_cases hlt : i < OUT.size
              · have hlt' : (i : Int) < (OUT.size : Int) := by omega
                obtain ⟨z, hz⟩ : ∃ z : Int, ((OUT.data.toList.getD i 0).toNat : Int) = z := ⟨_, rfl⟩
                have hiS := idx_byte OUT i hlt
                rw [hz] at hiS
                clear hz hlt
                have HLX := Lib.hid hlx
                clear hlx
                go_upto_region 34 with fail
                go_quiet (fail)
                go_wp2_with fail
                go_roundw
                case rel => exact ⟨i + 1, by omega, by simp, HLX.out.drewN _⟩
                case measure => simp only [intOf]; omega
              · obtain rfl : i = OUT.size := by omega
                have HLX := Lib.hid (HW.out.trans hlx)
                clear hlx
                go_wp2_with (first
                  | (go_at_call 18; (with_reducible refine (HFIX.out _ HLX.out).mono ?_); rintro e w19 ⟨rfl, hl19⟩)
                  | fail)
                go_ret
                exact ⟨rfl, HLX.out.trans hl19⟩
          · obtain rfl : ac = 2 := by omega
            clear hc0 hc1
            go_wp2_with fail
            go_loopw [19] (fun v wx => ∃ i : Nat, i ≤ S.size ∧ v = .int .i64 i ∧ Later W10 wx) (fun v _ => S.size - (intOf v).toNat)
            case atStart => exact ⟨0, by omega, rfl, Later.refl _⟩
            case round =>
              obtain ⟨i, hi, rfl, hlx⟩ := hrel
              have x2 := hlx.cell y2
              by_cases hlt : i < S.size
              · have hlt' : (i : Int) < (S.size : Int) := by omega
                have hiS := idx_byte S i hlt
                have hiO := idx_byte OUT i (by have := HSZO.out; omega)
                have hbb := HBY.out i hlt
                obtain ⟨zo, hzo⟩ : ∃ zo : UInt8, OUT.data.toList.getD i 0 = zo := ⟨_, rfl⟩
                obtain ⟨zs, hzs⟩ : ∃ zs : UInt8, S.data.toList.getD i 0 = zs := ⟨_, rfl⟩
                rw [hzo] at hiO hbb
                rw [hzs] at hiS hbb
                have hcase : (zo = zs) ∨ (zo = 42 ∧ ((42 : Int) != (zs.toNat : Int)) = true) := by
                  rcases hbb with h | h
                  · exact .inl h
                  · by_cases h2 : zs = 42
                    · exact .inl (h.trans h2.symm)
                    · refine .inr ⟨h, ?_⟩
                      rw [bne_iff_ne]
                      intro h3
                      apply h2
                      apply UInt8.toNat_inj.1
                      have : (42 : UInt8).toNat = 42 := rfl
                      omega
                clear hbb hzo hzs hlt
                have HLX := Lib.hid hlx
                clear hlx
                rcases hcase with rfl | ⟨rfl, hne⟩
                · obtain ⟨z, hz⟩ : ∃ z : Int, ((zo.toNat : Nat) : Int) = z := ⟨_, rfl⟩
                  rw [hz] at hiS hiO
                  clear hz
                  go_upto_region 34 with fail
                  go_quiet (fail)
                  go_wp2_with fail
                  go_roundw
                  case rel => exact ⟨i + 1, by omega, by simp, HLX.out.drewN _⟩
                  case measure => simp only [intOf]; omega
                · obtain ⟨z, hz⟩ : ∃ z : Int, ((zs.toNat : Nat) : Int) = z := ⟨_, rfl⟩
                  rw [hz] at hiS hne
                  have hiO2 : ∀ w : World, (Instr.index 9 (.string OUT) (.int .i64 i)).run Tryd.prog w = .ok (.int .u8 42) w := fun w => hiO w
                  clear hz hiO
                  go_upto_region 34 with fail
                  go_quiet (fail)
                  go_wp2_with fail
                  go_roundw
                  case rel => exact ⟨i + 1, by omega, by simp, HLX.out.drewN _⟩
                  case measure => simp only [intOf]; omega
              · obtain rfl : i = S.size := by omega
                have HLX := Lib.hid (HW.out.trans hlx)
                clear hlx
                go_wp2_with (first
                  | (go_at_call 18; (with_reducible refine (HFIX.out _ HLX.out).mono ?_); rintro e w19 ⟨rfl, hl19⟩)
                  | fail)
                go_ret
                exact ⟨rfl, HLX.out.trans hl19⟩
end Go.Proofs.YtjhclopdcbnmkaaDoor

