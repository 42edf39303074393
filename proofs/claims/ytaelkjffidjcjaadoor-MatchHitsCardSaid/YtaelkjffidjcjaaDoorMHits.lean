/- The walk of MatchHits. -/
import Derived.Test.YtaelkjffidjcjaaDoorTells
import Derived.Test.YtaelkjffidjcjaaDoorRHit
import Derived.Test.YtaelkjffidjcjaaDoorClone
set_option linter.unusedSimpArgs false
set_option linter.unusedVariables false
namespace Go.Proofs.YtaelkjffidjcjaaDoor
open Go.RowKit PX

theorem Later.setCell2 {a b : World} (h : Later a b) {g : Nat} (hg : a.heap.size ≤ g) (i j : Nat) (u v : Value) : Later a ((b.setCell ⟨g, i, none⟩ u).setCell ⟨g, j, none⟩ v) :=
  h.only (r := fun q => q = g) (((Only.refl (fun q => q = g) b).setCell (.inl rfl) u).setCell (.inl rfl) v) (by rintro q rfl; exact hg)
theorem hitSays_form {x : Rx} {s : List UInt8} {f : Int} {e : Ending} (h : HitSays x s f e) : ∃ (a b : Int) (c : Bool), e = .returned (.tuple #[.int .i64 a, .int .i64 b, .bool c]) := by
  rcases h with ⟨-, he⟩ | ⟨-, g, -, -, ⟨a, b, he, -⟩ | ⟨-, he⟩⟩
  · exact ⟨_, _, _, he⟩
  · exact ⟨_, _, _, he⟩
  · exact ⟨_, _, _, he⟩
theorem hitSays_unique {x : Rx} {s : List UInt8} {f : Int} {e e' : Ending} (h : HitSays x s f e) (h' : HitSays x s f e') : e = e' := by
  rcases h with ⟨h1, rfl⟩ | ⟨h1, g, rfl, h2, h3⟩
  · rcases h' with ⟨-, rfl⟩ | ⟨k1, g', rfl, k2, -⟩
    · rfl
    · exact absurd ⟨k1, by omega, by omega⟩ h1
  · rcases h' with ⟨k1, -⟩ | ⟨-, g', hg, -, k3⟩
    · exact absurd ⟨h1, by omega, by omega⟩ k1
    · obtain rfl : g = g' := by omega
      rcases h3 with ⟨a, b, rfl, hh⟩ | ⟨hn, rfl⟩
      · rcases k3 with ⟨a', b', rfl, hh'⟩ | ⟨hn', -⟩
        · obtain ⟨rfl, rfl⟩ := isHit_unique hh hh'; rfl
        · exact (isHit_noHit hh hn').elim
      · rcases k3 with ⟨a', b', rfl, hh'⟩ | ⟨-, rfl⟩
        · exact (isHit_noHit hh' hn).elim
        · rfl
theorem hitsSays_unique {x : Rx} {s : List UInt8} {l l' : List (Nat × Nat)} (h : HitsSays x s l) (h' : HitsSays x s l') : l = l' := by
  rcases h with ⟨h1, h2⟩ | ⟨h1, h2⟩ <;> rcases h' with ⟨k1, k2⟩ | ⟨k1, k2⟩
  · exact hitsFrom_unique h2 k2
  · omega
  · omega
  · rw [h2, k2]

set_option maxRecDepth 100000 in
set_option maxHeartbeats 4000000 in
theorem mhits_any (w : World) (X : RxA) (S : ByteArray) (f : Int) (hf : I64 f) (hJ : JW w X X) :
    Calls Tryd.prog 9 #[X.val, .string S, .int .i64 f] w fun e w' => e = .returned (.bool true) ∧ Later w w' := by
  obtain ⟨w0, hw0⟩ : ∃ w0, w.alloc (.cells X.cells.toArray 26) = w0 := ⟨_, rfl⟩
  have hl0 : Later w w0 := by rw [← hw0]; exact (Later.refl w).alloc _
  have hJ0 := hJ.later hl0
  have hx0 : w0.heap[w.heap.size]? = some (.cells X.cells.toArray 26 (0, 0)) := by rw [← hw0]; exact alloc_block w _
  have hfix := fun w1 (h1 : Later w0 w1) => fixed_any w1 (hJ0.later h1).t
  have hnew := fun w1 (h1 : Later w0 w1) => new_says w1 X (hJ0.later h1).x (hJ0.later h1).t
  have hrhit := fun w1 (h1 : Later w0 w1) (hc : checkR X.bare = 0) => rhit_any w1 X S f hf (hJ0.later h1).x hc
  have hrhits := fun w1 (h1 : Later w0 w1) (hc : checkR X.bare = 0) => rhits_any w1 X S (hJ0.later h1).x hc
  obtain ⟨x, hx⟩ : ∃ x, X.bare = x := ⟨_, rfl⟩
  rw [hx] at hnew hrhit hrhits
  clear hJ hJ0 hx
  obtain ⟨k, mn, mx, s0, s1, s2, s3, a, cap, l⟩ := X
  simp only [RxA.val, RxA.cells] at hnew hrhit hrhits hx0 hw0 ⊢
  obtain ⟨b0, hb0⟩ : ∃ b0, w.heap.size = b0 := ⟨_, rfl⟩
  obtain ⟨n, hn⟩ : ∃ n, l.length = n := ⟨_, rfl⟩
  rw [hn] at hnew hrhit hrhits hx0 hw0 ⊢
  rw [hb0] at hx0
  have hsx : ∀ w', Later w0 w' → w'.cell? ⟨b0, 0, none⟩ = some (.int .i64 k) ∧ w'.cell? ⟨b0, 1, none⟩ = some (.int .i64 mn) ∧ w'.cell? ⟨b0, 2, none⟩ = some (.int .i64 mx) ∧ w'.cell? ⟨b0, 3, none⟩ = some (.int .u64 s0) ∧ w'.cell? ⟨b0, 4, none⟩ = some (.int .u64 s1) ∧ w'.cell? ⟨b0, 5, none⟩ = some (.int .u64 s2) ∧ w'.cell? ⟨b0, 6, none⟩ = some (.int .u64 s3) ∧ w'.cell? ⟨b0, 7, none⟩ = some (.slice a n cap) := by
    intro w' h'
    have h1 := h'.block hx0
    refine ⟨?_, ?_, ?_, ?_, ?_, ?_, ?_, ?_⟩ <;> exact cell_of_block h1 _
  have HSX := Lib.hid hsx
  have HFIX := Lib.hid hfix
  have HL0 := Lib.hid hl0
  have HW0 := Lib.hid hw0
  have HRH := Lib.hid hrhit
  have HRHS := Lib.hid hrhits
  obtain ⟨q0, q1, q2, q3, q4, q5, q6, q7⟩ := hsx w0 (Later.refl _)
  have hnew0 := hnew w0 (Later.refl _)
  clear hfix hl0 hw0 hn hx0 hsx hrhit hrhits hnew
  by_cases hc : checkR x = 0
  · rw [hc] at hnew0
    have HNEW := Lib.hid hnew0
    have HC := Lib.hid hc
    have HF := Lib.hid hf
    clear hnew0 hc hf
    go_enter Tryd.func9, Tryd.ntmps9
    go_upto_region 1 with fail
    rw [HW0.out]
    clear HW0 hb0
    go_wp2_with (first
      | (go_at_call 14; (with_reducible refine HNEW.out.mono ?_); rintro e w1 ⟨v, rfl, hl1, hm1⟩; obtain ⟨p, rfl, hp⟩ := hm1.good HC.out; clear hm1; have HP := Lib.hid hp; clear hp)
      | (go_at_call 15; (with_reducible refine (HFIX.out _ hl1).mono ?_); rintro e w2 ⟨rfl, hb2⟩; have hl2 := Later.of hb2; clear hb2; have HP2 := Lib.hid (HP.out.later hl2))
      | (go_at_call 25; (with_reducible refine (clone_any _ p x HP2.out).mono ?_); rintro e w3 ⟨pc, rfl, hl3, hpc⟩; have HPC := Lib.hid hpc; have HP3 := Lib.hid (HP2.out.later hl3); clear hpc)
      | (go_at_call 24; (with_reducible refine (hit_any _ p x S f HP3.out.m HP3.out.t HF.out).mono ?_); rintro e w4 ⟨hsay, hb4⟩; have hl4 := Later.of hb4; clear hb4; obtain ⟨ha, hbb, hcc, rfl⟩ := hitSays_form hsay; have HSAY := Lib.hid hsay; clear hsay; have hl04 := Later.trans (Later.trans (Later.trans hl1 hl2) hl3) hl4; obtain ⟨q0, q1, q2, q3, q4, q5, q6, q7⟩ := HSX.out w4 hl04)
      | (go_at_call 26; (with_reducible refine (HRH.out _ hl04 HC.out).mono ?_); rintro e w5 ⟨hsay5, hl5⟩; obtain rfl := hitSays_unique HSAY.out hsay5; clear hsay5; have hl05 := Later.trans hl04 hl5; obtain ⟨q0, q1, q2, q3, q4, q5, q6, q7⟩ := HSX.out w5 hl05)
      | (go_at_call 27; (with_reducible refine (HRHS.out _ hl05 HC.out).mono ?_); rintro e w6 ⟨vw, lw, rfl, hsw, how, hlw, hl6⟩; have HPW := Lib.hid (pairs_of_row how); have HSW := Lib.hid hsw; clear hsw how; have HP6 := Lib.hid (((HP3.out.later hl4).later hl5).later hl6); have HPC6 := Lib.hid (((HPC.out.later hl4).later hl5).later hl6); have hl06 := Later.trans hl05 hl6)
      | (go_at_call 22; (with_reducible refine (hits_any _ p x S HP6.out.m HP6.out.t).mono ?_); rintro e w7 ⟨vh, lh, rfl, hsh, hoh, hlh, hb7⟩; have hl7 := Later.of hb7; clear hb7; obtain rfl := hitsSays_unique HSW.out hsh; have HOH := Lib.hid hoh; have HPH := Lib.hid (pairs_of_row hoh); have HPW7 := Lib.hid (HPW.out.below hl7); obtain ⟨la, lc, hv⟩ := row_of hoh; subst hv; clear hsh hoh)
      | (go_at_call 28; (with_reducible refine (samePairs_any _ _ _ _ _ HPH.out HPW7.out (by omega)).mono ?_); rintro e w8 ⟨he8, hb8⟩; simp only [decide_true] at he8; subst he8; have hl8 := Later.of hb8; clear hb8)
      | fail)
    have hl68 : Later w6 w8 := Later.trans hl7 hl8
    have hrow8 : lw ≠ [] → ∃ g cs, la = some ⟨g, 0, none⟩ ∧ w6.heap.size ≤ g ∧ w8.heap[g]? = some (.cells cs 41 (0, 0)) ∧ lw.length * 2 ≤ cs.size := fun hne => by
      rcases HOH.out.2 with ⟨-, h0⟩ | ⟨g, cp, cur, he, hb, hh, h1, -, hsz, -⟩
      · exact absurd (List.eq_nil_of_length_eq_zero h0) hne
      · cases he
        exact ⟨g, cur, rfl, hb, Later.block hl8 hh, by rw [hsz]; omega⟩
    have HROW8 := Lib.hid hrow8
    have HL68 := Lib.hid hl68
    have HLW6 := Lib.hid (HL0.out.trans hl06)
    obtain ⟨nl, hnl⟩ : ∃ nl, lw.length = nl := ⟨_, rfl⟩
    rw [hnl] at hlw ⊢
    have HNL := Lib.hid hnl
    clear hrow8 hl68 hnl q0 q1 q2 q3 q4 q5 q6 q7 hl1 hl2 hl3 hl4 hl04 hl5 hl05 hl6 hl06 hl7 hl8 hlh
    go_loopw [18] (fun i_ wx => ∃ i : Nat, i ≤ nl ∧ i_ = .int .i64 i ∧ Later w6 wx ∧ (lw ≠ [] → ∃ g cs, la = some ⟨g, 0, none⟩ ∧ w6.heap.size ≤ g ∧ wx.heap[g]? = some (.cells cs 41 (0, 0)) ∧ nl * 2 ≤ cs.size)) (fun i_ _ => nl - (intOf i_).toNat)
    case atStart => exact ⟨0, by omega, rfl, HL68.out, by rw [← HNL.out]; exact HROW8.out⟩
    case round =>
      obtain ⟨i, hi, rfl, hlr, hrow⟩ := hrel
      have HLR := Lib.hid hlr
      by_cases hie : i = nl
      · subst hie
        clear hrow hlr
        have hpw := HPW.out.below HLR.out
        have hpcr := HPC6.out.later HLR.out
        have HPWR := Lib.hid hpw
        have HPCR := Lib.hid hpcr
        clear hpw hpcr
        go_wp2_with (first
          | (go_at_call 22; (with_reducible refine (hits_any _ pc x S HPCR.out.m HPCR.out.t).mono ?_); rintro e w9 ⟨v9, l9, rfl, hs9, ho9, hl9, hb9⟩; obtain rfl := hitsSays_unique HSW.out hs9; have HP9 := Lib.hid (pairs_of_row ho9); have HW9 := Lib.hid (HPWR.out.below hb9); have hl69 := Later.of hb9; clear hs9 ho9 hb9)
          | (go_at_call 28; (with_reducible refine (samePairs_any _ _ _ _ _ HP9.out HW9.out (by omega)).mono ?_); rintro e wz ⟨hez, hbz⟩; simp only [decide_true] at hez; subst hez; have hlz := Later.of hbz; clear hbz)
          | fail)
        go_ret
        exact ⟨rfl, (HLW6.out.trans HLR.out).trans (Later.trans hl69 hlz)⟩
      · have hin2 : (i : Int) < nl := by omega
        have hne : lw ≠ [] := by rintro rfl; have := HNL.out; simp at this; omega
        obtain ⟨g, cs, rfl, hg6, hgb, hsz⟩ := hrow hne
        have hc0 : wr.cell? ⟨g, i * 2, none⟩ = some (cs[i * 2]'(by omega)) := by rw [cell_of_block hgb]; exact Array.getElem?_eq_getElem _
        have hc1 : wr.cell? ⟨g, i * 2 + 1, none⟩ = some (cs[i * 2 + 1]'(by omega)) := by rw [cell_of_block hgb]; exact Array.getElem?_eq_getElem _
        obtain ⟨v0, hv0⟩ : ∃ v0, cs[i * 2]'(by omega) = v0 := ⟨_, rfl⟩
        obtain ⟨v1, hv1⟩ : ∃ v1, cs[i * 2 + 1]'(by omega) = v1 := ⟨_, rfl⟩
        rw [hv0] at hc0
        rw [hv1] at hc1
        have hf0 : wr.frozen? ⟨g, i * 2, none⟩ = false := free_of_block hgb _
        have hf1 : wr.frozen? ⟨g, i * 2 + 1, none⟩ = false := free_of_block hgb _
        have HGB := Lib.hid hgb
        have HSZ := Lib.hid hsz
        clear hgb hv0 hv1 hrow hlr hne hsz
        go_wp2_with fail
        go_roundw
        case measure => simp only [intOf]; omega
        case rel =>
          refine ⟨i + 1, by omega, by simp, (HLR.out.setCell2 hg6 _ _ _ _), fun _ => ⟨g, _, rfl, hg6, setCell_block (setCell_block HGB.out _ _) _ _, by simpa using HSZ.out⟩⟩
  · have hnew2 := hnew0.mono (R' := fun e w' => e = .returned (.tuple #[.pointer none, .int .i64 (checkR x)]) ∧ Later w0 w') (by
      rintro e w' ⟨v, rfl, hl, hm⟩
      rcases hm with ⟨h, -⟩ | ⟨-, rfl⟩
      · exact absurd h hc
      · exact ⟨rfl, hl⟩)
    have HNEW := Lib.hid hnew2
    have hc2 : (checkR x != 0) = true := by rw [bne_iff_ne]; exact hc
    clear hnew0 hnew2 hc
    go_enter Tryd.func9, Tryd.ntmps9
    go_upto_region 1 with fail
    rw [HW0.out]
    clear HW0 hb0
    go_wp2_with (first
      | (go_at_call 14; (with_reducible refine HNEW.out.mono ?_); rintro e w1 ⟨rfl, hl1⟩)
      | (go_at_call 15; (with_reducible refine (HFIX.out _ hl1).mono ?_); rintro e w2 ⟨rfl, hb2⟩; have hl2 := Later.of hb2; clear hb2)
      | fail)
    go_ret
    exact ⟨rfl, HL0.out.trans (by repeat (first | assumption | exact Later.refl _ | refine Later.drew ?_ | refine Later.alloc ?_ _ | refine Later.trans ?_ (by assumption)))⟩
end Go.Proofs.YtaelkjffidjcjaaDoor
