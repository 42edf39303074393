/- The walks of the document's Hit and Hits. -/
import Derived.Test.YtjhclopdcbnmkaaGreatDoorRIs
set_option linter.unusedSimpArgs false
set_option linter.unusedVariables false
namespace Go.Proofs.YtjhclopdcbnmkaaGreatDoor
open Go.RowKit PX

set_option maxRecDepth 100000 in
set_option maxHeartbeats 4000000 in
theorem rhit_any (w : World) (X : RxA) (S : ByteArray) (f : Int) (hf : I64 f) (hin : X.In w w.heap.size) (hc : checkR X.bare = 0) :
    Calls Tryz.prog 43 #[X.val, .string S, .int .i64 f] w fun e w' => HitSays X.bare S.data.toList f e ∧ Later w w' := by
  obtain ⟨w0, hw0⟩ : ∃ w0, w.alloc (.cells X.cells.toArray 26) = w0 := ⟨_, rfl⟩
  have hl0 : Later w w0 := by rw [← hw0]; exact (Later.refl w).alloc _
  have hx0 : w0.heap[w.heap.size]? = some (.cells X.cells.toArray 26 (0, 0)) := by rw [← hw0]; exact alloc_block w _
  by_cases hg : S.size ≤ 256 ∧ 0 ≤ f ∧ f ≤ S.size
  · obtain ⟨hS, hf0, hfS⟩ := hg
    have hmk := make_tab w0 X S hS ((hin.below hl0 (Nat.le_refl _)).later (Below.size hl0) (fun _ _ _ => rfl)) hc
    obtain ⟨x, hx⟩ : ∃ x, X.bare = x := ⟨_, rfl⟩
    rw [hx] at hmk ⊢
    clear hin hc hx
    obtain ⟨k, mn, mx, s0, s1, s2, s3, a, cap, l⟩ := X
    simp only [RxA.val, RxA.cells] at hmk hx0 hw0 ⊢
    obtain ⟨b0, hb0⟩ : ∃ b0, w.heap.size = b0 := ⟨_, rfl⟩
    obtain ⟨n, hn⟩ : ∃ n, l.length = n := ⟨_, rfl⟩
    rw [hn] at hmk hx0 hw0 ⊢
    rw [hb0] at hx0
    have x0 := cell_of_block hx0 0
    have x1 := cell_of_block hx0 1
    have x2 := cell_of_block hx0 2
    have x3 := cell_of_block hx0 3
    have x4 := cell_of_block hx0 4
    have x5 := cell_of_block hx0 5
    have x6 := cell_of_block hx0 6
    have x7 := cell_of_block hx0 7
    simp only [List.getElem?_toArray, List.getElem?_cons_zero, List.getElem?_cons_succ] at x0 x1 x2 x3 x4 x5 x6 x7
    obtain ⟨fn, rfl⟩ : ∃ fn : Nat, f = fn := ⟨f.toNat, by omega⟩
    have HM := Lib.hid hmk
    have HW0 := Lib.hid hw0
    have HL0 := Lib.hid hl0
    have HLEN := Lib.hid (ba_len S)
    have g1 : ¬ (256 : Int) < S.size := by omega
    have g2 : ¬ (fn : Int) < 0 := by omega
    have g3 : decide (S.size < fn) = false := by simp; omega
    have hfS2 : fn ≤ S.size := by omega
    clear hmk hw0 hx0 hn hl0 hf hf0 hfS
    go_enter Tryz.func43, Tryz.ntmps43
    go_upto_region 1 with fail
    rw [HW0.out]
    clear HW0 hb0
    go_wp2_with (first
      | (go_at_call 41; (with_reducible refine HM.out.mono ?_); rintro e w1 ⟨p, n', nds, Y, nb, nc, kb, kc, kk, rfl, hl1, htab, hnl, hYn, hpp, hkk⟩; have HEN := Lib.hid (ends_all (p := p) (X := Y) (nb := nb) (nc := nc) (kb := kb) (kc := kc) (kk := kk) hS n' hnl); have HL1 := Lib.hid hl1; have HTAB := Lib.hid htab; have HY := Lib.hid hYn; have HKK := Lib.hid hkk; have HZ : Hid (w0.heap.size ≤ w1.heap.size) := Lib.hid (Below.size hl1); clear hl1 htab hnl hYn hpp hkk)
      | fail)
    have hHK : ∀ q ∈ kk, w.heap.size ≤ q := fun q hq => by
      have h1 := HKK.out q hq
      have h2 := Below.size HL0.out
      omega
    have HHK := Lib.hid hHK
    have HLW1 := Lib.hid (HL0.out.trans HL1.out)
    clear hHK x0 x1 x2 x3 x4 x5 x6 x7
    go_loopw [11] (fun a_ wx => ∃ a : Nat, fn ≤ a ∧ a ≤ S.size ∧ a_ = .int .i64 a ∧ TabS (fun _ => False) wx p S nds Y nb nc kb kc kk ∧ Only (fun q => q ∈ kk) w1 wx ∧ ∀ c, fn ≤ c → c < a → ∀ k, c < k → k ≤ S.size → ¬ x.lang (sub S.data.toList c k)) (fun a_ _ => S.size - (intOf a_).toNat)
    case atStart => exact ⟨fn, Nat.le_refl _, hfS2, rfl, HTAB.out, Only.refl _ _, fun c h1 h2 => by omega⟩
    case round =>
      obtain ⟨a, hfa, haS, rfl, htab, hon, hno⟩ := hrel
      have HT := Lib.hid htab; clear htab
      have HON := Lib.hid hon; clear hon
      have HNO := Lib.hid hno; clear hno
      by_cases hae : a = S.size
      · subst hae
        go_wp2_with fail
        go_ret3
        refine ⟨.inr ⟨by rw [HLEN.out]; exact hS, fn, rfl, by rw [HLEN.out]; exact hfS2, .inr ⟨fun c k h1 h2 h3 => ?_, rfl⟩⟩, HLW1.out.only HON.out HHK.out⟩
        rw [HLEN.out] at h3
        exact HNO.out c h1 (by omega) k h2 h3
      · have haS2 : (a : Int) < S.size := by omega
        have hen := HEN.out (fun _ => False) wr a HT.out haS
        have HC := Lib.hid hen; clear hen
        go_wp2_with (first
          | (go_at_call 42; (with_reducible refine HC.out.mono ?_); rintro e w2 ⟨g, bs, rfl, hob, hes, htab2, hon2, -, -⟩; have HOB := Lib.hid hob; have HES := Lib.hid hes; have HT2 := Lib.hid htab2; have HO2 := Lib.hid hon2; clear hob hes htab2 hon2)
          | fail)
        have hL2 : Later w w2 := (HLW1.out.only HON.out HHK.out).only HO2.out HHK.out
        have HLW2 := Lib.hid hL2; clear hL2
        go_loopw [13] (fun b_ wx => ∃ b : Nat, a ≤ b ∧ b ≤ S.size ∧ b_ = .int .i64 b ∧ wx = w2 ∧ ∀ k, b < k → k ≤ S.size → ¬ x.lang (sub S.data.toList a k)) (fun b_ _ => (intOf b_).toNat)
        case atStart => exact ⟨S.size, haS, Nat.le_refl _, rfl, rfl, fun k h1 h2 => by omega⟩
        case round =>
          obtain ⟨b, hab, hbS, rfl, rfl, hnb⟩ := hrel
          have HNB := Lib.hid hnb; clear hnb
          by_cases hbe : b = a
          · subst hbe
            go_wp2_with fail
            go_roundw
            case measure => simp only [intOf]; omega
            case rel =>
              refine ⟨b + 1, by omega, by omega, by simp, HT2.out, HON.out.trans (HO2.out.mono (fun _ _ h => .inl h)), fun c h1 h2 k h3 h4 => ?_⟩
              by_cases hcb : c = b
              · subst hcb; exact HNB.out k h3 h4
              · exact HNO.out c h1 (by omega) k h3 h4
          · have hab2 : (a : Int) < b := by omega
            have hab3 : a < b := by omega
            have hbS3 : (b : Int) < (S.size : Int) + 1 := by omega
            obtain ⟨bb, hbb⟩ : ∃ bb, bs[b]? = some bb := ⟨_, List.getElem?_eq_getElem (by rw [HES.out.1, HLEN.out]; omega)⟩
            have cb := HOB.out.cell hbb
            have he := HES.out.2 b (by rw [HLEN.out]; exact hbS)
            rw [hbb, HY.out] at he
            have HE := Lib.hid he
            clear he hbb
            cases bb with
            | true =>
              go_wp2_with fail
              go_ret3
              refine ⟨.inr ⟨by rw [HLEN.out]; exact hS, fn, rfl, by rw [HLEN.out]; exact hfS2, .inl ⟨a, b, rfl, hfa, hab3, by rw [HLEN.out]; exact hbS, (HE.out.1 (by simp)).2, fun k h1 h2 => HNB.out k h1 (by rw [HLEN.out] at h2; exact h2), fun c h1 h2 k h3 h4 => HNO.out c h1 h2 k h3 (by rw [HLEN.out] at h4; exact h4)⟩⟩, HLW2.out⟩
            | false =>
              have hnl : ¬ x.lang (sub S.data.toList a b) := fun h => by
                have := HE.out.2 ⟨hab, h⟩
                cases this
              have HNL := Lib.hid hnl; clear hnl
              go_wp2_with fail
              go_roundw
              case measure => simp only [intOf]; omega
              case rel =>
                refine ⟨b - 1, by omega, by omega, by congr 1; omega, by trivial, fun k h1 h2 => ?_⟩
                by_cases hkb : k = b
                · subst hkb; exact HNL.out
                · exact HNB.out k (by omega) h2
  · have hsay : HitSays X.bare S.data.toList f (.returned (.tuple #[.int .i64 0, .int .i64 0, .bool false])) := .inl ⟨by rw [ba_len]; intro h; exact hg ⟨h.1, h.2.1, h.2.2⟩, rfl⟩
    have HSAY := Lib.hid hsay
    have HL0 := Lib.hid hl0
    obtain ⟨x, hx⟩ : ∃ x, X.bare = x := ⟨_, rfl⟩
    rw [hx] at HSAY ⊢
    clear hin hc hx hx0 hsay
    obtain ⟨k, mn, mx, s0, s1, s2, s3, a, cap, l⟩ := X
    simp only [RxA.val, RxA.cells] at hw0 ⊢
    have HW0 := Lib.hid hw0
    clear hw0 hl0
    by_cases h1 : S.size ≤ 256
    · by_cases h2 : 0 ≤ f
      · have h3 : (S.size : Int) < f := by
          by_cases h : f ≤ S.size
          · exact absurd ⟨h1, h2, h⟩ hg
          · omega
        have g1 : ¬ (256 : Int) < S.size := by omega
        have g2 : ¬ f < 0 := by omega
        clear hg h1 h2
        go_enter Tryz.func43, Tryz.ntmps43
        go_upto_region 1 with fail
        rw [HW0.out]
        clear HW0
        go_wp2_with fail
        go_ret3
        exact ⟨HSAY.out, HL0.out⟩
      · have g1 : ¬ (256 : Int) < S.size := by omega
        have g2 : f < 0 := by omega
        clear hg h1 h2
        go_enter Tryz.func43, Tryz.ntmps43
        go_upto_region 1 with fail
        rw [HW0.out]
        clear HW0
        go_wp2_with fail
        go_ret3
        exact ⟨HSAY.out, HL0.out⟩
    · have g1 : (256 : Int) < S.size := by omega
      clear hg h1
      go_enter Tryz.func43, Tryz.ntmps43
      go_upto_region 1 with fail
      rw [HW0.out]
      clear HW0
      go_wp2_with fail
      go_ret3
      exact ⟨HSAY.out, HL0.out⟩

set_option maxRecDepth 100000 in
set_option maxHeartbeats 4000000 in
theorem rhits_any (w : World) (X : RxA) (S : ByteArray) (hin : X.In w w.heap.size) (hc : checkR X.bare = 0) :
    Calls Tryz.prog 25 #[X.val, .string S] w fun e w' => ∃ v l, e = .returned v ∧ HitsSays X.bare S.data.toList l ∧ w'.ownsRow w.heap.size 61 2 v l.length (pairCells l) ∧ l.length ≤ 256 ∧ Later w w' := by
  obtain ⟨w0, hw0⟩ : ∃ w0, (w.alloc (.cells X.cells.toArray 26)).alloc (.cells #[] 61) = w0 := ⟨_, rfl⟩
  have hl0 : Later w w0 := by rw [← hw0]; exact ((Later.refl w).alloc _).alloc _
  have hx0 : w0.heap[w.heap.size]? = some (.cells X.cells.toArray 26 (0, 0)) := by rw [← hw0]; exact alloc_old (alloc_block w _) _
  have hr0 : w0.heap[w.heap.size + 1]? = some (.cells #[] 61 (0, 0)) := by
    have := alloc_block (w.alloc (.cells X.cells.toArray 26)) (.cells #[] 61)
    rw [World.size_alloc] at this
    rw [← hw0]; exact this
  have hhit := fun w1 (h1 : Later w w1) f (hf : I64 f) => rhit_any w1 X S f hf ((hin.below h1 (Nat.le_refl _)).later (Below.size h1) (fun _ _ _ => rfl)) hc
  have hs0 : w0.heap.size = w.heap.size + 2 := by rw [← hw0]; simp
  obtain ⟨x, hx⟩ : ∃ x, X.bare = x := ⟨_, rfl⟩
  rw [hx] at hhit ⊢
  clear hin hc hx
  obtain ⟨k, mn, mx, s0, s1, s2, s3, aX, cap, lX⟩ := X
  simp only [RxA.val, RxA.cells] at hhit hx0 hw0 ⊢
  obtain ⟨b0, hb0⟩ : ∃ b0, w.heap.size = b0 := ⟨_, rfl⟩
  obtain ⟨n, hn⟩ : ∃ n, lX.length = n := ⟨_, rfl⟩
  rw [hn] at hhit hx0 hw0 ⊢
  rw [hb0] at hx0 hr0 hs0
  have hsx : ∀ w', Only (fun q => b0 + 1 ≤ q) w0 w' → w'.cell? ⟨b0, 0, none⟩ = some (.int .i64 k) ∧ w'.cell? ⟨b0, 1, none⟩ = some (.int .i64 mn) ∧ w'.cell? ⟨b0, 2, none⟩ = some (.int .i64 mx) ∧ w'.cell? ⟨b0, 3, none⟩ = some (.int .u64 s0) ∧ w'.cell? ⟨b0, 4, none⟩ = some (.int .u64 s1) ∧ w'.cell? ⟨b0, 5, none⟩ = some (.int .u64 s2) ∧ w'.cell? ⟨b0, 6, none⟩ = some (.int .u64 s3) ∧ w'.cell? ⟨b0, 7, none⟩ = some (.slice aX n cap) := by
    intro w' h'
    have h1 := (h'.block b0 (by omega) (by omega)).trans hx0
    refine ⟨?_, ?_, ?_, ?_, ?_, ?_, ?_, ?_⟩ <;> exact cell_of_block h1 _
  obtain ⟨i0, hi, hz0, hz1, hz2⟩ := info_parts info_pair
  have HSX := Lib.hid hsx
  have HHIT := Lib.hid hhit
  have HW0 := Lib.hid hw0
  have HL0 := Lib.hid hl0
  have HR0 := Lib.hid hr0
  have HS0 := Lib.hid hs0
  have HB0 := Lib.hid hb0
  have HLEN := Lib.hid (ba_len S)
  clear hsx hhit hw0 hl0 hr0 hs0 hx0 hn
  go_enter Tryz.func25, Tryz.ntmps25
  go_wp2_with fail
  rw [HW0.out]
  clear HW0 hb0
  have hS63 : S.size ≤ 256 ∨ 256 < S.size := by omega
  go_loopw [5, 6] (fun v i wr => ∃ (l : List (Nat × Nat)) (a lc : Nat) (la : Option Addr), v = .slice la l.length lc ∧ i = .int .i64 a ∧ l.length ≤ a ∧ (a ≤ S.size ∧ a ≤ 256) ∧ (256 < S.size → a = 0) ∧ (∀ l', HitsFrom x.lang S.data.toList a l' → HitsFrom x.lang S.data.toList 0 (l ++ l')) ∧
      wr.ownsRow (b0 + 1) 61 2 (.slice la l.length lc) l.length (pairCells l) ∧ Only (fun q => b0 + 1 ≤ q) w0 wr) (fun _ i _ => 256 - (intOf i).toNat)
  case atStart =>
    refine ⟨[], 0, 0, some ⟨b0 + 1, 0, none⟩, rfl, rfl, Nat.le_refl _, ⟨by omega, by omega⟩, fun _ => rfl, fun l' h' => h', ?_, Only.refl _ _⟩
    exact ⟨rfl, .inr ⟨b0 + 1, 0, #[], rfl, Nat.le_refl _, HR0.out, Nat.le_refl _, by omega, by simp, rfl⟩⟩
  case round =>
    obtain ⟨l, a, lc, la, rfl, rfl, hla, ⟨has, ha256⟩, hbig, hhf, hown, hon⟩ := hrel
    have hlw : Later w wr := Below.trans HL0.out (hon.below (Below.size HL0.out) (fun q hq => by have := HB0.out; omega))
    obtain ⟨q0, q1, q2, q3, q4, q5, q6, q7⟩ := HSX.out wr hon
    have hcall := HHIT.out wr hlw a ⟨by omega, by omega⟩
    have HOWN := Lib.hid hown; clear hown
    have HHF := Lib.hid hhf; clear hhf
    have HON := Lib.hid hon; clear hon
    have HLW := Lib.hid hlw; clear hlw
    by_cases hn : 256 < S.size ∨ NoHit x.lang S.data.toList a
    · have hhit : Calls Tryz.prog 43 #[.agg #[.int .i64 k, .int .i64 mn, .int .i64 mx, .int .u64 s0, .int .u64 s1, .int .u64 s2, .int .u64 s3, .slice aX n cap], .string S, .int .i64 a] wr fun e w' => e = .returned (.tuple #[.int .i64 0, .int .i64 0, .bool false]) ∧ Later wr w' := by
        refine hcall.mono ?_
        rintro e w' ⟨hs, hl⟩
        refine ⟨?_, hl⟩
        rcases hs with ⟨-, he⟩ | ⟨h1, f, hf, -, ⟨a', b', -, hih⟩ | ⟨-, he⟩⟩
        · exact he
        · obtain rfl : a = f := by omega
          rw [HLEN.out] at h1
          rcases hn with hn | hn
          · omega
          · exact (isHit_noHit hih hn).elim
        · exact he
      have HH := Lib.hid hhit; clear hhit hcall
      have HNO := Lib.hid hn; clear hn
      go_wp2_with (first
        | (go_at_call 43; (with_reducible refine HH.out.mono ?_); rintro e w1 ⟨rfl, hl1⟩)
        | fail)
      go_ret
      refine ⟨_, l, rfl, ?_, ?_, by omega, HLW.out.trans hl1⟩
      · by_cases hs : S.size ≤ 256
        · refine .inl ⟨by rw [HLEN.out]; exact hs, ?_⟩
          have h := HHF.out [] (.nil (HNO.out.resolve_left (by omega)))
          rwa [List.append_nil] at h
        · refine .inr ⟨by rw [HLEN.out]; omega, ?_⟩
          have := hbig (by omega)
          exact List.eq_nil_of_length_eq_zero (by omega)
      · have h := (Only.of_below (r := fun _ => False) hl1).ownsRow HOWN.out (fun _ _ h => h)
        exact ⟨h.1, h.2.imp (fun h => h) (fun ⟨g, cap, cur, e, hb, r⟩ => ⟨g, cap, cur, e, by have := HB0.out; omega, r⟩)⟩
    · have hs : S.size ≤ 256 := by by_cases h : S.size ≤ 256; exact h; exact absurd (.inl (by omega)) hn
      have hhit : Calls Tryz.prog 43 #[.agg #[.int .i64 k, .int .i64 mn, .int .i64 mx, .int .u64 s0, .int .u64 s1, .int .u64 s2, .int .u64 s3, .slice aX n cap], .string S, .int .i64 a] wr fun e w' => ∃ a' b' : Nat, e = .returned (.tuple #[.int .i64 a', .int .i64 b', .bool true]) ∧ IsHit x.lang S.data.toList a a' b' ∧ Later wr w' := by
        refine hcall.mono ?_
        rintro e w' ⟨hs', hl⟩
        rcases hs' with ⟨h1, -⟩ | ⟨h1, f, hf, -, ⟨a', b', he, hih⟩ | ⟨h2, -⟩⟩
        · exact absurd ⟨by rw [HLEN.out]; exact hs, by omega, by rw [HLEN.out]; omega⟩ h1
        · obtain rfl : a = f := by omega
          exact ⟨a', b', he, hih, hl⟩
        · obtain rfl : a = f := by omega
          exact absurd (.inr h2) hn
      have HH := Lib.hid hhit; clear hhit hcall hn
      have hlb : b0 + 1 ≤ wr.heap.size := by have := HON.out.size; have := HS0.out; omega
      go_wp2_with (first
        | (go_at_call 43; (with_reducible refine HH.out.mono ?_); rintro e w1 ⟨a', b', rfl, hih, hl1⟩
           have HOW1 := Lib.hid ((Only.of_below (r := fun _ => False) hl1).ownsRow HOWN.out (fun _ _ h => h))
           have HIH := Lib.hid hih
           have HL1 := Lib.hid hl1
           have hlb1 : b0 + 1 ≤ w1.heap.size := by (have := Below.size hl1; omega)
           clear hih hl1)
        | (refine wpList_append_own _ rfl (.tmp 22) (.tmp 26) 59 rfl (b0 + 1) 61 i0 _ 2 16 Tryz.underlying59 hi hz0 hz1 hz2 rfl (by decide) (.slice la l.length lc) l.length (pairCells l) rfl (HOW1.out.alloc _) ⟨w1.heap.size, 0, none⟩ 1 1 [.int .i64 (a' : Int), .int .i64 (b' : Int)] rfl rfl (cells_new w1 [.int .i64 (a' : Int), .int .i64 (b' : Int)] 61) (by intro u hu; simp only [List.mem_cons, List.not_mem_nil, or_false] at hu; rcases hu with rfl | rfl <;> rfl) (by unfold maxLen; omega) (by omega) (by simp; omega) ?_
           intro v' w2 hown2 hgrow _)
        | fail)
      have h1 := HIH.out.1
      have h2 := HIH.out.2.1
      have h3 := HIH.out.2.2.1
      rw [HLEN.out] at h3
      have hlen : (l ++ [(a', b')]).length = l.length + 1 := by simp
      obtain ⟨la2, lc2, hv2⟩ := row_of hown2
      subst hv2
      refine ⟨⟨l ++ [(a', b')], b', lc2, la2, by rw [hlen], rfl, by rw [hlen]; omega, ⟨h3, by omega⟩, fun h' => by omega, hitsFrom_snoc HHF.out HIH.out, ?_, ?_⟩, by simp only [intOf]; omega⟩
      · have e : pairCells (l ++ [(a', b')]) = pairCells l ++ [.int .i64 (a' : Int), .int .i64 (b' : Int)] := by simp [pairCells]
        rw [e, hlen]
        exact hown2
      · exact ((HON.out.trans (Only.of_below HL1.out)).alloc _).grown hgrow (fun q hq => .inl ((HOW1.out.lt q hq).1))
end Go.Proofs.YtjhclopdcbnmkaaGreatDoor
