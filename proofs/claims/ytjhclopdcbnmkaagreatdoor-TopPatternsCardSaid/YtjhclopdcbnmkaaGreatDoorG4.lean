/- The walks of what the guard's actions do. -/
import Derived.Test.YtjhclopdcbnmkaaGreatDoorG3b
import Derived.Lib.ConvBytes
import Derived.Laws.EntriesVeiled
set_option linter.unusedSimpArgs false
set_option linter.unusedVariables false
namespace Go.Proofs.YtjhclopdcbnmkaaGreatDoor
open Go.RowKit PX

set_option maxRecDepth 100000 in
theorem drop_any (w : World) (r : RuV) (S : ByteArray) : Calls Tryz.prog 59 #[r.val, .string S] w fun e w' => e = .returned (.string ⟨#[]⟩) ∧ Later w w' := by
  obtain ⟨fr, tu, act, pat, wth⟩ := r
  simp only [RuV.val]
  go_enter Tryz.func59, Tryz.ntmps59
  go_wp2_with fail
  go_ret
  exact ⟨rfl, (Later.refl w).alloc _⟩
set_option maxRecDepth 100000 in
theorem pass_any (w : World) (r : RuV) (S : ByteArray) : Calls Tryz.prog 60 #[r.val, .string S] w fun e w' => e = .returned (.string S) ∧ Later w w' := by
  obtain ⟨fr, tu, act, pat, wth⟩ := r
  simp only [RuV.val]
  go_enter Tryz.func60, Tryz.ntmps60
  go_wp2_with fail
  go_ret
  exact ⟨rfl, (Later.refl w).alloc _⟩

/-- A byte, or a star. -/
def starI (b : Bool) (c : UInt8) : Int := if b then 42 else c.toNat
theorem starI_eq (b : Bool) (c : UInt8) : starI b c = ((if b then 42 else c : UInt8).toNat : Int) := by cases b <;> rfl
theorem bytes_free (w : World) (e : TypeId) (s : ByteArray) (j : Nat) (hj : j < s.size) : (Lib.bytesWorld w e s).frozen? ⟨w.heap.size, j, none⟩ = false := by
  have h := Lib.bytesWorld_at_new w e s
  have hz : s.size ≤ (Lib.bytesCells w e s).size := by simp [Lib.bytesCells]
  simp [World.frozen?, h]
  omega
/-- The bytes of a text, some of them stars. -/
def StarsAt (w : World) (b : Nat) (S : ByteArray) (f : Nat → Bool) : Prop := ∀ j, j < S.size → w.cell? ⟨b, j, none⟩ = some (.int .u8 (starI (f j) (S.data.toList.getD j 0))) ∧ w.frozen? ⟨b, j, none⟩ = false
theorem StarsAt.set {w : World} {b : Nat} {S : ByteArray} {f g : Nat → Bool} (h : StarsAt w b S f) {i : Nat} (hi : i < S.size) (hg : ∀ j, g j = (f j || decide (j = i))) : StarsAt (w.setCell ⟨b, i, none⟩ (.int .u8 42)) b S g := by
  intro j hj
  obtain ⟨h1, h2⟩ := h j hj
  refine ⟨?_, by rw [World.frozen?_setCell]; exact h2⟩
  by_cases hji : j = i
  · subst hji
    rw [World.cell?_setCell_same _ _ _ h1, hg]
    simp [starI]
  · rw [World.cell?_setCell_other _ _ _ _ (by intro he; apply hji; have := congrArg Addr.off he; exact this.symm), h1, hg]
    simp [hji]
theorem StarsAt.later {w w' : World} {b : Nat} {S : ByteArray} {f : Nat → Bool} (h : StarsAt w b S f) (hb : b < w.heap.size) (hl : Later w w') : StarsAt w' b S f := fun j hj =>
  ⟨(Below.cell hl (p := ⟨b, j, none⟩) hb).trans (h j hj).1, (Below.frozen hl (p := ⟨b, j, none⟩) hb).trans (h j hj).2⟩
theorem row_pairs {w : World} {base : Nat} {v : Value} {l : List (Nat × Nat)} (h : w.ownsRow base 61 2 v l.length (pairCells l)) : ∃ a cap, v = .slice a l.length cap ∧ (l = [] ∨ ∃ g, a = some ⟨g, 0, none⟩ ∧ base ≤ g ∧ g < w.heap.size ∧
    ∀ i q, l[i]? = some q → w.cell? ⟨g, i * 2, none⟩ = some (.int .i64 (q.1 : Int)) ∧ w.cell? ⟨g, i * 2 + 1, none⟩ = some (.int .i64 (q.2 : Int))) := by
  rcases h.2 with ⟨rfl, h0⟩ | ⟨g, cap, cur, rfl, hg, hh, hr⟩
  · exact ⟨none, 0, by rw [h0], .inl (List.eq_nil_of_length_eq_zero h0)⟩
  · refine ⟨some ⟨g, 0, none⟩, cap, rfl, .inr ⟨g, rfl, hg, lt_of_block hh, fun i q hq => ?_⟩⟩
    have hil : i < l.length := (List.getElem?_eq_some_iff.1 hq).1
    have hp := pairCells_get l i q hq
    rw [h.cellAt (i * 2) (by omega), h.cellAt (i * 2 + 1) (by omega)]
    exact hp
theorem StarsAt.congr {w : World} {b : Nat} {S : ByteArray} {f g : Nat → Bool} (h : StarsAt w b S f) (hg : ∀ j, j < S.size → g j = f j) : StarsAt w b S g := fun j hj => by rw [hg j hj]; exact h j hj
theorem stars_len (l : List (Nat × Nat)) (S : ByteArray) : (starsFrom l 0 S.data.toList).length = S.size := by rw [starsFrom_length, Array.length_toList]; rfl
theorem StarsAt.list {w : World} {b : Nat} {S : ByteArray} {l : List (Nat × Nat)} (h : StarsAt w b S (starB l)) : ∀ j (hj : j < (starsFrom l 0 S.data.toList).length), w.cell? ((⟨b, 0, none⟩ : Addr).add j) = some (.int .u8 ((starsFrom l 0 S.data.toList)[j].toNat : Int)) := by
  intro j hj
  have hjs : j < S.size := by rw [stars_len] at hj; exact hj
  have hjl : j < S.data.toList.length := by rw [Array.length_toList]; exact hjs
  have e : (⟨b, 0, none⟩ : Addr).add j = ⟨b, j, none⟩ := by rw [addr_add_none, Nat.zero_add]
  rw [e, (h j hjs).1, starI_eq]
  have hg := starsFrom_get l S.data.toList 0 j
  rw [List.getElem?_eq_getElem hj, List.getElem?_eq_getElem hjl, Nat.zero_add] at hg
  simp only [Option.map_some, Option.some.injEq] at hg
  rw [hg, List.getD_eq_getElem?_getD, List.getElem?_eq_getElem hjl]
  rfl

set_option maxRecDepth 100000 in
set_option maxHeartbeats 2000000 in
theorem redact_any (w : World) (r : RuV) (S : ByteArray) (x : Rx) (hx : parseR r.wth.data.toList = .inl x) (hS : S.size ≤ 256) (hT : TabAt 0 Lib.deBruijn64tab w) :
    Calls Tryz.prog 61 #[r.val, .string S] w fun e w' => e = .returned (.string ⟨(starsFrom (hitsG x.lang S.data.toList) 0 S.data.toList).toArray⟩) ∧ Later w w' := by
  obtain ⟨fr, tu, act, pat, wth⟩ := r
  simp only [RuV.val]
  simp only at hx
  obtain ⟨nb, hnb⟩ : ∃ nb, w.heap.size = nb := ⟨_, rfl⟩
  have hconv : ∀ W : World, (convert 9 58 (.string S)).run Tryz.prog W = .ok (.slice (some ⟨W.heap.size, 0, none⟩) S.size (grownCap W S.size 0 5)) (Lib.bytesWorld W 5 S) :=
    fun W => Lib.run_convert_string_bytes W _ _ _ S Tryz.underlying9 Tryz.underlying58 Tryz.underlying5
  obtain ⟨W1, hW1⟩ : ∃ W1, w.alloc (.cells #[.int .i64 fr, .int .i64 tu, .int .i64 act, .string pat, .string wth] 56) = W1 := ⟨_, rfl⟩
  obtain ⟨W2, hW2⟩ : ∃ W2, Lib.bytesWorld W1 5 S = W2 := ⟨_, rfl⟩
  have hs1 : W1.heap.size = nb + 1 := by rw [← hW1]; simp [hnb]
  have hs2 : W2.heap.size = nb + 2 := by rw [← hW2, Lib.bytesWorld_size, hs1]
  have hl1 : Later w W1 := by rw [← hW1]; exact (Later.refl w).alloc _
  have hl2 : Later w W2 := by
    rw [← hW2]
    exact ⟨hl1.os, hl1.tape, hl1.output, by rw [Lib.bytesWorld_size]; have := Below.size hl1; omega, fun k hk => (Lib.bytesWorld_at_old _ _ _ _ (by have := Below.size hl1; omega)).trans (Below.block hl1 k hk)⟩
  have hr1 : W1.heap[nb]? = some (.cells #[.int .i64 fr, .int .i64 tu, .int .i64 act, .string pat, .string wth] 56 (0, 0)) := by rw [← hW1]; exact alloc_block' _ _ _ hnb
  have hr2 : W2.heap[nb]? = some (.cells #[.int .i64 fr, .int .i64 tu, .int .i64 act, .string pat, .string wth] 56 (0, 0)) := by rw [← hW2, Lib.bytesWorld_at_old _ _ _ _ (by omega)]; exact hr1
  have hst : StarsAt W2 (nb + 1) S (fun _ => false) := by
    intro j hj
    rw [← hW2, ← hs1]
    exact ⟨Lib.bytesWorld_cell _ _ _ _ hj, bytes_free _ _ _ _ hj⟩
  have q4 : W2.cell? ⟨nb, 4, none⟩ = some (.string wth) := cell_of_block hr2 4
  have HOF := Lib.hid (of_good W2 wth x hx (by obtain ⟨h1, h2⟩ := parseR_form hx; unfold checkR; rw [if_pos h1, if_neg (by omega)]))
  have HST := Lib.hid hst
  have HL2 := Lib.hid hl2
  have HT2 := Lib.hid (TabAt.below hT hl2)
  have HW1 := Lib.hid hW1
  have HW2 := Lib.hid hW2
  have HS1 := Lib.hid hs1
  have HS2 := Lib.hid hs2
  have HNB := Lib.hid hnb
  clear hx hT hst hl1 hl2 hW1 hW2 hr1 hr2 hs1 hs2 hnb
  go_enter Tryz.func61, Tryz.ntmps61
  go_upto_region 2 with fail
  rw [HW1.out]
  rw [HW2.out]
  rw [HNB.out]
  generalize grownCap W1 S.size 0 5 = cap0
  go_wp2_with (first
    | (go_at_call 36; (with_reducible refine HOF.out.mono ?_); rintro e w3 ⟨p, rfl, hpl, hm, hb3⟩; have HM3 := Lib.hid (MX.mk hm (TabAt.below HT2.out hb3)); have hl3 := Later.of hb3; have HST3 := Lib.hid (HST.out.later (by have := HS2.out; omega) hl3); clear hb3 hm hpl)
    | (go_at_call 62; refine (hits_any _ p x S HM3.out.m HM3.out.t).mono ?_; rintro e w4 ⟨v, l, rfl, hsay, hown, hl256, hb4⟩; have hl4 := Later.of hb4; obtain ⟨av, cv, hv, hpc⟩ := row_pairs hown; subst hv; have HPC := Lib.hid hpc; have HSAY := Lib.hid hsay; have HST4 := Lib.hid (HST3.out.later (by have := HS2.out; have := Below.size hl3; omega) hl4); clear hown hsay hpc hb4)
    | fail)
  have hin : ∀ q ∈ l, q.1 < q.2 ∧ q.2 ≤ S.size := by
    rcases HSAY.out with ⟨-, h⟩ | ⟨-, rfl⟩
    · intro q hq
      have := hits_in h q hq
      rw [Array.length_toList] at this
      exact this
    · intro q hq; cases hq
  have hgl : hitsG x.lang S.data.toList = l := by
    rcases HSAY.out with ⟨-, h⟩ | ⟨h, -⟩
    · exact hitsG_eq h
    · rw [Array.length_toList] at h
      exact absurd hS (by show ¬ S.size ≤ 256; have : S.data.size = S.size := rfl; omega)
  have HGL := Lib.hid hgl
  have HIN := Lib.hid hin
  have hz4 : nb + 2 ≤ w4.heap.size := by have := HS2.out; have := Below.size hl3; have := Below.size hl4; omega
  have hz3 : nb + 2 ≤ w3.heap.size := by have := HS2.out; have := Below.size hl3; omega
  clear hin hgl q4 hconv
  go_loopw [23] (fun v wr => ∃ k : Nat, k ≤ l.length ∧ v = .int .i64 k ∧ Only (fun c => c = nb + 1) w4 wr ∧ StarsAt wr (nb + 1) S (starB (l.take k))) (fun v _ => l.length - (intOf v).toNat)
  case atStart => exact ⟨0, by omega, rfl, Only.refl _ _, HST4.out⟩
  case round =>
    obtain ⟨k, hk, rfl, hon, hst⟩ := hrel
    have HON := Lib.hid hon
    have HSR := Lib.hid hst
    have hzr := hon.size
    clear hon hst
    by_cases hlt : k < l.length
    · have hq := HIN.out l[k] (List.getElem_mem hlt)
      obtain ⟨g, rfl, hg1, hg2, hgc⟩ := (HPC.out).resolve_left (by rintro rfl; simp at hlt)
      obtain ⟨d0, d1⟩ := hgc k l[k] (List.getElem?_eq_getElem hlt)
      have c0 := (HON.out.cell (p := ⟨g, k * 2, none⟩) hg2 (by show ¬ g = nb + 1; omega)).trans d0
      have c1 := (HON.out.cell (p := ⟨g, k * 2 + 1, none⟩) hg2 (by show ¬ g = nb + 1; omega)).trans d1
      have htk : ∀ j, starB (l.take (k + 1)) j = (starB (l.take k) j || decide (l[k].1 ≤ j ∧ j < l[k].2)) := by
        intro j; rw [List.take_succ_eq_append_getElem hlt, starB_snoc]
      obtain ⟨⟨a, b⟩, hab⟩ : ∃ q, l[k] = q := ⟨_, rfl⟩
      rw [hab] at c0 c1 hq htk
      have HTK := Lib.hid htk
      obtain ⟨hq1, hq2⟩ := hq
      simp only at c0 c1 hq1 hq2
      clear d0 d1 hgc hab htk
      have hb256 : b ≤ 256 := by omega
      obtain ⟨wx, hwx⟩ : ∃ wx, wr.alloc (.cells #[.int .i64 a, .int .i64 b] 61) = wx := ⟨_, rfl⟩
      obtain ⟨pb, hpb⟩ : ∃ pb, wr.heap.size = pb := ⟨_, rfl⟩
      have hPB : wx.heap[pb]? = some (.cells #[.int .i64 a, .int .i64 b] 61 (0, 0)) := by rw [← hwx]; exact alloc_block' _ _ _ hpb
      have hsx : StarsAt wx (nb + 1) S (starB (l.take k)) := HSR.out.later (by omega) (by rw [← hwx]; exact (Later.refl wr).alloc _)
      have hox : Only (fun c => c = nb + 1) w4 wx := by rw [← hwx]; exact HON.out.alloc _
      have hpbl := lt_of_block hPB
      have HPB := Lib.hid hPB
      have HSX := Lib.hid hsx
      have HOX := Lib.hid hox
      have HWX := Lib.hid hwx
      have HPBE := Lib.hid hpb
      have hpn : nb + 2 ≤ pb := by omega
      clear hPB hsx hox hwx hpb
      go_wp2_with fail
      rw [HWX.out, HPBE.out]
      go_loopw [10] (fun v wi => ∃ i : Nat, a ≤ i ∧ i ≤ b ∧ v = .int .i64 i ∧ Only (fun c => c = nb + 1) wx wi ∧ StarsAt wi (nb + 1) S (fun j => starB (l.take k) j || decide (a ≤ j ∧ j < i))) (fun v _ => b - (intOf v).toNat)
      case atStart =>
        refine ⟨a, Nat.le_refl _, by omega, rfl, Only.refl _ _, HSX.out.congr fun j hj => ?_⟩
        rw [decide_eq_false (by omega), Bool.or_false]
      case round =>
        obtain ⟨i, hai, hib, rfl, hoi, hsi⟩ := hrel
        have e0 : wr.cell? ⟨pb, 0, none⟩ = some (.int .i64 a) := cell_of_block ((hoi.block pb hpbl (by omega)).trans HPB.out) 0
        have e1 : wr.cell? ⟨pb, 1, none⟩ = some (.int .i64 b) := cell_of_block ((hoi.block pb hpbl (by omega)).trans HPB.out) 1
        have HOI := Lib.hid hoi
        have HSI := Lib.hid hsi
        clear hoi hsi c0 c1
        by_cases hil : (i : Int) < (b : Int)
        · obtain ⟨f0, f1⟩ := HSI.out i (by omega)
          have hi256 : i ≤ 256 := by omega
          have his : (i : Int) < (S.size : Int) := by omega
          go_wp2_with fail
          refine ⟨⟨i + 1, by omega, by omega, by simp, HOI.out.setCell (.inl rfl) _, HSI.out.set (by omega) fun j => ?_⟩, by simp only [intOf]; omega⟩
          rw [Bool.or_assoc]
          congr 1
          rw [Bool.eq_iff_iff]
          simp only [Bool.or_eq_true, decide_eq_true_eq]
          omega
        · go_wp2_with fail
          refine ⟨⟨k + 1, by omega, by simp, HOX.out.trans (HOI.out.mono fun c _ h => .inl h), HSI.out.congr fun j hj => ?_⟩, by simp only [intOf]; omega⟩
          rw [HTK.out]
          have : i = b := by omega
          rw [this]
    · obtain rfl : k = l.length := by omega
      have hst := HSR.out
      rw [List.take_length] at hst
      have hcv : (convert 58 9 (.slice (some ⟨nb + 1, 0, none⟩) S.size cap0)).run Tryz.prog wr = .ok (.string ⟨(starsFrom l 0 S.data.toList).toArray⟩) wr := by
        have h := run_convert_bytes_back wr 58 9 5 ⟨nb + 1, 0, none⟩ cap0 (starsFrom l 0 S.data.toList) Tryz.underlying58 Tryz.underlying5 Tryz.underlying9 hst.list
        rw [stars_len] at h
        exact h
      clear hst
      go_wp2_with fail
      go_ret
      refine ⟨by rw [HGL.out]; rfl, ?_⟩
      have h24 : Later W2 w4 := (by repeat (first | assumption | exact Later.refl _ | refine Later.alloc ?_ _ | refine Later.drew ?_ | refine Later.trans ?_ (by assumption)))
      have hb := HL2.out.trans h24
      exact Below.trans hb (HON.out.below (B := w.heap.size) (by have := HNB.out; omega) (by intro c hc; have := HNB.out; omega))

set_option maxRecDepth 100000 in
theorem actions_any (w : World) : Calls Tryz.prog 38 #[] w fun e w' => e = .returned (.agg #[.func (.func 59) #[] #[], .func (.func 60) #[] #[], .func (.func 61) #[] #[]]) ∧ Later w w' := by
  go_enter Tryz.func38, Tryz.ntmps38
  go_wp2_with fail
  refine bodyPost_ret (results_cell_row rfl _ _ w.heap.size 83 #[.func (.func 59) #[] #[], .func (.func 60) #[] #[], .func (.func 61) #[] #[]] (0, 0) _ rfl (alloc_block _ _) Tryz.underlying83 rfl (by kernel_rfl)) rfl ?_
  exact ⟨rfl, (Later.refl w).alloc _⟩
end Go.Proofs.YtjhclopdcbnmkaaGreatDoor
