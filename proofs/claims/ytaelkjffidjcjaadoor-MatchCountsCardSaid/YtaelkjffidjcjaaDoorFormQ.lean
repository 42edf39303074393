/- The program's form, whole; Size and Check of both. -/
import Derived.Test.YtaelkjffidjcjaaDoorFormP
set_option linter.unusedSimpArgs false
set_option linter.unusedVariables false
namespace Go.Proofs.YtaelkjffidjcjaaDoor
open Go.RowKit PX

def NotForm (x : RxA) : Prop := ∀ (w : World) (B : Nat), B ≤ w.heap.size → x.In w B →
    Calls Tryd.prog 64 #[x.val] w fun e w' => e = .returned (.bool (!x.bare.formB)) ∧ Below w.heap.size w w'

set_option maxHeartbeats 1000000 in
theorem notForm_of (x : RxA) (h : ∀ (w : World) (B : Nat), B ≤ w.heap.size → x.In w B →
    Calls Tryd.prog 51 #[x.val] w fun e w' => e = .returned (.bool x.bare.formB) ∧ Below w.heap.size w w') : NotForm x := by
  intro w B hB hin
  obtain ⟨k, mn, mx, s0, s1, s2, s3, a, cap, l⟩ := x
  have H := Lib.hid h; clear h
  have hin2 : (RxA.node k mn mx s0 s1 s2 s3 a cap l).In (w.alloc (.cells #[.int .i64 k, .int .i64 mn, .int .i64 mx, .int .u64 s0, .int .u64 s1, .int .u64 s2, .int .u64 s3, .slice a l.length cap] 26)) B :=
    hin.below ((Below.refl w.heap.size w).alloc (Nat.le_refl _) _) hB
  have HIN := Lib.hid hin2; clear hin2 hin
  show Calls Tryd.prog 64 #[.agg #[.int .i64 k, .int .i64 mn, .int .i64 mx, .int .u64 s0, .int .u64 s1, .int .u64 s2, .int .u64 s3, .slice a l.length cap]] w _
  go_enter Tryd.func64, Tryd.ntmps64
  go_wp2_with fail
  refine (H.out _ B (by simp; omega) HIN.out).mono ?_
  rintro e w1 ⟨rfl, hb1⟩
  go_wp2_with fail
  go_ret
  exact ⟨rfl, ((Below.refl _ _).alloc (Nat.le_refl _) _).trans (hb1.mono (by simp))⟩

/-- Elements that lie at a slice. -/
def ListIn (w : World) (B : Nat) (a : Option Addr) (l : List RxA) : Prop := l = [] ∨ ∃ b o, a = some ⟨b, o, none⟩ ∧ b < B ∧ InL w B b o l

set_option maxHeartbeats 1000000 in
theorem indexFunc_any (l : List RxA) (a : Option Addr) (cap : Nat) (w : World) (B : Nat) (hB : B ≤ w.heap.size) (hl1 : l.length ≤ cap) (hl2 : cap ≤ 9223372036854775807) (hin : ListIn w B a l) (hn : ∀ x ∈ l, NotForm x) :
    Calls Tryd.prog 75 #[.slice a l.length cap, .func (.func 64) #[] #[]] w fun e w' => ∃ i : Int, e = .returned (.int .i64 i) ∧ (0 ≤ i ↔ formAll (bareAll l) = false) ∧ Below w.heap.size w w' := by
  have HN := Lib.hid hn; clear hn
  have hg : ∀ j (h : j < l.length), ∃ b o, a = some ⟨b, o, none⟩ ∧ b < w.heap.size ∧ (∀ i, i < 8 → w.cell? ⟨b, o + j * 8 + i, none⟩ = l[j].cells[i]?) ∧ l[j].In w B := by
    intro j hj
    rcases hin with rfl | ⟨b, o, rfl, hb, hl⟩
    · simp at hj
    · have := RxA.In.get hl j hj
      exact ⟨b, o, rfl, by omega, fun i hi => this.1 i hi, this.2⟩
  have HG := Lib.hid hg; clear hg hin
  go_enter Tryd.func75, Tryd.ntmps75
  go_wp2_with fail
  go_loopw [8] (fun i wr => ∃ j : Nat, j ≤ l.length ∧ i = .int .i64 j ∧ formAll (bareAll (l.take j)) = true ∧ Below w.heap.size w wr) (fun i _ => l.length - (intOf i).toNat)
  case atStart => exact ⟨0, Nat.zero_le _, rfl, rfl, Below.refl _ _⟩
  case round =>
    obtain ⟨j, hj, rfl, hfa, hbel⟩ := hrel
    have HFA := Lib.hid hfa; clear hfa
    by_cases hlt : j < l.length
    · obtain ⟨b, o, rfl, hb, hcs, hxin⟩ := HG.out j hlt
      have hnf := HN.out l[j] (List.getElem_mem hlt)
      have hss := formTo_succ l j hlt
      have hxm : l[j] ∈ l := List.getElem_mem hlt
      generalize hxe : l[j] = x at *
      have HXE := Lib.hid hxe; clear hxe
      have HSS := Lib.hid hss; clear hss
      have HNF := Lib.hid hnf; clear hnf
      have HXM := Lib.hid hxm; clear hxm
      obtain ⟨k', mn', mx', s0', s1', s2', s3', a', cap', l'⟩ := x
      obtain ⟨d0, d1, d2, d3, d4, d5, d6, d7⟩ := node_cells (o := o + j * 8) (fun i hi => (hbel.cell (p := ⟨b, o + j * 8 + i, none⟩) hb).trans (hcs i hi))
      clear hcs
      have hws := hbel.size
      go_wp2_with fail
      refine (HNF.out wr B (by omega) (hxin.below hbel hB)).mono ?_
      rintro e w1 ⟨rfl, hb1⟩
      obtain ⟨fb, HFB⟩ : ∃ fb, Hid ((RxA.node k' mn' mx' s0' s1' s2' s3' a' cap' l').bare.formB = fb) := ⟨_, Lib.hid rfl⟩
      rw [HFB.out]
      cases fb
      · go_wp2_with fail
        go_ret
        refine ⟨_, rfl, ⟨fun _ => ?_, fun _ => by omega⟩, hbel.trans (hb1.mono (by omega))⟩
        cases hf : formAll (bareAll l) with
        | false => rfl
        | true => have := formAll_mem hf HXM.out; rw [HFB.out] at this; cases this
      · go_wp2_with fail
        go_roundw
        case rel => exact ⟨j + 1, by omega, by go_num, by rw [HSS.out, HFA.out, HFB.out]; rfl, hbel.trans (hb1.mono (by omega))⟩
        case measure => simp [intOf]; omega
    · have hje : j = l.length := by omega
      go_wp2_with fail
      go_ret
      refine ⟨_, rfl, ⟨fun h => by omega, fun h => ?_⟩, hbel⟩
      have := HFA.out
      rw [hje, List.take_length, h] at this
      cases this

set_option maxHeartbeats 1000000 in
theorem containsFunc_any (l : List RxA) (a : Option Addr) (cap : Nat) (w : World) (B : Nat) (hB : B ≤ w.heap.size) (hl1 : l.length ≤ cap) (hl2 : cap ≤ 9223372036854775807) (hin : ListIn w B a l) (hn : ∀ x ∈ l, NotForm x) :
    Calls Tryd.prog 63 #[.slice a l.length cap, .func (.func 64) #[] #[]] w fun e w' => e = .returned (.bool (!formAll (bareAll l))) ∧ Below w.heap.size w w' := by
  have H := Lib.hid (indexFunc_any l a cap w B hB hl1 hl2 hin hn); clear hin hn
  go_enter Tryd.func63, Tryd.ntmps63
  go_wp2_with fail
  refine H.out.mono ?_
  rintro e w1 ⟨i, rfl, hi, hb1⟩
  have HI := Lib.hid hi; clear hi
  go_wp2_with fail
  go_ret
  refine ⟨ret_bool ?_, hb1⟩
  cases hf : formAll (bareAll l) with
  | false => simpa using HI.out.2 hf
  | true =>
    have : ¬ 0 ≤ i := fun h => by rw [HI.out.1 h] at hf; cases hf
    simpa using this

theorem pform_any : FormOf 51 := by
  intro x
  induction x using RxA.ind with
  | h k mn mx s0 s1 s2 s3 a cap l ih =>
    intro w B hB hin
    have hin' := hin
    simp only [RxA.In] at hin'
    obtain ⟨-, hl1, hl2, hl3, hl⟩ := hin'
    unfold maxLen at hl2
    have hc : ∀ w', Below w.heap.size w w' → Calls Tryd.prog 63 #[.slice a l.length cap, .func (.func 64) #[] #[]] w' fun e w'' => e = .returned (.bool (!formAll (bareAll l))) ∧ Below w'.heap.size w' w'' := by
      intro w' hb
      refine containsFunc_any l a cap w' B (by have := hb.size; omega) hl1 (by omega) ?_ (fun x hx => notForm_of x (ih x hx))
      rcases hl with h | ⟨b, o, e, hbb, hl⟩
      · exact .inl h
      · exact .inr ⟨b, o, e, hbb, hl.later (Nat.le_refl _) (fun b' o' hb' => hb.cell (p := ⟨b', o', none⟩) (by show b' < w.heap.size; omega)) hbb⟩
    by_cases h0 : k = 0
    · subst h0; exact pform_0 mn mx s0 s1 s2 s3 a cap l w hl1 (by omega) hc
    by_cases h1 : k = 1
    · subst h1; exact pform_1 mn mx s0 s1 s2 s3 a cap l w hl1 (by omega) hc
    by_cases h2 : k = 2
    · subst h2; exact pform_2 mn mx s0 s1 s2 s3 a cap l w hl1 (by omega) hc
    by_cases h3 : k = 3
    · subst h3; exact pform_3 mn mx s0 s1 s2 s3 a cap l w hl1 (by omega) hc
    exact pform_x k mn mx s0 s1 s2 s3 a cap l w hl1 (by omega) (beq_eq_false_iff_ne.2 h0) (beq_eq_false_iff_ne.2 h1) (beq_eq_false_iff_ne.2 h2) (beq_eq_false_iff_ne.2 h3) hc
end Go.Proofs.YtaelkjffidjcjaaDoor
