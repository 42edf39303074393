/- The walks of form: the reference's and the program's tell Rx.formB. -/
import Derived.Test.YtaelkjffidjcjaaDoorSize
import Derived.BigGuardPart
set_option linter.unusedSimpArgs false
set_option linter.unusedVariables false
namespace Go.Proofs.YtaelkjffidjcjaaDoor
open Go.RowKit PX

def FormOf (f : Nat) : Prop := ∀ (x : RxA) (w : World) (B : Nat), B ≤ w.heap.size → x.In w B →
    Calls Tryd.prog f #[x.val] w fun e w' => e = .returned (.bool x.bare.formB) ∧ Below w.heap.size w w'

theorem below_two (w : World) (o o' : Obj) : Below (w.heap.size + 1) (w.alloc o) ((w.alloc o).alloc o') := (Below.refl _ _).alloc (by simp) _
theorem formAll_mem {x : RxA} : ∀ {l : List RxA}, formAll (bareAll l) = true → x ∈ l → x.bare.formB = true
  | y :: ys, h, hx => by
    simp only [bareAll, formAll, Bool.and_eq_true] at h
    cases hx with
    | head => exact h.1
    | tail _ h' => exact formAll_mem h.2 h'
theorem formAll_append : ∀ (l : List Rx) (x : Rx), formAll (l ++ [x]) = (formAll l && x.formB)
  | [], x => by simp [formAll]
  | y :: ys, x => by simp only [List.cons_append, formAll]; rw [formAll_append ys, Bool.and_assoc]
theorem formTo_succ (l : List RxA) (k : Nat) (h : k < l.length) : formAll (bareAll (l.take (k + 1))) = (formAll (bareAll (l.take k)) && l[k].bare.formB) := by
  rw [List.take_succ_eq_append_getElem h, bareAll_eq, bareAll_eq, List.map_append]
  exact formAll_append _ _
theorem form_no {k mn mx s0 s1 s2 s3 : Int} {a : Option Addr} {cap : Nat} {l : List RxA} (h : ¬ Shape k mn mx s0 s1 s2 s3 l.length) : false = (RxA.node k mn mx s0 s1 s2 s3 a cap l).bare.formB := by
  rw [eq_comm, Bool.eq_false_iff]
  intro h'
  rw [RxA.bare, formB_iff, bareAll_length] at h'
  exact h h'.1
theorem form_bad {k mn mx s0 s1 s2 s3 : Int} {a : Option Addr} {cap : Nat} {l : List RxA} {x : RxA} (hx : x ∈ l) (h : x.bare.formB = false) : false = (RxA.node k mn mx s0 s1 s2 s3 a cap l).bare.formB := by
  rw [eq_comm, Bool.eq_false_iff]
  intro h'
  rw [RxA.bare, formB_iff, bareAll_length] at h'
  rw [formAll_mem h'.2 hx] at h
  cases h
theorem form_yes {k mn mx s0 s1 s2 s3 : Int} {a : Option Addr} {cap : Nat} {l : List RxA} (h : Shape k mn mx s0 s1 s2 s3 l.length) (hl : formAll (bareAll l) = true) : true = (RxA.node k mn mx s0 s1 s2 s3 a cap l).bare.formB := by
  rw [eq_comm, RxA.bare, formB_iff, bareAll_length]
  exact ⟨h, hl⟩

theorem form_set {k mn mx s0 s1 s2 s3 : Int} {a : Option Addr} {cap : Nat} {l : List RxA} (h : k = 0 ∧ mn = 0 ∧ mx = 0) (h' : ¬(s0 = 0 ∧ s1 = 0 ∧ s2 = 0 ∧ s3 = 0)) :
    ((l.length : Int) == 0) = (RxA.node k mn mx s0 s1 s2 s3 a cap l).bare.formB := by
  cases l with
  | nil => exact form_yes (.inl ⟨h.1, rfl, h', h.2.1, h.2.2⟩) rfl
  | cons x l =>
    have e : (((x :: l).length : Int) == 0) = false := by rw [beq_eq_false_iff_ne]; simp only [List.length_cons]; omega
    rw [e]
    exact form_no (by unfold Shape; simp only [List.length_cons]; omega)

set_option maxRecDepth 100000 in
set_option maxHeartbeats 1000000 in
theorem rform_any : FormOf 40 := by
  intro x
  induction x using RxA.ind with
  | h k mn mx s0 s1 s2 s3 a cap l ih =>
    intro w B hB hin
    have hin' := hin
    simp only [RxA.In] at hin'
    obtain ⟨⟨bk, bmn, bmx, b0, b1, b2, b3⟩, hl1, hl2, hl3, hl⟩ := hin'
    clear hin
    unfold maxLen at hl2
    obtain ⟨C, HC⟩ : ∃ C, Hid (C = #[Value.int .i64 k, .int .i64 mn, .int .i64 mx, .int .u64 s0, .int .u64 s1, .int .u64 s2, .int .u64 s3, .slice a l.length cap]) := ⟨_, rfl⟩
    have hg : ∀ j (h : j < l.length), ∃ b o, a = some ⟨b, o, none⟩ ∧ b < w.heap.size ∧ (∀ i, i < 8 → (w.alloc (.cells C 26)).cell? ⟨b, o + j * 8 + i, none⟩ = l[j].cells[i]?) ∧ l[j].In w B := by
      intro j hj
      rcases hl with rfl | ⟨b, o, rfl, hb, hl⟩
      · simp at hj
      · have := RxA.In.get hl j hj
        exact ⟨b, o, rfl, by omega, fun i hi => (World.cell?_alloc_past _ _ _ (by show b < w.heap.size; omega)).trans (this.1 i hi), this.2⟩
    have HG := Lib.hid hg; clear hg hl
    have IH := Lib.hid ih; clear ih
    show Calls Tryd.prog 40 #[.agg #[.int .i64 k, .int .i64 mn, .int .i64 mx, .int .u64 s0, .int .u64 s1, .int .u64 s2, .int .u64 s3, .slice a l.length cap]] w _
    go_enter Tryd.func40, Tryd.ntmps40
    go_wp2_with fail
    all_goals first
      | (go_ret
         refine ⟨ret_bool (form_no ?_), ((Below.refl _ _).alloc (Nat.le_refl _) _).alloc (by simp) _⟩
         clear HG IH
         try simp only [bne_iff_ne, ne_eq, beq_iff_eq, bne_eq_false_iff_eq, beq_eq_false_iff_ne, same4, decide_eq_true_eq, decide_eq_false_iff_not] at *
         unfold Shape
         omega)
      | (go_ret
         refine ⟨ret_bool (form_set ?_ ?_), ((Below.refl _ _).alloc (Nat.le_refl _) _).alloc (by simp) _⟩
         all_goals
           clear HG IH
           try simp only [bne_iff_ne, ne_eq, beq_iff_eq, bne_eq_false_iff_eq, beq_eq_false_iff_ne, same4, decide_eq_true_eq, decide_eq_false_iff_not] at *
           omega)
      | skip
    all_goals
      have hshape : Shape k mn mx s0 s1 s2 s3 l.length := by
        clear HG IH
        try simp only [bne_iff_ne, ne_eq, beq_iff_eq, bne_eq_false_iff_eq, beq_eq_false_iff_ne, same4, decide_eq_true_eq, decide_eq_false_iff_not] at *
        unfold Shape
        omega
      have HS := Lib.hid hshape; clear hshape
      try (rename ((l.length : Int) = 1) => hlen1; clear hlen1)
      try (rename (mn = 0) => hmn0; subst hmn0)
      try (rename (mx = -1) => hmx0; subst hmx0)
      try (rename (k = 3) => hk3; subst hk3)
      repeat (rename ((_ : Bool) = _) => hbb; clear hbb)
      go_loopw [4] (fun i wr => ∃ j : Nat, j ≤ l.length ∧ i = .int .i64 j ∧ formAll (bareAll (l.take j)) = true ∧
          Below (w.heap.size + 1) (w.alloc (.cells C 26)) wr) (fun i _ => l.length - (intOf i).toNat)
      case atStart => exact ⟨0, Nat.zero_le _, rfl, rfl, by rw [HC.out]; exact below_two _ _ _⟩
      case round =>
        obtain ⟨j, hj, rfl, hfa, hbel⟩ := hrel
        have HFA := Lib.hid hfa; clear hfa
        have hbw : Below w.heap.size w wr := ((Below.refl _ _).alloc (Nat.le_refl _) _).trans (hbel.mono (by omega))
        have c7 := laid_cell hbel (by omega) 7 (.slice a l.length cap) (by rw [HC.out]; rfl)
        by_cases hlt : j < l.length
        · obtain ⟨b, o, rfl, hb, hcs, hxin⟩ := HG.out j hlt
          have hih := IH.out l[j] (List.getElem_mem hlt)
          have hss := formTo_succ l j hlt
          have hxm : l[j] ∈ l := List.getElem_mem hlt
          generalize hxe : l[j] = x at *
          have HXE := Lib.hid hxe; clear hxe
          have HSS := Lib.hid hss; clear hss
          have HIH := Lib.hid hih; clear hih
          have HXM := Lib.hid hxm; clear hxm
          obtain ⟨k', mn', mx', s0', s1', s2', s3', a', cap', l'⟩ := x
          obtain ⟨d0, d1, d2, d3, d4, d5, d6, d7⟩ := node_cells (o := o + j * 8) (fun i hi => (hbel.cell (p := ⟨b, o + j * 8 + i, none⟩) (by show b < w.heap.size + 1; omega)).trans (hcs i hi))
          clear hcs
          have hws := hbel.size
          simp only [World.size_alloc] at hws
          go_wp2_with fail
          refine (HIH.out wr B (by omega) (hxin.below hbw hB)).mono ?_
          rintro e w1 ⟨rfl, hb1⟩
          have HFB : ∃ fb, Hid ((RxA.node k' mn' mx' s0' s1' s2' s3' a' cap' l').bare.formB = fb) := ⟨_, Lib.hid rfl⟩
          obtain ⟨fb, HFB⟩ := HFB
          rw [HFB.out]
          cases fb
          · go_wp2_with fail
            go_ret
            exact ⟨ret_bool (form_bad HXM.out HFB.out), hbw.trans (hb1.mono (by omega))⟩
          · go_wp2_with fail
            go_roundw
            case rel => exact ⟨j + 1, by omega, by go_num, by rw [HSS.out, HFA.out, HFB.out]; rfl, hbel.trans (hb1.mono (by omega))⟩
            case measure => simp [intOf]; omega
        · have hje : j = l.length := by omega
          go_wp2_with fail
          go_ret
          refine ⟨ret_bool (form_yes HS.out ?_), hbw⟩
          rw [← List.take_length (l := l), ← hje]; exact HFA.out
end Go.Proofs.YtaelkjffidjcjaaDoor
