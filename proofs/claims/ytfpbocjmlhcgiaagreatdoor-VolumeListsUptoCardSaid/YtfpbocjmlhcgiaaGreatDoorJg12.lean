/- Jg12, merged: J46 J47 J48 J49. -/
import Derived.Test.YtfpbocjmlhcgiaaGreatDoorJg11
set_option linter.unusedSimpArgs false
set_option linter.unusedVariables false
/- The journal's Sync and Checkpoint. -/
namespace Go.Proofs.YtfpbocjmlhcgiaaGreatDoor
open Go.RowKit PJ Go.Maps

/-- A journal in memory. -/
def JAt (w : World) (p b jb : Nat) (F : Nat → Prop) (J : Jn) : Prop :=
  ∃ a : JA, a.p = p ∧ a.b = b ∧ a.jb = jb ∧ a.n = J.n ∧ a.area = J.area ∧ ∃ dt, JC w a F J.V J.S dt J.head J.first J.next J.at' J.C ∧ J.OK ∧ (J.first = J.next → dt = false)
theorem JAt.kept {w w' : World} {p b jb : Nat} {F F' : Nat → Prop} {J : Jn} (h : JAt w p b jb F J) (hs : w.heap.size ≤ w'.heap.size) (ho : ∀ k, F k → w'.heap[k]? = w.heap[k]?) (hF : ∀ q, F q → F' q) (hF' : ∀ q, F' q → q < w'.heap.size) : JAt w' p b jb F' J := by
  obtain ⟨a, h1, h2, h3, h4, h5, dt, hc, hr⟩ := h
  exact ⟨a, h1, h2, h3, h4, h5, dt, hc.kept hs ho hF hF', hr⟩
theorem JAt.later {w w' : World} {p b jb : Nat} {F : Nat → Prop} {J : Jn} (h : JAt w p b jb F J) (hb : LJ w w') : JAt w' p b jb F J := by
  obtain ⟨a, h1, h2, h3, h4, h5, dt, hc, hr⟩ := h
  exact ⟨a, h1, h2, h3, h4, h5, dt, hc.later hb, hr⟩
theorem JAt.lt {w : World} {p b jb : Nat} {F : Nat → Prop} {J : Jn} (h : JAt w p b jb F J) : ∀ q, F q → q < w.heap.size := by
  obtain ⟨a, h1, h2, h3, h4, h5, dt, hc, hr⟩ := h
  exact hc.dev.lt
theorem JAt.ok {w : World} {p b jb : Nat} {F : Nat → Prop} {J : Jn} (h : JAt w p b jb F J) : J.OK := by
  obtain ⟨a, h1, h2, h3, h4, h5, dt, hc, hr⟩ := h
  exact hr.1
/-- What a call on a journal leaves. -/
def JOut (w : World) (p b jb : Nat) (F : Nat → Prop) (J : Jn) (w' : World) : Prop := JAt w' p b jb (grow F w w') J ∧ OnlyJ F w w'
/-- Behind face: its box written. -/
theorem JAt.face {w w' : World} {p b jb : Nat} {F r : Nat → Prop} {J : Jn} (hl : ∀ q, F q → q < w.heap.size) (hrF : ∀ q, r q → F q) (h : FaceOut w r (fun w1 => JAt w1 p b jb (fun q => F q ∨ (w.heap.size + 2 ≤ q ∧ q < w1.heap.size)) J) w') : JOut w p b jb F J w' := by
  obtain ⟨w1, h1, h2, h3, h4⟩ := h
  have hs := h4.size
  refine ⟨h1.kept hs (fun k hk => h4.block k (h1.lt k hk) ?_) ?_ (grow_lt hl (by omega)), ⟨h4.os.trans h2.os, h4.tape.trans h2.tape, h4.output.trans h2.output, by omega, fun k hk hne => (h4.block k (by omega) (by omega)).trans (h2.block k hk fun e => hne (hrF k e))⟩⟩
  · intro e
    rcases hk with hk | hk
    · have := hl k hk; omega
    · omega
  · rintro q (hq | hq)
    · exact .inl hq
    · exact .inr ⟨by omega, by omega⟩
def JA.F (a : JA) (F : Nat → Prop) : Prop := ∀ q, a.R q → F q
set_option maxRecDepth 100000 in
theorem sync1_any (w : World) (a : JA) (F : Nat → Prop) (V S : View) (dt : Bool) (head first next at' : Nat) (C : Cells) (h : JC w a F V S dt head first next at' C) (q : Nat) (hq : w.cell? ⟨q, 0, none⟩ = some (.pointer (some ⟨a.jb, 0, none⟩))) :
    Calls Tryz.prog 142 #[.pointer (some ⟨q, 0, none⟩)] w fun e w' => e = .returned (.tuple #[]) ∧ JC w' a (grow F w w') V V false head first next at' C ∧ OnlyJ a.R w w' := by
  have HB := Lib.hid (jbarrier_any w a F V S dt head first next at' C h w (LJ.refl w))
  have c0 : w.cell? ⟨a.jb, 0, none⟩ = some (.pointer (some ⟨a.b, 0, none⟩)) := cell_blk h.cells 0
  have HM := must_hid
  clear h
  go_enter Tryz.func142, Tryz.ntmps142
  go_wp2_with (first
    | (go_at_call 60; (with_reducible refine HB.out.mono ?_); rintro e w1 ⟨rfl, hj1, ho1⟩; have HJ1 := Lib.hid hj1; have HO1 := Lib.hid ho1; clear hj1 ho1)
    | (go_at_call 58; (with_reducible refine (HM _).out.mono ?_); rintro e wm ⟨rfl, hwm⟩; subst hwm)
    | fail)
  go_end0
  exact ⟨rfl, HJ1.out, HO1.out⟩
set_option maxRecDepth 100000 in
theorem ckpt1_any (w : World) (a : JA) (F : Nat → Prop) (V S : View) (dt : Bool) (head first next at' : Nat) (C : Cells) (h : JC w a F V S dt head first next at' C) (q : Nat) (hq : w.cell? ⟨q, 0, none⟩ = some (.pointer (some ⟨a.jb, 0, none⟩)))
    (hh : head < 4611686018427387904) (hf : next ≤ 4611686018427387904) (hn : 2 ≤ a.n) (han : a.area ≤ a.n) (hC : ∀ c d, C c = some d → c < a.n - a.area ∧ d.length = 116) (hne : ∃ c, (C c).isSome = true) :
    Calls Tryz.prog 196 #[.pointer (some ⟨q, 0, none⟩)] w fun e w' => e = .returned (.tuple #[]) ∧
      ∃ cm', JC w' { a with cm := cm' } (grow F w w') (setS (homeV a.area C V) ((head + 1) % 2) (blk (be next 8) (head + 1))) (setS (homeV a.area C V) ((head + 1) % 2) (blk (be next 8) (head + 1))) false (head + 1) next next 2 (fun _ => none) ∧ OnlyJ a.R w w' := by
  have HH := Lib.hid (home_any w.drew a F V S dt head first next at' C h.drew next hh hf hn han hC hne)
  have c4 : w.cell? ⟨a.jb, 4, none⟩ = some (.int .i64 next) := cell_blk h.cells 4
  clear h hC hne
  go_enter Tryz.func196, Tryz.ntmps196
  go_wp2_with fail
  go_still_tail 5, (by kernel_rfl)
  change wpList _ _ _ _ _ w.drew
  obtain ⟨w4, hw4⟩ : ∃ w4, w.drew = w4 := ⟨_, rfl⟩
  rw [hw4] at HH ⊢
  have HW4 := Lib.hid hw4
  clear hw4
  go_wp2_with (first
    | (go_at_call 197; (with_reducible refine HH.out.mono ?_); rintro e w5 ⟨rfl, cm', hj5, ho5⟩)
    | fail)
  go_end0
  rw [← HW4.out] at hj5 ho5
  exact ⟨rfl, cm', hj5, ho5.undrew⟩
end Go.Proofs.YtfpbocjmlhcgiaaGreatDoor
/- The journal's Sync and Checkpoint, whole. -/
namespace Go.Proofs.YtfpbocjmlhcgiaaGreatDoor
open Go.RowKit PJ Go.Maps

theorem JOut.from {w w1 w' : World} {p b jb : Nat} {F : Nat → Prop} {J : Jn} (h : JOut w1 p b jb F J w') (hl : LJ w w1) (hF : ∀ q, F q → q < w.heap.size) : JOut w p b jb F J w' := by
  have h1 : w.heap.size ≤ w1.heap.size := Below.size hl
  have h2 := h.2.size
  refine ⟨h.1.kept (Nat.le_refl _) (fun _ _ => rfl) ?_ (grow_lt hF (by omega)), (OnlyJ.of_below hl).trans h.2⟩
  rintro q (hq | hq)
  · exact .inl hq
  · exact .inr ⟨by omega, hq.2⟩
set_option maxRecDepth 100000 in
set_option maxHeartbeats 1000000 in
theorem sync_any (w : World) (p b jb : Nat) (F : Nat → Prop) (J : Jn) (h : JAt w p b jb F J) :
    Calls Tryz.prog 75 #[.pointer (some ⟨jb, 0, none⟩)] w fun e w' => e = .returned (.int .i64 0) ∧ JOut w p b jb F { J with S := J.V } w' := by
  have hmf : ∀ (fn : Fn) (first cap : Array Value) (w : World), (Instr.makeFunc fn first cap).run Tryz.prog w = .ok (.func fn first cap) w := fun _ _ _ _ => rfl
  obtain ⟨a, rfl, rfl, rfl, h4, h5, dt, hc, hok, hdt⟩ := h
  obtain ⟨w1, hw1⟩ : ∃ w1, w.alloc (.cells #[.pointer (some ⟨a.jb, 0, none⟩)] 34) = w1 := ⟨_, rfl⟩
  have hl1 : LJ w w1 := by rw [← hw1]; exact (LJ.refl w).alloc _
  have hx1 : w1.heap[w.heap.size]? = some (.cells #[.pointer (some ⟨a.jb, 0, none⟩)] 34 (0, 0)) := by rw [← hw1]; exact alloc_blk w _
  have hc1 := hc.later hl1
  have x0 : w1.cell? ⟨w.heap.size, 0, none⟩ = some (.pointer (some ⟨a.jb, 0, none⟩)) := cell_blk hx1 0
  have hlt := hc.dev.lt
  have hlt1 := hc1.dev.lt
  have HFA := Lib.hid (face_any w1 a.jb _ hc1.cells rfl 142 (enters_of Tryz.func142 (by kernel_rfl) rfl) #[.pointer (some ⟨w.heap.size, 0, none⟩)] a.R
    (fun w' => JAt w' a.p a.b a.jb (fun q => F q ∨ (w1.heap.size + 2 ≤ q ∧ q < w'.heap.size)) { J with S := J.V }) (fun q hq => hlt1 q (hc1.dev.sub q hq)) (fun w2 hb2 hz2 => (sync1_any w2 a F _ _ _ _ _ _ _ _ (hc1.later hb2) w.heap.size (LJ.cell hb2 x0)).mono (by
      rintro e w' ⟨rfl, hj, ho⟩
      refine ⟨rfl, ⟨a, rfl, rfl, rfl, h4, h5, false, ?_, ⟨hok.area4, hok.arean, hok.n12, hok.cells, hok.at2, hok.atA, hok.first1, hok.fn, hok.clean, hok.full, hok.good, hok.stamps, hok.head2, hok.headV, hok.other⟩, fun _ => rfl⟩, ho⟩
      have e2 : grow F w2 w' = fun q => F q ∨ (w1.heap.size + 2 ≤ q ∧ q < w'.heap.size) := by unfold grow; rw [hz2]
      rw [← e2]
      exact hj)))
  have HEND := Lib.hid (fun w' (hf : FaceOut w1 a.R (fun w' => JAt w' a.p a.b a.jb (fun q => F q ∨ (w1.heap.size + 2 ≤ q ∧ q < w'.heap.size)) { J with S := J.V }) w') => (JAt.face hlt1 hc1.dev.sub hf).from hl1 hlt)
  have HW1 := Lib.hid hw1
  clear hc hc1 hok hdt hw1 hx1 hlt hlt1
  go_enter Tryz.func75, Tryz.ntmps75
  go_upto_region 1 with fail
  rw [HW1.out]
  go_wp2_with (first
    | (go_at_call 54; (with_reducible refine HFA.out.mono ?_); rintro e w2 ⟨rfl, hf2⟩)
    | fail)
  go_ret
  exact ⟨rfl, HEND.out _ hf2⟩
set_option maxRecDepth 100000 in
set_option maxHeartbeats 2000000 in
theorem ckpt_any (w : World) (p b jb : Nat) (F : Nat → Prop) (J : Jn) (h : JAt w p b jb F J) (hh : J.head < 4611686018427387904) (hn : J.next ≤ 4611686018427387904) :
    Calls Tryz.prog 138 #[.pointer (some ⟨jb, 0, none⟩)] w fun e w' => e = .returned (.int .i64 0) ∧ JOut w p b jb F J.check w' := by
  have hmf : ∀ (fn : Fn) (first cap : Array Value) (w : World), (Instr.makeFunc fn first cap).run Tryz.prog w = .ok (.func fn first cap) w := fun _ _ _ _ => rfl
  have hJ := h
  obtain ⟨a, rfl, rfl, rfl, h4, h5, dt, hc, hok, hdt⟩ := h
  obtain ⟨w1, hw1⟩ : ∃ w1, w.alloc (.cells #[.pointer (some ⟨a.jb, 0, none⟩)] 34) = w1 := ⟨_, rfl⟩
  have hl1 : LJ w w1 := by rw [← hw1]; exact (LJ.refl w).alloc _
  have hx1 : w1.heap[w.heap.size]? = some (.cells #[.pointer (some ⟨a.jb, 0, none⟩)] 34 (0, 0)) := by rw [← hw1]; exact alloc_blk w _
  have hc1 := hc.later hl1
  have x0 : w1.cell? ⟨w.heap.size, 0, none⟩ = some (.pointer (some ⟨a.jb, 0, none⟩)) := cell_blk hx1 0
  have hlt := hc.dev.lt
  have hlt1 := hc1.dev.lt
  have c7 : w1.cell? ⟨a.jb, 7, none⟩ = some (.bool false) := cell_blk hc1.cells 7
  have c2 : w1.cell? ⟨a.jb, 2, none⟩ = some (.int .i64 J.head) := cell_blk hc1.cells 2
  have c4 : w1.cell? ⟨a.jb, 4, none⟩ = some (.int .i64 J.next) := cell_blk hc1.cells 4
  have c3 : w1.cell? ⟨a.jb, 3, none⟩ = some (.int .i64 J.first) := cell_blk hc1.cells 3
  have g1 : ((J.head : Int) == 4611686018427387904) = false := by simp; omega
  have g1' : ¬ (J.head : Int) = 4611686018427387904 := by omega
  have HW1 := Lib.hid hw1
  by_cases hfn : J.first = J.next
  · have e1 : J.check = J := if_pos hfn
    rw [e1]
    have HEND := Lib.hid (fun n => show JOut w a.p a.b a.jb F J (w1.drewN n) from by
      have hl : LJ w (w1.drewN n) := hl1.drewN n
      exact ⟨(hJ.later hl).kept (Nat.le_refl _) (fun _ _ => rfl) grow_sub (grow_lt hlt (Below.size hl)), OnlyJ.of_below hl⟩)
    rw [hfn] at c3
    have g2 : ((J.next : Int) == (J.next : Int)) = true := by simp
    clear hc hc1 hok hdt hw1 hx1 hlt hlt1 hJ e1 hfn
    go_enter Tryz.func138, Tryz.ntmps138
    go_upto_region 1 with fail
    rw [HW1.out]
    go_upto_region 5 with fail
    go_quiet (fail)
    go_wp2_with fail
    go_ret
    exact ⟨rfl, HEND.out _⟩
  · have e1 : J.check = J.home := if_neg hfn
    rw [e1]
    have h2n : 2 ≤ a.n := by have := hok.area4; have := hok.arean; omega
    have hcd : ∀ n : Nat, JC (w1.drewN n) a F J.V J.S dt J.head J.first J.next J.at' J.C := fun n => hc1.later ((LJ.refl w1).drewN n)
    have HFA := Lib.hid (fun n => face_any (w1.drewN n) a.jb _ (hcd n).cells rfl 196 (enters_of Tryz.func196 (by kernel_rfl) rfl) #[.pointer (some ⟨w.heap.size, 0, none⟩)] a.R
      (fun w' => JAt w' a.p a.b a.jb (fun q => F q ∨ (w1.heap.size + 2 ≤ q ∧ q < w'.heap.size)) J.home) (fun q hq => hlt1 q (hc1.dev.sub q hq)) (fun w2 hb2 hz2 => (ckpt1_any w2 a F _ _ _ _ _ _ _ _ ((hcd n).later hb2) w.heap.size (LJ.cell hb2 x0) hh hn h2n (by rw [h4, h5]; exact Nat.le_of_lt hok.arean) (by rw [h4, h5]; exact hok.cells) (hok.full hfn)).mono (by
        rintro e w' ⟨rfl, cm', hj, ho⟩
        refine ⟨rfl, ⟨{ a with cm := cm' }, rfl, rfl, rfl, h4, h5, false, ?_, Jn.home_ok hok hh hn, fun _ => rfl⟩, ho⟩
        have e2 : grow F w2 w' = fun q => F q ∨ (w1.heap.size + 2 ≤ q ∧ q < w'.heap.size) := by
          have hz : w2.heap.size = w1.heap.size + 2 := hz2
          unfold grow; rw [hz]
        rw [← e2]
        have hv : J.homeW = setS (homeV a.area J.C J.V) ((J.head + 1) % 2) (blk (be J.next 8) (J.head + 1)) := by unfold Jn.homeW; rw [h5]
        show JC w' _ (grow F w2 w') J.homeW J.homeW false (J.head + 1) J.next J.next 2 (fun _ => none)
        rw [hv]
        exact hj)))
    have HEND := Lib.hid (fun n w' (hf : FaceOut (w1.drewN n) a.R (fun w' => JAt w' a.p a.b a.jb (fun q => F q ∨ (w1.heap.size + 2 ≤ q ∧ q < w'.heap.size)) J.home) w') => (JAt.face (w := w1.drewN n) hlt1 hc1.dev.sub hf).from (hl1.drewN n) hlt)
    have g2 : ((J.next : Int) == (J.first : Int)) = false := by simp; omega
    have g3 : decide (J.next = J.first) = false := by simp; omega
    clear hc hc1 hok hdt hw1 hx1 hlt hlt1 hJ e1 hfn hcd
    go_enter Tryz.func138, Tryz.ntmps138
    go_upto_region 1 with fail
    rw [HW1.out]
    go_upto_region 5 with fail
    go_quiet (fail)
    go_wp2_with (first
      | (go_at_call 54; (with_reducible refine (HFA.out _).mono ?_); rintro e w2 ⟨rfl, hf2⟩)
      | fail)
    go_ret
    exact ⟨rfl, HEND.out _ _ hf2⟩
end Go.Proofs.YtfpbocjmlhcgiaaGreatDoor
/- What a journal tells: Cells, Next, Most, Room, Read. -/
namespace Go.Proofs.YtfpbocjmlhcgiaaGreatDoor
open Go.RowKit PJ Go.Maps

theorem JAt.drewN {w : World} {p b jb : Nat} {F : Nat → Prop} {J : Jn} (h : JAt w p b jb F J) (n : Nat) : JAt (w.drewN n) p b jb F J := h.later ((LJ.refl w).drewN n)
set_option maxRecDepth 100000 in
theorem cells_any (w : World) (p b jb : Nat) (F : Nat → Prop) (J : Jn) (h : JAt w p b jb F J) :
    Calls Tryz.prog 62 #[.pointer (some ⟨jb, 0, none⟩)] w fun e w' => e = .returned (.int .i64 ((J.n - J.area : Nat) : Int)) ∧ ∃ n, w' = w.drewN n := by
  obtain ⟨a, rfl, rfl, rfl, h4, h5, dt, hc, hok, hdt⟩ := h
  have HC := Lib.hid (fun n => bcount_at (w.drewN n) a.p a.g a.mb a.b a.n a.cached a.R F J.V J.S dt (hc.dev.drewN n))
  have c0 : w.cell? ⟨a.jb, 0, none⟩ = some (.pointer (some ⟨a.b, 0, none⟩)) := cell_blk hc.cells 0
  have c1 : w.cell? ⟨a.jb, 1, none⟩ = some (.int .i64 a.area) := cell_blk hc.cells 1
  have hn := hok.n12
  have ha := hok.arean
  rw [h4, h5] at *
  have hwr : IntKind.i64.wrap ((J.n : Int) - (J.area : Int)) = ((J.n - J.area : Nat) : Int) := by rw [IntKind.wrap_i64]; omega
  clear hc hok hdt
  go_enter Tryz.func62, Tryz.ntmps62
  go_upto_region 1 with fail
  go_quiet ((go_at_call 57; exact Calls.quiet_of_same ((HC.out _).mono (by rintro e w1 ⟨rfl, rfl⟩; exact ⟨rfl, rfl⟩))))
  go_wp2_with fail
  go_ret
  exact ⟨rfl, _, rfl⟩
def Jn.most (J : Jn) : Nat := min 40 (J.area - 3)
def Jn.room (J : Jn) : Nat := min 40 (J.area - J.at' - 1)
set_option maxRecDepth 100000 in
theorem most_any (w : World) (p b jb : Nat) (F : Nat → Prop) (J : Jn) (h : JAt w p b jb F J) :
    Calls Tryz.prog 112 #[.pointer (some ⟨jb, 0, none⟩)] w fun e w' => e = .returned (.int .i64 J.most) ∧ w = w' := by
  obtain ⟨a, rfl, rfl, rfl, h4, h5, dt, hc, hok, hdt⟩ := h
  have c1 : w.cell? ⟨a.jb, 1, none⟩ = some (.int .i64 a.area) := cell_blk hc.cells 1
  have hn := hok.n12
  have ha := hok.arean
  have h4a := hok.area4
  rw [h5] at *
  clear hc hok hdt
  unfold Jn.most
  rcases Nat.lt_or_ge J.area 43 with hlt | hge
  · rw [Nat.min_eq_right (by omega)]
    go_enter Tryz.func112, Tryz.ntmps112
    go_wp2_with fail
    go_ret
    exact ⟨ret_int (by omega), rfl⟩
  · rw [Nat.min_eq_left (by omega)]
    go_enter Tryz.func112, Tryz.ntmps112
    go_wp2_with fail
    go_ret
    exact ⟨ret_int (by omega), rfl⟩
end Go.Proofs.YtfpbocjmlhcgiaaGreatDoor
/- A journal's Read. -/
namespace Go.Proofs.YtfpbocjmlhcgiaaGreatDoor
open Go.RowKit PJ Go.Maps

theorem jread_dev (w : World) (a : JA) (F : Nat → Prop) (V S : View) (dt : Bool) (head first next at' : Nat) (C : Cells) (h : JC w a F V S dt head first next at' C) (W : World) (hW : LJ w W) (i : Nat) (hi : i < a.n) (d : List UInt8) (st : Nat) (hp : parseT sumN (V i) = some (d, st)) :
    Calls Tryz.prog 125 #[.pointer (some ⟨a.b, 0, none⟩), .int .i64 i] W fun e w' => e = .returned (.tuple #[.string ⟨d.toArray⟩, .int .i64 st, .int .i64 0]) ∧
      JC w' a (grow F w w') V S dt head first next at' C ∧ OnlyJ a.R w w' := by
  refine (bread_any W _ _ _ _ _ _ _ _ _ _ _ (h.dev.later hW) i hi d st hp).mono ?_
  rintro e w' ⟨rfl, hd, ho⟩
  have hs2 := ho.size
  have hj := (h.later hW).dev' hd ho (fun q hq => .inl hq)
  have hw : w.heap.size ≤ W.heap.size := Below.size hW
  refine ⟨rfl, hj.wide ?_ (grow_lt h.dev.lt (Nat.le_trans hw hs2)), (OnlyJ.of_below hW).trans (only_R ho (fun q hq => .inl hq))⟩
  rintro q (hq | hq)
  · exact .inl hq
  · exact .inr ⟨by omega, hq.2⟩
theorem parse_good {J : Jn} (h : J.OK) {i : Nat} (hi : i < J.n) : ∃ st, parseT sumN (J.V i) = some ((J.V i).take 116, st) ∧ st ≤ 4611686018427387904 := by
  obtain ⟨d, st, e, h1, h2⟩ := h.good i hi
  refine ⟨st, ?_, h2⟩
  rw [e]
  have := parse_block sumN sumN_lt h1 h2
  rw [show blk d st = blockT sumN d st from rfl, this, block_data sumN h1]
/-- What is read of a cell. -/
def Jn.cell (J : Jn) (c : Nat) : List UInt8 := (J.C c).getD ((J.V (J.area + c)).take 116)
theorem JC.JOut {w w' : World} {a : JA} {F : Nat → Prop} {J : Jn} {dt : Bool} (hc : JC w' a (grow F w w') J.V J.S dt J.head J.first J.next J.at' J.C) (ho : OnlyJ a.R w w') (hs : ∀ q, a.R q → F q) (h4 : a.n = J.n) (h5 : a.area = J.area) (hok : J.OK) (hdt : J.first = J.next → dt = false) : JOut w a.p a.b a.jb F J w' :=
  ⟨⟨a, rfl, rfl, rfl, h4, h5, dt, hc, hok, hdt⟩, ho.mono fun q _ e => hs q e⟩
set_option maxRecDepth 100000 in
set_option maxHeartbeats 2000000 in
theorem jread_any (w : World) (p b jb : Nat) (F : Nat → Prop) (J : Jn) (h : JAt w p b jb F J) (c : Nat) (hc : c < J.n - J.area) :
    Calls Tryz.prog 63 #[.pointer (some ⟨jb, 0, none⟩), .int .i64 c] w fun e w' => e = .returned (.tuple #[.string ⟨(J.cell c).toArray⟩, .int .i64 0]) ∧ JOut w p b jb F J w' := by
  have hJ := h
  have HC := Lib.hid (cells_any w p b jb F J h)
  obtain ⟨a, rfl, rfl, rfl, h4, h5, dt, hj, hok, hdt⟩ := h
  have hn := hok.n12
  have ha := hok.arean
  have c7 : w.cell? ⟨a.jb, 7, none⟩ = some (.bool false) := cell_blk hj.cells 7
  have hwf : (Lit.int .i64 (c : Int)).wf = true := WalkArith.wf_i64 (by omega)
  have g1 : decide ((c : Int) < 0) = false := by simp
  have g2 : decide ((J.n - J.area : Nat) ≤ c) = false := by simp; omega
  have g3 : decide (((J.n - J.area : Nat) : Int) ≤ (c : Int)) = false := by simp; omega
  have hci : CI J.C (c : Int) = J.C c := by unfold CI; rw [if_pos (by omega), Int.toNat_natCast]
  have c6 : ∀ n, (w.drewN n).cell? ⟨a.jb, 6, none⟩ = some (.map (some a.cm)) := fun n => cell_blk hj.cells 6
  have hlk : ∀ n, (Instr.lookup 100 (.map (some a.cm)) (.int .i64 (c : Int)) true).run Tryz.prog (w.drewN n) = .ok (.tuple #[.string ⟨((J.C c).getD []).toArray⟩, .bool (J.C c).isSome]) (w.drewN n) := fun n => by
    have := cell_look2 (w := w.drewN n) (hj.later ((LJ.refl w).drewN n)).map (c : Int) hwf
    rw [hci] at this
    exact this
  have HEND := Lib.hid (fun n => show JOut w a.p a.b a.jb F J (w.drewN n) from
    ⟨(hJ.drewN n).kept (Nat.le_refl _) (fun _ _ => rfl) grow_sub (grow_lt hj.dev.lt (Nat.le_refl _)), OnlyJ.of_below ((LJ.refl w).drewN n)⟩)
  obtain ⟨m, hm⟩ : ∃ m, J.n - J.area = m := ⟨_, rfl⟩
  rw [hm] at HC g2 g3 hc
  unfold Jn.cell
  cases hcc : J.C c with
  | some d =>
    rw [hcc] at hlk
    obtain ⟨DS, hDS⟩ : ∃ DS : ByteArray, (⟨d.toArray⟩ : ByteArray) = DS := ⟨_, rfl⟩
    have hlk2 : ∀ n, (Instr.lookup 100 (.map (some a.cm)) (.int .i64 (c : Int)) true).run Tryz.prog (w.drewN n) = .ok (.tuple #[.string DS, .bool true]) (w.drewN n) := by rw [← hDS]; exact hlk
    have HDS := Lib.hid hDS
    clear hj hok hdt hJ hlk hci hcc hDS hm hn ha hwf
    go_enter Tryz.func63, Tryz.ntmps63
    go_wp2_with (first
      | (go_at_call 62; (with_reducible refine HC.out.mono ?_); rintro e w1 ⟨rfl, nq, rfl⟩)
      | fail)
    go_ret2
    exact ⟨by show Ending.returned (.tuple #[.string DS, .int .i64 0]) = .returned (.tuple #[.string ⟨d.toArray⟩, .int .i64 0]); rw [HDS.out], HEND.out _⟩
  | none =>
    rw [hcc] at hlk
    obtain ⟨st, hp, hst⟩ := parse_good hok (i := J.area + c) (by omega)
    obtain ⟨d, hd⟩ : ∃ d, (J.V (J.area + c)).take 116 = d := ⟨_, rfl⟩
    rw [hd] at hp
    obtain ⟨DS, hDS⟩ : ∃ DS : ByteArray, (⟨d.toArray⟩ : ByteArray) = DS := ⟨_, rfl⟩
    have hlk2 : ∀ n, (Instr.lookup 100 (.map (some a.cm)) (.int .i64 (c : Int)) true).run Tryz.prog (w.drewN n) = .ok (.tuple #[.string ⟨#[]⟩, .bool false]) (w.drewN n) := hlk
    have HDS := Lib.hid hDS
    have HDD := Lib.hid hd
    have HR := Lib.hid (fun (W : World) (hW : LJ w W) => show Calls Tryz.prog 125 #[.pointer (some ⟨a.b, 0, none⟩), .int .i64 ((J.area : Int) + (c : Int))] W fun e w' => e = .returned (.tuple #[.string DS, .int .i64 st, .int .i64 0]) ∧ JOut w a.p a.b a.jb F J w' from by
      rw [← hDS]
      refine (jread_dev w a F _ _ _ _ _ _ _ _ hj W hW (J.area + c) (by omega) d st hp).mono ?_
      rintro e w' ⟨rfl, hj', ho'⟩
      exact ⟨rfl, hj'.JOut ho' hj.dev.sub h4 h5 hok hdt⟩)
    have c0 : ∀ n, (w.drewN n).cell? ⟨a.jb, 0, none⟩ = some (.pointer (some ⟨a.b, 0, none⟩)) := fun n => cell_blk hj.cells 0
    have c1 : ∀ n, (w.drewN n).cell? ⟨a.jb, 1, none⟩ = some (.int .i64 J.area) := fun n => by rw [← h5]; exact cell_blk hj.cells 1
    have hwr : IntKind.i64.wrap ((J.area : Int) + (c : Int)) = (J.area : Int) + (c : Int) := by rw [IntKind.wrap_i64]; omega
    have har : (J.area : Int) ≤ 4096 := by omega
    have hcr : (c : Int) ≤ 4096 := by omega
    clear hj hok hdt hJ hlk hci hcc hDS hm hn ha hwf hd hp
    go_enter Tryz.func63, Tryz.ntmps63
    go_upto_region 8 with (first
      | (go_at_call 62; (with_reducible refine HC.out.mono ?_); rintro e w1 ⟨rfl, nq, rfl⟩)
      | fail)
    have hlw : LJ w (w.drewN nq) := (LJ.refl w).drewN nq
    obtain ⟨wq, hwq⟩ : ∃ wq, w.drewN nq = wq := ⟨_, rfl⟩
    have e0 := c0 nq
    have e1 := c1 nq
    rw [hwq] at e0 e1 hlw ⊢
    have HRQ := Lib.hid (HR.out wq.drew hlw.drew)
    clear c0 c1 hlk2 c6 hwq hlw
    go_region_with (go_at_call 125; (with_reducible refine HRQ.out.mono ?_); rintro e w5 ⟨rfl, hj5⟩)
    all_goals
      go_wp2_with fail
      go_ret2
      exact ⟨by show Ending.returned (.tuple #[.string DS, .int .i64 0]) = _; rw [← HDS.out, ← HDD.out]; rfl, hj5⟩
end Go.Proofs.YtfpbocjmlhcgiaaGreatDoor
