/- The journal's Commit. -/
import Derived.Test.YtfpbocjmlhcgiaaGreatDoorJ57
set_option linter.unusedSimpArgs false
set_option linter.unusedVariables false
namespace Go.Proofs.YtfpbocjmlhcgiaaGreatDoor
open Go.RowKit PJ Go.Maps

theorem cface_any (w : World) (p b jb : Nat) (F : Nat → Prop) (J : Jn) (h : JAt w p b jb F J) (q0 q1 g off cap : Nat) (l : List Wr)
    (hq0 : w.cell? ⟨q0, 0, none⟩ = some (.slice (some ⟨g, off, none⟩) l.length cap)) (hq1 : w.cell? ⟨q1, 0, none⟩ = some (.pointer (some ⟨jb, 0, none⟩))) (hF0 : ¬ F q0) (hF1 : ¬ F q1) (hFg : ¬ F g) (hg : g < w.heap.size)
    (hc : ∀ j x, l[j]? = some x → WrCells w g (off + j * 2) x) (h40 : l.length ≤ 40) (hl1 : 1 ≤ l.length) (hw : ∀ x ∈ l, 0 ≤ x.cell ∧ x.cell < ((J.n - J.area : Nat) : Int) ∧ x.data.size ≤ 116)
    (hat2 : J.at' + 1 + l.length ≤ J.area) (hn : J.next < 4611686018427387904) :
    Calls Tryz.prog 54 #[.pointer (some ⟨jb, 0, none⟩), .func (.func 139) #[] #[.pointer (some ⟨q0, 0, none⟩), .pointer (some ⟨q1, 0, none⟩)]] w fun e w' => e = .returned (.int .i64 0) ∧ JOut w p b jb F (J.put l) w' := by
  obtain ⟨a, rfl, rfl, rfl, h4, h5, dt, hj, hok, hdt⟩ := h
  have hlt := hj.dev.lt
  refine (face_any w a.jb _ hj.cells rfl 139 (enters_of Tryz.func139 (by kernel_rfl) rfl) #[.pointer (some ⟨q0, 0, none⟩), .pointer (some ⟨q1, 0, none⟩)] a.R
    (fun w' => JAt w' a.p a.b a.jb (fun q => F q ∨ (w.heap.size + 2 ≤ q ∧ q < w'.heap.size)) (J.put l)) (fun q hq => hlt q (hj.dev.sub q hq)) (fun w2 hb2 hz2 => ?_)).mono ?_
  · have hgl : g < w2.heap.size := by omega
    refine (commit1_any w2 a F J.V J.S dt J.head J.first J.next J.at' J.C (hj.later hb2) q0 q1 g off cap l (LJ.cell hb2 hq0) (LJ.cell hb2 hq1) hF0 hF1 hFg hgl (fun j x hx => ⟨LJ.cell hb2 (hc j x hx).1, LJ.cell hb2 (hc j x hx).2⟩) h40 hl1 (by rw [h4, h5]; exact hw) (by rw [h5]; exact hat2) (by rw [h4, h5]; exact Nat.le_of_lt hok.arean) hn).mono ?_
    rintro e w' ⟨rfl, hj', ho⟩
    have hne : l ≠ [] := by intro e; rw [e] at hl1; simp at hl1
    refine ⟨rfl, ⟨a, rfl, rfl, rfl, h4, h5, true, ?_, Jn.put_ok hok hne h40 hat2 hw hn, fun e => ?_⟩, ho⟩
    · have e2 : grow F w2 w' = fun q => F q ∨ (w.heap.size + 2 ≤ q ∧ q < w'.heap.size) := by unfold grow; rw [hz2]
      rw [← e2]
      exact hj'
    · have e' : J.first = J.next + 1 := e
      have := hok.fn
      omega
  · rintro e w' ⟨rfl, hf⟩
    exact ⟨rfl, JAt.face hlt hj.dev.sub hf⟩
/-- What Commit makes of a journal, where it may. -/
def Jn.commit (J : Jn) (l : List Wr) : Jn := if J.area < J.at' + 1 + l.length then J.home.put l else J.put l
theorem JOut.comp {w w1 w2 : World} {p b jb : Nat} {F : Nat → Prop} {J : Jn} (h : JOut w1 p b jb (grow F w w1) J w2) (h1 : OnlyJ F w w1) (hF : ∀ q, F q → q < w.heap.size) : JOut w p b jb F J w2 := by
  have s1 := h1.size
  have s2 := h.2.size
  refine ⟨h.1.kept (Nat.le_refl _) (fun _ _ => rfl) (grow_grow s1 s2) (grow_lt hF (by omega)), ⟨h.2.os.trans h1.os, h.2.tape.trans h1.tape, h.2.output.trans h1.output, by omega, fun q hq hne => (h.2.block q (by omega) (fun e => ?_)).trans (h1.block q hq hne)⟩⟩
  rcases e with e | e
  · exact hne e
  · omega
set_option maxRecDepth 100000 in
set_option maxHeartbeats 4000000 in
theorem commit_none (w : World) (p b jb : Nat) (F : Nat → Prop) (J : Jn) (h : JAt w p b jb F J) (q : Option Addr) (cap : Nat) :
    Calls Tryz.prog 74 #[.pointer (some ⟨jb, 0, none⟩), .slice q 0 cap] w fun e w' => e = .returned (.int .i64 0) ∧ JOut w p b jb F J w' := by
  have hJ := h
  obtain ⟨a, rfl, rfl, rfl, h4, h5, dt, hj, hok, hdt⟩ := h
  obtain ⟨w1, hw1⟩ : ∃ w1, (w.alloc (.cells #[.pointer (some ⟨a.jb, 0, none⟩)] 34)).alloc (.cells #[.slice q 0 cap] 131) = w1 := ⟨_, rfl⟩
  have hl1 : LJ w w1 := by rw [← hw1]; exact ((LJ.refl w).alloc _).alloc _
  have x1 : w1.cell? ⟨w.heap.size, 0, none⟩ = some (.pointer (some ⟨a.jb, 0, none⟩)) := by
    rw [← hw1]; exact LJ.cell ((LJ.refl _).alloc _) (cell_blk (alloc_blk w _) 0)
  have x0 : w1.cell? ⟨w.heap.size + 1, 0, none⟩ = some (.slice q 0 cap) := by
    have := alloc_blk (w.alloc (.cells #[.pointer (some ⟨a.jb, 0, none⟩)] 34)) (.cells #[.slice q 0 cap] 131)
    rw [World.size_alloc, hw1] at this
    exact cell_blk this 0
  have c7 : w1.cell? ⟨a.jb, 7, none⟩ = some (.bool false) := cell_blk (hj.later hl1).cells 7
  have HEND := Lib.hid (show JOut w a.p a.b a.jb F J w1 from ⟨(hJ.later hl1).kept (Nat.le_refl _) (fun _ _ => rfl) grow_sub (grow_lt hj.dev.lt (Below.size hl1)), OnlyJ.of_below hl1⟩)
  have HW1 := Lib.hid hw1
  clear hj hok hdt hJ hl1 hw1
  go_enter Tryz.func74, Tryz.ntmps74
  go_upto_region 1 with fail
  rw [HW1.out]
  go_wp2_with fail
  go_ret
  exact ⟨rfl, HEND.out⟩
set_option maxRecDepth 100000 in
set_option maxHeartbeats 4000000 in
theorem commit_some (w : World) (p b jb : Nat) (F : Nat → Prop) (J : Jn) (h : JAt w p b jb F J) (hh : J.head < 4611686018427387904) (hn : J.next < 4611686018427387904) (g off cap : Nat) (l : List Wr) (hl1 : 1 ≤ l.length) (hx : l.length ≤ 140737488355328) (hcp : l.length ≤ cap) (hg : g < w.heap.size) (hFg : ¬ F g) (hc : ∀ j x, l[j]? = some x → WrCells w g (off + j * 2) x)
    (hsz : ∀ x ∈ l, x.data.size ≤ 9223372036854775807) :
    Calls Tryz.prog 74 #[.pointer (some ⟨jb, 0, none⟩), .slice (some ⟨g, off, none⟩) l.length cap] w fun e w' => e = .returned (.int .i64 (mayI (J.n - J.area) J.area l)) ∧ JOut w p b jb F (if mayI (J.n - J.area) J.area l = 0 then J.commit l else J) w' := by
  have hJ := h
  obtain ⟨a, rfl, rfl, rfl, h4, h5, dt, hj, hok, hdt⟩ := h
  have hlt := hj.dev.lt
  obtain ⟨w1, hw1⟩ : ∃ w1, (w.alloc (.cells #[.pointer (some ⟨a.jb, 0, none⟩)] 34)).alloc (.cells #[.slice (some ⟨g, off, none⟩) l.length cap] 131) = w1 := ⟨_, rfl⟩
  have hlj1 : LJ w w1 := by rw [← hw1]; exact ((LJ.refl w).alloc _).alloc _
  have hz1 : w1.heap.size = w.heap.size + 1 + 1 := by rw [← hw1]; simp
  have x1 : w1.cell? ⟨w.heap.size, 0, none⟩ = some (.pointer (some ⟨a.jb, 0, none⟩)) := by
    rw [← hw1]; exact LJ.cell ((LJ.refl _).alloc _) (cell_blk (alloc_blk w _) 0)
  have x0 : w1.cell? ⟨w.heap.size + 1, 0, none⟩ = some (.slice (some ⟨g, off, none⟩) l.length cap) := by
    have := alloc_blk (w.alloc (.cells #[.pointer (some ⟨a.jb, 0, none⟩)] 34)) (.cells #[.slice (some ⟨g, off, none⟩) l.length cap] 131)
    rw [World.size_alloc, hw1] at this
    exact cell_blk this 0
  have hcl : ∀ W, LJ w W → ∀ j x, l[j]? = some x → WrCells W g (off + j * 2) x := fun W hW j x hx => ⟨LJ.cell hW (hc j x hx).1, LJ.cell hW (hc j x hx).2⟩
  have HMAY := Lib.hid (may_any w1 a.p a.b a.jb F J (hJ.later hlj1) hn g off cap l hl1 hx hcp (by omega) (hcl w1 hlj1) hsz)
  have c7 : w1.cell? ⟨a.jb, 7, none⟩ = some (.bool false) := cell_blk (hj.later hlj1).cells 7
  have hnj1 : w1.cell? ⟨a.jb, 5, none⟩ = some (.int .i64 J.at') := cell_blk (hj.later hlj1).cells 5
  have hnj2 : w1.cell? ⟨a.jb, 1, none⟩ = some (.int .i64 J.area) := by rw [← h5]; exact cell_blk (hj.later hlj1).cells 1
  have hmy := may_ok (n := J.n - J.area) (area := J.area) (l := l)
  have HW1 := Lib.hid hw1
  have HL1 := Lib.hid hlj1
  have HJ := Lib.hid hJ
  have HLT := Lib.hid hlt
  have HOK := Lib.hid hok
  have HNX := Lib.hid (And.intro hh hn)
  have HCL := Lib.hid hcl
  have HFG := Lib.hid hFg
  have HMY := Lib.hid hmy
  have HZ1 := Lib.hid hz1
  obtain ⟨n, hnn⟩ : ∃ n, l.length = n := ⟨_, rfl⟩
  have HN := Lib.hid hnn
  rw [hnn] at HMAY x0 hl1 hcp HW1 ⊢
  have g0 : ((n : Int) == 0) = false := by simp; omega
  have g0' : ¬ n = 0 := by omega
  obtain ⟨ec, hec⟩ : ∃ ec, mayI (J.n - J.area) J.area l = ec := ⟨_, rfl⟩
  rw [hec] at HMAY HMY ⊢
  have HEC := Lib.hid hec
  have hg1 : g < w.heap.size := hg
  have h5a := h5
  clear hj hok hdt hJ hlj1 hw1 hlt hc hsz hcl hFg hmy hh hn hx hz1 hnn hec h5 h4
  by_cases he0 : ec = 0
  · subst he0
    rw [if_pos rfl]
    obtain ⟨m40, mar, mw⟩ := HMY.out rfl
    rw [HN.out] at m40 mar
    have ha12 := HOK.out.n12
    have har := HOK.out.arean
    have hatA := HOK.out.atA
    have hwr1 : IntKind.i64.wrap ((J.at' : Int) + 1) = (J.at' : Int) + 1 := by rw [IntKind.wrap_i64]; omega
    have hwr2 : IntKind.i64.wrap ((J.at' : Int) + 1 + (n : Int)) = (J.at' : Int) + 1 + (n : Int) := by rw [IntKind.wrap_i64]; omega
    have HMW := Lib.hid mw
    clear mw
    unfold Jn.commit
    rw [HN.out]
    by_cases hfull : J.area < J.at' + 1 + n
    · rw [if_pos hfull]
      have gf : decide ((J.area : Int) < (J.at' : Int) + 1 + (n : Int)) = true := by simp; omega
      have hfn : J.first ≠ J.next := fun e => by have := (HOK.out.clean e).1; have := HOK.out.area4; omega
      have HCK : Hid (J.check = J.home) := Lib.hid (if_neg hfn)
      have hp3 : 3 + n ≤ J.area := by have := HOK.out.area4; omega
      clear mar hfn
      go_enter Tryz.func74, Tryz.ntmps74
      go_upto_region 1 with fail
      rw [HW1.out]
      go_upto_region 8 with (first
        | (go_at_call 137; (with_reducible refine HMAY.out.mono ?_); rintro e w2 ⟨rfl, hl2⟩; have HL2 := Lib.hid hl2; have y1 := LJ.cell hl2 x1; have y0 := LJ.cell hl2 x0; have y5 := LJ.cell hl2 hnj1; have y6 := LJ.cell hl2 hnj2; clear hl2)
        | fail)
      clear x1 x0 hnj1 hnj2 c7
      go_quiet (fail)
      have hlq : LJ w (w2.drewN nq) := (HL1.out.trans HL2.out).drewN nq
      have z1 : (w2.drewN nq).cell? ⟨w.heap.size, 0, none⟩ = some (.pointer (some ⟨a.jb, 0, none⟩)) := y1
      have z0 : (w2.drewN nq).cell? ⟨w.heap.size + 1, 0, none⟩ = some (.slice (some ⟨g, off, none⟩) n cap) := y0
      obtain ⟨wq, hwq⟩ : ∃ wq, w2.drewN nq = wq := ⟨_, rfl⟩
      rw [hwq] at hlq z1 z0 ⊢
      have hsq : w1.heap.size ≤ wq.heap.size := by rw [← hwq]; exact Below.size (HL2.out.drewN nq)
      have HZQ := Lib.hid (show w.heap.size + 2 ≤ wq.heap.size by have := HZ1.out; omega)
      have HLQ := Lib.hid hlq
      have HCP := Lib.hid (ckpt_any wq a.p a.b a.jb F J (HJ.out.later hlq) HNX.out.1 (Nat.le_of_lt HNX.out.2))
      rw [HCK.out] at HCP
      clear y1 y0 y5 y6 hwq hlq hsq
      go_upto_region 12 with (first
        | (go_at_call 138; (with_reducible refine HCP.out.mono ?_); rintro e w3 ⟨rfl, hj3⟩; have HJ3 := Lib.hid hj3; clear hj3)
        | fail)
      have hb0 : w3.heap[w.heap.size]? = wq.heap[w.heap.size]? := HJ3.out.2.block _ (by have := HZQ.out; omega) (fun e => by have := HLT.out _ e; omega)
      have hb1 : w3.heap[w.heap.size + 1]? = wq.heap[w.heap.size + 1]? := HJ3.out.2.block _ (by have := HZQ.out; omega) (fun e => by have := HLT.out _ e; omega)
      have hbg : w3.heap[g]? = wq.heap[g]? := HJ3.out.2.block _ (by have := HZQ.out; omega) HFG.out
      have t1 := (World.cell?_of_block (a := ⟨w.heap.size, 0, none⟩) hb0).trans z1
      have t0 := (World.cell?_of_block (a := ⟨w.heap.size + 1, 0, none⟩) hb1).trans z0
      have hmf : ∀ (fn : Fn) (first cap : Array Value) (w : World), (Instr.makeFunc fn first cap).run Tryz.prog w = .ok (.func fn first cap) w := fun _ _ _ _ => rfl
      have HFC := Lib.hid (cface_any w3 a.p a.b a.jb (grow F wq w3) J.home HJ3.out.1 (w.heap.size + 1) w.heap.size g off cap l (by rw [HN.out]; exact t0) t1
        (grow_not (fun e => by have := HLT.out _ e; omega) (by have := HZQ.out; omega)) (grow_not (fun e => by have := HLT.out _ e; omega) (by have := HZQ.out; omega)) (grow_not HFG.out (by have := HZQ.out; omega)) (by have := HJ3.out.2.size; have := HZQ.out; omega)
        (fun i x hx => (HCL.out wq HLQ.out i x hx).kept hbg) (by rw [HN.out]; exact m40) (by rw [HN.out]; exact hl1) HMW.out (by rw [HN.out]; show 2 + 1 + n ≤ J.area; omega) HNX.out.2)
      clear z1 z0 hb0 hb1 hbg t0
      go_wp2_with (first
        | (go_at_call 54; (with_reducible refine HFC.out.mono ?_); rintro e w4 ⟨rfl, hj4⟩)
        | fail)
      go_ret
      exact ⟨rfl, (JOut.comp hj4 HJ3.out.2 (fun q hq => by have := HLT.out q hq; have := HZQ.out; omega)).from HLQ.out HLT.out⟩
    · rw [if_neg hfull]
      have gf : decide ((J.area : Int) < (J.at' : Int) + 1 + (n : Int)) = false := by simp; omega
      go_enter Tryz.func74, Tryz.ntmps74
      go_upto_region 1 with fail
      rw [HW1.out]
      go_upto_region 8 with (first
        | (go_at_call 137; (with_reducible refine HMAY.out.mono ?_); rintro e w2 ⟨rfl, hl2⟩; have HL2 := Lib.hid hl2; have y1 := LJ.cell hl2 x1; have y0 := LJ.cell hl2 x0; have y5 := LJ.cell hl2 hnj1; have y6 := LJ.cell hl2 hnj2; clear hl2)
        | fail)
      clear x1 x0 hnj1 hnj2 c7
      go_quiet (fail)
      have hlq : LJ w (w2.drewN nq) := (HL1.out.trans HL2.out).drewN nq
      have z1 : (w2.drewN nq).cell? ⟨w.heap.size, 0, none⟩ = some (.pointer (some ⟨a.jb, 0, none⟩)) := y1
      have z0 : (w2.drewN nq).cell? ⟨w.heap.size + 1, 0, none⟩ = some (.slice (some ⟨g, off, none⟩) n cap) := y0
      obtain ⟨wq, hwq⟩ : ∃ wq, w2.drewN nq = wq := ⟨_, rfl⟩
      rw [hwq] at hlq z1 z0 ⊢
      have hsq : w1.heap.size ≤ wq.heap.size := by rw [← hwq]; exact Below.size (HL2.out.drewN nq)
      have HLQ := Lib.hid hlq
      have hmf : ∀ (fn : Fn) (first cap : Array Value) (w : World), (Instr.makeFunc fn first cap).run Tryz.prog w = .ok (.func fn first cap) w := fun _ _ _ _ => rfl
      have HFC := Lib.hid (cface_any wq a.p a.b a.jb F J (HJ.out.later hlq) (w.heap.size + 1) w.heap.size g off cap l (by rw [HN.out]; exact z0) z1 (fun e => by have := HLT.out _ e; omega) (fun e => by have := HLT.out _ e; omega) HFG.out (by have := HZ1.out; omega)
        (HCL.out wq hlq) (by rw [HN.out]; exact m40) (by rw [HN.out]; exact hl1) HMW.out (by rw [HN.out]; omega) HNX.out.2)
      clear y1 y0 y5 y6 hwq hlq z0
      go_wp2_with (first
        | (go_at_call 54; (with_reducible refine HFC.out.mono ?_); rintro e w4 ⟨rfl, hj4⟩)
        | fail)
      go_ret
      exact ⟨rfl, hj4.from HLQ.out HLT.out⟩
  · rw [if_neg he0]
    have ge : (ec == 0) = false := by simpa using he0
    have ge' : (ec != 0) = true := by simpa using he0
    go_enter Tryz.func74, Tryz.ntmps74
    go_upto_region 1 with fail
    rw [HW1.out]
    go_wp2_with (first
      | (go_at_call 137; (with_reducible refine HMAY.out.mono ?_); rintro e w2 ⟨rfl, hl2⟩; have HL2 := Lib.hid hl2; clear hl2)
      | fail)
    go_ret
    have hl := HL1.out.trans HL2.out
    exact ⟨rfl, (HJ.out.later hl).kept (Nat.le_refl _) (fun _ _ => rfl) grow_sub (grow_lt HLT.out (Below.size hl)), OnlyJ.of_below hl⟩
end Go.Proofs.YtfpbocjmlhcgiaaGreatDoor
