/- The walk of Clone. -/
import Derived.Test.YtaelkjffidjcjaaDoorM2
import Derived.Deep.RegionHeld3
import Derived.Deep.AppendLies
set_option linter.unusedSimpArgs false
set_option linter.unusedVariables false
namespace Go.Proofs.YtaelkjffidjcjaaDoor
open Go.RowKit PX

theorem flat7 : ∀ g : List St, (g.flatMap stCells).length = g.length * 7
  | [] => rfl
  | x :: g => by
    have := flat7 g
    simp only [List.flatMap_cons, List.length_append, List.length_cons, this, stCells, List.length_nil]
    omega
theorem flat7_get : ∀ (l : List St) (i : Nat) (st : St), l[i]? = some st → ∀ j, j < 7 → (l.flatMap stCells)[i * 7 + j]? = (stCells st)[j]?
  | x :: l, 0, st, h, j, hj => by
    simp only [List.getElem?_cons_zero, Option.some.injEq] at h
    subst h
    simp only [List.flatMap_cons, Nat.zero_mul, Nat.zero_add]
    rw [List.getElem?_append_left (by simp only [stCells, List.length_cons, List.length_nil]; omega)]
  | x :: l, i + 1, st, h, j, hj => by
    simp only [List.getElem?_cons_succ] at h
    have := flat7_get l i st h j hj
    simp only [List.flatMap_cons]
    have e : (stCells x).length = 7 := rfl
    rw [List.getElem?_append_right (by omega), e, show (i + 1) * 7 + j - 7 = i * 7 + j by omega]
    exact this

theorem list12 {α : Type} {l : List α} (h : l.length = 12) : ∃ a0 a1 a2 a3 a4 a5 a6 a7 a8 a9 a10 a11, l = [a0, a1, a2, a3, a4, a5, a6, a7, a8, a9, a10, a11] := by
  match l, h with
  | [a0, a1, a2, a3, a4, a5, a6, a7, a8, a9, a10, a11], _ => exact ⟨a0, a1, a2, a3, a4, a5, a6, a7, a8, a9, a10, a11, rfl⟩

set_option maxRecDepth 100000 in
set_option maxHeartbeats 2000000 in
theorem clone_any (w : World) (p : Nat) (x : Rx) (h : MX w p x) : Calls Tryd.prog 25 #[.pointer (some ⟨p, 0, none⟩)] w fun e w' => ∃ q, e = .returned (.pointer (some ⟨q, 0, none⟩)) ∧ Later w w' ∧ MX w' q x := by
  obtain ⟨v, ws, hp, hv, hw, hb⟩ := h.m.ex
  obtain ⟨gb, cap, rfl, hc1, hc2, hst⟩ := hv.ex
  obtain ⟨i0, hi, hz0, hz1, hz2⟩ := info_parts info_state
  obtain ⟨g, hg⟩ : ∃ g, x.machine.1 = g := ⟨_, rfl⟩
  have hfew := h.m.few
  have hlen1 := (x.machine_ok h.m.form).2.2.1
  rw [hg] at hst hc1 hp hfew hlen1
  have hu := Tryd.underlying66
  obtain ⟨WL, hWL⟩ : ∃ WL, wv ws = WL := ⟨_, rfl⟩
  have hin : (Tryd.prog.info? 66).map (·.size) = some WL.length := by rw [← hWL, ← List.size_toArray]; exact wvInfo hw
  rw [hWL] at hp
  have t0 : w.cell? ⟨p, 0, none⟩ = some (.slice (some ⟨gb, 0, none⟩) g.length cap) := by rw [cell_of_block hp]; rfl
  have t1 : w.rangeAt p 1 WL := fun j v hv => by
    rw [cell_of_block hp, List.getElem?_toArray, show 1 + j = j + 1 by omega, List.getElem?_cons_succ]; exact hv
  have hplt := lt_of_block hp
  obtain ⟨FL, hFL⟩ : ∃ FL, g.flatMap stCells = FL := ⟨_, rfl⟩
  have hfl : FL.length = g.length * 7 := by rw [← hFL]; exact flat7 g
  have hnews : ∀ j u, FL[j]? = some u → w.cell? ⟨gb, j, none⟩ = some u := fun j u hu => by
    have hj : j < g.length * 7 := by rw [← hfl]; exact (List.getElem?_eq_some_iff.1 hu).1
    have hi7 : j / 7 < g.length := by omega
    have h1 := hst (j / 7) g[j / 7] (List.getElem?_eq_getElem hi7) (j % 7) (by omega)
    rw [show j / 7 * 7 + j % 7 = j by omega] at h1
    rw [h1, ← hu, ← hFL]
    have := flat7_get g (j / 7) _ (List.getElem?_eq_getElem hi7) (j % 7) (by omega)
    rw [show j / 7 * 7 + j % 7 = j by omega] at this
    exact this.symm
  obtain ⟨W1, hW1⟩ : ∃ W1, w.alloc (.cells #[] 63) = W1 := ⟨_, rfl⟩
  obtain ⟨n, hn⟩ : ∃ n, g.length = n := ⟨_, rfl⟩
  rw [hn] at t0 hfl hc1 hfew hlen1
  have hown : ((w.alloc (.cells #[] 63)).drew).ownsRow w.heap.size 63 7 (.slice (some ⟨w.heap.size, 0, none⟩) 0 0) 0 [] := ⟨rfl, .inr ⟨w.heap.size, 0, #[], rfl, Nat.le_refl _, alloc_block w _, Nat.le_refl _, by omega, by simp, rfl⟩⟩
  have hnw : ∀ j u, FL[j]? = some u → ((w.alloc (.cells #[] 63)).drew).cell? ((⟨gb, 0, none⟩ : Addr).add j) = some u := fun j u hu => by
    rw [Addr.add_mid, Nat.zero_add]
    exact ((Later.refl w).alloc _).drew.cell (hnews j u hu)
  have hone : ∀ u ∈ FL, u.oneCell' = true := fun u hu => by
    rw [← hFL] at hu
    obtain ⟨st, -, hst⟩ := List.mem_flatMap.1 hu
    simp only [stCells, List.mem_cons, List.not_mem_nil, or_false] at hst
    rcases hst with rfl | rfl | rfl | rfl | rfl | rfl | rfl <;> rfl
  have HOWN := Lib.hid hown
  have HNW := Lib.hid hnw
  have HONE := Lib.hid hone
  have HFL := Lib.hid hFL
  have HFLN := Lib.hid hfl
  have HWL := Lib.hid hWL
  have HN := Lib.hid hn
  have HG := Lib.hid hg
  have HH := Lib.hid h
  have HW := Lib.hid hw
  have HBB := Lib.hid hb
  have HPLT := Lib.hid hplt
  have hW12 : WL.length = 12 := by rw [← HWL.out]; simp [wv, HW.out.len]
  obtain ⟨a0, a1, a2, a3, a4, a5, a6, a7, a8, a9, a10, a11, hWe⟩ := list12 hW12
  subst hWe
  clear hown hnw hone hFL hfl hWL hn hg h hw hb hst hnews hW1 hv hplt hp hW12
  go_enter Tryd.func25, Tryd.ntmps25
  go_wp2_with fail
  go_region_held3 (fun w' => w'.cell? ⟨p, 0, none⟩ = some (.slice (some ⟨gb, 0, none⟩) n cap) ∧ w'.rangeAt p 1 [a0, a1, a2, a3, a4, a5, a6, a7, a8, a9, a10, a11])
    (first
      | exact ⟨t0, t1⟩
      | exact ⟨((Later.refl w).alloc _).drew.cell t0, World.rangeAt_alloc t1 _⟩
      | exact hkeep
      | exact ⟨((Later.refl w3).alloc _).cell hkeep.1, World.rangeAt_alloc hkeep.2 _⟩)
    ((refine step_append_lies _ (by rfl) _ _ _ (by rfl) w.heap.size 63 i0 _ 7 56 Tryd.underlying64 hi hz0 hz1 hz2 rfl (by decide) (.slice (some ⟨w.heap.size, 0, none⟩) 0 0) 0 [] (by rfl) HOWN.out ⟨gb, 0, none⟩ n cap FL (by rfl) HFLN.out HNW.out HONE.out (by omega) (by unfold maxLen; omega) (by omega) (by simp) _ rfl ?_
      intro g' cap' w3 hown3 hgrow hgat hglt
      have hl3 : Later w w3 := (((Later.refl w).alloc _).drew).grown hgrow (fun k hk => by have e : w.heap.size = k := Option.some.inj hk; omega)
      have hkeep : w3.cell? ⟨p, 0, none⟩ = some (.slice (some ⟨gb, 0, none⟩) n cap) ∧ w3.rangeAt p 1 [a0, a1, a2, a3, a4, a5, a6, a7, a8, a9, a10, a11] := ⟨hl3.cell t0, fun j v hv => hl3.cell (t1 j v hv)⟩))
  all_goals
    go_wp2_with fail
    go_ret
    simp only [Nat.zero_add, List.nil_append] at hown3
    have hl4 := hl3.alloc (.cells #[.slice (some ⟨g', 0, none⟩) n cap', a0, a1, a2, a3, a4, a5, a6, a7, a8, a9, a10, a11] 68)
    refine ⟨w3.heap.size, rfl, hl4, ⟨HH.out.m.form, HH.out.m.ok, HH.out.m.size, .slice (some ⟨g', 0, none⟩) n cap', ws, by rw [HWL.out]; exact alloc_block w3 _, ?_, HW.out, HBB.out⟩, TabAt.below HH.out.t hl4⟩
    rw [HG.out]
    obtain ⟨hc3, hc4⟩ : n ≤ cap' ∧ cap' ≤ maxLen := by
      rcases hown3.2 with ⟨h, -⟩ | ⟨_, _, _, h, -, -, h1, h2, -⟩
      · cases h
      · cases h; exact ⟨h1, h2⟩
    refine ⟨g', cap', by rw [HN.out], by rw [HN.out]; exact hc3, by unfold maxLen at hc4; omega, fun i st hi j hj => ?_⟩
    have hil : i < n := by rw [← HN.out]; exact (List.getElem?_eq_some_iff.1 hi).1
    have hown4 := hown3.alloc (.cells #[.slice (some ⟨g', 0, none⟩) n cap', a0, a1, a2, a3, a4, a5, a6, a7, a8, a9, a10, a11] 68)
    rw [hown4.cellAt (i * 7 + j) (by omega), ← HFL.out]
    exact flat7_get g i st hi j hj
end Go.Proofs.YtaelkjffidjcjaaDoor
