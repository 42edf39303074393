/- The walks of Nothing and Is. -/
import Derived.Test.YtaelkjffidjcjaaDoorNew
set_option linter.unusedSimpArgs false
set_option linter.unusedVariables false
namespace Go.Proofs.YtaelkjffidjcjaaDoor
open Go.RowKit PX

theorem wpList_load_at {P : Program} {ops : Array Oper} {rest : List Oper} {o : Oper} {a : Act} {w : World} {Q : Exit → Act → World → Prop} (hgd : o.guard = none) (ty : TypeId) (x : Operand) (ho : o.op = .load ty x)
    (g j0 : Nat) (hx : a.eval x = .pointer (some ⟨g, j0, none⟩)) (cs : Array Value) (d : TypeDesc) (hc : ∀ j v, cs[j]? = some v → w.cell? ⟨g, j0 + j, none⟩ = some v)
    (hu : P.underlying ty = some d) (hd : (match d with | .struct _ | .array _ _ => true | _ => false) = true) (hi : (P.info? ty).map (·.size) = some cs.size)
    (h : wpList P ops Q rest (a.put o.dst (.agg cs)) w) : wpList P ops Q (o :: rest) a w := by
  refine wpList_plain hgd fun K hK => ?_
  have hl : (loadCells ⟨g, j0, none⟩ cs.toList.length).run P w = .ok cs.toList.toArray w :=
    run_loadCells_list (P := P) w ⟨g, j0, none⟩ cs.toList (fun j v hv => by
      have hadd : (⟨g, j0, none⟩ : Addr).add j = ⟨g, j0 + j, none⟩ := by unfold Addr.add; split <;> simp_all
      rw [hadd]
      exact hc j v (by simpa using hv))
  have hload : (loadVar ty ⟨g, j0, none⟩).run P w = .ok (.agg cs) w := by
    cases hq : P.info? ty with
    | none => simp [hq] at hi
    | some i =>
      have hs : i.size = cs.size := by simpa [hq] using hi
      have hagg : (isAgg ty).run P w = .ok true w := by
        unfold isAgg
        rw [Sem.run_bind, run_underlying hu w]
        cases d <;> simp_all
      simp only [Array.length_toList, Array.toArray_toList] at hl
      simp [loadVar, Sem.run_bind, hagg, sizeOf, typeInfo, hq, hs, hl]
  unfold Oper.wp execOp
  simp only [ho, hx, Instr.loadAt, Instr.sureAddr, Sem.run_bind, Sem.run_pure, Result.andThen_ok, hload]
  exact hK _ _ h

theorem TabAt.below {w w' : World} {tab : List Nat} (h : TabAt 0 tab w) (hb : Below w.heap.size w w') : TabAt 0 tab w' := fun j hj => by
  have h1 := h j hj
  exact (hb.cell (p := ⟨0, j, none⟩) (World.block_lt_of_cell? _ _ h1)).trans h1

theorem Machine.lt {w : World} {p : Nat} {x : Rx} (h : Machine w p x) : p < w.heap.size := by
  obtain ⟨v, ws, hp, -⟩ := h.ex
  exact lt_of_block hp
theorem Machine.below {w w' : World} {p : Nat} {x : Rx} (h : Machine w p x) (hb : Below w.heap.size w w') : Machine w' p x := by
  have hlt := h.lt
  obtain ⟨v, ws, hp, hv, hw, hs⟩ := h.ex
  exact ⟨h.form, h.ok, h.size, v, ws, by rw [hb.block p hlt]; exact hp, hv.only (r := fun _ => False) (Only.of_below hb) (fun _ _ h => h), hw, hs⟩

theorem bits_eq {G : List St} {f : Nat} {ws : List Int} (h : ∀ i, bitW ws i = true ↔ Eps G f i) : (fun i => bitW ws i = true) = Eps G f := funext fun i => propext (h i)

set_option maxRecDepth 100000 in
set_option maxHeartbeats 2000000 in
/-- Nothing: is the empty text in the language? -/
theorem nothing_any (w : World) (p : Nat) (x : Rx) (h : Machine w p x) :
    Calls Tryd.prog 18 #[.pointer (some ⟨p, 0, none⟩)] w fun e w' => ∃ r : Bool, e = .returned (.bool r) ∧ (r = true ↔ x.lang []) ∧ Below w.heap.size w w' := by
  have hml := x.machine_lang h.form []
  obtain ⟨v, ws, hp, hv, hw, hs⟩ := h.ex
  have hr : bitW ws 0 = true ↔ x.lang [] := by
    rw [← hml, hs 0]; rfl
  obtain ⟨CS, HCS⟩ : ∃ CS, Hid ((wv ws).toArray = CS) := ⟨_, rfl⟩
  have HSZ := Lib.hid (show (Tryd.prog.info? 66).map (·.size) = some CS.size by rw [show CS.size = 12 by rw [← HCS.out]; simp [wv, hw.len]]; exact info_many)
  have HC := Lib.hid (show ∀ j u, CS[j]? = some u → w.cell? ⟨p, 1 + j, none⟩ = some u by
    intro j u hj
    rw [cell_of_block hp, List.getElem?_toArray, Nat.add_comm, List.getElem?_cons_succ, ← List.getElem?_toArray, HCS.out]
    exact hj)
  have hd := done_any w ws hw
  rw [HCS.out] at hd
  have HD := Lib.hid hd; clear hd hp
  go_enter Tryd.func18, Tryd.ntmps18
  go_wp2_with (first
    | refine wpList_load_at rfl 66 (.tmp 5) rfl p 1 rfl CS _ HC.out Tryd.underlying66 rfl HSZ.out ?_
    | (go_at_call 43; refine HD.out.mono ?_; rintro e w1 ⟨rfl, hb1⟩))
  go_ret
  exact ⟨_, rfl, hr, hb1⟩
end Go.Proofs.YtaelkjffidjcjaaDoor
