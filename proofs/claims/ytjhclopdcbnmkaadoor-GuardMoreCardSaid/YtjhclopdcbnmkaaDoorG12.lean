/- GuardMore: rules put behind rules, as they lie in memory. -/
import Derived.Test.YtjhclopdcbnmkaaDoorG10b
import Derived.Maps.AppendAt
set_option linter.unusedSimpArgs false
set_option linter.unusedVariables false
namespace Go.Proofs.YtjhclopdcbnmkaaDoor
open Go.RowKit PX

theorem info_rul : (Tryd.prog.info? 50).map (fun i => (i.zero, i.size, i.bytes)) = some (some (.agg #[.int .i64 0, .int .i64 0, .int .i64 0, .string ⟨#[]⟩, .string ⟨#[]⟩]), 5, 56) := by kernel_rfl
/-- An empty row of the call's own. -/
theorem own_empty {w : World} {base g : Nat} (h : w.heap[g]? = some (.cells #[] 50 (0, 0))) (hg : base ≤ g) : w.ownsRow base 50 5 (.slice (some ⟨g, 0, none⟩) 0 0) ([] : List RuV).length (ruCells []) :=
  ⟨rfl, .inr ⟨g, 0, #[], rfl, hg, h, Nat.le_refl _, by unfold maxLen; omega, rfl, rfl⟩⟩
theorem ruCells_app (l m : List RuV) : ruCells (l ++ m) = ruCells l ++ ruCells m := by simp [ruCells]
theorem ruCells_one (l : List RuV) : ∀ u ∈ ruCells l, u.oneCell' = true := by
  intro u hu
  unfold ruCells at hu
  rw [List.mem_flatMap] at hu
  obtain ⟨r, -, hr⟩ := hu
  simp only [RuV.cells, List.mem_cons, List.not_mem_nil, or_false] at hr
  rcases hr with rfl | rfl | rfl | rfl | rfl <;> rfl
/-- Rules that lie somewhere are put behind a row of the call's own. -/
theorem run_rules_onto (w : World) (base : Nat) (ty : TypeId) (v : Value) (ol l : List RuV) (hown : w.ownsRow base 50 5 v ol.length (ruCells ol)) (A : Option Addr) (c : Nat) (hin : RulesIn w A c l)
    (hm : (ol.length + l.length) * 56 ≤ 140737488355328) (hbase : base ≤ w.heap.size) :
    ∃ v' w', (Builtin.append_ #[42, 42] ty #[v, .slice A l.length c]).run Tryd.prog w = .ok v' w' ∧ w'.ownsRow base 50 5 v' (ol ++ l).length (ruCells (ol ++ l)) ∧ w.grownBy w' v.ownBlock ∧ (v'.ownBlock = v.ownBlock ∨ v'.ownBlock = some w.heap.size) := by
  obtain ⟨iR, hiR, hz0, hz1, hz2⟩ := info_parts info_rul
  rw [ruCells_app, List.length_append]
  cases A with
  | none =>
    have hl : l = [] := by
      rcases hin.2.2 with h | ⟨b, o, h, -⟩
      · exact h
      · cases h
    subst hl
    refine ⟨v, w, ?_, by simpa [ruCells] using hown, World.grownBy.refl w _, .inl rfl⟩
    rcases hown.2 with ⟨rfl, h0⟩ | ⟨g, cap, cur, rfl, -, -, hnc, -⟩
    · simp [Builtin.append_, run_underlying Tryd.underlying42, sizeOf, typeInfo, hiR, Builtin.lenOf, Builtin.firstCells]
    · simp [Builtin.append_, run_underlying Tryd.underlying42, sizeOf, typeInfo, hiR, Builtin.lenOf, Builtin.firstCells, hnc, storeCells]
  | some ad =>
    have hcells : ∀ j u, (ruCells l)[j]? = some u → w.cell? (ad.add j) = some u := by
      clear hm hown hbase
      intro j u hu
      have hj : j < l.length * 5 := by
        have := (List.getElem?_eq_some_iff.1 hu).1
        rw [ruCells_length] at this
        exact this
      rcases hin.2.2 with h | ⟨b, o, h, -, hc⟩
      · subst h; simp at hj
      · rw [Option.some.inj h]
        have hi : j / 5 < l.length := Nat.div_lt_of_lt_mul (by rw [Nat.mul_comm]; exact hj)
        have h5 : j % 5 < 5 := Nat.mod_lt _ (by decide)
        have e1 : j / 5 * 5 + j % 5 = j := by omega
        have e := hc (j / 5) hi (j % 5) h5
        rw [← ruCells_get l (j / 5) hi (j % 5) h5, Nat.add_assoc, e1, hu] at e
        rw [addr_add_none]
        exact e
    obtain ⟨v', w', hrun, h2, h3, -, h5⟩ := run_append_own_at (P := Tryd.prog) w base 42 ty 50 iR _ 5 56 Tryd.underlying42 hiR hz0 hz1 hz2 rfl (by decide) v ol.length (ruCells ol) hown ad l.length c (ruCells l) (ruCells_length l) hcells (ruCells_one l) (by unfold maxLen; omega) hm hbase
    exact ⟨v', w', hrun, h2, h3, h5⟩
theorem step_rules_onto {w W0 : World} {ops : Array Oper} {o : Oper} {a : Act} {K : Act → World → Prop} {Q : Exit → Act → World → Prop} {E : Prop} (hgd : o.guard = none) (s x : Operand)
    (ho : o.op = .call { callee := .builtin .append, args := #[s, x], argTypes := #[42, 42] })
    (hl : Later W0 w) (v : Value) (ol l : List RuV) (hs : a.eval s = v) (hown : w.ownsRow W0.heap.size 50 5 v ol.length (ruCells ol)) (A : Option Addr) (m c : Nat) (hlm : l.length = m) (hx : a.eval x = .slice A m c) (hin : RulesIn w A c l)
    (hm : (ol.length + l.length) * 56 ≤ 140737488355328)
    (h : ∀ v' w', w'.ownsRow W0.heap.size 50 5 v' (ol ++ l).length (ruCells (ol ++ l)) → Later W0 w' → (∀ q o, w.heap[q]? = some o → v.ownBlock ≠ some q → w'.heap[q]? = some o) → K (a.put o.dst v') w') :
    if Region.wanted o (yielded ops a.tmps) = true then Oper.wp Tryd.prog o a w K Q else E := by
  have hw : Region.wanted o (yielded ops a.tmps) = true := by simp [Region.wanted, hgd]
  rw [if_pos hw]
  subst hlm
  obtain ⟨v', w', hrun, h2, h3, h4⟩ := run_rules_onto w W0.heap.size o.type v ol l hown A c hin hm (Below.size hl)
  unfold Oper.wp execOp
  simp only [ho, resolve, invoke, builtin, Sem.run_bind, Sem.run_pure, Result.andThen_ok, List.map_toArray, List.map_cons, List.map_nil, hs, hx, hrun]
  refine h v' w' h2 (Below.grown hl h3 (Below.size hl) (fun q hq => (hown.lt q hq).1)) (fun q o hq hne => ?_)
  rw [h3.block q (lt_of_block hq) (fun e => hne e.symm)]
  exact hq
/-- One rule in a block of its own. -/
theorem rule_block {w : World} {g : Nat} {r : RuV} (h : w.heap[g]? = some (.cells #[.int .i64 r.fr, .int .i64 r.tu, .int .i64 r.act, .string r.pat, .string r.wth] 50 (0, 0))) : RulesIn w (some ⟨g, 0, none⟩) 1 [r] := by
  refine ⟨Nat.le_refl _, by omega, .inr ⟨g, 0, rfl, lt_of_block h, fun i hi j hj => ?_⟩⟩
  rw [cell_of_block h]
  have hi3 : i < 1 := hi
  obtain rfl : i = 0 := by omega
  rcases (by omega : j = 0 ∨ j = 1 ∨ j = 2 ∨ j = 3 ∨ j = 4) with rfl | rfl | rfl | rfl | rfl <;> rfl
end Go.Proofs.YtjhclopdcbnmkaaDoor
