/- A drawn region whose operations leave the same values in whatever order: one step for each operation, no orders. -/
import Derived.Test.YtfpbocjmlhcgiaaGreatDoorJg13
import Derived.RegionTactic
import Derived.OrdersHeld
set_option linter.unusedSimpArgs false
set_option linter.unusedVariables false
namespace Go.Proofs.YtfpbocjmlhcgiaaGreatDoor
section
variable {P : Program} {ops : Array Oper} {Q : Exit → Act → World → Prop} {md : Region.Mode}

/-- The temporaries of those of 'rest' that have come up hold their values; all others are as they were. -/
structure FrameAt (ops : Array Oper) (rest : List Nat) (v : Nat → Value) (A : Act) (listed : Array Bool) (a : Act) : Prop where
  defers : a.defers = A.defers
  size : a.tmps.size = A.tmps.size
  yes : ∀ i ∈ rest, ∀ o d, ops[i]? = some o → o.dst = some d → listed.getD i false = true → a.tmps[d]? = some (v i)
  no : ∀ d, (∀ i ∈ rest, ∀ o, ops[i]? = some o → o.dst = some d → listed.getD i false = false) → a.tmps[d]? = A.tmps[d]?
def dstIs (ops : Array Oper) (i d : Nat) : Bool := match ops[i]? with | some o => o.dst == some d | none => false
def restApart (ops : Array Oper) (rest : List Nat) : Bool := rest.all fun i => rest.all fun j => i == j || (match (ops[i]?).bind (·.dst) with | some d => !dstIs ops j d | none => true)
def restIn (ops : Array Oper) (rest : List Nat) (n : Nat) : Bool := rest.all fun i => decide (i < ops.size) && (match (ops[i]?).bind (·.dst) with | some d => decide (d < n) | none => true)
theorem restApart_spec {rest : List Nat} (h : restApart ops rest = true) {i j : Nat} (hi : i ∈ rest) (hj : j ∈ rest) {oi oj : Oper} {d : Nat} (ei : ops[i]? = some oi) (ej : ops[j]? = some oj) (di : oi.dst = some d) (dj : oj.dst = some d) : i = j := by
  have := List.all_eq_true.1 (List.all_eq_true.1 h i hi) j hj
  rw [ei] at this
  simp [di, dstIs, ej, dj] at this
  exact this
theorem restIn_spec {rest : List Nat} {n : Nat} (h : restIn ops rest n = true) {i : Nat} (hi : i ∈ rest) : i < ops.size ∧ ∀ o d, ops[i]? = some o → o.dst = some d → d < n := by
  have := List.all_eq_true.1 h i hi
  rw [Bool.and_eq_true, decide_eq_true_eq] at this
  refine ⟨this.1, fun o d ho hd => ?_⟩
  have h2 := this.2
  rw [ho] at h2
  simpa [hd] using h2
theorem getD_set_at {l : Array Bool} {i : Nat} (h : i < l.size) : (l.setIfInBounds i true).getD i false = true := by
  simp [h]
theorem getD_set_off {l : Array Bool} {i j : Nat} (h : i ≠ j) (b : Bool) : (l.setIfInBounds i true).getD j b = l.getD j b := by
  simp [Array.getElem?_setIfInBounds_ne h]
theorem FrameAt.put {rest : List Nat} {v : Nat → Value} {A a : Act} {listed : Array Bool} (h : FrameAt ops rest v A listed a) (hA : restApart ops rest = true) (hI : restIn ops rest A.tmps.size = true) (hs : listed.size = ops.size)
    {i : Nat} (hi : i ∈ rest) {o : Oper} (ho : ops[i]? = some o) : FrameAt ops rest v A (listed.setIfInBounds i true) (a.put o.dst (v i)) := by
  have hlt := (restIn_spec hI hi).1
  cases hd : o.dst with
  | none =>
    refine ⟨h.defers, h.size, fun j hj oj d ej dj k => ?_, fun d k => h.no d fun j hj oj ej dj => ?_⟩
    · by_cases e : i = j
      · subst e; rw [ho] at ej; cases ej; rw [hd] at dj; cases dj
      · rw [getD_set_off e] at k; exact h.yes j hj oj d ej dj k
    · by_cases e : i = j
      · subst e; rw [ho] at ej; cases ej; rw [hd] at dj; cases dj
      · have := k j hj oj ej dj
        rwa [getD_set_off e] at this
  | some di =>
    have hdi := (restIn_spec hI hi).2 o di ho hd
    refine ⟨h.defers, by simp [Act.put, h.size], fun j hj oj d ej dj k => ?_, fun d k => ?_⟩
    · by_cases e : i = j
      · subst e
        rw [ho] at ej; cases ej
        rw [hd] at dj; cases dj
        simp [Act.put, h.size, hdi]
      · have hne : di ≠ d := fun e' => e (restApart_spec hA hi hj ho ej hd (by rw [dj, e']))
        rw [getD_set_off e] at k
        have := h.yes j hj oj d ej dj k
        simp only [Act.put]
        rw [Array.getElem?_setIfInBounds_ne hne]; exact this
    · have hne : di ≠ d := fun e' => by
        have := k i hi o ho (by rw [hd, e'])
        rw [getD_set_at (by omega)] at this; cases this
      simp only [Act.put]
      rw [Array.getElem?_setIfInBounds_ne hne]
      refine h.no d fun j hj oj ej dj => ?_
      have := k j hj oj ej dj
      by_cases e : i = j
      · subst e; rw [getD_set_at (by omega)] at this; cases this
      · rwa [getD_set_off e] at this
/-- Number i is taken first. -/
theorem tkT {S : World → Prop} {i : Nat} {oi : Oper} {v : Value} {fuel : Nat} {listed : Array Bool} {a : Act} {w : World} (hy : ∀ w, S w → (execOp a.eval oi).run P w = .ok (.value v) w) (hS : S w)
    (h : wpAnyH P md ops Q S fuel (listed.setIfInBounds i true) (a.put oi.dst v) w) (hi : ops[i]? = some oi := by rfl) (hs : Region.noSelect ops = true := by kernel_rfl) (hf : Region.free md ops listed i = true := by kernel_rfl)
    (hr : (Region.ready md ops listed).contains i = true := by kernel_rfl) (hQ : ∀ c a w, Q (.panic c) (a.put oi.dst v) w → Q (.panic c) a w := by exact fun _ _ _ h => h) (hw : Region.wanted oi (yielded ops a.tmps) = true := by rfl) :
    wpAnyH P md ops Q S (fuel + 1) listed a w := wpAnyH_take hi hs hf hr hQ (.inl ⟨hw, hy⟩) hS h
/-- .. its value found by the walk's own simplifier, what stands behind it in plain form. -/
theorem tkS (i : Nat) {S : World → Prop} {oi : Oper} {v : Value} {fuel : Nat} {listed l2 : Array Bool} {a a2 : Act} {w : World} (hS : S w)
    (h : wpAnyH P md ops Q S fuel l2 a2 w) (hi : ops[i]? = some oi := by rfl) (hs : Region.noSelect ops = true := by kernel_rfl) (hf : Region.free md ops listed i = true := by kernel_rfl)
    (hr : (Region.ready md ops listed).contains i = true := by kernel_rfl)
    (hy : ∀ w, S w → (execOp a.eval oi).run P w = .ok (.value v) w := by intro w hSw; (try dsimp only at hSw); go_simp; (try with_reducible rfl)) (hQ : ∀ c a w, Q (.panic c) (a.put oi.dst v) w → Q (.panic c) a w := by exact fun _ _ _ h => h)
    (hw : Region.wanted oi (yielded ops a.tmps) = true := by rfl)
    (h2 : listed.setIfInBounds i true = l2 := by (try simp only [Go.Act.put, List.getElem_toArray, List.getElem_cons_succ, List.getElem_cons_zero, List.setIfInBounds_toArray, List.set_cons_zero, List.set_cons_succ]); rfl) (h3 : a.put oi.dst v = a2 := by (try simp only [Go.Act.put, List.getElem_toArray, List.getElem_cons_succ, List.getElem_cons_zero, List.setIfInBounds_toArray, List.set_cons_zero, List.set_cons_succ]); rfl) :
    wpAnyH P md ops Q S (fuel + 1) listed a w := tkT hy hS (by rw [h2, h3]; exact h) hi hs hf hr hQ hw
/-- Number i is not wanted. -/
theorem tkU {S : World → Prop} {i : Nat} {oi : Oper} {fuel : Nat} {listed : Array Bool} {a : Act} {w : World} (hS : S w)
    (h : wpAnyH P md ops Q S fuel (listed.setIfInBounds i true) (a.put oi.dst undef) w) (hi : ops[i]? = some oi := by rfl) (hs : Region.noSelect ops = true := by kernel_rfl) (hf : Region.free md ops listed i = true := by kernel_rfl)
    (hr : (Region.ready md ops listed).contains i = true := by kernel_rfl) (hQ : ∀ c a w, Q (.panic c) (a.put oi.dst undef) w → Q (.panic c) a w := by exact fun _ _ _ h => h) (hw : Region.wanted oi (yielded ops a.tmps) = false := by rfl) :
    wpAnyH P md ops Q S (fuel + 1) listed a w := wpAnyH_take hi hs hf hr hQ (.inr ⟨hw, rfl⟩) hS h
theorem tkV (i : Nat) {S : World → Prop} {oi : Oper} {fuel : Nat} {listed l2 : Array Bool} {a a2 : Act} {w : World} (hS : S w)
    (h : wpAnyH P md ops Q S fuel l2 a2 w) (hi : ops[i]? = some oi := by rfl) (hs : Region.noSelect ops = true := by kernel_rfl) (hf : Region.free md ops listed i = true := by kernel_rfl)
    (hr : (Region.ready md ops listed).contains i = true := by kernel_rfl) (hQ : ∀ c a w, Q (.panic c) (a.put oi.dst undef) w → Q (.panic c) a w := by exact fun _ _ _ h => h)
    (hw : Region.wanted oi (yielded ops a.tmps) = false := by rfl)
    (h2 : listed.setIfInBounds i true = l2 := by (try simp only [Go.Act.put, List.getElem_toArray, List.getElem_cons_succ, List.getElem_cons_zero, List.setIfInBounds_toArray, List.set_cons_zero, List.set_cons_succ]); rfl) (h3 : a.put oi.dst undef = a2 := by (try simp only [Go.Act.put, List.getElem_toArray, List.getElem_cons_succ, List.getElem_cons_zero, List.setIfInBounds_toArray, List.set_cons_zero, List.set_cons_succ]); rfl) :
    wpAnyH P md ops Q S (fuel + 1) listed a w := tkU hS (by rw [h2, h3]; exact h) hi hs hf hr hQ hw
end
end Go.Proofs.YtfpbocjmlhcgiaaGreatDoor
