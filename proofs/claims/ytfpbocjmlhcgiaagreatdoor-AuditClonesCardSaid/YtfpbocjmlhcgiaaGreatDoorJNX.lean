/- A drawn region whose operations leave the same values in whatever order: one step for each operation, no orders. -/
import Derived.Test.YtfpbocjmlhcgiaaGreatDoorJg13
import Derived.RegionTactic
import Derived.OrdersHeld
set_option linter.unusedSimpArgs false
set_option linter.unusedVariables false
namespace Go.Proofs.YtfpbocjmlhcgiaaGreatDoor
section
variable {P : Program} {ops : Array Oper} {Q : Exit → Act → World → Prop} {md : Region.Mode}

/-- The temporaries of those of 'rest' that have come up hold their values; all others are as they were. -/
structure FrameAt (ops : Array Oper) (rest : List Nat) (v : Nat → Value) (A : Act) (listed : Array Bool) (a : Act) : Prop where
  defers : a.defers = A.defers
  size : a.tmps.size = A.tmps.size
  yes : ∀ i ∈ rest, ∀ o d, ops[i]? = some o → o.dst = some d → listed.getD i false = true → a.tmps[d]? = some (v i)
  no : ∀ d, (∀ i ∈ rest, ∀ o, ops[i]? = some o → o.dst = some d → listed.getD i false = false) → a.tmps[d]? = A.tmps[d]?
def dstIs (ops : Array Oper) (i d : Nat) : Bool := match ops[i]? with | some o => o.dst == some d | none => false
def restApart (ops : Array Oper) (rest : List Nat) : Bool := rest.all fun i => rest.all fun j => i == j || (match (ops[i]?).bind (·.dst) with | some d => !dstIs ops j d | none => true)
def restIn (ops : Array Oper) (rest : List Nat) (n : Nat) : Bool := rest.all fun i => decide (i < ops.size) && (match (ops[i]?).bind (·.dst) with | some d => decide (d < n) | none => true)
def backward (ops : Array Oper) : Bool := (List.range ops.size).all fun i => match ops[i]? with | some o => o.after.all fun e => decide (e.on < i) | none => true
theorem restApart_spec {rest : List Nat} (h : restApart ops rest = true) {i j : Nat} (hi : i ∈ rest) (hj : j ∈ rest) {oi oj : Oper} {d : Nat} (ei : ops[i]? = some oi) (ej : ops[j]? = some oj) (di : oi.dst = some d) (dj : oj.dst = some d) : i = j := by
  have := List.all_eq_true.1 (List.all_eq_true.1 h i hi) j hj
  rw [ei] at this
  simp [di, dstIs, ej, dj] at this
  exact this
theorem restIn_spec {rest : List Nat} {n : Nat} (h : restIn ops rest n = true) {i : Nat} (hi : i ∈ rest) : i < ops.size ∧ ∀ o d, ops[i]? = some o → o.dst = some d → d < n := by
  have := List.all_eq_true.1 h i hi
  rw [Bool.and_eq_true, decide_eq_true_eq] at this
  refine ⟨this.1, fun o d ho hd => ?_⟩
  have h2 := this.2
  rw [ho] at h2
  simpa [hd] using h2
theorem getD_set_at {l : Array Bool} {i : Nat} (h : i < l.size) : (l.setIfInBounds i true).getD i false = true := by
  simp [h]
theorem getD_set_off {l : Array Bool} {i j : Nat} (h : i ≠ j) (b : Bool) : (l.setIfInBounds i true).getD j b = l.getD j b := by
  simp [Array.getElem?_setIfInBounds_ne h]
theorem FrameAt.put {rest : List Nat} {v : Nat → Value} {A a : Act} {listed : Array Bool} (h : FrameAt ops rest v A listed a) (hA : restApart ops rest = true) (hI : restIn ops rest A.tmps.size = true) (hs : listed.size = ops.size)
    {i : Nat} (hi : i ∈ rest) {o : Oper} (ho : ops[i]? = some o) : FrameAt ops rest v A (listed.setIfInBounds i true) (a.put o.dst (v i)) := by
  have hlt := (restIn_spec hI hi).1
  cases hd : o.dst with
  | none =>
    refine ⟨h.defers, h.size, fun j hj oj d ej dj k => ?_, fun d k => h.no d fun j hj oj ej dj => ?_⟩
    · by_cases e : i = j
      · subst e; rw [ho] at ej; cases ej; rw [hd] at dj; cases dj
      · rw [getD_set_off e] at k; exact h.yes j hj oj d ej dj k
    · by_cases e : i = j
      · subst e; rw [ho] at ej; cases ej; rw [hd] at dj; cases dj
      · have := k j hj oj ej dj
        rwa [getD_set_off e] at this
  | some di =>
    have hdi := (restIn_spec hI hi).2 o di ho hd
    refine ⟨h.defers, by simp [Act.put, h.size], fun j hj oj d ej dj k => ?_, fun d k => ?_⟩
    · by_cases e : i = j
      · subst e
        rw [ho] at ej; cases ej
        rw [hd] at dj; cases dj
        simp [Act.put, h.size, hdi]
      · have hne : di ≠ d := fun e' => e (restApart_spec hA hi hj ho ej hd (by rw [dj, e']))
        rw [getD_set_off e] at k
        have := h.yes j hj oj d ej dj k
        simp only [Act.put]
        rw [Array.getElem?_setIfInBounds_ne hne]; exact this
    · have hne : di ≠ d := fun e' => by
        have := k i hi o ho (by rw [hd, e'])
        rw [getD_set_at (by omega)] at this; cases this
      simp only [Act.put]
      rw [Array.getElem?_setIfInBounds_ne hne]
      refine h.no d fun j hj oj ej dj => ?_
      have := k j hj oj ej dj
      by_cases e : i = j
      · subst e; rw [getD_set_at (by omega)] at this; cases this
      · rwa [getD_set_off e] at this
theorem FrameAt.unique {rest : List Nat} {v : Nat → Value} {A a b : Act} {l m : Array Bool} (h : FrameAt ops rest v A l a) (k : FrameAt ops rest v A m b) (hl : ∀ i ∈ rest, l.getD i false = true) (hm : ∀ i ∈ rest, m.getD i false = true) : a = b := by
  have e1 : a.tmps = b.tmps := by
    apply Array.ext_getElem?
    intro d
    by_cases e : ∃ i ∈ rest, ∃ o, ops[i]? = some o ∧ o.dst = some d
    · obtain ⟨i, hi, o, ho, hd⟩ := e
      rw [h.yes i hi o d ho hd (hl i hi), k.yes i hi o d ho hd (hm i hi)]
    · rw [h.no d fun i hi o ho hd => absurd ⟨i, hi, o, ho, hd⟩ e, k.no d fun i hi o ho hd => absurd ⟨i, hi, o, ho, hd⟩ e]
  cases a; cases b
  simp only [Act.mk.injEq]
  exact ⟨e1, h.defers.trans k.defers.symm⟩
def dstOf (ops : Array Oper) (i : Nat) : Option Tmp := (ops[i]?).bind (·.dst)
/-- All have come up, in the text's order. -/
def finA (ops : Array Oper) (v : Nat → Value) (A : Act) (rest : List Nat) : Act := rest.foldl (fun a i => a.put (dstOf ops i) (v i)) A
theorem FrameAt.fold {rest : List Nat} {v : Nat → Value} {A : Act} (hA : restApart ops rest = true) (hI : restIn ops rest A.tmps.size = true) :
    ∀ (todo : List Nat) (l : Array Bool) (a : Act), FrameAt ops rest v A l a → l.size = ops.size → (∀ i ∈ todo, i ∈ rest) →
      ∃ m, FrameAt ops rest v A m (finA ops v a todo) ∧ (∀ i, (i ∈ todo ∧ i < ops.size) ∨ l.getD i false = true → m.getD i false = true)
  | [], l, a, h, hs, _ => ⟨l, h, fun i hi => hi.elim (fun h => by cases h.1) id⟩
  | i :: todo, l, a, h, hs, ht => by
    have hi := ht i (List.mem_cons_self ..)
    have hlt := (restIn_spec hI hi).1
    obtain ⟨o, ho⟩ : ∃ o, ops[i]? = some o := ⟨_, Array.getElem?_eq_getElem hlt⟩
    have h1 := h.put hA hI hs hi ho
    obtain ⟨m, hm, k⟩ := FrameAt.fold hA hI todo _ _ h1 (by simp [hs]) fun j hj => ht j (List.mem_cons_of_mem _ hj)
    have e : finA ops v (a.put o.dst (v i)) todo = finA ops v a (i :: todo) := by
      unfold finA
      rw [List.foldl_cons]
      simp only [dstOf, ho, Option.bind_some]
    rw [e] at hm
    refine ⟨m, hm, fun j hj => k j ?_⟩
    by_cases e : i = j
    · subst e; exact .inr (getD_set_at (by omega))
    · rcases hj with ⟨hj, hl⟩ | hj
      · rcases List.mem_cons.1 hj with h' | h'
        · exact absurd h'.symm e
        · exact .inl ⟨h', hl⟩
      · rw [getD_set_off e]; exact .inr hj
theorem FrameAt.fin {rest : List Nat} {v : Nat → Value} {A a : Act} {l l0 : Array Bool} (hA : restApart ops rest = true) (hI : restIn ops rest A.tmps.size = true) (h0 : FrameAt ops rest v A l0 A) (hs0 : l0.size = ops.size)
    (h : FrameAt ops rest v A l a) (hl : ∀ i ∈ rest, l.getD i false = true) : a = finA ops v A rest := by
  obtain ⟨m, hm, k⟩ := FrameAt.fold hA hI rest l0 A h0 hs0 fun i hi => hi
  exact h.unique hm hl fun i hi => k i (.inl ⟨hi, (restIn_spec hI hi).1⟩)
theorem ready_nil_all {listed : Array Bool} (hb : backward ops = true) (hs : listed.size = ops.size) (h : Region.ready md ops listed = []) : ∀ (n i : Nat), i < n → i < ops.size → listed.getD i false = true
  | 0, i, hi, _ => by omega
  | n + 1, i, hi, hlt => by
    by_cases e : listed.getD i false = true
    · exact e
    · exfalso
      have : i ∈ Region.ready md ops listed := by
        rw [mem_ready]
        refine ⟨?_, ops[i], Array.getElem?_eq_getElem hlt, fun q hq _ => ?_⟩
        · have : i < listed.size := by omega
          simp [this] at e ⊢; exact e
        · have hbk := List.all_eq_true.1 hb i (List.mem_range.2 hlt)
          rw [Array.getElem?_eq_getElem hlt] at hbk
          have := of_decide_eq_true (Array.all_eq_true_iff_forall_mem.1 hbk q hq)
          exact ready_nil_all hb hs h n q.on (by omega) (by omega)
      rw [h] at this; cases this
def falses : List Bool → Nat
  | [] => 0
  | b :: l => (if b then 0 else 1) + falses l
theorem falses_set : ∀ (l : List Bool) (i : Nat), l[i]? = some false → falses (l.set i true) + 1 = falses l
  | [], i, h => by simp at h
  | b :: l, 0, h => by simp at h; subst h; simp [falses]; omega
  | b :: l, i + 1, h => by
    simp only [List.getElem?_cons_succ] at h
    simp only [List.set_cons_succ, falses]
    have := falses_set l i h
    omega
theorem falses_le : ∀ l : List Bool, falses l ≤ l.length
  | [] => Nat.le_refl _
  | b :: l => by
    simp only [falses, List.length_cons]
    have := falses_le l
    cases b <;> simp <;> omega
theorem falses_zero : ∀ (l : List Bool), falses l = 0 → ∀ i, i < l.length → l[i]? = some true
  | [], _, i, h => by simp at h
  | b :: l, h, 0, _ => by
    cases b
    · simp [falses] at h
    · rfl
  | b :: l, h, i + 1, hl => by
    simp only [falses] at h
    simp only [List.getElem?_cons_succ]
    exact falses_zero l (by omega) i (by simpa using hl)
theorem FrameAt.new {rest : List Nat} {v : Nat → Value} {A a : Act} {listed : Array Bool} (h : FrameAt ops rest v A listed a) (i d : Nat) (hi : rest.contains i = true) (hd : dstIs ops i d = true) (hl : listed.getD i false = true) : a.tmps[d]? = some (v i) := by
  unfold dstIs at hd
  cases ho : ops[i]? with
  | none => rw [ho] at hd; cases hd
  | some o => rw [ho] at hd; exact h.yes i (by simpa using hi) o d ho (by simpa using hd) hl
theorem FrameAt.old {rest : List Nat} {v : Nat → Value} {A a : Act} {listed : Array Bool} (h : FrameAt ops rest v A listed a) (d : Nat) (hd : (rest.all fun i => !dstIs ops i d) = true) : a.tmps[d]? = A.tmps[d]? :=
  h.no d fun i hi o ho e => by
    have := List.all_eq_true.1 hd i hi
    unfold dstIs at this
    rw [ho] at this
    simp [e] at this
/-- **In whatever order.** -/
theorem wpAny_free (rest : List Nat) (v : Nat → Value) (A : Act) (W : Array Bool → World → Prop) (l0 : Array Bool)
    (hA : restApart ops rest = true) (hI : restIn ops rest A.tmps.size = true) (hb : backward ops = true) (h00 : ∀ i ∈ rest, l0.getD i true = false) (hs0 : l0.size = ops.size)
    (hstep : ∀ i ∈ rest, ∀ o, ops[i]? = some o → ∀ listed a w, FrameAt ops rest v A listed a → listed.size = ops.size → listed.getD i true = false → (∀ e ∈ o.after, Region.binds md e = true → listed.getD e.on false = true) → W listed w →
      ∀ K : Act → World → Prop, (∀ w', W (listed.setIfInBounds i true) w' → K (a.put o.dst (v i)) w') → if Region.wanted o (yielded ops a.tmps) = true then Oper.wp P o a w K Q else K (a.put o.dst undef) w)
    (hend : ∀ listed w, (∀ i, i < ops.size → listed.getD i false = true) → W listed w → Q .normal (finA ops v A rest) w) :
    ∀ (fuel : Nat) (listed : Array Bool) (a : Act) (w : World), FrameAt ops rest v A listed a → listed.size = ops.size → (∀ i, i < ops.size → listed.getD i false = true ∨ i ∈ rest) → falses listed.toList ≤ fuel → W listed w →
      wpAny P md ops Q fuel listed a w := by
  have F0 : FrameAt ops rest v A l0 A := ⟨rfl, rfl, (fun i hi o d ho hd k => by
    have := h00 i hi
    have hlt : i < l0.size := by rw [hs0]; exact (restIn_spec hI hi).1
    simp [hlt] at this k; rw [this] at k; cases k), fun d _ => rfl⟩
  have hfin : ∀ listed a w, FrameAt ops rest v A listed a → listed.size = ops.size → Region.ready md ops listed = [] → W listed w → Q .normal a w := fun listed a w hF hs hr hW => by
    have hall : ∀ i, i < ops.size → listed.getD i false = true := fun i hi => ready_nil_all hb hs hr ops.size i hi hi
    rw [FrameAt.fin hA hI F0 hs0 hF fun i hi => hall i (restIn_spec hI hi).1]
    exact hend listed w hall hW
  intro fuel
  induction fuel with
  | zero =>
    intro listed a w hF hs hc hn hW
    have hr : Region.ready md ops listed = [] := by
      apply List.eq_nil_iff_forall_not_mem.2
      intro i hi
      obtain ⟨h1, o, ho, -⟩ := mem_ready.1 hi
      have hlt : i < listed.size := by rw [hs]; exact (Array.getElem?_eq_some_iff.1 ho).1
      have := falses_zero listed.toList (by omega) i (by simpa using hlt)
      simp [hlt] at h1 this
      rw [h1] at this; cases this
    exact ⟨hr, hfin listed a w hF hs hr hW⟩
  | succ fuel ih =>
    intro listed a w hF hs hc hn hW
    refine ⟨fun hr => hfin listed a w hF hs hr hW, fun i hi => ?_⟩
    obtain ⟨h1, o, ho, h2⟩ := mem_ready.1 hi
    have hlt : i < listed.size := by rw [hs]; exact (Array.getElem?_eq_some_iff.1 ho).1
    have hri : i ∈ rest := by
      rcases hc i (by omega) with h | h
      · simp [hlt] at h h1; rw [h1] at h; cases h
      · exact h
    refine wpOp_step ho fun K' hK => ?_
    refine hstep i hri o ho listed a w hF hs h1 h2 hW K' fun w' hW' => hK _ _ ?_
    refine ih _ _ _ (hF.put hA hI hs hri ho) (by simp [hs]) (fun j hj => ?_) ?_ hW'
    · by_cases e : i = j
      · subst e; exact .inl (getD_set_at hlt)
      · rw [getD_set_off e]; exact hc j hj
    · have hf : listed.toList[i]? = some false := by
        simp [hlt] at h1
        simp [hlt, h1]
      have := falses_set listed.toList i hf
      rw [Array.toList_setIfInBounds]
      omega
/-- The same, with a condition on the world that holds throughout. -/
theorem wpAnyH_free {S : World → Prop} (rest : List Nat) (v : Nat → Value) (A : Act) (W : Array Bool → World → Prop) (l0 : Array Bool)
    (hA : restApart ops rest = true) (hI : restIn ops rest A.tmps.size = true) (hb : backward ops = true) (h00 : ∀ i ∈ rest, l0.getD i true = false) (hs0 : l0.size = ops.size)
    (hstep : ∀ i ∈ rest, ∀ o, ops[i]? = some o → ∀ listed a w, FrameAt ops rest v A listed a → listed.size = ops.size → listed.getD i true = false → (∀ e ∈ o.after, Region.binds md e = true → listed.getD e.on false = true) → W listed w →
      ∀ K : Act → World → Prop, (∀ w', W (listed.setIfInBounds i true) w' → K (a.put o.dst (v i)) w') → if Region.wanted o (yielded ops a.tmps) = true then Oper.wp P o a w K Q else K (a.put o.dst undef) w)
    (hWS : ∀ listed w, W listed w → S w)
    (hend : ∀ listed w, (∀ i, i < ops.size → listed.getD i false = true) → W listed w → Q .normal (finA ops v A rest) w) :
    ∀ (fuel : Nat) (listed : Array Bool) (a : Act) (w : World), FrameAt ops rest v A listed a → listed.size = ops.size → (∀ i, i < ops.size → listed.getD i false = true ∨ i ∈ rest) → falses listed.toList ≤ fuel → W listed w →
      wpAnyH P md ops Q S fuel listed a w := by
  have F0 : FrameAt ops rest v A l0 A := ⟨rfl, rfl, (fun i hi o d ho hd k => by
    have := h00 i hi
    have hlt : i < l0.size := by rw [hs0]; exact (restIn_spec hI hi).1
    simp [hlt] at this k; rw [this] at k; cases k), fun d _ => rfl⟩
  have hfin : ∀ listed a w, FrameAt ops rest v A listed a → listed.size = ops.size → Region.ready md ops listed = [] → W listed w → Q .normal a w := fun listed a w hF hs hr hW => by
    have hall : ∀ i, i < ops.size → listed.getD i false = true := fun i hi => ready_nil_all hb hs hr ops.size i hi hi
    rw [FrameAt.fin hA hI F0 hs0 hF fun i hi => hall i (restIn_spec hI hi).1]
    exact hend listed w hall hW
  intro fuel
  induction fuel with
  | zero =>
    intro listed a w hF hs hc hn hW
    have hr : Region.ready md ops listed = [] := by
      apply List.eq_nil_iff_forall_not_mem.2
      intro i hi
      obtain ⟨h1, o, ho, -⟩ := mem_ready.1 hi
      have hlt : i < listed.size := by rw [hs]; exact (Array.getElem?_eq_some_iff.1 ho).1
      have := falses_zero listed.toList (by omega) i (by simpa using hlt)
      simp [hlt] at h1 this
      rw [h1] at this; cases this
    exact ⟨hr, hfin listed a w hF hs hr hW⟩
  | succ fuel ih =>
    intro listed a w hF hs hc hn hW
    refine ⟨fun hr => hfin listed a w hF hs hr hW, fun i hi => ?_⟩
    obtain ⟨h1, o, ho, h2⟩ := mem_ready.1 hi
    have hlt : i < listed.size := by rw [hs]; exact (Array.getElem?_eq_some_iff.1 ho).1
    have hri : i ∈ rest := by
      rcases hc i (by omega) with h | h
      · simp [hlt] at h h1; rw [h1] at h; cases h
      · exact h
    refine wpOp_step ho fun K' hK => ?_
    refine hstep i hri o ho listed a w hF hs h1 h2 hW K' fun w' hW' => hK _ _ ⟨hWS _ _ hW', ?_⟩
    refine ih _ _ _ (hF.put hA hI hs hri ho) (by simp [hs]) (fun j hj => ?_) ?_ hW'
    · by_cases e : i = j
      · subst e; exact .inl (getD_set_at hlt)
      · rw [getD_set_off e]; exact hc j hj
    · have hf : listed.toList[i]? = some false := by
        simp [hlt] at h1
        simp [hlt, h1]
      have := falses_set listed.toList i hf
      rw [Array.toList_setIfInBounds]
      omega
/-- The same, from the start. -/
theorem wpAnyH_orders {S : World → Prop} (rest : List Nat) (v : Nat → Value) (W : Array Bool → World → Prop) {l0 : Array Bool} {A : Act} {w : World} {fuel : Nat}
    (hA : restApart ops rest = true) (hI : restIn ops rest A.tmps.size = true) (hb : backward ops = true) (h00 : (rest.all fun i => !l0.getD i true) = true) (hs0 : l0.size = ops.size)
    (hc : ((List.range ops.size).all fun i => l0.getD i false || rest.contains i) = true) (hn : decide (falses l0.toList ≤ fuel) = true)
    (hWS : ∀ listed w, W listed w → S w) (hW : W l0 w)
    (hstep : ∀ i ∈ rest, ∀ o, ops[i]? = some o → ∀ listed a w, FrameAt ops rest v A listed a → listed.size = ops.size → listed.getD i true = false → (∀ e ∈ o.after, Region.binds md e = true → listed.getD e.on false = true) → W listed w →
      ∀ K : Act → World → Prop, (∀ w', W (listed.setIfInBounds i true) w' → K (a.put o.dst (v i)) w') → if Region.wanted o (yielded ops a.tmps) = true then Oper.wp P o a w K Q else K (a.put o.dst undef) w)
    (hend : ∀ listed w, (∀ i, i < ops.size → listed.getD i false = true) → W listed w → Q .normal (finA ops v A rest) w) : wpAnyH P md ops Q S fuel l0 A w := by
  have h00' : ∀ i ∈ rest, l0.getD i true = false := fun i hi => by simpa using List.all_eq_true.1 h00 i hi
  have F0 : FrameAt ops rest v A l0 A := ⟨rfl, rfl, (fun i hi o d ho hd k => by
    have := h00' i hi
    have hlt : i < l0.size := by rw [hs0]; exact (restIn_spec hI hi).1
    simp [hlt] at this k; rw [this] at k; cases k), fun d _ => rfl⟩
  refine wpAnyH_free rest v A W l0 hA hI hb h00' hs0 hstep hWS hend fuel l0 A w F0 hs0 (fun i hi => ?_) (of_decide_eq_true hn) hW
  have := List.all_eq_true.1 hc i (List.mem_range.2 hi)
  simpa using this
/-- Number i is taken first. -/
theorem tkT {S : World → Prop} {i : Nat} {oi : Oper} {v : Value} {fuel : Nat} {listed : Array Bool} {a : Act} {w : World} (hy : ∀ w, S w → (execOp a.eval oi).run P w = .ok (.value v) w) (hS : S w)
    (h : wpAnyH P md ops Q S fuel (listed.setIfInBounds i true) (a.put oi.dst v) w) (hi : ops[i]? = some oi := by rfl) (hs : Region.noSelect ops = true := by kernel_rfl) (hf : Region.free md ops listed i = true := by kernel_rfl)
    (hr : (Region.ready md ops listed).contains i = true := by kernel_rfl) (hQ : ∀ c a w, Q (.panic c) (a.put oi.dst v) w → Q (.panic c) a w := by exact fun _ _ _ h => h) (hw : Region.wanted oi (yielded ops a.tmps) = true := by rfl) :
    wpAnyH P md ops Q S (fuel + 1) listed a w := wpAnyH_take hi hs hf hr hQ (.inl ⟨hw, hy⟩) hS h
/-- .. its value found by the walk's own simplifier, what stands behind it in plain form. -/
theorem tkS (i : Nat) {S : World → Prop} {oi : Oper} {v : Value} {fuel : Nat} {listed l2 : Array Bool} {a a2 : Act} {w : World} (hS : S w)
    (h : wpAnyH P md ops Q S fuel l2 a2 w) (hi : ops[i]? = some oi := by rfl) (hs : Region.noSelect ops = true := by kernel_rfl) (hf : Region.free md ops listed i = true := by kernel_rfl)
    (hr : (Region.ready md ops listed).contains i = true := by kernel_rfl)
    (hy : ∀ w, S w → (execOp a.eval oi).run P w = .ok (.value v) w := by intro w hSw; (try dsimp only at hSw); go_simp; (try with_reducible rfl)) (hQ : ∀ c a w, Q (.panic c) (a.put oi.dst v) w → Q (.panic c) a w := by exact fun _ _ _ h => h)
    (hw : Region.wanted oi (yielded ops a.tmps) = true := by rfl)
    (h2 : listed.setIfInBounds i true = l2 := by (try simp only [Go.Act.put, List.getElem_toArray, List.getElem_cons_succ, List.getElem_cons_zero, List.setIfInBounds_toArray, List.set_cons_zero, List.set_cons_succ]); rfl) (h3 : a.put oi.dst v = a2 := by (try simp only [Go.Act.put, List.getElem_toArray, List.getElem_cons_succ, List.getElem_cons_zero, List.setIfInBounds_toArray, List.set_cons_zero, List.set_cons_succ]); rfl) :
    wpAnyH P md ops Q S (fuel + 1) listed a w := tkT hy hS (by rw [h2, h3]; exact h) hi hs hf hr hQ hw
/-- Number i is not wanted. -/
theorem tkU {S : World → Prop} {i : Nat} {oi : Oper} {fuel : Nat} {listed : Array Bool} {a : Act} {w : World} (hS : S w)
    (h : wpAnyH P md ops Q S fuel (listed.setIfInBounds i true) (a.put oi.dst undef) w) (hi : ops[i]? = some oi := by rfl) (hs : Region.noSelect ops = true := by kernel_rfl) (hf : Region.free md ops listed i = true := by kernel_rfl)
    (hr : (Region.ready md ops listed).contains i = true := by kernel_rfl) (hQ : ∀ c a w, Q (.panic c) (a.put oi.dst undef) w → Q (.panic c) a w := by exact fun _ _ _ h => h) (hw : Region.wanted oi (yielded ops a.tmps) = false := by rfl) :
    wpAnyH P md ops Q S (fuel + 1) listed a w := wpAnyH_take hi hs hf hr hQ (.inr ⟨hw, rfl⟩) hS h
theorem tkV (i : Nat) {S : World → Prop} {oi : Oper} {fuel : Nat} {listed l2 : Array Bool} {a a2 : Act} {w : World} (hS : S w)
    (h : wpAnyH P md ops Q S fuel l2 a2 w) (hi : ops[i]? = some oi := by rfl) (hs : Region.noSelect ops = true := by kernel_rfl) (hf : Region.free md ops listed i = true := by kernel_rfl)
    (hr : (Region.ready md ops listed).contains i = true := by kernel_rfl) (hQ : ∀ c a w, Q (.panic c) (a.put oi.dst undef) w → Q (.panic c) a w := by exact fun _ _ _ h => h)
    (hw : Region.wanted oi (yielded ops a.tmps) = false := by rfl)
    (h2 : listed.setIfInBounds i true = l2 := by (try simp only [Go.Act.put, List.getElem_toArray, List.getElem_cons_succ, List.getElem_cons_zero, List.setIfInBounds_toArray, List.set_cons_zero, List.set_cons_succ]); rfl) (h3 : a.put oi.dst undef = a2 := by (try simp only [Go.Act.put, List.getElem_toArray, List.getElem_cons_succ, List.getElem_cons_zero, List.setIfInBounds_toArray, List.set_cons_zero, List.set_cons_succ]); rfl) :
    wpAnyH P md ops Q S (fuel + 1) listed a w := tkU hS (by rw [h2, h3]; exact h) hi hs hf hr hQ hw
end
end Go.Proofs.YtfpbocjmlhcgiaaGreatDoor
