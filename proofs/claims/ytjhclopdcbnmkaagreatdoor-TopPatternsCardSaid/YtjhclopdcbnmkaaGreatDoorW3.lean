/- What is meant, in memory: rows of what is meant, and of rules. -/
import Derived.Test.YtjhclopdcbnmkaaGreatDoorW2
set_option linter.unusedSimpArgs false
set_option linter.unusedVariables false
namespace Go.Proofs.YtjhclopdcbnmkaaGreatDoor
open Go.RowKit PX

mutual
theorem ok_wideW : ∀ {x : Rx}, Ok64 x → x.wide
  | .node _ _ _ s0 s1 s2 s3 l, h => by
    simp only [Ok64] at h
    simp only [Rx.wide]
    exact ⟨h.1, okAll_wideW h.2⟩
theorem okAll_wideW : ∀ {l : List Rx}, Ok64All l → wideAll l
  | [], _ => trivial
  | x :: xs, h => by
    simp only [Ok64All] at h
    exact ⟨ok_wideW h.1, okAll_wideW h.2⟩
end
theorem info_rule : (Tryz.prog.info? 56).map (fun i => (i.zero, i.size, i.bytes)) = some (some (.agg #[.int .i64 0, .int .i64 0, .int .i64 0, .string ⟨#[]⟩, .string ⟨#[]⟩]), 5, 56) := by kernel_rfl
theorem info_meant : (Tryz.prog.info? 53).map (fun i => (i.zero, i.size, i.bytes)) = some (some (.agg #[.int .i64 0, .int .i64 0, .int .i64 0, .int .i64 0, .int .i64 0, .int .u64 0, .int .u64 0, .int .u64 0, .int .u64 0, .slice none 0 0, .int .i64 0, .int .i64 0, .int .i64 0, .int .i64 0, .int .u64 0, .int .u64 0, .int .u64 0, .int .u64 0, .slice none 0 0]), 19, 184) := by kernel_rfl
theorem info19 : (Tryz.prog.info? 53).map (fun i => i.size) = some 19 := by kernel_rfl
structure MeV where
  fr : Int
  tu : Int
  act : Int
  wh : RxA
  hd : RxA
def MeV.cells (m : MeV) : List Value := .int .i64 m.fr :: .int .i64 m.tu :: (m.wh.cells ++ .int .i64 m.act :: m.hd.cells)
def MeV.bare (m : MeV) : Mea := ⟨m.fr, m.tu, m.act, m.wh.bare, m.hd.bare⟩
def MeV.In (m : MeV) (w : World) : Prop := m.wh.In w w.heap.size ∧ m.hd.In w w.heap.size
theorem MeV.cells_length (m : MeV) : m.cells.length = 19 := by simp [MeV.cells, RxA.cells_length]
theorem MeV.In.later {m : MeV} {w w' : World} (h : m.In w) (hl : Later w w') : m.In w' := ⟨in_later8 h.1 hl, in_later8 h.2 hl⟩
def meC (l : List MeV) : List Value := l.flatMap MeV.cells
theorem meC_length : ∀ l : List MeV, (meC l).length = l.length * 19
  | [] => rfl
  | m :: l => by
    show (m.cells ++ meC l).length = _
    rw [List.length_append, m.cells_length, meC_length l, List.length_cons]; omega
theorem meC_get : ∀ (l : List MeV) (i : Nat) (hi : i < l.length) (j : Nat) (hj : j < 19), (meC l)[i * 19 + j]? = l[i].cells[j]?
  | m :: l, 0, hi, j, hj => by
    show (m.cells ++ meC l)[0 * 19 + j]? = _
    rw [show 0 * 19 + j = j by omega, List.getElem?_append_left (by rw [m.cells_length]; exact hj)]
    rfl
  | m :: l, i + 1, hi, j, hj => by
    show (m.cells ++ meC l)[(i + 1) * 19 + j]? = _
    rw [List.getElem?_append_right (by rw [m.cells_length]; omega), m.cells_length, show (i + 1) * 19 + j - 19 = i * 19 + j by omega]
    exact meC_get l i (by simpa using hi) j hj
theorem meC_snoc (l : List MeV) (m : MeV) : meC (l ++ [m]) = meC l ++ m.cells := by simp [meC]
def ruC (l : List RuV) : List Value := l.flatMap RuV.cells
theorem ruC_length : ∀ l : List RuV, (ruC l).length = l.length * 5
  | [] => rfl
  | m :: l => by
    show (m.cells ++ ruC l).length = _
    rw [List.length_append, ruC_length l, List.length_cons, show m.cells.length = 5 from rfl]; omega
theorem ruC_get : ∀ (l : List RuV) (i : Nat) (hi : i < l.length) (j : Nat) (hj : j < 5), (ruC l)[i * 5 + j]? = l[i].cells[j]?
  | m :: l, 0, hi, j, hj => by
    show (m.cells ++ ruC l)[0 * 5 + j]? = _
    rw [show 0 * 5 + j = j by omega, List.getElem?_append_left (by exact hj)]
    rfl
  | m :: l, i + 1, hi, j, hj => by
    show (m.cells ++ ruC l)[(i + 1) * 5 + j]? = _
    have h5 : m.cells.length = 5 := rfl
    rw [List.getElem?_append_right (by rw [h5]; omega), h5, show (i + 1) * 5 + j - 5 = i * 5 + j by omega]
    exact ruC_get l i (by simpa using hi) j hj
theorem ruC_snoc (l : List RuV) (m : RuV) : ruC (l ++ [m]) = ruC l ++ m.cells := by simp [ruC]
/-- A row of what is meant, among the arguments. -/
def MeIn (w : World) (a : Option Addr) (cap : Nat) (l : List MeV) : Prop :=
  l.length ≤ cap ∧ cap ≤ 9223372036854775807 ∧ (l = [] ∨ ∃ b o, a = some ⟨b, o, none⟩ ∧ b < w.heap.size ∧ ∀ i (h : i < l.length), (∀ j, j < 19 → w.cell? ⟨b, o + i * 19 + j, none⟩ = l[i].cells[j]?) ∧ l[i].In w ∧ I64 l[i].fr ∧ I64 l[i].tu ∧ I64 l[i].act)
theorem own_apart {w : World} {b b' : Nat} {e e' : TypeId} {s s' : Nat} {v v' : Value} {n n' : Nat} {xs xs' : List Value} (h : w.ownsRow b e s v n xs) (h' : w.ownsRow b' e' s' v' n' xs') (he : e ≠ e') : v'.ownBlock = none ∨ v'.ownBlock ≠ v.ownBlock := by
  rcases h'.2 with ⟨rfl, -⟩ | ⟨g', cap', cur', rfl, -, hh', -⟩
  · exact .inl rfl
  · right
    rcases h.2 with ⟨rfl, -⟩ | ⟨g, cap, cur, rfl, -, hh, -⟩
    · simp [Value.ownBlock]
    · simp only [Value.ownBlock, ne_eq, Option.some.injEq]
      rintro rfl
      rw [hh] at hh'
      simp only [Option.some.injEq, Obj.cells.injEq] at hh'
      exact he hh'.2.1
theorem blk_apart {w : World} {b : Nat} {e t : TypeId} {s : Nat} {v : Value} {n : Nat} {xs : List Value} {k : Nat} {cs : Array Value} {fr : Nat × Nat} (h : w.ownsRow b e s v n xs) (hb : w.heap[k]? = some (.cells cs t fr)) (ht : t ≠ e) : some k ≠ v.ownBlock := by
  rcases h.2 with ⟨rfl, -⟩ | ⟨g, cap, cur, rfl, -, hh, -⟩
  · simp [Value.ownBlock]
  · simp only [Value.ownBlock, ne_eq, Option.some.injEq]
    rintro rfl
    rw [hh] at hb
    simp only [Option.some.injEq, Obj.cells.injEq] at hb
    exact ht hb.2.1.symm
theorem own_slice {w : World} {b : Nat} {e : TypeId} {s : Nat} {v : Value} {n : Nat} {xs : List Value} (h : w.ownsRow b e s v n xs) : ∃ a c, v = .slice a n c ∧ n ≤ c ∧ c ≤ 9223372036854775807 := by
  rcases h.2 with ⟨rfl, rfl⟩ | ⟨g, cap, cur, rfl, -, -, h1, h2, -⟩
  · exact ⟨none, 0, rfl, Nat.le_refl _, by decide⟩
  · exact ⟨_, _, rfl, h1, h2⟩
theorem own_none {w : World} {base g : Nat} {e : TypeId} {size : Nat} (h : w.heap[g]? = some (.cells #[] e (0, 0))) (hg : base ≤ g) : w.ownsRow base e size (.slice (some ⟨g, 0, none⟩) 0 0) 0 [] :=
  ⟨by simp, .inr ⟨g, 0, #[], rfl, hg, h, Nat.le_refl _, by unfold maxLen; omega, by simp, by simp⟩⟩
/-- Rules in a row of the call's own. -/
theorem rules_own {w : World} {base : Nat} {a : Option Addr} {c : Nat} {l : List RuV} (h : w.ownsRow base 56 5 (.slice a l.length c) l.length (ruC l)) : RulesIn w a c l := by
  rcases h.2 with ⟨hv, h0⟩ | ⟨g, cap, cur, hv, hg, hh, h1, h2, -⟩
  · have : l = [] := List.eq_nil_of_length_eq_zero h0
    subst this
    simp only [Value.slice.injEq] at hv
    obtain ⟨rfl, -, rfl⟩ := hv
    exact ⟨Nat.le_refl _, by decide, .inl rfl⟩
  · simp only [Value.slice.injEq] at hv
    obtain ⟨rfl, -, rfl⟩ := hv
    refine ⟨h1, h2, .inr ⟨g, 0, rfl, lt_of_block hh, fun i hi j hj => ?_⟩⟩
    rw [Nat.zero_add, h.cellAt (i * 5 + j) (by omega)]
    exact ruC_get l i hi j hj
/-- What is meant, in a row of the call's own. -/
theorem meant_own {w : World} {base : Nat} {a : Option Addr} {c : Nat} {l : List MeV} (h : w.ownsRow base 53 19 (.slice a l.length c) l.length (meC l)) {i : Nat} (hi : i < l.length) :
    ∃ g, a = some ⟨g, 0, none⟩ ∧ base ≤ g ∧ g < w.heap.size ∧ ∀ j, j < 19 → w.cell? ⟨g, i * 19 + j, none⟩ = l[i].cells[j]? := by
  rcases h.2 with ⟨hv, h0⟩ | ⟨g, cap, cur, hv, hg, hh, h1, h2, -⟩
  · omega
  · simp only [Value.slice.injEq] at hv
    obtain ⟨rfl, -, rfl⟩ := hv
    refine ⟨g, rfl, hg, lt_of_block hh, fun j hj => ?_⟩
    rw [h.cellAt (i * 19 + j) (by omega)]
    exact meC_get l i hi j hj
theorem rul_val {m : MeV} {P Q : ByteArray} (hp : P.data.toList = printS m.wh.bare) (hq : Q.data.toList = if m.act = 2 then printS m.hd.bare else []) : (⟨m.fr, m.tu, m.act, P, Q⟩ : RuV).bare = m.bare.rul := by
  unfold RuV.bare Mea.rul MeV.bare
  simp only [hp, hq]
theorem map_len {R : List RuV} {M : List MeV} (h : R.map RuV.bare = M.map fun m => m.bare.rul) : R.length = M.length := by
  have := congrArg List.length h
  simpa using this
end Go.Proofs.YtjhclopdcbnmkaaGreatDoor
