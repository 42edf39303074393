/- Frames: only some blocks may have changed. Machines as they lie in memory. -/
import Derived.Test.YtaelkjffidjcjaaDoorMem
import Derived.Deep.RegionLaw
set_option linter.unusedSimpArgs false
set_option linter.unusedVariables false
namespace Go.Proofs.YtaelkjffidjcjaaDoor
open Go.RowKit PX

/-- Of what was there only the blocks of r may have changed. -/
structure Only (r : Nat → Prop) (w w' : World) : Prop where
  os : w'.os = w.os
  tape : w'.tape = w.tape
  output : w'.output = w.output
  size : w.heap.size ≤ w'.heap.size
  block : ∀ k, k < w.heap.size → ¬ r k → w'.heap[k]? = w.heap[k]?

theorem Only.refl (r : Nat → Prop) (w : World) : Only r w w := ⟨rfl, rfl, rfl, Nat.le_refl _, fun _ _ _ => rfl⟩
theorem Only.trans {r : Nat → Prop} {a b c : World} (h : Only r a b) (k : Only (fun i => r i ∨ a.heap.size ≤ i) b c) : Only r a c :=
  ⟨k.os.trans h.os, k.tape.trans h.tape, k.output.trans h.output, Nat.le_trans h.size k.size, fun i hi hr => (k.block i (Nat.lt_of_lt_of_le hi h.size) (fun h' => by rcases h' with h' | h' <;> first | exact hr h' | omega)).trans (h.block i hi hr)⟩
theorem Only.mono {r r' : Nat → Prop} {w w' : World} (h : Only r w w') (hr : ∀ k, k < w.heap.size → r k → r' k) : Only r' w w' :=
  ⟨h.os, h.tape, h.output, h.size, fun k hk hn => h.block k hk fun h' => hn (hr k hk h')⟩
theorem Only.of_below {r : Nat → Prop} {w w' : World} (h : Below w.heap.size w w') : Only r w w' := ⟨h.os, h.tape, h.output, h.size, fun k hk _ => h.block k hk⟩
theorem Only.below {r : Nat → Prop} {B : Nat} {w w' : World} (h : Only r w w') (hB : B ≤ w.heap.size) (hr : ∀ k, r k → B ≤ k) : Below B w w' :=
  ⟨h.os, h.tape, h.output, h.size, fun k hk => h.block k (by omega) fun h' => by have := hr k h'; omega⟩
theorem Only.drew {r : Nat → Prop} {a w : World} (h : Only r a w) : Only r a w.drew := ⟨h.os, h.tape, h.output, h.size, h.block⟩
theorem Only.drewN {r : Nat → Prop} {a w : World} (h : Only r a w) (n : Nat) : Only r a (w.drewN n) := ⟨h.os, h.tape, h.output, h.size, h.block⟩
theorem Only.alloc {r : Nat → Prop} {a w : World} (h : Only r a w) (o : Obj) : Only r a (w.alloc o) :=
  h.trans ⟨rfl, rfl, rfl, by simp, fun k hk _ => Below.heap_alloc _ _ _ hk⟩
theorem Only.setCell {r : Nat → Prop} {a w : World} (h : Only r a w) {p : Addr} (hp : r p.block ∨ a.heap.size ≤ p.block) (u : Value) : Only r a (w.setCell p u) :=
  h.trans ⟨rfl, rfl, rfl, by simp [World.setCell], fun k _ hr => Below.heap_setCell _ _ _ _ (fun e => hr (e ▸ hp))⟩
theorem Only.grown {r : Nat → Prop} {a w w' : World} {row : Option Nat} (h : Only r a w) (hg : w.grownBy w' row) (hr : ∀ k, row = some k → r k ∨ a.heap.size ≤ k) : Only r a w' :=
  h.trans ⟨hg.os, hg.tape, hg.output, hg.size, fun k hk hn => hg.block k hk fun e => hn (hr k e.symm)⟩
theorem Only.cell {r : Nat → Prop} {w w' : World} (h : Only r w w') {p : Addr} (hp : p.block < w.heap.size) (hr : ¬ r p.block) : w'.cell? p = w.cell? p := World.cell?_of_block (w := w) (h.block p.block hp hr)
theorem Only.frozen {r : Nat → Prop} {w w' : World} (h : Only r w w') {p : Addr} (hp : p.block < w.heap.size) (hr : ¬ r p.block) : w'.frozen? p = w.frozen? p := World.frozen?_of_block (w := w) (h.block p.block hp hr)
theorem Only.ownsRow {r : Nat → Prop} {w w' : World} {base : Nat} {e : TypeId} {size n : Nat} {v : Value} {xs : List Value} (h : Only r w w') (ho : w.ownsRow base e size v n xs) (hr : ∀ k, v.ownBlock = some k → ¬ r k) : w'.ownsRow base e size v n xs := by
  have hlt := ho.lt
  obtain ⟨h1, h2⟩ := ho
  refine ⟨h1, ?_⟩
  rcases h2 with h2 | ⟨g, cap, cur, rfl, hg, hh, rest⟩
  · exact .inl h2
  · exact .inr ⟨g, cap, cur, rfl, hg, by rw [h.block g (hlt g rfl).2 (hr g rfl)]; exact hh, rest⟩

/-- A cell, and that it may be written, of a block that is known whole. -/
theorem cell_of_block {w : World} {p : Nat} {cs : Array Value} {t : TypeId} (h : w.heap[p]? = some (.cells cs t (0, 0))) (j : Nat) : w.cell? ⟨p, j, none⟩ = cs[j]? := by
  simp [World.cell?, h]
theorem free_of_block {w : World} {p : Nat} {cs : Array Value} {t : TypeId} (h : w.heap[p]? = some (.cells cs t (0, 0))) (j : Nat) : w.frozen? ⟨p, j, none⟩ = false := by
  simp [World.frozen?, h]
theorem lt_of_block {w : World} {p : Nat} {o : Obj} (h : w.heap[p]? = some o) : p < w.heap.size := by
  rcases Nat.lt_or_ge p w.heap.size with h' | h'
  · exact h'
  · rw [Array.getElem?_eq_none h'] at h; cases h
theorem setCell_block {w : World} {p : Nat} {cs : Array Value} {t : TypeId} {f : Nat × Nat} (h : w.heap[p]? = some (.cells cs t f)) (j : Nat) (u : Value) : (w.setCell ⟨p, j, none⟩ u).heap[p]? = some (.cells (cs.setIfInBounds j u) t f) := by
  simp only [World.setCell, Array.getElem?_modify, h]
  simp
theorem alloc_block (w : World) (o : Obj) : (w.alloc o).heap[w.heap.size]? = some o := by
  show (w.heap.push o)[w.heap.size]? = _
  simp
theorem alloc_old {w : World} {p : Nat} {x : Obj} (h : w.heap[p]? = some x) (o : Obj) : (w.alloc o).heap[p]? = some x := by
  rw [Below.heap_alloc _ _ _ (lt_of_block h)]; exact h

/-- append AS A STEP OF A REGION THAT DRAWS, on a row of the call's own. -/
theorem step_append_own {P : Program} {ops : Array Oper} {o : Oper} {a : Act} {w : World} {K : Act → World → Prop} {Q : Exit → Act → World → Prop} {E : Prop}
    (hg : o.guard = none) (s x : Operand) (t : TypeId)
    (ho : o.op = .call { callee := .builtin .append, args := #[s, x], argTypes := #[t, t] })
    (base : Nat) (e : TypeId) (i : TypeInfo) (z : Value) (size bytes : Nat) (ht : P.underlying t = some (.slice e)) (hi : P.info? e = some i) (hz : i.zero = some z)
    (hsize : i.size = size) (hby : i.bytes = bytes) (hzs : z.cells.size = size) (hsz : 0 < size)
    (v : Value) (n : Nat) (xs : List Value) (hs : a.eval s = v) (hown : w.ownsRow base e size v n xs)
    (ad : Addr) (m c : Nat) (news : List Value) (hx : a.eval x = .slice (some ad) m c) (hl : news.length = m * size) (hnews : ∀ j u, news[j]? = some u → w.cell? (ad.add j) = some u) (h1 : ∀ u ∈ news, u.oneCell' = true)
    (h63 : n + m ≤ maxLen) (hbytes : (n + m) * bytes ≤ 140737488355328) (hbase : base ≤ w.heap.size)
    (h : ∀ v' w', w'.ownsRow base e size v' (n + m) (xs ++ news) → w.grownBy w' v.ownBlock → (v' = .slice none 0 0 ↔ v = .slice none 0 0 ∧ m = 0) → K (a.put o.dst v') w') :
    if Region.wanted o (yielded ops a.tmps) = true then Oper.wp P o a w K Q else E := by
  have hw : Region.wanted o (yielded ops a.tmps) = true := by simp [Region.wanted, hg]
  rw [if_pos hw]
  exact wp_append_own w s x t ho base e i z size bytes ht hi hz hsize hby hzs hsz v n xs hs hown ad m c news hx hl hnews h1 h63 hbytes hbase h

/-- The cells of a new block. -/
theorem cells_new (w : World) (cs : List Value) (t : TypeId) : ∀ j u, cs[j]? = some u → (w.alloc (.cells cs.toArray t)).cell? ((⟨w.heap.size, 0, none⟩ : Addr).add j) = some u := by
  intro j u h
  have e : ((⟨w.heap.size, 0, none⟩ : Addr).add j) = ⟨w.heap.size, j, none⟩ := by
    unfold Addr.add; split
    · rename_i h0; subst h0; rfl
    · simp
  rw [e, World.cell?_alloc_at _ _ _ _ rfl]
  simpa using h

theorem cells_new_drew (w : World) (cs : List Value) (t : TypeId) : ∀ j u, cs[j]? = some u → (w.alloc (.cells cs.toArray t)).drew.cell? ((⟨w.heap.size, 0, none⟩ : Addr).add j) = some u := cells_new w cs t
theorem ownsRow_pos {w : World} {base : Nat} {e : TypeId} {size n : Nat} {v : Value} {xs : List Value} (h : w.ownsRow base e size v n xs) (hn : 0 < n) : ∃ g cap, v = .slice (some ⟨g, 0, none⟩) n cap ∧ n ≤ cap ∧ cap ≤ 9223372036854775807 := by
  rcases h.2 with ⟨_, h0⟩ | ⟨g, cap, cur, rfl, _, _, h1, h2, _⟩
  · omega
  · exact ⟨g, cap, rfl, h1, by unfold maxLen at h2; omega⟩
/-- A state's seven cells. -/
def stCells (st : St) : List Value := [.int .i64 st.kind, .int .i64 st.next, .int .i64 st.other, .int .u64 st.s0, .int .u64 st.s1, .int .u64 st.s2, .int .u64 st.s3]
def stsCells : List St → List Value
  | [] => []
  | st :: g => stCells st ++ stsCells g
theorem stsCells_append : ∀ (g h : List St), stsCells (g ++ h) = stsCells g ++ stsCells h
  | [], _ => rfl
  | st :: g, h => by simp [stsCells, stsCells_append g h]
theorem stsCells_length : ∀ g : List St, (stsCells g).length = g.length * 7
  | [] => rfl
  | st :: g => by simp [stsCells, stsCells_length g, stCells]; omega
theorem stsCells_get : ∀ (g : List St) (i j : Nat) (st : St), g[i]? = some st → j < 7 → (stsCells g)[i * 7 + j]? = (stCells st)[j]?
  | x :: g, 0, j, st, h, hj => by
    simp only [List.getElem?_cons_zero, Option.some.injEq] at h
    subst h
    simp only [stsCells, Nat.zero_mul, Nat.zero_add]
    rw [List.getElem?_append_left (by simpa [stCells] using hj)]
  | x :: g, i + 1, j, st, h, hj => by
    simp only [List.getElem?_cons_succ] at h
    have := stsCells_get g i j st h hj
    simp only [stsCells]
    rw [List.getElem?_append_right (by simp [stCells]; omega)]
    have e : (stCells x).length = 7 := rfl
    rw [e, show (i + 1) * 7 + j - 7 = i * 7 + j by omega]
    exact this

/-- A machine at block p: its states' slice v, its first set's words ws; the states g in a row of their own. -/
structure MachAt (w : World) (base p : Nat) (v : Value) (ws : List Value) (g : List St) : Prop where
  block : w.heap[p]? = some (.cells (v :: ws).toArray 68 (0, 0))
  words : ws.length = 12
  row : w.ownsRow base 63 7 v g.length (stsCells g)
  apart : v.ownBlock ≠ some p
  base : base ≤ w.heap.size
  few : g.length ≤ 100000

/-- A row of states, from base on. -/
def StRow (w : World) (base k : Nat) : Prop := base ≤ k ∧ ∃ cs f, w.heap[k]? = some (.cells cs 63 f)
/-- Of what was there only the machine's block and rows of states from base on may have changed. -/
def Keeps (base p : Nat) (w w' : World) : Prop := Only (fun k => k = p ∨ StRow w base k) w w'
theorem Keeps.refl (base p : Nat) (w : World) : Keeps base p w w := Only.refl _ _
theorem Keeps.trans {base p : Nat} {a b c : World} (h : Keeps base p a b) (k : Keeps base p b c) : Keeps base p a c := by
  refine Only.trans h (k.mono fun i hi hr => ?_)
  by_cases hia : a.heap.size ≤ i
  · exact .inr hia
  · rcases hr with rfl | ⟨h1, cs, f, h2⟩
    · exact .inl (.inl rfl)
    · by_cases hp : i = p
      · exact .inl (.inl hp)
      · by_cases hs : StRow a base i
        · exact .inl (.inr hs)
        · have := h.block i (by omega) (fun h' => h'.elim hp hs)
          exact .inl (.inr ⟨h1, cs, f, by rw [← this]; exact h2⟩)
theorem Keeps.alloc {base p : Nat} {a w : World} (h : Keeps base p a w) (o : Obj) : Keeps base p a (w.alloc o) := Only.alloc h o
theorem Keeps.drewN {base p : Nat} {a w : World} (h : Keeps base p a w) (n : Nat) : Keeps base p a (w.drewN n) := Only.drewN h n
theorem Keeps.of_below {base p : Nat} {w w' : World} (h : Below w.heap.size w w') : Keeps base p w w' := Only.of_below h
theorem Keeps.below {base p B : Nat} {w w' : World} (h : Keeps base p w w') (hB : B ≤ w.heap.size) (hb : B ≤ base) (hp : B ≤ p) : Below B w w' :=
  Only.below h hB (by rintro k (rfl | ⟨h1, _⟩) <;> omega)
/-- A block of another kind stands. -/
theorem Keeps.other {base p k : Nat} {w w' : World} {cs : Array Value} {t : TypeId} {f : Nat × Nat} (h : Keeps base p w w') (hk : w.heap[k]? = some (.cells cs t f)) (hp : k ≠ p) (ht : t ≠ 63) : w'.heap[k]? = some (.cells cs t f) := by
  rw [h.block k (lt_of_block hk) (by
    rintro (h' | ⟨_, cs', f', h'⟩)
    · exact hp h'
    · rw [hk] at h'; cases h'; exact ht rfl)]
  exact hk
theorem MachAt.stRow {w : World} {base p : Nat} {v : Value} {ws : List Value} {g : List St} (h : MachAt w base p v ws g) : ∀ k, v.ownBlock = some k → StRow w base k := by
  intro k hk
  rcases h.row.2 with ⟨rfl, _⟩ | ⟨g', cap, cur, rfl, hb, hh, _⟩
  · cases hk
  · simp only [Value.ownBlock, Option.some.injEq] at hk
    subst hk
    exact ⟨hb, cur, _, hh⟩
theorem info_state : (Tryd.prog.info? 63).map (fun i => (i.zero, i.size, i.bytes)) = some (some (.agg #[.int .i64 0, .int .i64 0, .int .i64 0, .int .u64 0, .int .u64 0, .int .u64 0, .int .u64 0]), 7, 56) := by kernel_rfl
end Go.Proofs.YtaelkjffidjcjaaDoor
