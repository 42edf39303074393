/- The document's table for an expression and a text, as it lies in memory. -/
import Derived.Test.YtjhclopdcbnmkaaGreatDoorM2
set_option linter.unusedSimpArgs false
set_option linter.unusedVariables false
namespace Go.Proofs.YtjhclopdcbnmkaaGreatDoor
open Go.RowKit PX

/-- A node of a table: an expression's own cells, and its elements' numbers. -/
structure Nd where
  k : Int
  mn : Int
  mx : Int
  s0 : Int
  s1 : Int
  s2 : Int
  s3 : Int
  a : Option Addr
  ln : Nat
  cap : Nat
  la : Option Addr
  kc : Nat
  kids : List Nat
def Nd.cells (x : Nd) : List Value := [.int .i64 x.k, .int .i64 x.mn, .int .i64 x.mx, .int .u64 x.s0, .int .u64 x.s1, .int .u64 x.s2, .int .u64 x.s3, .slice x.a x.ln x.cap, .slice x.la x.kids.length x.kc]
theorem Nd.cells_length (x : Nd) : x.cells.length = 9 := rfl

/-- A row of truths, a block of its own. -/
def OwnB (w : World) (g : Nat) (bs : List Bool) : Prop := w.heap[g]? = some (.cells (bs.map Value.bool).toArray 4 (0, 0))
theorem OwnB.later {w w' : World} {g : Nat} {bs : List Bool} (h : OwnB w g bs) {r : Nat → Prop} (ho : Only r w w') (hr : ¬ r g) : OwnB w' g bs := (ho.block g (lt_of_block h) hr).trans h
theorem OwnB.cell {w : World} {g : Nat} {bs : List Bool} (h : OwnB w g bs) {k : Nat} {b : Bool} (hb : bs[k]? = some b) : w.cell? ⟨g, k, none⟩ = some (.bool b) := by
  rw [cell_of_block h, List.getElem?_toArray, List.getElem?_map, hb]; rfl
theorem OwnB.free {w : World} {g : Nat} {bs : List Bool} (h : OwnB w g bs) (k : Nat) : w.frozen? ⟨g, k, none⟩ = false := free_of_block h k
theorem OwnB.lt {w : World} {g : Nat} {bs : List Bool} (h : OwnB w g bs) : g < w.heap.size := lt_of_block h
theorem map_set_bool : ∀ (bs : List Bool) (k : Nat) (b : Bool), (bs.map Value.bool).set k (.bool b) = (bs.set k b).map Value.bool
  | [], k, b => by simp
  | x :: bs, 0, b => by simp
  | x :: bs, k + 1, b => by simp
theorem OwnB.set {w : World} {g : Nat} {bs : List Bool} (h : OwnB w g bs) (k : Nat) (b : Bool) : OwnB (w.setCell ⟨g, k, none⟩ (.bool b)) g (bs.set k b) := by
  unfold OwnB
  rw [setCell_block h k (.bool b), List.setIfInBounds_toArray, map_set_bool]
theorem ownB_new (w : World) (bs : List Bool) : OwnB (w.alloc (.cells (bs.map Value.bool).toArray 4)) w.heap.size bs := alloc_block w _

/-- The blocks that a table has for its nodes. -/
def Base (p nb kb : Nat) (nds : List Nd) (q : Nat) : Prop := q = p ∨ q = nb ∨ q = kb ∨ ∃ (i : Nat) (nd : Nd), nds[i]? = some nd ∧ nd.la = some ⟨q, 0, none⟩

/-- A table, some of whose rows are still being filled (F): none of those is known yet. -/
structure TabS (F : Nat → Prop) (w : World) (p : Nat) (S : ByteArray) (nds : List Nd) (X : Nat → Rx) (nb nc kb kc : Nat) (kk : List Nat) : Prop where
  top : w.heap[p]? = some (.cells #[.string S, .slice (some ⟨nb, 0, none⟩) nds.length nc, .slice (some ⟨kb, 0, none⟩) nds.length kc] 118 (0, 0))
  caps : nds.length ≤ nc ∧ nc ≤ maxLen ∧ nds.length ≤ kc ∧ kc ≤ maxLen
  node : ∀ (i : Nat) (nd : Nd), nds[i]? = some nd → ∀ j, j < 9 → w.cell? ⟨nb, i * 9 + j, none⟩ = nd.cells[j]?
  kid : ∀ (i : Nat) (nd : Nd), nds[i]? = some nd → nd.kids.length ≤ nd.kc ∧ nd.kc ≤ maxLen ∧ (nd.kids = [] ∨ ∃ lb, nd.la = some ⟨lb, 0, none⟩ ∧ ∀ (j : Nat) (c : Nat), nd.kids[j]? = some c → w.cell? ⟨lb, j, none⟩ = some (.int .i64 c))
  known : ∀ (i q : Nat), kk[i]? = some q → w.cell? ⟨kb, i, none⟩ = some (.slice (some ⟨q, 0, none⟩) (S.size + 1) (S.size + 1))
  len : kk.length = nds.length
  nodup : kk.Nodup
  low : ∀ q, Base p nb kb nds q → q < w.heap.size ∧ q ∉ kk
  fill : ∀ q, F q → q < w.heap.size ∧ q ∉ kk ∧ ¬ Base p nb kb nds q
  lang : ∀ (i : Nat) (nd : Nd), nds[i]? = some nd → X i = .node nd.k nd.mn nd.mx nd.s0 nd.s1 nd.s2 nd.s3 (nd.kids.map X) ∧ ∀ c ∈ nd.kids, c < i
  good : ∀ (i : Nat) (nd : Nd), nds[i]? = some nd → (X i).formB = true ∧ U64 nd.s0 ∧ U64 nd.s1 ∧ U64 nd.s2 ∧ U64 nd.s3
  row : ∀ (i q : Nat), kk[i]? = some q → ∃ cs : Array Value, w.heap[q]? = some (.cells cs 90 (0, 0)) ∧ cs.size = S.size + 1 ∧ ∀ a, a ≤ S.size → cs[a]? = some (.slice none 0 0) ∨
    ∃ g bs, cs[a]? = some (.slice (some ⟨g, 0, none⟩) (S.size + 1) (S.size + 1)) ∧ OwnB w g bs ∧ IsEnds (X i).lang S.data.toList a bs ∧ g ∉ kk ∧ ¬ F g

section
variable {F : Nat → Prop} {w w' : World} {p : Nat} {S : ByteArray} {nds : List Nd} {X : Nat → Rx} {nb nc kb kc : Nat} {kk : List Nat}
/-- A table reads on while rows that are being filled alone turn. -/
theorem TabS.only (h : TabS F w p S nds X nb nc kb kc kk) {r : Nat → Prop} (ho : Only r w w') (hr : ∀ q, q < w.heap.size → r q → F q) : TabS F w' p S nds X nb nc kb kc kk := by
  have hB : ∀ q, Base p nb kb nds q → ¬ r q := fun q hq hrq => (h.fill q (hr q (h.low q hq).1 hrq)).2.2 hq
  have hlb : ∀ (i : Nat) (nd : Nd), nds[i]? = some nd → ∀ lb, nd.la = some ⟨lb, 0, none⟩ → Base p nb kb nds lb := fun i nd hi lb hl => .inr (.inr (.inr ⟨i, nd, hi, hl⟩))
  refine ⟨(ho.block p (lt_of_block h.top) (hB p (.inl rfl))).trans h.top, h.caps, fun i nd hi j hj => ?_, fun i nd hi => ?_, fun i q hi => ?_, h.len, h.nodup, fun q hq => ?_, fun q hq => ?_, h.lang, h.good, fun i q hi => ?_⟩
  · have h1 := h.node i nd hi j hj
    have hj' : j < nd.cells.length := by rw [Nd.cells_length]; exact hj
    rw [List.getElem?_eq_getElem hj'] at h1 ⊢
    exact (ho.cell (World.block_lt_of_cell? _ _ h1) (hB nb (.inr (.inl rfl)))).trans h1
  · refine ⟨(h.kid i nd hi).1, (h.kid i nd hi).2.1, ?_⟩
    rcases (h.kid i nd hi).2.2 with h0 | ⟨lb, h1, h3⟩
    · exact .inl h0
    · exact .inr ⟨lb, h1, fun j c hc => (ho.cell (World.block_lt_of_cell? _ _ (h3 j c hc)) (hB lb (hlb i nd hi lb h1))).trans (h3 j c hc)⟩
  · have h1 := h.known i q hi
    exact (ho.cell (World.block_lt_of_cell? _ _ h1) (hB kb (.inr (.inr (.inl rfl))))).trans h1
  · have := h.low q hq; have := ho.size; exact ⟨by omega, (h.low q hq).2⟩
  · have := h.fill q hq; have := ho.size; exact ⟨by omega, (h.fill q hq).2⟩
  · obtain ⟨cs, h1, h2, h3⟩ := h.row i q hi
    have hqk := List.mem_of_getElem? hi
    refine ⟨cs, (ho.block q (lt_of_block h1) (fun hrq => (h.fill q (hr q (lt_of_block h1) hrq)).2.1 hqk)).trans h1, h2, fun a ha => ?_⟩
    rcases h3 a ha with h4 | ⟨g, bs, h4, h5, h6, h7, h8⟩
    · exact .inl h4
    · exact .inr ⟨g, bs, h4, h5.later ho (fun hg => h8 (hr g h5.lt hg)), h6, h7, h8⟩
theorem TabS.later (h : TabS F w p S nds X nb nc kb kc kk) (ho : Later w w') : TabS F w' p S nds X nb nc kb kc kk :=
  h.only (r := fun _ => False) (Only.of_below ho) (fun _ _ h => h.elim)
/-- Rows that are done with. -/
theorem TabS.weaken (h : TabS F w p S nds X nb nc kb kc kk) {G : Nat → Prop} (hG : ∀ q, G q → F q) : TabS G w p S nds X nb nc kb kc kk :=
  ⟨h.top, h.caps, h.node, h.kid, h.known, h.len, h.nodup, h.low, fun q hq => h.fill q (hG q hq), h.lang, h.good, fun i q hi => by
    obtain ⟨cs, h1, h2, h3⟩ := h.row i q hi
    refine ⟨cs, h1, h2, fun a ha => ?_⟩
    rcases h3 a ha with h4 | ⟨g, bs, h4, h5, h6, h7, h8⟩
    · exact .inl h4
    · exact .inr ⟨g, bs, h4, h5, h6, h7, fun hg => h8 (hG g hg)⟩⟩
/-- A block that is new is being filled. -/
theorem TabS.fresh (h : TabS F w p S nds X nb nc kb kc kk) (hl : Later w w') (g : Nat) (hg : w.heap.size ≤ g) (hg2 : g < w'.heap.size) : TabS (fun q => F q ∨ q = g) w' p S nds X nb nc kb kc kk := by
  have h' := h.later hl
  refine ⟨h'.top, h'.caps, h'.node, h'.kid, h'.known, h'.len, h'.nodup, h'.low, fun q hq => ?_, h'.lang, h'.good, fun i q hi => ?_⟩
  · rcases hq with hq | rfl
    · exact h'.fill q hq
    · refine ⟨hg2, fun hk => ?_, fun hb => by have := (h.low q hb).1; omega⟩
      obtain ⟨i, hi⟩ := List.getElem?_of_mem hk
      obtain ⟨cs, h1, -⟩ := h.row i q hi
      have := lt_of_block h1; omega
  · obtain ⟨cs, h1, h2, h3⟩ := h.row i q hi
    refine ⟨cs, (Below.block hl q (lt_of_block h1)).trans h1, h2, fun a ha => ?_⟩
    rcases h3 a ha with h4 | ⟨g', bs, h4, h5, h6, h7, h8⟩
    · exact .inl h4
    · refine .inr ⟨g', bs, h4, h5.later (Only.of_below (r := fun _ => False) hl) (fun h => h), h6, h7, ?_⟩
      rintro (hx | hx)
      · exact h8 hx
      · have := h5.lt; omega
/-- A row that is whole is made known. -/
theorem TabS.store (h : TabS F w p S nds X nb nc kb kc kk) {n q a g : Nat} {bs : List Bool} (hq : kk[n]? = some q) (ha : a ≤ S.size) (hb : OwnB w g bs) (he : IsEnds (X n).lang S.data.toList a bs) (hg : g ∉ kk) {G : Nat → Prop} (hG : ∀ x, G x → F x) (hgG : ¬ G g) :
    TabS G (w.setCell ⟨q, a, none⟩ (.slice (some ⟨g, 0, none⟩) (S.size + 1) (S.size + 1))) p S nds X nb nc kb kc kk := by
  have hqk : q ∈ kk := List.mem_of_getElem? hq
  have ho : Only (fun x => x = q) w (w.setCell ⟨q, a, none⟩ (.slice (some ⟨g, 0, none⟩) (S.size + 1) (S.size + 1))) := (Only.refl (fun x => x = q) w).setCell (.inl rfl) _
  have hne : ∀ x, x ∉ kk → ¬ x = q := fun x hx he => hx (he ▸ hqk)
  have hB : ∀ x, Base p nb kb nds x → ¬ x = q := fun x hx => hne x (h.low x hx).2
  refine ⟨(ho.block p (lt_of_block h.top) (hB p (.inl rfl))).trans h.top, h.caps, fun i nd hi j hj => ?_, fun i nd hi => ?_, fun i q' hi => ?_, h.len, h.nodup, fun x hx => ?_, fun x hx => ?_, h.lang, h.good, fun i q' hi => ?_⟩
  · have h1 := h.node i nd hi j hj
    have hj' : j < nd.cells.length := by rw [Nd.cells_length]; exact hj
    rw [List.getElem?_eq_getElem hj'] at h1 ⊢
    exact (ho.cell (World.block_lt_of_cell? _ _ h1) (hB nb (.inr (.inl rfl)))).trans h1
  · refine ⟨(h.kid i nd hi).1, (h.kid i nd hi).2.1, ?_⟩
    rcases (h.kid i nd hi).2.2 with h0 | ⟨lb, h1, h3⟩
    · exact .inl h0
    · exact .inr ⟨lb, h1, fun j c hc => (ho.cell (World.block_lt_of_cell? _ _ (h3 j c hc)) (hB lb (.inr (.inr (.inr ⟨i, nd, hi, h1⟩))))).trans (h3 j c hc)⟩
  · have h1 := h.known i q' hi
    exact (ho.cell (World.block_lt_of_cell? _ _ h1) (hB kb (.inr (.inr (.inl rfl))))).trans h1
  · have := h.low x hx; have := ho.size; exact ⟨by omega, (h.low x hx).2⟩
  · have := h.fill x (hG x hx); have := ho.size; exact ⟨by omega, (h.fill x (hG x hx)).2⟩
  · obtain ⟨cs, h1, h2, h3⟩ := h.row i q' hi
    have hold : ∀ a', (cs[a']? = some (.slice none 0 0) ∨ ∃ g bs, cs[a']? = some (.slice (some ⟨g, 0, none⟩) (S.size + 1) (S.size + 1)) ∧ OwnB w g bs ∧ IsEnds (X i).lang S.data.toList a' bs ∧ g ∉ kk ∧ ¬ F g) →
        (cs[a']? = some (.slice none 0 0) ∨ ∃ g' bs, cs[a']? = some (.slice (some ⟨g', 0, none⟩) (S.size + 1) (S.size + 1)) ∧ OwnB (w.setCell ⟨q, a, none⟩ (.slice (some ⟨g, 0, none⟩) (S.size + 1) (S.size + 1))) g' bs ∧ IsEnds (X i).lang S.data.toList a' bs ∧ g' ∉ kk ∧ ¬ G g') := by
      rintro a' (h4 | ⟨g', bs', h4, h5, h6, h7, h8⟩)
      · exact .inl h4
      · exact .inr ⟨g', bs', h4, h5.later ho (hne g' h7), h6, h7, fun hx => h8 (hG _ hx)⟩
    by_cases hqq : q' = q
    · subst hqq
      have hin : i = n := by
        have hil : i < kk.length := (List.getElem?_eq_some_iff.1 hi).1
        exact (List.getElem?_inj hil h.nodup).1 (hi.trans hq.symm)
      subst hin
      refine ⟨cs.setIfInBounds a (.slice (some ⟨g, 0, none⟩) (S.size + 1) (S.size + 1)), setCell_block h1 a _, by simpa using h2, fun a' ha' => ?_⟩
      by_cases haa : a' = a
      · subst haa
        exact .inr ⟨g, bs, by rw [Array.getElem?_setIfInBounds_self_of_lt (by omega)], hb.later ho (hne g hg), he, hg, hgG⟩
      · rw [Array.getElem?_setIfInBounds_ne (by omega)]
        exact hold a' (h3 a' ha')
    · exact ⟨cs, (ho.block q' (lt_of_block h1) hqq).trans h1, h2, fun a' ha' => hold a' (h3 a' ha')⟩
end

/-- What Ends tells of node n, from place a on. -/
def EndsPost (S : ByteArray) (p : Nat) (nds : List Nd) (X : Nat → Rx) (nb nc kb kc : Nat) (kk : List Nat) (F : Nat → Prop) (n a : Nat) (w : World) (e : Ending) (w' : World) : Prop :=
  ∃ g bs, e = .returned (.slice (some ⟨g, 0, none⟩) (S.size + 1) (S.size + 1)) ∧ OwnB w' g bs ∧ IsEnds (X n).lang S.data.toList a bs ∧ TabS F w' p S nds X nb nc kb kc kk ∧ Only (fun q => q ∈ kk) w w' ∧ g ∉ kk ∧ ¬ F g
/-- What Ends tells of node n. -/
def EndsOK (S : ByteArray) (p : Nat) (nds : List Nd) (X : Nat → Rx) (nb nc kb kc : Nat) (kk : List Nat) (n : Nat) : Prop :=
  ∀ (F : Nat → Prop) (w : World) (a : Nat), TabS F w p S nds X nb nc kb kc kk → a ≤ S.size →
    Calls Tryz.prog 42 #[.pointer (some ⟨p, 0, none⟩), .int .i64 n, .int .i64 a] w (EndsPost S p nds X nb nc kb kc kk F n a w)
/-- What through tells of node n. -/
def ThroughOK (S : ByteArray) (p : Nat) (nds : List Nd) (X : Nat → Rx) (nb nc kb kc : Nat) (kk : List Nat) (n : Nat) : Prop :=
  ∀ (F : Nat → Prop) (w : World) (gf : Nat) (fs : List Bool), TabS F w p S nds X nb nc kb kc kk → OwnB w gf fs → fs.length = S.size + 1 → gf ∉ kk →
    Calls Tryz.prog 68 #[.pointer (some ⟨p, 0, none⟩), .int .i64 n, .slice (some ⟨gf, 0, none⟩) (S.size + 1) (S.size + 1)] w fun e w' => ∃ g bs, e = .returned (.slice (some ⟨g, 0, none⟩) (S.size + 1) (S.size + 1)) ∧ w.heap.size ≤ g ∧ OwnB w' g bs ∧ bs.length = S.size + 1 ∧
      (∀ k, k ≤ S.size → (bs[k]? = some true ↔ ∃ j, j ≤ k ∧ fs[j]? = some true ∧ (X n).lang (sub S.data.toList j k))) ∧ TabS (fun q => F q ∨ q = g) w' p S nds X nb nc kb kc kk ∧ Only (fun q => q ∈ kk) w w' ∧ g ∉ kk
end Go.Proofs.YtjhclopdcbnmkaaGreatDoor
