/- What holds while the document's table is made. -/
import Derived.Test.YtjhclopdcbnmkaaGreatDoorEndsAll
import Derived.Deep.AppendLies
set_option linter.unusedSimpArgs false
set_option linter.unusedVariables false
namespace Go.Proofs.YtjhclopdcbnmkaaGreatDoor
open Go.RowKit PX

def ndCells (l : List Nd) : List Value := l.flatMap Nd.cells
theorem ndCells_length : ∀ l : List Nd, (ndCells l).length = l.length * 9
  | [] => rfl
  | x :: l => by
    have := ndCells_length l
    simp only [ndCells, List.flatMap_cons, List.length_append, Nd.cells_length, List.length_cons] at this ⊢
    omega
theorem ndCells_snoc (l : List Nd) (x : Nd) : ndCells (l ++ [x]) = ndCells l ++ x.cells := by simp [ndCells]
theorem ndCells_get : ∀ (l : List Nd) (i : Nat) (nd : Nd), l[i]? = some nd → ∀ j, j < 9 → (ndCells l)[i * 9 + j]? = nd.cells[j]?
  | x :: l, 0, nd, h, j, hj => by
    simp only [List.getElem?_cons_zero, Option.some.injEq] at h
    subst h
    simp only [ndCells, List.flatMap_cons, Nat.zero_mul, Nat.zero_add]
    rw [List.getElem?_append_left (by rw [Nd.cells_length]; exact hj)]
  | x :: l, i + 1, nd, h, j, hj => by
    simp only [List.getElem?_cons_succ] at h
    have := ndCells_get l i nd h j hj
    simp only [ndCells, List.flatMap_cons]
    rw [List.getElem?_append_right (by rw [Nd.cells_length]; omega), Nd.cells_length, show (i + 1) * 9 + j - 9 = i * 9 + j by omega]
    exact this
def kkCells (S : ByteArray) (l : List Nat) : List Value := l.map fun q => .slice (some ⟨q, 0, none⟩) (S.size + 1) (S.size + 1)
def nilRow (S : ByteArray) : Array Value := (List.replicate (S.size + 1) (Value.slice none 0 0)).toArray

/-- The blocks that a table has, while it is made. -/
def Uses (p : Nat) (vn vk : Value) (nds : List Nd) (kk : List Nat) (q : Nat) : Prop := q = p ∨ vn.ownBlock = some q ∨ vk.ownBlock = some q ∨ q ∈ kk ∨ ∃ (i : Nat) (nd : Nd), nds[i]? = some nd ∧ nd.la = some ⟨q, 0, none⟩
structure AInv (w : World) (p : Nat) (S : ByteArray) (nds : List Nd) (Xs : List Rx) (kk : List Nat) (vn vk : Value) : Prop where
  top : w.heap[p]? = some (.cells #[.string S, vn, vk] 118 (0, 0))
  own1 : w.ownsRow (p + 1) 122 9 vn nds.length (ndCells nds)
  own2 : w.ownsRow (p + 1) 119 1 vk nds.length (kkCells S kk)
  apart : ∀ g, vn.ownBlock = some g → vk.ownBlock ≠ some g
  far : ∀ q, (vn.ownBlock = some q ∨ vk.ownBlock = some q) → q ∉ kk ∧ ∀ (i : Nat) (nd : Nd), nds[i]? = some nd → nd.la ≠ some ⟨q, 0, none⟩
  lens : Xs.length = nds.length ∧ kk.length = nds.length
  kid : ∀ (i : Nat) (nd : Nd), nds[i]? = some nd → nd.kids.length ≤ nd.kc ∧ nd.kc ≤ maxLen ∧ ∃ lb, nd.la = some ⟨lb, 0, none⟩ ∧ p < lb ∧ lb < w.heap.size ∧ lb ∉ kk ∧ ∀ (j : Nat) (c : Nat), nd.kids[j]? = some c → w.cell? ⟨lb, j, none⟩ = some (.int .i64 c)
  rows : ∀ q ∈ kk, p < q ∧ w.heap[q]? = some (.cells (nilRow S) 90 (0, 0))
  nodup : kk.Nodup
  lang : ∀ (i : Nat) (nd : Nd), nds[i]? = some nd → Xs[i]? = some (.node nd.k nd.mn nd.mx nd.s0 nd.s1 nd.s2 nd.s3 (nd.kids.map fun c => Xs.getD c (.set Q4.none))) ∧ ∀ c ∈ nd.kids, c < i
  good : ∀ (i : Nat) (nd : Nd), nds[i]? = some nd → (Xs.getD i (.set Q4.none)).formB = true ∧ U64 nd.s0 ∧ U64 nd.s1 ∧ U64 nd.s2 ∧ U64 nd.s3

section
variable {w w' : World} {p : Nat} {S : ByteArray} {nds : List Nd} {Xs : List Rx} {kk : List Nat} {vn vk : Value}
theorem AInv.low (h : AInv w p S nds Xs kk vn vk) (q : Nat) (hq : Uses p vn vk nds kk q) : p ≤ q ∧ q < w.heap.size := by
  rcases hq with rfl | hq | hq | hq | ⟨i, nd, hi, hl⟩
  · exact ⟨Nat.le_refl _, lt_of_block h.top⟩
  · have := h.own1.lt q hq; omega
  · have := h.own2.lt q hq; omega
  · have := h.rows q hq; have := lt_of_block this.2; omega
  · obtain ⟨-, -, lb, h1, h2, h3, -⟩ := h.kid i nd hi
    rw [hl] at h1
    cases h1
    omega
theorem AInv.only (h : AInv w p S nds Xs kk vn vk) {r : Nat → Prop} (ho : Only r w w') (hr : ∀ q, Uses p vn vk nds kk q → ¬ r q) : AInv w' p S nds Xs kk vn vk := by
  have hsz := ho.size
  refine ⟨(ho.block p (lt_of_block h.top) (hr p (.inl rfl))).trans h.top, ho.ownsRow h.own1 (fun q hq => hr q (.inr (.inl hq))), ho.ownsRow h.own2 (fun q hq => hr q (.inr (.inr (.inl hq)))), h.apart, h.far, h.lens, fun i nd hi => ?_, fun q hq => ?_, h.nodup, h.lang, h.good⟩
  · obtain ⟨h1, h2, lb, h3, h4, h5, h6, h7⟩ := h.kid i nd hi
    exact ⟨h1, h2, lb, h3, h4, by omega, h6, fun j c hc => (ho.cell (p := ⟨lb, j, none⟩) h5 (hr lb (.inr (.inr (.inr (.inr ⟨i, nd, hi, h3⟩)))))).trans (h7 j c hc)⟩
  · have h1 := h.rows q hq
    exact ⟨h1.1, (ho.block q (lt_of_block h1.2) (hr q (.inr (.inr (.inr (.inl hq)))))).trans h1.2⟩
/-- The table that is made. -/
theorem AInv.tab (h : AInv w p S nds Xs kk vn vk) (h0 : 0 < nds.length) : ∃ nb nc kb kc, TabS (fun _ => False) w p S nds (fun i => Xs.getD i (.set Q4.none)) nb nc kb kc kk := by
  have f1 := h.own1
  have f2 := h.own2
  rcases h.own1.2 with ⟨-, h1⟩ | ⟨nb, nc, cur, rfl, -, -, hc1, hc2, -⟩
  · omega
  rcases h.own2.2 with ⟨-, h1⟩ | ⟨kb, kc, cur2, rfl, -, -, hc3, hc4, -⟩
  · omega
  refine ⟨nb, nc, kb, kc, h.top, ⟨hc1, hc2, hc3, hc4⟩, fun i nd hi j hj => ?_, fun i nd hi => ?_, fun i q hi => ?_, h.lens.2, h.nodup, fun q hq => ?_, fun q hq => hq.elim, fun i nd hi => ?_, h.good, fun i q hi => ?_⟩
  · have hil := (List.getElem?_eq_some_iff.1 hi).1
    rw [f1.cellAt (i * 9 + j) (by omega), ndCells_get nds i nd hi j hj]
  · obtain ⟨h1, h2, lb, h3, -, -, -, h7⟩ := h.kid i nd hi
    exact ⟨h1, h2, .inr ⟨lb, h3, h7⟩⟩
  · have hil := (List.getElem?_eq_some_iff.1 hi).1
    have := h.lens.2
    rw [f2.cellAt i (by omega)]
    simp [kkCells, hi]
  · have hU : Uses p (.slice (some ⟨nb, 0, none⟩) nds.length nc) (.slice (some ⟨kb, 0, none⟩) nds.length kc) nds kk q := by
      rcases hq with rfl | rfl | rfl | hq
      · exact .inl rfl
      · exact .inr (.inl rfl)
      · exact .inr (.inr (.inl rfl))
      · exact .inr (.inr (.inr (.inr hq)))
    refine ⟨(h.low q hU).2, ?_⟩
    rcases hq with rfl | rfl | rfl | ⟨i, nd, hi, hl⟩
    · intro hk; have := (h.rows q hk).1; omega
    · exact (h.far q (.inl rfl)).1
    · exact (h.far q (.inr rfl)).1
    · obtain ⟨-, -, lb, h3, -, -, h6, -⟩ := h.kid i nd hi
      rw [hl] at h3; cases h3; exact h6
  · obtain ⟨h1, h2⟩ := h.lang i nd hi
    exact ⟨by simp only [List.getD_eq_getElem?_getD, h1, Option.getD_some], h2⟩
  · have h1 := (h.rows q (List.mem_of_getElem? hi)).2
    refine ⟨nilRow S, h1, by simp [nilRow], fun a ha => .inl ?_⟩
    simp only [nilRow, List.getElem?_toArray]
    rw [List.getElem?_replicate, if_pos (by omega)]

/-- A node more: the table is whole again. -/
theorem add_last {wr wc wz : World} {p : Nat} {S : ByteArray} {nds : List Nd} {Xs : List Rx} {kk : List Nat} {na ka : Option Addr} {N nc kc gn cn gk ck kq lb : Nat} {nd : Nd} {x : Rx} (hA : AInv wr p S nds Xs kk (.slice na N nc) (.slice ka N kc)) (hN : nds.length = N)
    (hon4 : Only (fun q => q = p ∨ (Value.slice na N nc).ownBlock = some q) wr wc) (hat4 : (Value.slice na N nc).ownBlock = some gn ∨ wr.heap.size ≤ gn) (hown4 : wc.ownsRow (p + 1) 122 9 (.slice (some ⟨gn, 0, none⟩) (N + 1) cn) (N + 1) (ndCells nds ++ nd.cells))
    (hon7 : Only (fun q => q = p ∨ (Value.slice ka N kc).ownBlock = some q) wc wz) (hat7 : (Value.slice ka N kc).ownBlock = some gk ∨ wc.heap.size + 2 ≤ gk) (hown7 : wz.ownsRow (p + 1) 119 1 (.slice (some ⟨gk, 0, none⟩) (N + 1) ck) (N + 1) (kkCells S kk ++ [.slice (some ⟨kq, 0, none⟩) (S.size + 1) (S.size + 1)]))
    (htop : wz.heap[p]? = some (.cells #[.string S, .slice (some ⟨gn, 0, none⟩) (N + 1) cn, .slice (some ⟨gk, 0, none⟩) (N + 1) ck] 118 (0, 0))) (hkq : kq = wc.heap.size) (hkb : wz.heap[kq]? = some (.cells (nilRow S) 90 (0, 0)))
    (hla : nd.la = some ⟨lb, 0, none⟩) (hlp : p < lb) (hlw : lb < wr.heap.size) (hlU : ¬ Uses p (.slice na N nc) (.slice ka N kc) nds kk lb) (hcs : ∀ (j : Nat) (c : Nat), nd.kids[j]? = some c → wr.cell? ⟨lb, j, none⟩ = some (.int .i64 c)) (hcap : nd.kids.length ≤ nd.kc ∧ nd.kc ≤ maxLen)
    (hx : x = .node nd.k nd.mn nd.mx nd.s0 nd.s1 nd.s2 nd.s3 (nd.kids.map fun c => Xs.getD c (.set Q4.none))) (hk : ∀ c ∈ nd.kids, c < N) (hf : x.formB = true ∧ U64 nd.s0 ∧ U64 nd.s1 ∧ U64 nd.s2 ∧ U64 nd.s3) :
    AInv wz p S (nds ++ [nd]) (Xs ++ [x]) (kk ++ [kq]) (.slice (some ⟨gn, 0, none⟩) (N + 1) cn) (.slice (some ⟨gk, 0, none⟩) (N + 1) ck) ∧
      (∀ q, Uses p (.slice (some ⟨gn, 0, none⟩) (N + 1) cn) (.slice (some ⟨gk, 0, none⟩) (N + 1) ck) (nds ++ [nd]) (kk ++ [kq]) q → Uses p (.slice na N nc) (.slice ka N kc) nds kk q ∨ q = lb ∨ wr.heap.size ≤ q) ∧ Only (Uses p (.slice na N nc) (.slice ka N kc) nds kk) wr wz := by
  have hs4 := hon4.size
  have hs7 := hon7.size
  have hgn := (hown4.lt gn rfl).2
  have hgn1 := (hown4.lt gn rfl).1
  have hgk := (hown7.lt gk rfl).2
  have hgk1 := (hown7.lt gk rfl).1
  have hnaU : ∀ q, (Value.slice na N nc).ownBlock = some q → Uses p (.slice na N nc) (.slice ka N kc) nds kk q := fun q h => .inr (.inl h)
  have hkaU : ∀ q, (Value.slice ka N kc).ownBlock = some q → Uses p (.slice na N nc) (.slice ka N kc) nds kk q := fun q h => .inr (.inr (.inl h))
  have hon : Only (fun q => q = p ∨ (Value.slice na N nc).ownBlock = some q ∨ (Value.slice ka N kc).ownBlock = some q) wr wz :=
    (hon4.mono (fun q _ h => by rcases h with h | h; exact .inl h; exact .inr (.inl h))).trans (hon7.mono (fun q _ h => by rcases h with h | h; exact .inl (.inl h); exact .inl (.inr (.inr h))))
  have hkk : ∀ q ∈ kk, p < q ∧ q < wr.heap.size := fun q hq => ⟨(hA.rows q hq).1, lt_of_block (hA.rows q hq).2⟩
  have hlas : ∀ (i : Nat) (nd' : Nd) (q : Nat), nds[i]? = some nd' → nd'.la = some ⟨q, 0, none⟩ → p < q ∧ q < wr.heap.size ∧ q ∉ kk := fun i nd' q hi hl => by
    obtain ⟨-, -, lb', h3, h4, h5, h6, -⟩ := hA.kid i nd' hi
    rw [hl] at h3; cases h3; exact ⟨h4, h5, h6⟩
  have hlkk : lb ∉ kk := fun h => hlU (.inr (.inr (.inr (.inl h))))
  have hnr : ∀ q, q ∈ kk ∨ (∃ (i : Nat) (nd' : Nd), nds[i]? = some nd' ∧ nd'.la = some ⟨q, 0, none⟩) ∨ q = lb → ¬ (q = p ∨ (Value.slice na N nc).ownBlock = some q ∨ (Value.slice ka N kc).ownBlock = some q) := by
    rintro q hq (rfl | h | h)
    · rcases hq with hq | ⟨i, nd', hi, hl⟩ | rfl
      · exact absurd (hkk _ hq).1 (by omega)
      · exact absurd (hlas i nd' _ hi hl).1 (by omega)
      · omega
    · rcases hq with hq | ⟨i, nd', hi, hl⟩ | rfl
      · exact (hA.far q (.inl h)).1 hq
      · exact (hA.far q (.inl h)).2 i nd' hi hl
      · exact hlU (hnaU _ h)
    · rcases hq with hq | ⟨i, nd', hi, hl⟩ | rfl
      · exact (hA.far q (.inr h)).1 hq
      · exact (hA.far q (.inr h)).2 i nd' hi hl
      · exact hlU (hkaU _ h)
  have hka : ∀ q, (Value.slice ka N kc).ownBlock = some q → q < wr.heap.size := fun q h => (hA.own2.lt q h).2
  have hna : ∀ q, (Value.slice na N nc).ownBlock = some q → q < wr.heap.size := fun q h => (hA.own1.lt q h).2
  have hL : (nds ++ [nd]).length = N + 1 := by rw [List.length_append, hN]; rfl
  have hget : ∀ (i : Nat) (nd' : Nd), (nds ++ [nd])[i]? = some nd' → (nds[i]? = some nd' ∧ i < N) ∨ (i = N ∧ nd' = nd) := fun i nd' hi => by
    by_cases hiN : i < N
    · rw [List.getElem?_append_left (by omega)] at hi; exact .inl ⟨hi, hiN⟩
    · have hil := (List.getElem?_eq_some_iff.1 hi).1
      have : i = N := by omega
      subst this
      rw [List.getElem?_append_right (by omega), hN, Nat.sub_self] at hi
      exact .inr ⟨rfl, (Option.some.inj hi).symm⟩
  have hgnf : ∀ q, q ∈ kk ∨ (∃ (i : Nat) (nd' : Nd), nds[i]? = some nd' ∧ nd'.la = some ⟨q, 0, none⟩) ∨ q = lb → q ≠ gn := by
    rintro q hq rfl
    rcases hat4 with h | h
    · exact hnr q hq (.inr (.inl h))
    · rcases hq with hq | ⟨i, nd', hi, hl⟩ | rfl
      · have := hkk _ hq; omega
      · have := hlas i nd' _ hi hl; omega
      · omega
  have hgkf : ∀ q, q ∈ kk ∨ (∃ (i : Nat) (nd' : Nd), nds[i]? = some nd' ∧ nd'.la = some ⟨q, 0, none⟩) ∨ q = lb → q ≠ gk := by
    rintro q hq rfl
    rcases hat7 with h | h
    · exact hnr q hq (.inr (.inr h))
    · rcases hq with hq | ⟨i, nd', hi, hl⟩ | rfl
      · have := hkk _ hq; omega
      · have := hlas i nd' _ hi hl; omega
      · omega
  have hlX := hA.lens
  have hxs : ∀ c, c < N → (Xs ++ [x]).getD c (.set Q4.none) = Xs.getD c (.set Q4.none) := fun c hc => by
    simp only [List.getD_eq_getElem?_getD]; rw [List.getElem?_append_left (by omega)]
  have hxN : (Xs ++ [x])[N]? = some x := by
    rw [List.getElem?_append_right (by omega), show N - Xs.length = 0 by omega]; rfl
  refine ⟨⟨htop, ?_, ?_, ?_, ?_, ?_, ?_, ?_, ?_, ?_, ?_⟩, ?_, ?_⟩
  · rw [hL, ndCells_snoc]
    exact hon7.ownsRow hown4 (fun q hq hr => by
      have e : gn = q := Option.some.inj hq
      subst e
      rcases hr with h | h
      · omega
      · rcases hat4 with h4 | h4
        · exact hA.apart gn h4 h
        · have := hka gn h; omega)
  · rw [hL]; simp only [kkCells, List.map_append, List.map_singleton] at hown7 ⊢; exact hown7
  · intro g hg hg2
    have e1 : gn = g := Option.some.inj hg
    have e2 : gk = g := Option.some.inj hg2
    subst e1
    rcases hat7 with h7 | h7
    · rcases hat4 with h4 | h4
      · exact hA.apart gn h4 (e2 ▸ h7)
      · have := hka gk h7; omega
    · omega
  · rintro q (hq | hq)
    · have e : gn = q := Option.some.inj hq
      subst e
      refine ⟨fun hk => ?_, fun i nd' hi hl => ?_⟩
      · rcases List.mem_append.1 hk with h | h
        · exact hgnf gn (.inl h) rfl
        · rw [List.mem_singleton.1 h] at hgn; omega
      · rcases hget i nd' hi with ⟨h, -⟩ | ⟨-, rfl⟩
        · exact hgnf gn (.inr (.inl ⟨i, nd', h, hl⟩)) rfl
        · rw [hla] at hl; cases hl; exact hgnf _ (.inr (.inr rfl)) rfl
    · have e : gk = q := Option.some.inj hq
      subst e
      refine ⟨fun hk => ?_, fun i nd' hi hl => ?_⟩
      · rcases List.mem_append.1 hk with h | h
        · exact hgkf gk (.inl h) rfl
        · have e := List.mem_singleton.1 h
          rcases hat7 with h7 | h7
          · have := hka gk h7; omega
          · omega
      · rcases hget i nd' hi with ⟨h, -⟩ | ⟨-, rfl⟩
        · exact hgkf gk (.inr (.inl ⟨i, nd', h, hl⟩)) rfl
        · rw [hla] at hl; cases hl; exact hgkf _ (.inr (.inr rfl)) rfl
  · constructor
    · rw [hL, List.length_append]; simp; omega
    · rw [hL, List.length_append]; simp; omega
  · intro i nd' hi
    rcases hget i nd' hi with ⟨h, hiN⟩ | ⟨-, rfl⟩
    · obtain ⟨h1, h2, lb', h3, h4, h5, h6, h7⟩ := hA.kid i nd' h
      refine ⟨h1, h2, lb', h3, h4, by omega, fun hk => ?_, fun j c hc => (hon.cell (p := ⟨lb', j, none⟩) h5 (hnr lb' (.inr (.inl ⟨i, nd', h, h3⟩)))).trans (h7 j c hc)⟩
      rcases List.mem_append.1 hk with hk | hk
      · exact h6 hk
      · rw [List.mem_singleton.1 hk] at h5; omega
    · refine ⟨hcap.1, hcap.2, lb, hla, hlp, by omega, fun hk => ?_, fun j c hc => (hon.cell (p := ⟨lb, j, none⟩) hlw (hnr lb (.inr (.inr rfl)))).trans (hcs j c hc)⟩
      rcases List.mem_append.1 hk with hk | hk
      · exact hlkk hk
      · rw [List.mem_singleton.1 hk] at hlw; omega
  · intro q hq
    rcases List.mem_append.1 hq with hq | hq
    · exact ⟨(hA.rows q hq).1, (hon.block q (hkk q hq).2 (hnr q (.inl hq))).trans (hA.rows q hq).2⟩
    · rw [List.mem_singleton.1 hq]
      have := lt_of_block hA.top
      exact ⟨by omega, hkb⟩
  · rw [List.nodup_append]
    refine ⟨hA.nodup, by simp, fun a ha b hb => ?_⟩
    rw [List.mem_singleton.1 hb]
    have := hkk a ha
    omega
  · intro i nd' hi
    rcases hget i nd' hi with ⟨h, hiN⟩ | ⟨rfl, rfl⟩
    · obtain ⟨h1, h2⟩ := hA.lang i nd' h
      refine ⟨?_, h2⟩
      rw [List.getElem?_append_left (by omega), h1]
      congr 2
      exact List.map_congr_left fun c hc => (hxs c (by have := h2 c hc; omega)).symm
    · refine ⟨?_, hk⟩
      rw [hxN, hx]
      congr 2
      exact List.map_congr_left fun c hc => by rw [← hx]; exact (hxs c (hk c hc)).symm
  · intro i nd' hi
    rcases hget i nd' hi with ⟨h, hiN⟩ | ⟨rfl, rfl⟩
    · rw [hxs i hiN]; exact hA.good i nd' h
    · rw [List.getD_eq_getElem?_getD, hxN]; exact hf
  · rintro q (rfl | hq | hq | hq | ⟨i, nd', hi, hl⟩)
    · exact .inl (.inl rfl)
    · have e : gn = q := Option.some.inj hq
      subst e
      rcases hat4 with h | h
      · exact .inl (hnaU _ h)
      · exact .inr (.inr h)
    · have e : gk = q := Option.some.inj hq
      subst e
      rcases hat7 with h | h
      · exact .inl (hkaU _ h)
      · exact .inr (.inr (by omega))
    · rcases List.mem_append.1 hq with h | h
      · exact .inl (.inr (.inr (.inr (.inl h))))
      · rw [List.mem_singleton.1 h]; exact .inr (.inr (by omega))
    · rcases hget i nd' hi with ⟨h, -⟩ | ⟨-, rfl⟩
      · exact .inl (.inr (.inr (.inr (.inr ⟨i, nd', h, hl⟩))))
      · rw [hla] at hl; cases hl; exact .inr (.inl rfl)
  · refine hon.mono (fun q _ h => ?_)
    rcases h with h | h | h
    · exact .inl h
    · exact hnaU q h
    · exact hkaU q h
end
end Go.Proofs.YtjhclopdcbnmkaaGreatDoor
