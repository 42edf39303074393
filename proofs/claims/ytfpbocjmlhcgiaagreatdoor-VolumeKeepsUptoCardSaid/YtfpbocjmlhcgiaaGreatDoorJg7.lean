/- Jg7, merged: J30 J31 J32 J33. -/
import Derived.Test.YtfpbocjmlhcgiaaGreatDoorJg6
import Derived.Test.YtfpbocjmlhcgiaaGreatDoorJg1
import Derived.Laws.OwnMore
set_option linter.unusedSimpArgs false
set_option linter.unusedVariables false
/- Plain: a journal, what its calls make of it; no program in sight. -/
namespace Go.Proofs.YtfpbocjmlhcgiaaGreatDoor
open PJ

def blk (d : List UInt8) (st : Nat) : List UInt8 := blockT sumN d st
abbrev View := Nat → List UInt8
def setS (V : View) (i : Nat) (s : List UInt8) : View := fun j => if j = i then s else V j
theorem setS_same (V : View) (i : Nat) (s : List UInt8) : setS V i s i = s := if_pos rfl
theorem setS_other {V : View} {i j : Nat} {s : List UInt8} (h : j ≠ i) : setS V i s j = V j := if_neg h
/-- The cells of a record, from a block on. -/
def wrV (st : Nat) : View → Nat → List Wr → View
  | V, _, [] => V
  | V, i, w :: r => wrV st (setS V i (blk w.data.data.toList st)) (i + 1) r
theorem wrV_out {st : Nat} : ∀ (l : List Wr) (V : View) (i j : Nat), j < i ∨ i + l.length ≤ j → wrV st V i l j = V j
  | [], _, _, _, _ => rfl
  | w :: r, V, i, j, h => by
    rw [wrV, wrV_out r _ (i + 1) j (by simp at h ⊢; omega), setS_other (by simp at h; omega)]
theorem wrV_in {st : Nat} : ∀ (l : List Wr) (V : View) (i j : Nat), i ≤ j → j < i + l.length → ∃ w ∈ l, wrV st V i l j = blk w.data.data.toList st
  | [], _, _, _, h, h' => by simp at h'; omega
  | w :: r, V, i, j, h, h' => by
    rw [wrV]
    by_cases e : j = i
    · subst e
      exact ⟨w, List.mem_cons_self .., by rw [wrV_out r _ _ _ (.inl (by omega)), setS_same]⟩
    · obtain ⟨x, hx, h2⟩ := wrV_in r (setS V i (blk w.data.data.toList st)) (i + 1) j (by omega) (by simp at h'; omega)
      exact ⟨x, List.mem_cons_of_mem _ hx, h2⟩
/-- A record's first block. -/
def recD (l : List Wr) : List UInt8 := be l.length 1 ++ l.flatMap fun w => be w.cell.toNat 2
theorem recD_len (l : List Wr) : (recD l).length = 1 + 2 * l.length := by
  have : ∀ l : List Wr, (l.flatMap fun w => be w.cell.toNat 2).length = 2 * l.length := by
    intro l
    induction l with
    | nil => rfl
    | cons w r ih => rw [List.flatMap_cons, List.length_append, be_len, ih, List.length_cons]; omega
  rw [recD, List.length_append, be_len, this]
/-- The cells laid home. -/
def homeV (area : Nat) (C : Cells) (V : View) : View := fun i => if area ≤ i then (match C (i - area) with | some d => blk d 0 | none => V i) else V i
/-- A journal. -/
structure Jn where
  n : Nat
  area : Nat
  head : Nat
  first : Nat
  next : Nat
  at' : Nat
  C : Cells
  V : View
  S : View
/-- .. behind a record. -/
def Jn.put (J : Jn) (l : List Wr) : Jn :=
  { J with C := putsW J.C l, next := J.next + 1, at' := J.at' + 1 + l.length, V := wrV J.next (setS J.V J.at' (blk (recD l) J.next)) (J.at' + 1) l }
/-- What home leaves on the disk. -/
def Jn.homeW (J : Jn) : View := setS (homeV J.area J.C J.V) ((J.head + 1) % 2) (blk (be J.next 8) (J.head + 1))
/-- .. laid home. -/
def Jn.home (J : Jn) : Jn := { J with head := J.head + 1, first := J.next, at' := 2, C := fun _ => none, V := J.homeW, S := J.homeW }
structure Jn.OK (J : Jn) : Prop where
  area4 : 4 ≤ J.area
  arean : J.area < J.n
  n12 : J.n ≤ 4096
  cells : ∀ c d, J.C c = some d → c < J.n - J.area ∧ d.length = 116
  at2 : 2 ≤ J.at'
  atA : J.at' ≤ J.area
  first1 : 1 ≤ J.first
  fn : J.first ≤ J.next
  clean : J.first = J.next → J.at' = 2 ∧ ∀ c, J.C c = none
  full : J.first ≠ J.next → ∃ c, (J.C c).isSome = true
  good : ∀ i, i < J.n → ∃ d st, J.V i = blk d st ∧ d.length ≤ 116 ∧ st ≤ 4611686018427387904
  stamps : ∀ i, 2 ≤ i → i < J.area → ∃ d st, J.V i = blk d st ∧ d.length ≤ 116 ∧ st < J.next ∧ st ≤ 4611686018427387904
  head2 : 2 ≤ J.head
  headV : J.V (J.head % 2) = blk (be J.first 8) J.head
  other : J.V ((J.head + 1) % 2) = blk [] 0 ∨ ∃ f, J.V ((J.head + 1) % 2) = blk (be f 8) (J.head - 1) ∧ 1 ≤ f ∧ f ≤ 4611686018427387904 ∧ 3 ≤ J.head
/-- .. behind a checkpoint. -/
def Jn.check (J : Jn) : Jn := if J.first = J.next then J else J.home
/-- All cells. -/
def Jn.read (J : Jn) : List (List UInt8) := cont J.C (fun c => (J.V (J.area + c)).take 116) (J.n - J.area)
theorem take_blk {d : List UInt8} (h : d.length ≤ 116) (st : Nat) : (blk d st).take 116 = padT d 116 := block_data sumN h st
theorem puts_len : ∀ (l : List Wr) (C : Cells) (m : Nat), (∀ c d, C c = some d → c < m ∧ d.length = 116) → (∀ w ∈ l, 0 ≤ w.cell ∧ w.cell < (m : Int) ∧ w.data.size ≤ 116) →
    ∀ c d, putsW C l c = some d → c < m ∧ d.length = 116
  | [], C, m, h, _, c, d, hd => h c d hd
  | w :: r, C, m, h, hw, c, d, hd => by
    refine puts_len r (putW C w) m (fun c d hd => ?_) (fun x hx => hw x (List.mem_cons_of_mem _ hx)) c d hd
    have hwl := hw w (List.mem_cons_self ..)
    unfold putW at hd
    split at hd
    · rename_i he
      rw [← Option.some.inj hd]
      have : w.data.data.toList.length = w.data.size := by rw [Array.length_toList]; rfl
      exact ⟨by omega, pad_len (by omega)⟩
    · exact h c d hd
theorem puts_some : ∀ (l : List Wr) (C : Cells) (c : Nat), (C c).isSome = true → (putsW C l c).isSome = true
  | [], C, c, h => h
  | w :: r, C, c, h => by
    refine puts_some r (putW C w) c ?_
    unfold putW
    split
    · rfl
    · exact h
theorem Jn.put_ok {J : Jn} (h : J.OK) {l : List Wr} (hl : l ≠ []) (h40 : l.length ≤ 40) (ha : J.at' + 1 + l.length ≤ J.area) (hw : ∀ w ∈ l, 0 ≤ w.cell ∧ w.cell < ((J.n - J.area : Nat) : Int) ∧ w.data.size ≤ 116) (hn : J.next < 4611686018427387904) : (J.put l).OK := by
  have h2 := h.at2
  have hA := h.arean
  have hl1 : 1 ≤ l.length := by cases l with | nil => exact absurd rfl hl | cons _ _ => simp
  have hin : ∀ i, J.at' ≤ i → i < J.at' + 1 + l.length → ∃ d, (J.put l).V i = blk d J.next ∧ d.length ≤ 116 := by
    intro i h1 h3
    by_cases e : i = J.at'
    · subst e
      refine ⟨recD l, ?_, by rw [recD_len]; omega⟩
      show wrV J.next (setS J.V J.at' (blk (recD l) J.next)) (J.at' + 1) l J.at' = _
      rw [wrV_out _ _ _ _ (.inl (by omega)), setS_same]
    · obtain ⟨w, hwl, he⟩ := wrV_in (st := J.next) l (setS J.V J.at' (blk (recD l) J.next)) (J.at' + 1) i (by omega) (by omega)
      have : w.data.data.toList.length = w.data.size := by rw [Array.length_toList]; rfl
      exact ⟨_, he, by have := (hw w hwl).2.2; omega⟩
  have hout : ∀ i, i < J.at' ∨ J.at' + 1 + l.length ≤ i → (J.put l).V i = J.V i := by
    intro i hi
    show wrV J.next (setS J.V J.at' (blk (recD l) J.next)) (J.at' + 1) l i = _
    rw [wrV_out _ _ _ _ (by omega), setS_other (by omega)]
  refine ⟨h.area4, h.arean, h.n12, puts_len l J.C _ h.cells hw, ?_, ?_, h.first1, ?_, ?_, ?_, ?_, ?_, h.head2, ?_, ?_⟩
  · show 2 ≤ J.at' + 1 + l.length; omega
  · exact ha
  · show J.first ≤ J.next + 1; have := h.fn; omega
  · intro e
    have e' : J.first = J.next + 1 := e
    have := h.fn
    omega
  · intro _
    cases l with
    | nil => exact absurd rfl hl
    | cons x r =>
      have hx := hw x (List.mem_cons_self ..)
      refine ⟨x.cell.toNat, puts_some r (putW J.C x) x.cell.toNat ?_⟩
      unfold putW
      rw [if_pos (by omega)]
      rfl
  · intro i hi
    by_cases e : J.at' ≤ i ∧ i < J.at' + 1 + l.length
    · obtain ⟨d, h3, h4⟩ := hin i e.1 e.2
      exact ⟨d, J.next, h3, h4, by omega⟩
    · rw [hout i (by omega)]
      exact h.good i hi
  · intro i hi hi2
    by_cases e : J.at' ≤ i ∧ i < J.at' + 1 + l.length
    · obtain ⟨d, h3, h4⟩ := hin i e.1 e.2
      exact ⟨d, J.next, h3, h4, by show J.next < J.next + 1; omega, by omega⟩
    · rw [hout i (by omega)]
      obtain ⟨d, st, h3, h4, h5, h6⟩ := h.stamps i hi hi2
      exact ⟨d, st, h3, h4, by show st < J.next + 1; omega, h6⟩
  · show (J.put l).V (J.head % 2) = _
    rw [hout _ (by omega)]
    exact h.headV
  · show (J.put l).V ((J.head + 1) % 2) = _ ∨ ∃ f, (J.put l).V ((J.head + 1) % 2) = _ ∧ _
    rw [hout _ (by omega)]
    exact h.other
theorem Jn.home_V {J : Jn} {i : Nat} (h : J.OK) (hi : i < J.area) (hne : i ≠ (J.head + 1) % 2) : J.homeW i = J.V i := by
  unfold Jn.homeW
  rw [setS_other hne]
  unfold homeV
  rw [if_neg (by omega)]
theorem Jn.home_ok {J : Jn} (h : J.OK) (hh : J.head < 4611686018427387904) (hn : J.next ≤ 4611686018427387904) : J.home.OK := by
  have h4 := h.area4
  have hA := h.arean
  have h2 := h.head2
  refine ⟨h.area4, h.arean, h.n12, ?_, ?_, ?_, ?_, ?_, ?_, (fun e => absurd rfl e), ?_, ?_, ?_, ?_, ?_⟩
  · intro c d hd; cases hd
  · show 2 ≤ 2; omega
  · show 2 ≤ J.area; omega
  · show 1 ≤ J.next; have := h.first1; have := h.fn; omega
  · exact Nat.le_refl _
  · intro _; exact ⟨rfl, fun _ => rfl⟩
  · intro i hi
    by_cases e : i = (J.head + 1) % 2
    · refine ⟨be J.next 8, J.head + 1, ?_, by rw [be_len]; omega, by omega⟩
      show J.homeW i = _
      rw [e, Jn.homeW, setS_same]
    · by_cases ea : J.area ≤ i
      · show ∃ d st, J.homeW i = _ ∧ _
        rw [Jn.homeW, setS_other e]
        unfold homeV
        rw [if_pos ea]
        cases hc : J.C (i - J.area) with
        | none => exact h.good i hi
        | some d => exact ⟨d, 0, rfl, by rw [(h.cells _ _ hc).2]; omega, by omega⟩
      · show ∃ d st, J.homeW i = _ ∧ _
        rw [Jn.home_V h (by omega) e]
        exact h.good i hi
  · intro i hi hi2
    show ∃ d st, J.homeW i = _ ∧ _
    rw [Jn.home_V h hi2 (by omega)]
    exact h.stamps i hi hi2
  · show 2 ≤ J.head + 1; omega
  · show J.homeW ((J.head + 1) % 2) = _
    rw [Jn.homeW, setS_same]
    rfl
  · right
    refine ⟨J.first, ?_, h.first1, by have := h.fn; omega, ?_⟩
    · show J.homeW ((J.head + 1 + 1) % 2) = blk (be J.first 8) (J.head + 1 - 1)
      have e : (J.head + 1 + 1) % 2 = J.head % 2 := by omega
      rw [e, Jn.home_V h (by omega) (by omega), h.headV]
      rfl
    · show 3 ≤ J.head + 1; omega
theorem Jn.read_home {J : Jn} (h : J.OK) : J.home.read = J.read := by
  have h4 := h.area4
  unfold Jn.read cont
  apply List.map_congr_left
  intro c hc
  show ((J.homeW (J.area + c)).take 116) = (J.C c).getD ((J.V (J.area + c)).take 116)
  rw [Jn.homeW, setS_other (by omega)]
  unfold homeV
  rw [if_pos (by omega), Nat.add_sub_cancel_left]
  cases hd : J.C c with
  | none => rfl
  | some d =>
    have hl := (h.cells _ _ hd).2
    show (blk d 0).take 116 = d
    rw [take_blk (by omega), padT, hl]
    simp
theorem Jn.read_put {J : Jn} (h : J.OK) {l : List Wr} (ha : J.at' + 1 + l.length ≤ J.area) (hw : ∀ w ∈ l, 0 ≤ w.cell ∧ w.cell < ((J.n - J.area : Nat) : Int) ∧ w.data.size ≤ 116) : (J.put l).read = behindL J.read l := by
  unfold Jn.read
  rw [behind_puts hw]
  unfold cont
  apply List.map_congr_left
  intro c hc
  show (putsW J.C l c).getD ((wrV J.next (setS J.V J.at' (blk (recD l) J.next)) (J.at' + 1) l (J.area + c)).take 116) = _
  rw [wrV_out _ _ _ _ (by omega), setS_other (by omega)]
end Go.Proofs.YtfpbocjmlhcgiaaGreatDoor
/- The device in memory: the disk, the device's cells, its cache. -/
namespace Go.Proofs.YtfpbocjmlhcgiaaGreatDoor
open Go.RowKit PJ Go.Maps

def safT (safe : List UInt8) (i : Nat) : List UInt8 := (safe.drop (128 * i)).take 128
/-- What there was, and what has been laid since. -/
def grow (F : Nat → Prop) (w w' : World) : Nat → Prop := fun q => F q ∨ (w.heap.size ≤ q ∧ q < w'.heap.size)
/-- The cache in memory, in a block that nobody writes. -/
def CacheAt (w : World) (R F : Nat → Prop) (cv : Value) (xs : List Kept) : Prop :=
  (cv = .slice none 0 0 ∧ xs = []) ∨ ∃ g off cap, cv = .slice (some ⟨g, off, none⟩) xs.length cap ∧ g < w.heap.size ∧ ¬ R g ∧ F g ∧ ∀ j k, xs[j]? = some k → KeptCells w g (off + j * 3) k
structure DevS (w : World) (p g mb b n cached : Nat) (R F : Nat → Prop) (V S : View) (dt : Bool) (safe : List UInt8) (U : Int → Option (List UInt8)) (cv : Value) (misses : Int) (xs : List Kept) : Prop where
  disk : DiskAt w p g mb n safe U
  cells : w.heap[b]? = some (.cells (devCells p 0 n cached cv misses) 105 (0, 0))
  cache : CacheAt w R F cv xs
  len : xs.length ≤ 16
  ca : cached ≤ 16
  keys : ∀ i s, U i = some s → 0 ≤ i ∧ i < n ∧ s.length = 128
  views : ∀ i, i < n → secT safe U i = V i ∧ safT safe i = S i
  clean : dt = false → ∀ i, U i = none
  kept : ∀ k ∈ xs, k.at' < n ∧ parseT sumN (V k.at') = some (k.data, k.stamp)
  sub : ∀ q, R q → F q
  lt : ∀ q, F q → q < w.heap.size
  rp : R p
  rg : R g
  rm : R mb
  rb : R b
  bp : b ≠ p
  bg : b ≠ g
  bm : b ≠ mb
def DevAt (w : World) (p g mb b n cached : Nat) (R F : Nat → Prop) (V S : View) (dt : Bool) : Prop := ∃ safe U cv misses xs, DevS w p g mb b n cached R F V S dt safe U cv misses xs
theorem DiskAt.kept {w w' : World} {p g mb n : Nat} {safe : List UInt8} {U : Int → Option (List UInt8)} (h : DiskAt w p g mb n safe U) (hs : w.heap.size ≤ w'.heap.size) (ho : ∀ k, k = p ∨ k = g ∨ k = mb → w'.heap[k]? = w.heap[k]?) : DiskAt w' p g mb n safe U := by
  obtain ⟨h1, h2, h3, cap, cnt, ch, D, hp, hc, hs', hpg, hg, hmp, hmg, hw, hm, hcn⟩ := h
  refine ⟨h1, h2, h3, cap, cnt, ch, D, (ho p (.inl rfl)).trans hp, hc, fun j hj => ?_, hpg, by omega, hmp, hmg, ?_, hm, hcn⟩
  · obtain ⟨a, b⟩ := hs' j hj
    exact ⟨(World.cell?_of_block (a := ⟨g, j, none⟩) (ho g (.inr (.inl rfl)))).trans a, (World.frozen?_of_block (a := ⟨g, j, none⟩) (ho g (.inr (.inl rfl)))).trans b⟩
  · obtain ⟨es, clock, h4, h5⟩ := hw
    exact ⟨es, clock, (ho mb (.inr (.inr rfl))).trans h4, h5⟩
theorem KeptCells.kept {w w' : World} {g o : Nat} {k : Kept} (h : KeptCells w g o k) (hb : w'.heap[g]? = w.heap[g]?) : KeptCells w' g o k :=
  ⟨(World.cell?_of_block (a := ⟨g, o, none⟩) hb).trans h.1, (World.cell?_of_block (a := ⟨g, o + 1, none⟩) hb).trans h.2.1, (World.cell?_of_block (a := ⟨g, o + 2, none⟩) hb).trans h.2.2⟩
theorem CacheAt.kept {w w' : World} {R F F' : Nat → Prop} {cv : Value} {xs : List Kept} (h : CacheAt w R F cv xs) (hs : w.heap.size ≤ w'.heap.size) (ho : ∀ k, F k → ¬ R k → w'.heap[k]? = w.heap[k]?) (hF : ∀ q, F q → F' q) : CacheAt w' R F' cv xs := by
  rcases h with h | ⟨g, off, cap, h1, h2, h3, h4, h5⟩
  · exact .inl h
  · exact .inr ⟨g, off, cap, h1, by omega, h3, hF _ h4, fun j k hk => (h5 j k hk).kept (ho g h4 h3)⟩
theorem grow_sub {F : Nat → Prop} {w w' : World} : ∀ q, F q → grow F w w' q := fun q h => .inl h
theorem grow_lt {F : Nat → Prop} {w w' : World} (h : ∀ q, F q → q < w.heap.size) (hs : w.heap.size ≤ w'.heap.size) : ∀ q, grow F w w' q → q < w'.heap.size := by
  intro q hq
  rcases hq with hq | hq
  · have := h q hq; omega
  · exact hq.2
theorem grow_not {F : Nat → Prop} {w w' : World} {q : Nat} (h : ¬ F q) (hq : q < w.heap.size) : ¬ grow F w w' q := by
  rintro (h1 | h1)
  · exact h h1
  · omega
theorem grow_grow {F : Nat → Prop} {w w1 w2 : World} (h1 : w.heap.size ≤ w1.heap.size) (h2 : w1.heap.size ≤ w2.heap.size) : ∀ q, grow (grow F w w1) w1 w2 q → grow F w w2 q := by
  rintro q ((hq | hq) | hq)
  · exact .inl hq
  · exact .inr ⟨hq.1, by omega⟩
  · exact .inr ⟨by omega, hq.2⟩
theorem grow_mono {F : Nat → Prop} {w w1 w2 : World} (h2 : w1.heap.size ≤ w2.heap.size) : ∀ q, grow F w w1 q → grow F w w2 q := by
  rintro q (hq | hq)
  · exact .inl hq
  · exact .inr ⟨hq.1, by omega⟩
/-- A step that leaves all that the device has, as it was. -/
theorem DevAt.kept {w w' : World} {p g mb b n cached : Nat} {R F F' : Nat → Prop} {V S : View} {dt : Bool} (h : DevAt w p g mb b n cached R F V S dt) (hs : w.heap.size ≤ w'.heap.size) (ho : ∀ k, F k → w'.heap[k]? = w.heap[k]?) (hF : ∀ q, F q → F' q) (hF' : ∀ q, F' q → q < w'.heap.size) : DevAt w' p g mb b n cached R F' V S dt := by
  obtain ⟨safe, U, cv, misses, xs, h⟩ := h
  refine ⟨safe, U, cv, misses, xs, h.disk.kept hs ?_, (ho _ (h.sub _ h.rb)).trans h.cells, h.cache.kept hs (fun k h1 _ => ho k h1) hF, h.len, h.ca, h.keys, h.views, h.clean, h.kept, fun q hq => hF _ (h.sub q hq), hF', h.rp, h.rg, h.rm, h.rb, h.bp, h.bg, h.bm⟩
  rintro k (rfl | rfl | rfl)
  · exact ho _ (h.sub _ h.rp)
  · exact ho _ (h.sub _ h.rg)
  · exact ho _ (h.sub _ h.rm)
theorem DevAt.later {w w' : World} {p g mb b n cached : Nat} {R F : Nat → Prop} {V S : View} {dt : Bool} (h : DevAt w p g mb b n cached R F V S dt) (hb : Below w.heap.size w w') : DevAt w' p g mb b n cached R F V S dt := by
  have hl : ∀ q, F q → q < w.heap.size := by obtain ⟨_, _, _, _, _, h⟩ := h; exact h.lt
  exact h.kept hb.size (fun k hk => hb.block k (hl k hk)) (fun _ h => h) (fun q hq => by have := hl q hq; have := hb.size; omega)
theorem DevAt.drew {w : World} {p g mb b n cached : Nat} {R F : Nat → Prop} {V S : View} {dt : Bool} (h : DevAt w p g mb b n cached R F V S dt) : DevAt w.drew p g mb b n cached R F V S dt := by
  obtain ⟨safe, U, cv, misses, xs, h⟩ := h
  exact ⟨safe, U, cv, misses, xs, ⟨h.disk, h.cells, h.cache, h.len, h.ca, h.keys, h.views, h.clean, h.kept, h.sub, h.lt, h.rp, h.rg, h.rm, h.rb, h.bp, h.bg, h.bm⟩⟩
/-- A wider footprint. -/
theorem DevAt.wide {w : World} {p g mb b n cached : Nat} {R F F' : Nat → Prop} {V S : View} {dt : Bool} (h : DevAt w p g mb b n cached R F V S dt) (hF : ∀ q, F q → F' q) (hF' : ∀ q, F' q → q < w.heap.size) : DevAt w p g mb b n cached R F' V S dt := h.kept (Nat.le_refl _) (fun _ _ => rfl) hF hF'
theorem DevAt.dirty {w : World} {p g mb b n cached : Nat} {R F : Nat → Prop} {V S : View} {dt : Bool} (h : DevAt w p g mb b n cached R F V S dt) : DevAt w p g mb b n cached R F V S true := by
  obtain ⟨safe, U, cv, misses, xs, h⟩ := h
  exact ⟨safe, U, cv, misses, xs, ⟨h.disk, h.cells, h.cache, h.len, h.ca, h.keys, h.views, (fun e => by cases e), h.kept, h.sub, h.lt, h.rp, h.rg, h.rm, h.rb, h.bp, h.bg, h.bm⟩⟩
end Go.Proofs.YtfpbocjmlhcgiaaGreatDoor
/- The cache's rows: cells of kepts; slices.DeleteFunc at them. -/
namespace Go.Proofs.YtfpbocjmlhcgiaaGreatDoor
open Go.RowKit PJ Go.Maps

def ksC (xs : List Kept) : List Value := xs.flatMap fun k => [.int .i64 k.at', .string ⟨k.data.toArray⟩, .int .i64 k.stamp]
theorem ksC_cons (k : Kept) (r : List Kept) : ksC (k :: r) = .int .i64 k.at' :: .string ⟨k.data.toArray⟩ :: .int .i64 k.stamp :: ksC r := rfl
theorem ksC_len : ∀ xs : List Kept, (ksC xs).length = xs.length * 3
  | [] => rfl
  | k :: r => by rw [ksC_cons, List.length_cons, List.length_cons, List.length_cons, ksC_len r, List.length_cons]; omega
theorem ksC_append (xs ys : List Kept) : ksC (xs ++ ys) = ksC xs ++ ksC ys := by simp [ksC]
theorem ksC_get : ∀ (xs : List Kept) (j : Nat) (k : Kept), xs[j]? = some k → (ksC xs)[j * 3]? = some (.int .i64 k.at') ∧ (ksC xs)[j * 3 + 1]? = some (.string ⟨k.data.toArray⟩) ∧ (ksC xs)[j * 3 + 2]? = some (.int .i64 k.stamp)
  | x :: r, 0, k, h => by
    obtain rfl : x = k := by simpa using h
    exact ⟨rfl, rfl, rfl⟩
  | x :: r, j + 1, k, h => by
    have ih := ksC_get r j k (by simpa using h)
    have e : ∀ m, (ksC (x :: r))[(j + 1) * 3 + m]? = (ksC r)[j * 3 + m]? := fun m => by
      rw [ksC_cons, show (j + 1) * 3 + m = j * 3 + m + 1 + 1 + 1 from by omega]
      rfl
    exact ⟨(e 0).trans ih.1, (e 1).trans ih.2.1, (e 2).trans ih.2.2⟩
theorem ksC_set : ∀ (xs : List Kept) (j : Nat) (k : Kept), j < xs.length → (((ksC xs).set (j * 3) (.int .i64 k.at')).set (j * 3 + 1) (.string ⟨k.data.toArray⟩)).set (j * 3 + 2) (.int .i64 k.stamp) = ksC (xs.set j k)
  | x :: r, 0, k, h => rfl
  | x :: r, j + 1, k, h => by
    have ih := ksC_set r j k (by simpa using h)
    rw [List.set_cons_succ, ksC_cons, ksC_cons, ← ih]
    rw [show (j + 1) * 3 = j * 3 + 1 + 1 + 1 from by omega, show j * 3 + 1 + 1 + 1 + 1 = (j * 3 + 1) + 1 + 1 + 1 from rfl, show j * 3 + 1 + 1 + 1 + 2 = (j * 3 + 2) + 1 + 1 + 1 from rfl]
    rfl
theorem ksC_take : ∀ (xs : List Kept) (j : Nat), (ksC xs).take (j * 3) = ksC (xs.take j)
  | xs, 0 => by simp [ksC]
  | [], j + 1 => by simp [ksC]
  | x :: r, j + 1 => by
    rw [List.take_succ_cons, ksC_cons, ksC_cons, show (j + 1) * 3 = j * 3 + 1 + 1 + 1 from by omega, List.take_succ_cons, List.take_succ_cons, List.take_succ_cons, ksC_take r j]
theorem setCells_row (b : Nat) : ∀ (vs : List Value) (o : Nat) (w : World) (cur : Array Value) (t : TypeId), w.heap[b]? = some (.cells cur t (0, 0)) →
    ∃ cur', (w.setCells b o vs).heap[b]? = some (.cells cur' t (0, 0)) ∧ cur'.size = cur.size ∧ ∀ m, m ≤ o → cur'.toList.take m = cur.toList.take m
  | [], _, w, cur, t, h => ⟨cur, h, rfl, fun _ _ => rfl⟩
  | v :: vs, o, w, cur, t, h => by
    obtain ⟨cur', h1, h2, h3⟩ := setCells_row b vs (o + 1) (w.setCell ⟨b, o, none⟩ v) (cur.setIfInBounds o v) t (heap_setCell_same w b o cur t v h)
    refine ⟨cur', h1, by simpa using h2, fun m hm => ?_⟩
    rw [h3 m (by omega), Array.toList_setIfInBounds, List.take_set, List.set_eq_of_length_le]
    rw [List.length_take]; omega
/-- What is left of a row that is cut, and cleared behind. -/
theorem own_cut {w : World} {B g n cap : Nat} {zs : List Kept} (h : w.ownsRow B 126 3 (.slice (some ⟨g, 0, none⟩) n cap) n (ksC zs)) (hz : zs.length = n) (i : Nat) (hi : i ≤ n) (vs : List Value) :
    (w.setCells g (i * 3) vs).ownsRow B 126 3 (.slice (some ⟨g, 0, none⟩) i cap) i (ksC (zs.take i)) := by
  rcases h.2 with ⟨h', _⟩ | ⟨g', cap', cur, h', hb, hg, hnc, hcm, hcs, htake⟩
  · simp at h'
  · simp only [Value.slice.injEq, Option.some.injEq, Addr.mk.injEq, and_true, true_and] at h'
    obtain ⟨rfl, rfl⟩ := h'
    obtain ⟨cur', h1, h2, h3⟩ := setCells_row g vs (i * 3) w cur _ hg
    refine ⟨by rw [ksC_len, List.length_take]; omega, .inr ⟨g, cap, cur', rfl, hb, h1, by omega, hcm, by rw [h2, hcs], ?_⟩⟩
    rw [h3 _ (Nat.le_refl _), ← ksC_take, ← htake, List.take_take]
    congr 1
    omega
theorem zero_kept (w : World) : (zeroValue 126).run Tryz.prog w = .ok (.agg #[.int .i64 0, .string ⟨#[]⟩, .int .i64 0]) w := by kernel_rfl
/-- The search in a nil cache. -/
theorem kidxT_nil (w : World) (c : Array Value) :
    Calls Tryz.prog 175 #[.slice none 0 0, .func (.func 173) #[] c] w fun e w' => e = .returned (.int .i64 (-1)) ∧ Below w.heap.size w w' := by
  go_enter Tryz.func175, Tryz.ntmps175
  go_wp2_with fail
  refine wp_loop_rounds 1 ?_
  rw [rounds_succ]
  go_wp2_with fail
  go_ret
  exact ⟨rfl, Below.refl _ _⟩
theorem kidxR_nil (w : World) (c : Array Value) :
    Calls Tryz.prog 175 #[.slice none 0 0, .func (.func 176) #[] c] w fun e w' => e = .returned (.int .i64 (-1)) ∧ Below w.heap.size w w' := by
  go_enter Tryz.func175, Tryz.ntmps175
  go_wp2_with fail
  refine wp_loop_rounds 1 ?_
  rw [rounds_succ]
  go_wp2_with fail
  go_ret
  exact ⟨rfl, Below.refl _ _⟩
/-- .. those that are not at a place. -/
def offK (b : Nat) (xs : List Kept) : List Kept := xs.filter (fun o => !decide (o.at' = b))
theorem findK_lt (b : Nat) : ∀ (xs : List Kept) (i : Nat), (findK b xs i = -1 ∧ offK b xs = xs) ∨ ∃ m, m < xs.length ∧ findK b xs i = ((i + m : Nat) : Int) ∧ offK b (xs.take (m + 1)) = xs.take m
  | [], i => .inl ⟨rfl, rfl⟩
  | k :: r, i => by
    unfold findK
    by_cases h : k.at' = b
    · rw [if_pos h]
      exact .inr ⟨0, by simp, rfl, by simp [offK, h]⟩
    · rw [if_neg h]
      rcases findK_lt b r (i + 1) with ⟨h1, h2⟩ | ⟨m, h1, h2, h3⟩
      · exact .inl ⟨h1, by unfold offK at h2 ⊢; rw [List.filter_cons, if_pos (by simpa using h), h2]⟩
      · refine .inr ⟨m + 1, by simpa using h1, by rw [h2]; congr 1; omega, ?_⟩
        unfold offK at h3 ⊢
        rw [List.take_succ_cons, List.filter_cons, if_pos (by simpa using h), h3, List.take_succ_cons]
theorem off_snoc {b : Nat} {xs : List Kept} {j : Nat} {k : Kept} (h : xs[j]? = some k) : offK b (xs.take (j + 1)) = offK b (xs.take j) ++ (if k.at' = b then [] else [k]) := by
  rw [List.take_add_one, h]
  unfold offK
  rw [List.filter_append]
  congr 1
  by_cases e : k.at' = b <;> simp [e]
end Go.Proofs.YtfpbocjmlhcgiaaGreatDoor
/- slices.DeleteFunc at the cache. -/
namespace Go.Proofs.YtfpbocjmlhcgiaaGreatDoor
open Go.RowKit PJ Go.Maps

theorem own_below {w w' : World} {B : Nat} {T : TypeId} {s : Nat} {v : Value} {n : Nat} {xs : List Value} (h : w.ownsRow B T s v n xs) (hb : Below w.heap.size w w') : w'.ownsRow B T s v n xs := by
  rcases h with ⟨h0, h | ⟨g, cap, cur, h1, h2, h3, h4⟩⟩
  · exact ⟨h0, .inl h⟩
  · exact ⟨h0, .inr ⟨g, cap, cur, h1, h2, block_below hb h3 (lt_blk h3), h4⟩⟩
theorem zero_one (n : Nat) : ∀ v ∈ (Builtin.zeroCells (Value.agg #[.int .i64 0, .string ⟨#[]⟩, .int .i64 0]).cells n).toList, v.oneCell' = true := by
  intro v hv
  unfold Builtin.zeroCells at hv
  rw [Array.toList_map] at hv
  obtain ⟨a, -, rfl⟩ := List.mem_map.1 hv
  have h3 : (Value.agg #[.int .i64 0, .string ⟨#[]⟩, .int .i64 0]).cells.size = 3 := rfl
  rw [h3]
  have hr : a % 3 < 3 := Nat.mod_lt _ (by decide)
  generalize a % 3 = r at hr
  rcases r with _ | _ | _ | r
  · rfl
  · rfl
  · rfl
  · omega
set_option maxRecDepth 100000 in
set_option maxHeartbeats 2000000 in
theorem kdel_any (w : World) (B : Nat) (hB : B ≤ w.heap.size) (v : Value) (xs : List Kept) (hv : w.ownsRow B 126 3 v xs.length (ksC xs)) (hx : xs.length ≤ 16) (b bk : Nat) (hk : w.cell? ⟨bk, 0, none⟩ = some (.int .i64 b)) (hbk : bk < B) :
    Calls Tryz.prog 172 #[v, .func (.func 173) #[] #[.pointer (some ⟨bk, 0, none⟩)]] w fun e w' => ∃ v', e = .returned v' ∧ w'.ownsRow B 126 3 v' (offK b xs).length (ksC (offK b xs)) ∧ Below B w w' := by
  have hbk2 : w.heap[bk]? = w.heap[bk]? := rfl
  rcases hv.2 with ⟨rfl, h0⟩ | ⟨g, cap, cur, rfl, hBg, hgb, hnc, hcm, hcs, htake⟩
  · obtain rfl : xs = [] := List.eq_nil_of_length_eq_zero h0
    have HI := Lib.hid (kidxT_nil w #[.pointer (some ⟨bk, 0, none⟩)])
    go_enter Tryz.func172, Tryz.ntmps172
    go_wp2_with (first
      | (go_at_call 175; (with_reducible refine HI.out.mono ?_); rintro e w1 ⟨rfl, hb1⟩)
      | fail)
    go_ret
    exact ⟨_, rfl, own_below hv hb1, hb1.mono hB⟩
  · have hgl : g < w.heap.size := lt_blk hgb
    have hI := kidxT_any w g 0 cap xs hx hgl (fun j k hj => by
      obtain ⟨a, b', c⟩ := ksC_get xs j k hj
      have hlt : j < xs.length := (List.getElem?_eq_some_iff.1 hj).1
      rw [Nat.zero_add]
      exact ⟨by rw [hv.cellAt _ (by omega)]; exact a, by rw [hv.cellAt _ (by omega)]; exact b', by rw [hv.cellAt _ (by omega)]; exact c⟩) b bk hk (by omega)
    rcases findK_lt b xs 0 with ⟨h1, h2⟩ | ⟨m, h1, h2, h3⟩
    · rw [h1] at hI
      have HI := Lib.hid hI
      have HV := Lib.hid hv
      have H2 := Lib.hid h2
      clear hI hv hgb hnc hcm hcs htake h1 h2
      go_enter Tryz.func172, Tryz.ntmps172
      go_wp2_with (first
        | (go_at_call 175; (with_reducible refine HI.out.mono ?_); rintro e w1 ⟨rfl, hb1⟩)
        | fail)
      go_ret
      exact ⟨_, rfl, by rw [H2.out]; exact own_below HV.out hb1, hb1.mono hB⟩
    · rw [Nat.zero_add] at h2
      rw [h2] at hI
      have HI := Lib.hid hI
      have HV := Lib.hid hv
      have H3 := Lib.hid h3
      obtain ⟨n, hn⟩ : ∃ n, xs.length = n := ⟨_, rfl⟩
      rw [hn] at HV HI h1 hx hnc ⊢
      have HN := Lib.hid hn
      have HK := Lib.hid hk
      have hm1 : ((m : Int) == -1) = false := by simp
      clear hI hv hgb hcm hcs htake h2 h3 hk hn
      go_enter Tryz.func172, Tryz.ntmps172
      go_wp2_with (first
        | (go_at_call 175; (with_reducible refine HI.out.mono ?_); rintro e w1 ⟨rfl, hb1⟩)
        | fail)
      have hV1 := own_below HV.out hb1
      have HV1 := Lib.hid hV1
      have HB1 := Lib.hid (hb1.mono hB)
      clear hb1 hV1 HI HV
      go_loopw [5, 6] (fun vi vj wr => ∃ (i j : Nat) (zs : List Kept), i < j ∧ j ≤ n ∧ vi = .int .i64 (i : Int) ∧ vj = .int .i64 (j : Int) ∧ zs.length = n ∧ Hid (zs.take i = offK b (xs.take j)) ∧ Hid (∀ q, j ≤ q → zs[q]? = xs[q]?) ∧ wr.ownsRow B 126 3 (.slice (some ⟨g, 0, none⟩) n cap) n (ksC zs) ∧ Below B w wr) (fun _ vj _ => n - (intOf vj).toNat)
      case atStart => exact ⟨m, m + 1, xs, by omega, by omega, rfl, by simp, HN.out, Lib.hid H3.out.symm, Lib.hid (fun _ _ => rfl), HV1.out, HB1.out⟩
      case round =>
        obtain ⟨i, j, zs, hij, hjn, rfl, rfl, hzn, HT, HD, hown, hbel⟩ := hrel
        have HO := Lib.hid hown
        have HZ := Lib.hid hzn
        clear hown hzn
        have hbkc : wr.cell? ⟨bk, 0, none⟩ = some (.int .i64 b) := (hbel.cell (p := ⟨bk, 0, none⟩) hbk).trans HK.out
        by_cases hlt : j < n
        · obtain ⟨k, hkj⟩ : ∃ k, xs[j]? = some k := ⟨_, List.getElem?_eq_getElem (by have := HN.out; omega)⟩
          have hzj : zs[j]? = some k := (HD.out j (Nat.le_refl _)).trans hkj
          obtain ⟨q1, q2, q3⟩ := ksC_get zs j k hzj
          have r1 := (HO.out.cellAt (j * 3) (by omega)).trans q1
          have r2 := (HO.out.cellAt (j * 3 + 1) (by omega)).trans q2
          have r3 := (HO.out.cellAt (j * 3 + 2) (by omega)).trans q3
          have HP := Lib.hid (fun w2 (h2 : Below wr.heap.size wr w2) => touch1_any w2 k.at' b ⟨k.data.toArray⟩ k.stamp bk ((h2.cell (p := ⟨bk, 0, none⟩) (by show bk < _; have := hbel.size; omega)).trans hbkc))
          have HKJ := Lib.hid hkj
          have HZJ := Lib.hid hzj
          have hsz := hbel.size
          clear q1 q2 q3 hkj hzj hbkc
          obtain ⟨DK, hDK⟩ : ∃ DK : ByteArray, (⟨k.data.toArray⟩ : ByteArray) = DK := ⟨_, rfl⟩
          rw [hDK] at r2 HP
          have HDK := Lib.hid hDK
          clear hDK
          by_cases hat : k.at' = b
          · rw [decide_eq_true hat] at HP
            have HAT := Lib.hid hat
            clear hat
            go_wp2_with (first
              | (go_at_call 173; (with_reducible refine (HP.out _ (alloc_below _ _)).mono ?_); rintro e w2 ⟨rfl, hb2⟩)
              | fail)
            go_roundw
            case rel =>
              refine ⟨i, j + 1, zs, by omega, by omega, rfl, by simp, HZ.out, Lib.hid ?_, Lib.hid (fun q hq => HD.out q (by omega)), own_below (HO.out.alloc _) hb2, (hbel.alloc (Nat.le_trans hB hsz) _).trans (hb2.mono (by simp; omega))⟩
              rw [off_snoc HKJ.out, if_pos HAT.out, List.append_nil]
              exact HT.out
            case measure => simp [intOf]; omega
          · rw [decide_eq_false hat] at HP
            have HAT := Lib.hid hat
            clear hat
            obtain ⟨k', hki⟩ : ∃ k', zs[i]? = some k' := ⟨_, List.getElem?_eq_getElem (by have := HZ.out; omega)⟩
            have HQ := Lib.hid (ksC_get zs i k' hki)
            have HA := Lib.hid (alloc_blk wr (.cells #[.int .i64 k.at', .string DK, .int .i64 k.stamp] 126))
            clear hki
            go_wp2_with (first
              | (go_at_call 173; (with_reducible refine (HP.out _ (alloc_below _ _)).mono ?_); rintro e w2 ⟨rfl, hb2⟩; have ho2 := own_below (HO.out.alloc (.cells #[.int .i64 k.at', .string DK, .int .i64 k.stamp] 126)) hb2; have hblk := block_below hb2 HA.out (by simp); have s1 := cell_blk hblk 0; have s2 := cell_blk hblk 1; have s3 := cell_blk hblk 2; have f1 := ho2.frozenAt (i * 3); have f2 := ho2.frozenAt (i * 3 + 1); have f3 := ho2.frozenAt (i * 3 + 2); have t1 := (ho2.cellAt (i * 3) (by omega)).trans HQ.out.1; have t2 := (ho2.cellAt (i * 3 + 1) (by omega)).trans HQ.out.2.1; have t3 := (ho2.cellAt (i * 3 + 2) (by omega)).trans HQ.out.2.2; have HO2 := Lib.hid ho2; clear ho2 hblk)
              | fail)
            go_roundw
            case rel =>
              have hs1 := HO2.out.stored (i * 3) (.int .i64 k.at')
              have hs2 := hs1.1.stored (i * 3 + 1) (.string DK)
              have hs3 := hs2.1.stored (i * 3 + 2) (.int .i64 k.stamp)
              refine ⟨i + 1, j + 1, zs.set i k, by omega, by omega, by simp, by simp, by simpa using HZ.out, Lib.hid ?_, Lib.hid (fun q hq => ?_), ?_, ?_⟩
              · rw [off_snoc HKJ.out, if_neg HAT.out, ← HT.out, List.take_add_one, List.getElem?_set_self (by rw [HZ.out]; omega), List.take_set_of_le (Nat.le_refl _)]
                rfl
              · rw [List.getElem?_set_ne (by omega)]
                exact HD.out q (by omega)
              · rw [← ksC_set _ _ _ (by rw [HZ.out]; omega), HDK.out]
                exact hs3.1
              · exact ((((hbel.alloc (Nat.le_trans hB hsz) _).trans (hb2.mono (by simp; omega))).setCell hBg _).setCell hBg _).setCell hBg _
            case measure => simp [intOf]; omega
        · have hjn' : j = n := by omega
          subst hjn'
          have f0 := fun o => HO.out.frozenAt o
          have hclr : ∀ ty, (Builtin.clear_ #[103] ty #[.slice (some ⟨g, i * 3, none⟩) (j - i) (cap - i)]).run Tryz.prog wr = .ok (.tuple #[]) (wr.setCells g (i * 3) (Builtin.zeroCells (Value.agg #[.int .i64 0, .string ⟨#[]⟩, .int .i64 0]).cells (j - i)).toList) := by
            intro ty
            have hzl : (Builtin.zeroCells (Value.agg #[.int .i64 0, .string ⟨#[]⟩, .int .i64 0]).cells (j - i)).toList.length = (j - i) * 3 := by
              rw [Array.length_toList, size_zeroCells]; rfl
            refine run_clear_row wr _ _ ty _ Tryz.underlying103 zero_kept g (i * 3) (j - i) (cap - i) (by omega) (fun q hq => ?_) (fun q hq => f0 _) (fun v hv => ?_)
            · rw [hzl] at hq
              rw [HO.out.cellAt _ (by omega), List.getElem?_eq_getElem (by rw [ksC_len, HZ.out]; omega)]
              rfl
            · exact zero_one _ v hv
          obtain ⟨ZC, hZC⟩ : ∃ ZC, (Builtin.zeroCells (Value.agg #[.int .i64 0, .string ⟨#[]⟩, .int .i64 0]).cells (j - i)).toList = ZC := ⟨_, rfl⟩
          obtain ⟨wq, hwq⟩ : ∃ wq, wr.setCells g (i * 3) ZC = wq := ⟨_, rfl⟩
          rw [hZC, hwq] at hclr
          have HWQ := Lib.hid hwq
          have hcut := own_cut HO.out HZ.out i (by omega) ZC
          rw [hwq] at hcut
          have HCUT := Lib.hid hcut
          have hij2 : i ≤ j := by omega
          have hic : i ≤ cap := by omega
          clear hwq hZC hbkc f0 hcut
          go_wp2_with fail
          go_ret
          have hxs : zs.take i = offK b xs := by
            have := HT.out
            rw [List.take_of_length_le (Nat.le_of_eq HN.out)] at this
            exact this
          have hil : (offK b xs).length = i := by rw [← hxs, List.length_take, HZ.out]; omega
          refine ⟨_, rfl, ?_, ?_⟩
          · rw [hil, ← hxs]
            exact HCUT.out
          · obtain ⟨a1, a2, a3, a4⟩ := cells_parts g ZC (i * 3) wr
            rw [← HWQ.out]
            exact ⟨a1.trans hbel.os, a2.trans hbel.tape, a3.trans hbel.output, by rw [a4]; exact hbel.size, fun q hq => (World.heap_setCells_other wr _ _ _ (by have := hbel.size; omega) (by omega)).trans (hbel.block q hq)⟩
end Go.Proofs.YtfpbocjmlhcgiaaGreatDoor
