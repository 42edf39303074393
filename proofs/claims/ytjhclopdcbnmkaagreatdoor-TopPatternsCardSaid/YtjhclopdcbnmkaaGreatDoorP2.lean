/- Plain laws of patterns as they are printed: signs and expressions. -/
import Derived.Test.YtjhclopdcbnmkaaGreatDoorP1
set_option linter.unusedSimpArgs false
set_option linter.unusedVariables false
namespace Go.Proofs.YtjhclopdcbnmkaaGreatDoor.PX

/-! numbers and signs -/
def numT (n : Nat) : List UInt8 := if n < 10 then [UInt8.ofNat (48 + n)] else [UInt8.ofNat (48 + n / 10), UInt8.ofNat (48 + n % 10)]
theorem number_text : ∀ n, n ≤ 15 → ∀ (c : UInt8) (r : List UInt8), digitB c = false → number (numT n ++ c :: r) = some (n, c :: r) := by
  intro n hn c r hc
  rcases (by omega : n < 10 ∨ 10 ≤ n) with h | h
  · unfold numT
    rw [if_pos h]
    simp only [List.cons_append, List.nil_append, number]
    have hd : digitB (UInt8.ofNat (48 + n)) = true := by rw [digit_iff, toNat_of (by omega)]; omega
    rw [if_pos hd, hc, toNat_of (by omega)]
    simp
  · unfold numT
    rw [if_neg (by omega)]
    simp only [List.cons_append, List.nil_append, number]
    have hd : digitB (UInt8.ofNat (48 + n / 10)) = true := by rw [digit_iff, toNat_of (by omega)]; omega
    have he : digitB (UInt8.ofNat (48 + n % 10)) = true := by rw [digit_iff, toNat_of (by omega)]; omega
    have hs : starts 48 (UInt8.ofNat (48 + n / 10) :: UInt8.ofNat (48 + n % 10) :: c :: r) = false := by
      simp only [starts, beq_eq_false_iff_ne]
      intro h
      have := congrArg UInt8.toNat h
      rw [toNat_of (by omega)] at this
      simp at this
      omega
    rw [if_pos hd, if_pos he, hs, hc, toNat_of (by omega), toNat_of (by omega)]
    simp only [if_false, Bool.false_eq_true]
    rw [if_pos (by omega), show 10 * (48 + n / 10 - 48) + (48 + n % 10 - 48) = n by omega]
/-- The sign of a number of times. -/
def signT (mn mx : Int) : List UInt8 :=
  if mx = -1 ∧ mn = 0 then [42]
  else if mx = -1 ∧ mn = 1 then [43]
  else if mx = -1 then 123 :: (numT mn.toNat ++ [44, 125])
  else if mn = 0 ∧ mx = 1 then [63]
  else if mn = mx then 123 :: (numT mn.toNat ++ [125])
  else 123 :: (numT mn.toNat ++ 44 :: (numT mx.toNat ++ [125]))
theorem numT_head (n : Nat) (hn : n ≤ 15) : ∃ c t, numT n = c :: t ∧ digitB c = true := by
  unfold numT
  split
  · exact ⟨_, _, rfl, by rw [digit_iff, toNat_of (by omega)]; omega⟩
  · exact ⟨_, _, rfl, by rw [digit_iff, toNat_of (by omega)]; omega⟩
theorem starts_head (c d : UInt8) (r : List UInt8) : starts c (d :: r) = (d == c) := rfl
theorem counts_text {mn mx : Int} (h1 : 0 ≤ mn) (h2 : mn ≤ 15) (h3 : mx ≤ 15) (h4 : mn ≤ mx) (r : List UInt8) : counts (numT mn.toNat ++ 44 :: (numT mx.toNat ++ 125 :: r)) = some (mn, mx, r) := by
  unfold counts
  rw [number_text _ (by omega) _ _ (by decide)]
  obtain ⟨c, t, hc, hd⟩ := numT_head mx.toNat (by omega)
  have hs : starts 125 (numT mx.toNat ++ 125 :: r) = false := by
    rw [hc, List.cons_append]
    exact starts_digit hd (by decide)
  simp only [starts_head, beq_self_eq_true, if_true, List.tail_cons, hs, Bool.false_eq_true, if_false]
  rw [number_text _ (by omega) _ _ (by decide)]
  have hm : mn.toNat ≤ mx.toNat := by omega
  have h5 : 0 ≤ mx := by omega
  simp [starts_head, hm, Int.toNat_of_nonneg h1, Int.toNat_of_nonneg h5]
theorem counts_open {mn : Int} (h1 : 0 ≤ mn) (h2 : mn ≤ 15) (r : List UInt8) : counts (numT mn.toNat ++ 44 :: 125 :: r) = some (mn, -1, r) := by
  unfold counts
  rw [number_text _ (by omega) _ _ (by decide)]
  simp [starts_head, Int.toNat_of_nonneg h1]
theorem counts_one {mn : Int} (h1 : 0 ≤ mn) (h2 : mn ≤ 15) (r : List UInt8) : counts (numT mn.toNat ++ 125 :: r) = some (mn, mn, r) := by
  unfold counts
  rw [number_text _ (by omega) _ _ (by decide)]
  simp [starts_head, Int.toNat_of_nonneg h1]
theorem sign_open (x : Rx) (r : List UInt8) : sign x (123 :: r) = match counts r with | none => none | some (m, n, r') => some (.rep m n x, r') := by rfl
theorem sign_text (x : Rx) {mn mx : Int} (h1 : 0 ≤ mn) (h2 : mn ≤ 15) (h3 : mx ≤ 15) (h4 : mx = -1 ∨ mn ≤ mx) (r : List UInt8) : sign x (signT mn mx ++ r) = some (.rep mn mx x, r) := by
  unfold signT
  split
  · rename_i h; obtain ⟨rfl, rfl⟩ := h; rfl
  split
  · rename_i h; obtain ⟨rfl, rfl⟩ := h; rfl
  split
  · rename_i h
    subst h
    simp only [List.cons_append, List.append_assoc, List.nil_append]
    rw [sign_open, counts_open h1 h2]
  split
  · rename_i h; obtain ⟨rfl, rfl⟩ := h; rfl
  split
  · rename_i h
    subst h
    simp only [List.cons_append, List.append_assoc, List.nil_append]
    rw [sign_open, counts_one h1 h2]
  · simp only [List.cons_append, List.append_assoc, List.nil_append]
    rw [sign_open, counts_text h1 h2 h3 (by omega)]

/-! expressions -/
def par (s : List UInt8) : List UInt8 := 40 :: (s ++ [41])
mutual
/-- The pattern of an expression that may be. -/
def Rx.text : Rx → List UInt8
  | .node k mn mx s0 s1 s2 s3 l => if k = 0 then Q4.text ⟨s0, s1, s2, s3⟩ else if k = 1 then textSeq l else if k = 2 then textAlt l else textRep l ++ signT mn mx
def textSeq : List Rx → List UInt8
  | [] => []
  | x :: xs => (if x.kind = 1 ∨ x.kind = 2 then par x.text else x.text) ++ textSeq xs
def textAlt : List Rx → List UInt8
  | [] => []
  | x :: xs => (if x.kind = 2 then par x.text else x.text) ++ textMore xs
def textMore : List Rx → List UInt8
  | [] => []
  | x :: xs => 124 :: ((if x.kind = 2 then par x.text else x.text) ++ textMore xs)
def textRep : List Rx → List UInt8
  | [] => []
  | x :: _ => if x.kind = 0 then x.text else par x.text
end
mutual
/-- All words of 64 bits. -/
def Rx.wide : Rx → Prop
  | .node k mn mx s0 s1 s2 s3 l => Q4.wide ⟨s0, s1, s2, s3⟩ ∧ wideAll l
def wideAll : List Rx → Prop
  | [] => True
  | x :: xs => x.wide ∧ wideAll xs
end
/-- As an atom. -/
def atomT (x : Rx) : List UInt8 := if x.kind = 0 then x.text else par x.text
/-- As a piece. -/
def pieceT (x : Rx) : List UInt8 := if x.kind = 1 ∨ x.kind = 2 then par x.text else x.text
def rowT (x : Rx) : List UInt8 := if x.kind = 2 then par x.text else x.text
/-- No more pieces behind. -/
def stopB (r : List UInt8) : Bool := r.isEmpty || starts 124 r || starts 41 r
/-- No sign behind. -/
def plainB (r : List UInt8) : Bool := !(starts 42 r || starts 43 r || starts 63 r || starts 123 r)
theorem sign_plain (x : Rx) {r : List UInt8} (h : plainB r = true) : sign x r = some (x, r) := by
  unfold plainB at h
  simp only [Bool.not_eq_true', Bool.or_eq_false_iff] at h
  unfold sign
  rw [h.1.1.1, h.1.1.2, h.1.2, h.2]
  simp
theorem plain_of_stop {r : List UInt8} (h : stopB r = true) : plainB r = true := by
  cases r with
  | nil => rfl
  | cons c r =>
    simp only [stopB, List.isEmpty_cons, Bool.false_or, starts, Bool.or_eq_true, beq_iff_eq] at h
    rcases h with rfl | rfl <;> rfl
/-- The first byte of a piece. -/
def headB (c : UInt8) : Bool := !(c == 124 || c == 41 || c == 42 || c == 43 || c == 63 || c == 123)
theorem head_plain {c : UInt8} (h : headB c = true) (r : List UInt8) : plainB (c :: r) = true ∧ stopB (c :: r) = false := by
  unfold headB at h
  simp only [Bool.not_eq_true', Bool.or_eq_false_iff] at h
  obtain ⟨⟨⟨⟨⟨h1, h2⟩, h3⟩, h4⟩, h5⟩, h6⟩ := h
  simp [plainB, stopB, starts, h1, h2, h3, h4, h5, h6]
theorem set_head {q : Q4} (hn : q.runs ≠ []) : ∃ c t, q.text = c :: t ∧ headB c = true := by
  obtain ⟨c, t, h, hc⟩ := text_head q hn []
  rw [List.append_nil] at h
  refine ⟨c, t, h, ?_⟩
  rcases hc with rfl | rfl | rfl | hc
  · decide
  · decide
  · decide
  · have := not_meaning hc
    simp [headB, this]
theorem par_head (s : List UInt8) : ∃ c t, par s = c :: t ∧ headB c = true := ⟨_, _, rfl, by decide⟩
theorem rx_set {mn mx s0 s1 s2 s3 : Int} {l : List Rx} (h : (Rx.node 0 mn mx s0 s1 s2 s3 l).formB = true) : Rx.node 0 mn mx s0 s1 s2 s3 l = .set ⟨s0, s1, s2, s3⟩ ∧ (⟨s0, s1, s2, s3⟩ : Q4).isNone = false := by
  rw [formB_iff] at h
  obtain ⟨h | h | h | h, -⟩ := h
  · obtain ⟨-, h1, h2, rfl, rfl⟩ := h
    have := List.eq_nil_of_length_eq_zero h1
    subst this
    exact ⟨rfl, by simp only [Q4.isNone, decide_eq_false_iff_not]; exact h2⟩
  all_goals exact absurd h.1 (by decide)
theorem rx_kinds {k mn mx s0 s1 s2 s3 : Int} {l : List Rx} (h : (Rx.node k mn mx s0 s1 s2 s3 l).formB = true) : k = 0 ∨ k = 1 ∨ k = 2 ∨ k = 3 := by
  rw [formB_iff] at h
  obtain ⟨h | h | h | h, -⟩ := h <;> omega
theorem atom_head {x : Rx} (h : x.formB = true) (hw : x.wide) : ∃ c t, atomT x = c :: t ∧ headB c = true := by
  obtain ⟨k, mn, mx, s0, s1, s2, s3, l⟩ := x
  unfold atomT
  split
  · rename_i hk
    simp only [Rx.kind] at hk
    subst hk
    obtain ⟨-, hn⟩ := rx_set h
    simp only [Rx.text, if_true]
    exact set_head (none_of_runs hw.1 hn)
  · exact par_head _
theorem rep_parts {mn mx s0 s1 s2 s3 : Int} {l : List Rx} (h : (Rx.node 3 mn mx s0 s1 s2 s3 l).formB = true) : ∃ y, l = [y] ∧ y.formB = true ∧ (0 ≤ mn ∧ mn ≤ 15 ∧ mx ≤ 15 ∧ (mx = -1 ∨ mn ≤ mx)) ∧ (s0 = 0 ∧ s1 = 0 ∧ s2 = 0 ∧ s3 = 0) := by
  rw [formB_iff] at h
  obtain ⟨h | h | h | h, hl⟩ := h
  · exact absurd h.1 (by decide)
  · exact absurd h.1 (by decide)
  · exact absurd h.1 (by decide)
  · obtain ⟨-, h0, h1, h2⟩ := h
    match l, h1 with
    | [y], _ =>
      simp only [formAll, Bool.and_true] at hl
      exact ⟨y, rfl, hl, h2, h0⟩
theorem seq_parts {mn mx s0 s1 s2 s3 : Int} {l : List Rx} (h : (Rx.node 1 mn mx s0 s1 s2 s3 l).formB = true) : formAll l = true ∧ l.length ≠ 1 ∧ Rx.node 1 mn mx s0 s1 s2 s3 l = .node 1 0 0 0 0 0 0 l := by
  rw [formB_iff] at h
  obtain ⟨h | h | h | h, hl⟩ := h
  · exact absurd h.1 (by decide)
  · obtain ⟨-, ⟨rfl, rfl, rfl, rfl⟩, h1, rfl, rfl⟩ := h
    exact ⟨hl, h1, rfl⟩
  · exact absurd h.1 (by decide)
  · exact absurd h.1 (by decide)
theorem alt_parts {mn mx s0 s1 s2 s3 : Int} {l : List Rx} (h : (Rx.node 2 mn mx s0 s1 s2 s3 l).formB = true) : formAll l = true ∧ 2 ≤ l.length ∧ Rx.node 2 mn mx s0 s1 s2 s3 l = .node 2 0 0 0 0 0 0 l := by
  rw [formB_iff] at h
  obtain ⟨h | h | h | h, hl⟩ := h
  · exact absurd h.1 (by decide)
  · exact absurd h.1 (by decide)
  · obtain ⟨-, ⟨rfl, rfl, rfl, rfl⟩, h1, rfl, rfl⟩ := h
    exact ⟨hl, h1, rfl⟩
  · exact absurd h.1 (by decide)
theorem piece_head {x : Rx} (h : x.formB = true) (hw : x.wide) : ∃ c t, pieceT x = c :: t ∧ headB c = true := by
  obtain ⟨k, mn, mx, s0, s1, s2, s3, l⟩ := x
  unfold pieceT
  split
  · exact par_head _
  · rename_i hk
    simp only [Rx.kind] at hk
    rcases rx_kinds h with rfl | rfl | rfl | rfl
    · obtain ⟨-, hn⟩ := rx_set h
      simp only [Rx.text, if_true]
      exact set_head (none_of_runs hw.1 hn)
    · omega
    · omega
    · obtain ⟨y, rfl, hy, -⟩ := rep_parts h
      obtain ⟨c, t, hc, hh⟩ := atom_head hy hw.2.1
      refine ⟨c, t ++ signT mn mx, ?_, hh⟩
      simp only [Rx.text, textRep]
      rw [if_neg (by decide), if_neg (by decide), if_neg (by decide)]
      rw [show (if y.kind = 0 then y.text else par y.text) = atomT y from rfl, hc]
      rfl
/-- What is asked of an expression's pattern, read as an alternative. -/
def AltOk (x : Rx) : Prop := ∀ (f : Nat) (r : List UInt8), 3 * x.text.length + 1 ≤ f → (r.isEmpty || starts 41 r) = true → altR f [] [] (x.text ++ r) = some (x, r)
/-- Read as an atom. -/
def AtomOk (x : Rx) : Prop := ∀ (f : Nat) (r : List UInt8), 3 * (atomT x).length ≤ f + 2 → atomR f (atomT x ++ r) = some (x, r)
/-- Read as a piece. -/
def PieceOkT (x : Rx) : Prop := ∀ (f : Nat) (r : List UInt8), 3 * (pieceT x).length ≤ f + 1 → plainB r = true → pieceR f (pieceT x ++ r) = some (x, r)
theorem par_ok {x : Rx} (h : AltOk x) (f : Nat) (r : List UInt8) (hf : 3 * (par x.text).length ≤ f + 2) : atomR f (par x.text ++ r) = some (x, r) := by
  simp only [par, List.length_cons, List.length_append, List.length_nil] at hf
  obtain ⟨f, rfl⟩ : ∃ g, f = g + 1 := ⟨f - 1, by omega⟩
  simp only [par, List.cons_append, List.append_assoc, List.nil_append, atomR, starts]
  rw [if_neg (by decide), if_neg (by decide), if_pos (by decide), List.tail_cons, h f (41 :: r) (by omega) (by simp [starts])]
  simp [starts]
theorem atom_ok {x : Rx} (hf : x.formB = true) (hw : x.wide) (h : x.kind ≠ 0 → AltOk x) : AtomOk x := by
  intro f r hl
  unfold atomT at hl ⊢
  split
  · rename_i hk
    rw [if_pos hk] at hl
    obtain ⟨k, mn, mx, s0, s1, s2, s3, l⟩ := x
    simp only [Rx.kind] at hk
    subst hk
    obtain ⟨he, hn⟩ := rx_set hf
    simp only [Rx.text, if_true] at hl ⊢
    obtain ⟨c, t, hc, -⟩ := set_head (none_of_runs hw.1 hn)
    rw [hc] at hl
    simp only [List.length_cons] at hl
    obtain ⟨f, rfl⟩ : ∃ g, f = g + 1 := ⟨f - 1, by omega⟩
    rw [atom_set hw.1 hn, he]
  · rename_i hk
    rw [if_neg hk] at hl
    exact par_ok (h hk) f r hl
theorem rep_ok {y : Rx} (h : AtomOk y) (hf : y.formB = true) (hw : y.wide) {mn mx : Int} (h0 : 0 ≤ mn ∧ mn ≤ 15 ∧ mx ≤ 15 ∧ (mx = -1 ∨ mn ≤ mx)) (f : Nat) (r : List UInt8) (hl : 3 * (atomT y).length ≤ f + 1) :
    pieceR f (atomT y ++ (signT mn mx ++ r)) = some (.rep mn mx y, r) := by
  obtain ⟨c, t, hc, -⟩ := atom_head hf hw
  have hpos : 1 ≤ (atomT y).length := by rw [hc]; simp
  obtain ⟨f, rfl⟩ : ∃ g, f = g + 1 := ⟨f - 1, by omega⟩
  simp only [pieceR]
  rw [h f _ (by omega)]
  simp only
  rw [sign_text y h0.1 h0.2.1 h0.2.2.1 h0.2.2.2]
theorem rep_text {mn mx s0 s1 s2 s3 : Int} (y : Rx) : (Rx.node 3 mn mx s0 s1 s2 s3 [y]).text = atomT y ++ signT mn mx := by
  simp only [Rx.text, textRep]
  rw [if_neg (by decide), if_neg (by decide), if_neg (by decide)]
  rfl
theorem piece_ok {x : Rx} (hf : x.formB = true) (hw : x.wide) (h : x.kind ≠ 0 → AltOk x) (hr : ∀ y ∈ x.list, AtomOk y) : PieceOkT x := by
  intro f r hl hp
  obtain ⟨c, t, hc, -⟩ := piece_head hf hw
  have hpos : 1 ≤ (pieceT x).length := by rw [hc]; simp
  obtain ⟨f, rfl⟩ : ∃ g, f = g + 1 := ⟨f - 1, by omega⟩
  by_cases hk : x.kind = 3
  · obtain ⟨k, mn, mx, s0, s1, s2, s3, l⟩ := x
    simp only [Rx.kind] at hk
    subst hk
    obtain ⟨y, rfl, hy, h0, rfl, rfl, rfl, rfl⟩ := rep_parts hf
    have he : pieceT (Rx.node 3 mn mx 0 0 0 0 [y]) = atomT y ++ signT mn mx := by
      unfold pieceT
      rw [if_neg (by simp [Rx.kind]), rep_text]
    rw [he] at hl ⊢
    rw [List.length_append] at hl
    rw [List.append_assoc, rep_ok (hr y (by simp [Rx.list])) hy hw.2.1 h0 _ _ (by omega)]
    rfl
  · have he : pieceT x = atomT x := by
      unfold pieceT atomT
      obtain ⟨k, mn, mx, s0, s1, s2, s3, l⟩ := x
      simp only [Rx.kind] at hk ⊢
      rcases rx_kinds hf with rfl | rfl | rfl | rfl
      · rfl
      · rfl
      · rfl
      · exact absurd rfl hk
    rw [he] at hl ⊢
    simp only [pieceR]
    rw [atom_ok hf hw h f r (by omega)]
    simp only
    rw [sign_plain x hp]
theorem altR_piece {f : Nat} {l row : List Rx} {s : List UInt8} (h : stopB s = false) : altR (f + 1) l row s = match pieceR f s with | none => none | some (x, r) => altR f l (row ++ [x]) r := by
  unfold stopB at h
  rw [altR, if_neg (by simp [h])]
  cases pieceR f s <;> rfl
theorem altR_ends {f : Nat} {l row : List Rx} {r : List UInt8} (h : (r.isEmpty || starts 41 r) = true) : altR (f + 1) l row r = some (Rx.joined 2 (l ++ [Rx.joined 1 row]), r) := by
  have h124 : starts 124 r = false := by
    cases r with
    | nil => rfl
    | cons c r =>
      simp only [List.isEmpty_cons, Bool.false_or, starts, beq_iff_eq] at h
      subst h
      rfl
  have hs : (r.isEmpty || starts 124 r || starts 41 r) = true := by
    rw [h124, Bool.or_false]
    exact h
  rw [altR, if_pos hs, if_neg (by simp [h124])]
theorem altR_bar' {f : Nat} {l row : List Rx} {r : List UInt8} : altR (f + 1) l row (124 :: r) = altR f (l ++ [Rx.joined 1 row]) [] r := by
  rw [altR, if_pos (by simp [starts]), if_pos (by simp [starts])]
  rfl
theorem seq_go : ∀ (l : List Rx) (f : Nat) (rows row : List Rx) (r : List UInt8), (∀ y ∈ l, PieceOkT y ∧ y.formB = true ∧ y.wide) → 3 * (textSeq l).length + 1 ≤ f → stopB r = true →
    ∃ g, altR f rows row (textSeq l ++ r) = altR g rows (row ++ l) r ∧ f ≤ g + (textSeq l).length
  | [], f, rows, row, r, _, hf, _ => ⟨f, by simp [textSeq], by simp [textSeq]⟩
  | x :: l, f, rows, row, r, h, hf, hr => by
    obtain ⟨hx, hxf, hxw⟩ := h x (List.mem_cons_self ..)
    obtain ⟨c, t, hc, hh⟩ := piece_head hxf hxw
    have e : textSeq (x :: l) = pieceT x ++ textSeq l := rfl
    rw [e] at hf ⊢
    rw [List.length_append] at hf ⊢
    have hpos : 1 ≤ (pieceT x).length := by rw [hc]; simp
    obtain ⟨f, rfl⟩ : ∃ g, f = g + 1 := ⟨f - 1, by omega⟩
    have hstop : stopB (pieceT x ++ textSeq l ++ r) = false := by
      rw [hc]; exact (head_plain hh _).2
    have hplain : plainB (textSeq l ++ r) = true := by
      cases l with
      | nil => exact plain_of_stop hr
      | cons y l =>
        obtain ⟨-, hyf, hyw⟩ := h y (by simp)
        obtain ⟨c', t', hc', hh'⟩ := piece_head hyf hyw
        rw [show textSeq (y :: l) = pieceT y ++ textSeq l from rfl, hc']
        exact (head_plain hh' _).1
    rw [altR_piece hstop, List.append_assoc, hx f _ (by omega) hplain]
    simp only
    obtain ⟨g, hg, hgf⟩ := seq_go l f rows (row ++ [x]) r (fun y hy => h y (List.mem_cons_of_mem _ hy)) (by omega) hr
    refine ⟨g, ?_, by omega⟩
    rw [hg]
    simp
theorem seq_text {mn mx s0 s1 s2 s3 : Int} (l : List Rx) : (Rx.node 1 mn mx s0 s1 s2 s3 l).text = textSeq l := by
  simp [Rx.text]
theorem alt_text {mn mx s0 s1 s2 s3 : Int} (l : List Rx) : (Rx.node 2 mn mx s0 s1 s2 s3 l).text = textAlt l := by
  simp [Rx.text]
/-- One row of an alternative. -/
theorem row_go {x : Rx} (hf : x.formB = true) (hw : x.wide) (hp : PieceOkT x) (hl : x.kind = 1 → ∀ y ∈ x.list, PieceOkT y ∧ y.formB = true ∧ y.wide) (f : Nat) (rows : List Rx) (r : List UInt8) (hff : 3 * (rowT x).length + 1 ≤ f) (hr : stopB r = true) :
    ∃ g row, altR f rows [] (rowT x ++ r) = altR g rows row r ∧ Rx.joined 1 row = x ∧ f ≤ g + (rowT x).length := by
  by_cases hk : x.kind = 1
  · obtain ⟨k, mn, mx, s0, s1, s2, s3, l⟩ := x
    simp only [Rx.kind] at hk
    subst hk
    obtain ⟨-, h1, h2⟩ := seq_parts hf
    have e : rowT (Rx.node 1 mn mx s0 s1 s2 s3 l) = textSeq l := by
      unfold rowT
      rw [if_neg (by simp [Rx.kind]), seq_text]
    rw [e] at hff ⊢
    obtain ⟨g, hg, hgf⟩ := seq_go l f rows [] r (hl rfl) hff hr
    refine ⟨g, l, ?_, ?_, hgf⟩
    · rw [hg, List.nil_append]
    · rw [h2]
      unfold Rx.joined
      split
      · simp at h1
      · rfl
  · have e : rowT x = pieceT x := by
      unfold rowT pieceT
      simp only [hk, false_or]
    rw [e] at hff ⊢
    obtain ⟨c, t, hc, hh⟩ := piece_head hf hw
    have hpos : 1 ≤ (pieceT x).length := by rw [hc]; simp
    obtain ⟨f, rfl⟩ : ∃ g, f = g + 1 := ⟨f - 1, by omega⟩
    refine ⟨f, [x], ?_, rfl, by omega⟩
    rw [altR_piece (by rw [hc]; exact (head_plain hh _).2), hp f r (by omega) (plain_of_stop hr)]
    rfl
theorem joined2 {l : List Rx} (h : l.length ≠ 1) (kind : Int) : Rx.joined kind l = .node kind 0 0 0 0 0 0 l := by
  unfold Rx.joined
  split
  · simp at h
  · rfl
def RowOk (x : Rx) : Prop := x.formB = true ∧ x.wide ∧ PieceOkT x ∧ (x.kind = 1 → ∀ y ∈ x.list, PieceOkT y ∧ y.formB = true ∧ y.wide)
theorem more_go : ∀ (l : List Rx) (f : Nat) (rows row : List Rx) (r : List UInt8), (∀ y ∈ l, RowOk y) → 3 * (textMore l).length + 1 ≤ f → (r.isEmpty || starts 41 r) = true →
    altR f rows row (textMore l ++ r) = some (Rx.joined 2 (rows ++ [Rx.joined 1 row] ++ l), r)
  | [], f, rows, row, r, _, hf, hr => by
    obtain ⟨f, rfl⟩ : ∃ g, f = g + 1 := ⟨f - 1, by omega⟩
    simp only [textMore, List.nil_append, List.append_nil]
    exact altR_ends hr
  | x :: l, f, rows, row, r, h, hf, hr => by
    obtain ⟨h1, h2, h3, h4⟩ := h x (List.mem_cons_self ..)
    have e : textMore (x :: l) = 124 :: (rowT x ++ textMore l) := rfl
    rw [e] at hf ⊢
    simp only [List.length_cons, List.length_append] at hf
    obtain ⟨f, rfl⟩ : ∃ g, f = g + 1 := ⟨f - 1, by omega⟩
    rw [List.cons_append, altR_bar', List.append_assoc]
    have hstop : stopB (textMore l ++ r) = true := by
      cases l with
      | nil =>
        unfold stopB
        rw [show textMore [] ++ r = r from rfl]
        revert hr
        cases r.isEmpty <;> cases starts 41 r <;> simp
      | cons y l => rfl
    obtain ⟨g, row', hg, hj, hgf⟩ := row_go h1 h2 h3 h4 f (rows ++ [Rx.joined 1 row]) (textMore l ++ r) (by omega) hstop
    rw [hg, more_go l g _ row' r (fun y hy => h y (List.mem_cons_of_mem _ hy)) (by omega) hr, hj]
    simp
theorem alt_go {x : Rx} {l : List Rx} (f : Nat) (rows : List Rx) (r : List UInt8) (h : ∀ y ∈ x :: l, RowOk y) (hf : 3 * (textAlt (x :: l)).length + 1 ≤ f) (hr : (r.isEmpty || starts 41 r) = true) :
    altR f rows [] (textAlt (x :: l) ++ r) = some (Rx.joined 2 (rows ++ x :: l), r) := by
  obtain ⟨h1, h2, h3, h4⟩ := h x (List.mem_cons_self ..)
  have e : textAlt (x :: l) = rowT x ++ textMore l := rfl
  rw [e] at hf ⊢
  rw [List.length_append] at hf
  rw [List.append_assoc]
  have hstop : stopB (textMore l ++ r) = true := by
    cases l with
    | nil =>
      unfold stopB
      rw [show textMore [] ++ r = r from rfl]
      revert hr
      cases r.isEmpty <;> cases starts 41 r <;> simp
    | cons y l => rfl
  obtain ⟨g, row', hg, hj, hgf⟩ := row_go h1 h2 h3 h4 f rows (textMore l ++ r) (by omega) hstop
  rw [hg, more_go l g rows row' r (fun y hy => h y (List.mem_cons_of_mem _ hy)) (by omega) hr, hj]
  simp
theorem wideAll_mem {x : Rx} : ∀ {l : List Rx}, wideAll l → x ∈ l → x.wide
  | y :: l, h, hx => by
    rcases List.mem_cons.1 hx with rfl | hx
    · exact h.1
    · exact wideAll_mem h.2 hx
theorem formAll_get {l : List Rx} (h : formAll l = true) {x : Rx} (hx : x ∈ l) : x.formB = true := (formAll_iff l).1 h x hx
/-- What is printed is read. -/
def Reads (x : Rx) : Prop := AltOk x ∧ PieceOkT x ∧ AtomOk x ∧ ∀ y ∈ x.list, PieceOkT y ∧ y.formB = true ∧ y.wide
theorem stop_of {r : List UInt8} (h : (r.isEmpty || starts 41 r) = true) : stopB r = true := by
  unfold stopB
  revert h
  cases r.isEmpty <;> cases starts 41 r <;> simp
mutual
theorem Rx.reads : ∀ x : Rx, x.formB = true → x.wide → Reads x
  | .node k mn mx s0 s1 s2 s3 l, hf, hw => by
    have hfl : formAll l = true := by rw [formB_iff] at hf; exact hf.2
    have hl := readsAll l hfl hw.2
    have key : AltOk (.node k mn mx s0 s1 s2 s3 l) := by
      rcases rx_kinds hf with rfl | rfl | rfl | rfl
      · have hp : PieceOkT (.node 0 mn mx s0 s1 s2 s3 l) := piece_ok hf hw (fun h => absurd rfl h) (fun y hy => (hl y hy).2.2.2.2.1)
        intro f r h1 h2
        have e : rowT (.node 0 mn mx s0 s1 s2 s3 l) = (Rx.node 0 mn mx s0 s1 s2 s3 l).text := by unfold rowT; rw [if_neg (by simp [Rx.kind])]
        obtain ⟨g, row, h3, h4, h5⟩ := row_go hf hw hp (fun h => absurd h (by simp [Rx.kind])) f [] r (by rw [e]; exact h1) (stop_of h2)
        rw [e] at h3 h5
        obtain ⟨g, rfl⟩ : ∃ g', g = g' + 1 := ⟨g - 1, by omega⟩
        rw [h3, altR_ends h2, h4]
        rfl
      · obtain ⟨-, h1, h2⟩ := seq_parts hf
        intro f r h3 h4
        rw [seq_text] at h3 ⊢
        obtain ⟨g, h5, h6⟩ := seq_go l f [] [] r (fun y hy => ⟨(hl y hy).2.2.2.1, (hl y hy).1, (hl y hy).2.1⟩) h3 (stop_of h4)
        obtain ⟨g, rfl⟩ : ∃ g', g = g' + 1 := ⟨g - 1, by omega⟩
        rw [h5, altR_ends h4, List.nil_append, List.nil_append, joined2 h1, h2]
        rfl
      · obtain ⟨-, h1, h2⟩ := alt_parts hf
        intro f r h3 h4
        rw [alt_text] at h3 ⊢
        obtain ⟨x, l', rfl⟩ : ∃ x l', l = x :: l' := by
          cases l with
          | nil => simp at h1
          | cons x l' => exact ⟨x, l', rfl⟩
        rw [alt_go f [] r (fun y hy => ⟨(hl y hy).1, (hl y hy).2.1, (hl y hy).2.2.2.1, fun _ => (hl y hy).2.2.2.2.2⟩) h3 h4, List.nil_append, joined2 (by omega), h2]
      · obtain ⟨y, rfl, hy, h0, rfl, rfl, rfl, rfl⟩ := rep_parts hf
        obtain ⟨-, -, -, -, hya, -⟩ := hl y (List.mem_cons_self ..)
        intro f r h1 h2
        rw [rep_text] at h1 ⊢
        rw [List.length_append] at h1
        obtain ⟨c, t, hc, hh⟩ := atom_head hy hw.2.1
        have hpos : 1 ≤ (atomT y).length := by rw [hc]; simp
        obtain ⟨f, rfl⟩ : ∃ g, f = g + 2 := ⟨f - 2, by omega⟩
        rw [altR_piece (by rw [hc]; exact (head_plain hh _).2), List.append_assoc, rep_ok hya hy hw.2.1 h0 _ _ (by omega)]
        simp only
        rw [altR_ends h2]
        rfl
    have hat : AtomOk (.node k mn mx s0 s1 s2 s3 l) := atom_ok hf hw (fun _ => key)
    exact ⟨key, piece_ok hf hw (fun _ => key) (fun y hy => (hl y hy).2.2.2.2.1), hat, fun y hy => ⟨(hl y hy).2.2.2.1, (hl y hy).1, (hl y hy).2.1⟩⟩
theorem readsAll : ∀ l : List Rx, formAll l = true → wideAll l → ∀ y ∈ l, y.formB = true ∧ y.wide ∧ Reads y
  | [], _, _, y, hy => by cases hy
  | x :: l, hf, hw, y, hy => by
    simp only [formAll, Bool.and_eq_true] at hf
    have h1 := Rx.reads x hf.1 hw.1
    have h2 := readsAll l hf.2 hw.2 y
    rcases List.mem_cons.1 hy with h' | h'
    · rw [h']
      exact ⟨hf.1, hw.1, h1⟩
    · exact h2 h'
end
/-- An expression is read from its pattern. -/
theorem parse_text {x : Rx} (hf : x.formB = true) (hw : x.wide) (hs : x.sizeI ≤ 256) (hl : x.text.length ≤ 128) : parseR x.text = .inl x := by
  unfold parseR
  rw [if_neg (by omega)]
  have h := (Rx.reads x hf hw).1 (3 * x.text.length + 3) [] (by omega) rfl
  rw [List.append_nil] at h
  rw [h]
  simp only [List.isEmpty_nil, if_true]
  rw [if_neg (by omega)]
end Go.Proofs.YtjhclopdcbnmkaaGreatDoor.PX
