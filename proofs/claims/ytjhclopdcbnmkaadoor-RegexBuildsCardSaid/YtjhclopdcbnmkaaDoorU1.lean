/- Plain laws of patterns in brackets, put together. -/
import Derived.Test.YtjhclopdcbnmkaaDoorP2
import Derived.Test.YtjhclopdcbnmkaaDoorB2b
set_option linter.unusedSimpArgs false
set_option linter.unusedVariables false
namespace Go.Proofs.YtjhclopdcbnmkaaDoor.PX

/-- Read, as a whole pattern or ahead of a bracket, as an expression. -/
def ReadsAs (s : List UInt8) (x : Rx) : Prop := ∀ (f : Nat) (r : List UInt8), 3 * s.length + 1 ≤ f → (r.isEmpty || starts 41 r) = true → altR f [] [] (s ++ r) = some (x, r)
theorem reads_text {x : Rx} (hf : x.formB = true) (hw : x.wide) : ReadsAs x.text x := (Rx.reads x hf hw).1
theorem par_len (s : List UInt8) : (par s).length = s.length + 2 := by simp [par]
theorem par_stop (s r : List UInt8) : stopB (par s ++ r) = false := rfl
theorem par_plain (s r : List UInt8) : plainB (par s ++ r) = true := rfl
theorem par_atom {s : List UInt8} {x : Rx} (h : ReadsAs s x) (f : Nat) (r : List UInt8) (hf : 3 * (par s).length ≤ f + 2) : atomR f (par s ++ r) = some (x, r) := by
  rw [par_len] at hf
  obtain ⟨f, rfl⟩ : ∃ g, f = g + 1 := ⟨f - 1, by omega⟩
  simp only [par, List.cons_append, List.append_assoc, List.nil_append, atomR, starts]
  rw [if_neg (by decide), if_neg (by decide), if_pos (by decide), List.tail_cons, h f (41 :: r) (by omega) (by simp [starts])]
  simp [starts]
theorem par_piece {s : List UInt8} {x : Rx} (h : ReadsAs s x) (f : Nat) (r : List UInt8) (hf : 3 * (par s).length ≤ f + 1) (hp : plainB r = true) : pieceR f (par s ++ r) = some (x, r) := by
  have hl := par_len s
  obtain ⟨f, rfl⟩ : ∃ g, f = g + 1 := ⟨f - 1, by omega⟩
  simp only [pieceR]
  rw [par_atom h f r (by omega)]
  simp only
  rw [sign_plain x hp]
theorem par_sign {s t : List UInt8} {x : Rx} {mn mx : Int} (h : ReadsAs s x) (hs : ∀ r, sign x (t ++ r) = some (.rep mn mx x, r)) (f : Nat) (r : List UInt8) (hf : 3 * (par s).length ≤ f + 1) : pieceR f (par s ++ (t ++ r)) = some (.rep mn mx x, r) := by
  have hl := par_len s
  obtain ⟨f, rfl⟩ : ∃ g, f = g + 1 := ⟨f - 1, by omega⟩
  simp only [pieceR]
  rw [par_atom h f _ (by omega)]
  simp only
  rw [hs r]
theorem piece_reads {t : List UInt8} {x : Rx} (hpos : 1 ≤ t.length) (hst : ∀ r, stopB (t ++ r) = false) (hp : ∀ f r, 3 * t.length ≤ f + 1 → stopB r = true → pieceR f (t ++ r) = some (x, r)) : ReadsAs t x := by
  intro f r hf hr
  obtain ⟨f, rfl⟩ : ∃ g, f = g + 2 := ⟨f - 2, by omega⟩
  rw [altR_piece (hst r), hp _ r (by omega) (stop_of hr)]
  simp only
  rw [altR_ends hr]
  rfl
theorem par_reads {s : List UInt8} {x : Rx} (h : ReadsAs s x) : ReadsAs (par s) x :=
  piece_reads (by rw [par_len]; omega) (par_stop s) (fun f r hf hr => par_piece h f r hf (plain_of_stop hr))
theorem sign_reads {s t : List UInt8} {x : Rx} {mn mx : Int} (h : ReadsAs s x) (hs : ∀ r, sign x (t ++ r) = some (.rep mn mx x, r)) : ReadsAs (par s ++ t) (.rep mn mx x) :=
  piece_reads (by rw [List.length_append, par_len]; omega) (fun r => by rw [List.append_assoc]; exact par_stop s _) (fun f r hf hr => by
    rw [List.length_append] at hf
    rw [List.append_assoc]
    exact par_sign h hs f r (by omega))
theorem row2_reads {s t : List UInt8} {x y : Rx} (h1 : ReadsAs s x) (h2 : ReadsAs t y) : ReadsAs (par s ++ par t) (.node 1 0 0 0 0 0 0 [x, y]) := by
  intro f r hf hr
  rw [List.length_append, par_len, par_len] at hf
  obtain ⟨f, rfl⟩ : ∃ g, f = g + 3 := ⟨f - 3, by omega⟩
  rw [List.append_assoc, altR_piece (par_stop s _), par_piece h1 _ _ (by rw [par_len]; omega) (par_plain t r)]
  simp only
  rw [altR_piece (par_stop t r), par_piece h2 _ _ (by rw [par_len]; omega) (plain_of_stop (stop_of hr))]
  simp only
  rw [altR_ends hr]
  rfl
theorem bar_row {s : List UInt8} {x : Rx} (h : ReadsAs s x) (f : Nat) (rows : List Rx) (r : List UInt8) (hf : 3 * (par s).length ≤ f + 2) : altR (f + 2) rows [] (par s ++ 124 :: r) = altR f (rows ++ [x]) [] r := by
  rw [altR_piece (par_stop s _), par_piece h _ _ (by omega) rfl]
  simp only
  rw [altR_bar']
  rfl
theorem end_row {s : List UInt8} {x : Rx} (h : ReadsAs s x) (f : Nat) (rows : List Rx) (r : List UInt8) (hf : 3 * (par s).length ≤ f + 2) (hr : (r.isEmpty || starts 41 r) = true) : altR (f + 2) rows [] (par s ++ r) = some (Rx.joined 2 (rows ++ [x]), r) := by
  rw [altR_piece (par_stop s _), par_piece h _ _ (by omega) (plain_of_stop (stop_of hr))]
  simp only
  rw [altR_ends hr]
  rfl
theorem alt2_reads {s t : List UInt8} {x y : Rx} (h1 : ReadsAs s x) (h2 : ReadsAs t y) : ReadsAs (par s ++ 124 :: par t) (.node 2 0 0 0 0 0 0 [x, y]) := by
  intro f r hf hr
  rw [List.length_append, List.length_cons, par_len, par_len] at hf
  obtain ⟨f, rfl⟩ : ∃ g, f = g + 2 + 2 := ⟨f - 4, by omega⟩
  rw [List.append_assoc, List.cons_append, bar_row h1 _ _ _ (by rw [par_len]; omega), end_row h2 _ _ _ (by rw [par_len]; omega) hr]
  rfl
theorem more_bar : ∀ (l : List Rx) (f : Nat) (rows row : List Rx) (s : List UInt8), (∀ y ∈ l, RowOk y) → 3 * (textMore l).length + 1 ≤ f →
    ∃ g, altR f rows row (textMore l ++ 124 :: s) = altR g (rows ++ [Rx.joined 1 row] ++ l) [] s ∧ f ≤ g + (textMore l).length + 1
  | [], f, rows, row, s, _, hf => by
    obtain ⟨f, rfl⟩ : ∃ g, f = g + 1 := ⟨f - 1, by omega⟩
    refine ⟨f, ?_, by omega⟩
    simp only [textMore, List.nil_append, List.append_nil]
    exact altR_bar'
  | x :: l, f, rows, row, s, h, hf => by
    obtain ⟨h1, h2, h3, h4⟩ := h x (List.mem_cons_self ..)
    have e : textMore (x :: l) = 124 :: (rowT x ++ textMore l) := rfl
    rw [e] at hf ⊢
    simp only [List.length_cons, List.length_append] at hf ⊢
    obtain ⟨f, rfl⟩ : ∃ g, f = g + 1 := ⟨f - 1, by omega⟩
    rw [List.cons_append, altR_bar', List.append_assoc]
    have hstop : stopB (textMore l ++ 124 :: s) = true := by
      cases l with
      | nil => rfl
      | cons y l => rfl
    obtain ⟨g, row', hg, hj, hgf⟩ := row_go h1 h2 h3 h4 f (rows ++ [Rx.joined 1 row]) (textMore l ++ 124 :: s) (by omega) hstop
    obtain ⟨g2, hg2, hgf2⟩ := more_bar l g (rows ++ [Rx.joined 1 row]) row' s (fun y hy => h y (List.mem_cons_of_mem _ hy)) (by omega)
    refine ⟨g2, ?_, by omega⟩
    rw [hg, hg2, hj]
    simp
/-- The rows of an expression as an alternative. -/
def rowsOf (a : Rx) : List Rx := if a.kind = 2 then a.list else [a]
theorem alt_bar {a : Rx} (hf : a.formB = true) (hw : a.wide) (f : Nat) (s : List UInt8) (hff : 3 * a.text.length + 1 ≤ f) :
    ∃ g, altR f [] [] (a.text ++ 124 :: s) = altR g (rowsOf a) [] s ∧ f ≤ g + a.text.length + 1 := by
  have hra := Rx.reads a hf hw
  obtain ⟨k, mn, mx, s0, s1, s2, s3, l⟩ := a
  unfold rowsOf
  by_cases hk : k = 2
  · subst hk
    have hfl : formAll l = true := by rw [formB_iff] at hf; exact hf.2
    have hl := readsAll l hfl hw.2
    obtain ⟨-, h1, -⟩ := alt_parts hf
    rw [alt_text] at hff ⊢
    obtain ⟨x, l', rfl⟩ : ∃ x l', l = x :: l' := by
      cases l with
      | nil => simp at h1
      | cons x l' => exact ⟨x, l', rfl⟩
    have hrow : ∀ y ∈ x :: l', RowOk y := fun y hy => ⟨(hl y hy).1, (hl y hy).2.1, (hl y hy).2.2.2.1, fun _ => (hl y hy).2.2.2.2.2⟩
    obtain ⟨q1, q2, q3, q4⟩ := hrow x (List.mem_cons_self ..)
    have e : textAlt (x :: l') = rowT x ++ textMore l' := rfl
    rw [e] at hff ⊢
    rw [List.length_append] at hff ⊢
    rw [List.append_assoc]
    have hstop : stopB (textMore l' ++ 124 :: s) = true := by
      cases l' with
      | nil => rfl
      | cons y l => rfl
    obtain ⟨g, row', hg, hj, hgf⟩ := row_go q1 q2 q3 q4 f [] (textMore l' ++ 124 :: s) (by omega) hstop
    obtain ⟨g2, hg2, hgf2⟩ := more_bar l' g [] row' s (fun y hy => hrow y (List.mem_cons_of_mem _ hy)) (by omega)
    refine ⟨g2, ?_, by omega⟩
    rw [hg, hg2, hj]
    rfl
  · have e : rowT (.node k mn mx s0 s1 s2 s3 l) = (Rx.node k mn mx s0 s1 s2 s3 l).text := by unfold rowT; rw [if_neg (by simpa [Rx.kind] using hk)]
    obtain ⟨g, row, h3, h4, h5⟩ := row_go hf hw hra.2.1 (fun _ => hra.2.2.2) f [] (124 :: s) (by rw [e]; exact hff) rfl
    rw [e] at h3 h5
    obtain ⟨g, rfl⟩ : ∃ g', g = g' + 1 := ⟨g - 1, by omega⟩
    refine ⟨g, ?_, by omega⟩
    rw [h3, altR_bar', h4, if_neg (by simpa [Rx.kind] using hk)]
    rfl
theorem rowsOf_two {a : Rx} (x y : Rx) : (rowsOf a ++ [x] ++ [y]).length ≠ 1 := by simp
theorem alt3_reads {s t : List UInt8} {a x y : Rx} (hf : a.formB = true) (hw : a.wide) (h1 : ReadsAs s x) (h2 : ReadsAs t y) : ReadsAs (a.text ++ 124 :: (par s ++ 124 :: par t)) (.node 2 0 0 0 0 0 0 (rowsOf a ++ [x] ++ [y])) := by
  intro f r hff hr
  simp only [List.length_append, List.length_cons, par_len] at hff
  obtain ⟨g, hg, hgf⟩ := alt_bar hf hw f ((par s ++ 124 :: par t) ++ r) (by omega)
  obtain ⟨g, rfl⟩ : ∃ g', g = g' + 2 + 2 := ⟨g - 4, by omega⟩
  rw [List.append_assoc, List.cons_append, hg, List.append_assoc, List.cons_append, bar_row h1 _ _ _ (by rw [par_len]; omega), end_row h2 _ _ _ (by rw [par_len]; omega) hr, joined2 (rowsOf_two x y)]
/-- What Parse tells of it: the expression, or that it is too long. -/
theorem told_of {s : List UInt8} {e : Rx} (h : ReadsAs s e) (hf : e.formB = true) : parseR s = if 128 < s.length ∨ checkR e ≠ 0 then .inr 51 else .inl e := by
  unfold parseR
  by_cases hl : 128 < s.length
  · rw [if_pos hl, if_pos (.inl hl)]
  · rw [if_neg hl]
    have h1 := h (3 * s.length + 3) [] (by omega) rfl
    rw [List.append_nil] at h1
    rw [h1]
    simp only [List.isEmpty_nil, if_true]
    unfold checkR
    rw [if_pos hf]
    by_cases hs : 256 < e.sizeI
    · rw [if_pos hs, if_pos (.inr (by rw [if_pos hs]; decide))]
    · rw [if_neg hs, if_neg (by rw [if_neg hs]; rintro (h | h); exact hl h; exact h rfl)]
end Go.Proofs.YtjhclopdcbnmkaaDoor.PX
