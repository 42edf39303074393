/- Plain laws of sets that are told byte by byte, each by two hexadecimal digits. -/
import Derived.Test.YtjhclopdcbnmkaaDoorP2
set_option linter.unusedSimpArgs false
set_option linter.unusedVariables false
namespace Go.Proofs.YtjhclopdcbnmkaaDoor.PX

def highd (n : Nat) : UInt8 := if n < 10 then UInt8.ofNat (48 + n) else UInt8.ofNat (55 + n)
theorem hexv_highd : ∀ n, n < 16 → hexv (highd n) = some n := by decide
def itemA (c : Nat) : List UInt8 := [92, 120, hexd (c / 16), highd (c % 16)]
def itemZ (c : Nat) : List UInt8 := [92, 120, highd (c / 16), hexd (c % 16)]
/-- A byte as it is told by two digits. -/
def IsItem (t : List UInt8) (c : Nat) : Prop := ∃ x y, t = [92, 120, x, y] ∧ hexv x = some (c / 16) ∧ hexv y = some (c % 16)
theorem itemA_is {c : Nat} (h : c < 256) : IsItem (itemA c) c := ⟨_, _, rfl, hexv_hexd _ (by omega), hexv_highd _ (by omega)⟩
theorem itemZ_is {c : Nat} (h : c < 256) : IsItem (itemZ c) c := ⟨_, _, rfl, hexv_highd _ (by omega), hexv_hexd _ (by omega)⟩
theorem IsItem.one {t : List UInt8} {c : Nat} (h : IsItem t c) (but r : List UInt8) : PX.one but (t ++ r) = some (c, r) := by
  obtain ⟨x, y, rfl, hx, hy⟩ := h
  simp only [List.cons_append, List.nil_append, PX.one, if_true, hx, hy, Option.some.injEq, Prod.mk.injEq, and_true]
  omega
theorem IsItem.starts {t : List UInt8} {c : Nat} (h : IsItem t c) (r : List UInt8) {d : UInt8} (hd : d ≠ 92) : PX.starts d (t ++ r) = false := by
  obtain ⟨x, y, rfl, -, -⟩ := h
  simp only [List.cons_append, PX.starts, beq_eq_false_iff_ne]
  exact fun e => hd e.symm
theorem IsItem.length {t : List UInt8} {c : Nat} (h : IsItem t c) : t.length = 4 := by
  obtain ⟨x, y, rfl, -, -⟩ := h; rfl
def withL (q : Q4) : List Nat → Q4
  | [] => q
  | c :: l => withL (q.with c) l
theorem withL_snoc (q : Q4) (c : Nat) : ∀ l, withL q (l ++ [c]) = (withL q l).with c := by
  intro l
  induction l generalizing q with
  | nil => rfl
  | cons d l ih => exact ih _
theorem withL_wide : ∀ (l : List Nat) (q : Q4), q.wide → (∀ c ∈ l, c < 256) → (withL q l).wide
  | [], q, h, _ => h
  | c :: l, q, h, hl => withL_wide l _ (with_wide h (hl c (List.mem_cons_self ..))) (fun d hd => hl d (List.mem_cons_of_mem _ hd))
theorem withL_has {b : Nat} (hb : b < 256) : ∀ (l : List Nat) (q : Q4), (∀ c ∈ l, c < 256) → (withL q l).has b = (q.has b || decide (b ∈ l))
  | [], q, _ => by simp [withL]
  | c :: l, q, hl => by
    unfold withL
    rw [withL_has hb l _ (fun d hd => hl d (List.mem_cons_of_mem _ hd)), with_has (hl c (List.mem_cons_self ..)) hb, Bool.or_assoc]
    congr 1
    rw [Bool.eq_iff_iff, Bool.or_eq_true, decide_eq_true_iff, decide_eq_true_iff, decide_eq_true_iff, List.mem_cons]
    constructor
    · rintro (h | h)
      · exact .inl h.symm
      · exact .inr h
    · rintro (h | h)
      · exact .inl h.symm
      · exact .inr h
/-- The set of a list of bytes. -/
def setL (l : List Nat) : Q4 := withL Q4.none l
theorem setL_reverse {l : List Nat} (h : ∀ c ∈ l, c < 256) : setL l.reverse = setL l := by
  have h' : ∀ c ∈ l.reverse, c < 256 := fun c hc => h c (List.mem_reverse.1 hc)
  apply Q4.ext_has (withL_wide _ _ none_wide h') (withL_wide _ _ none_wide h)
  intro b hb
  rw [withL_has hb _ _ h', withL_has hb _ _ h]
  congr 1
  rw [Bool.eq_iff_iff, decide_eq_true_iff, decide_eq_true_iff, List.mem_reverse]
theorem setL_some {l : List Nat} (h : ∀ c ∈ l, c < 256) (hn : l ≠ []) : (setL l).isNone = false := by
  obtain ⟨c, hc⟩ := List.exists_mem_of_ne_nil l hn
  have hh : (setL l).has c = true := by
    unfold setL
    rw [withL_has (h c hc) _ _ h, decide_eq_true hc, Bool.or_true]
  simp only [Q4.isNone, decide_eq_false_iff_not]
  rintro ⟨ha, hb, hc', hd⟩
  have he : setL l = Q4.none := by
    cases hs : setL l with
    | mk a b c d => rw [hs] at ha hb hc' hd; simp only at ha hb hc' hd; subst ha hb hc' hd; rfl
  rw [he, none_has] at hh
  cases hh
theorem pigeon : ∀ (n : Nat) (l : List Nat), (∀ k, k < n → k ∈ l) → n ≤ l.length
  | 0, l, _ => Nat.zero_le _
  | n + 1, l, h => by
    have hm := h n (by omega)
    have := pigeon n (l.erase n) (fun k hk => (List.mem_erase_of_ne (by omega)).2 (h k (by omega)))
    have h1 := List.length_erase_of_mem hm
    have h2 : 0 < l.length := List.length_pos_of_mem hm
    omega
theorem setL_not {l : List Nat} (h : ∀ c ∈ l, c < 256) (hn : l.length < 256) : (setL l).not.isNone = false := by
  simp only [Q4.isNone, decide_eq_false_iff_not]
  rintro ⟨ha, hb, hc, hd⟩
  have he : setL l = Q4.all := by
    cases hs : setL l with
    | mk a b c d =>
      rw [hs] at ha hb hc hd
      simp only [Q4.not] at ha hb hc hd
      have ea : a = 18446744073709551615 := by omega
      have eb : b = 18446744073709551615 := by omega
      have ec : c = 18446744073709551615 := by omega
      have ed : d = 18446744073709551615 := by omega
      subst ea eb ec ed
      rfl
  have := pigeon 256 l (fun k hk => by
    have h1 : (setL l).has k = true := by rw [he, all_has hk]
    unfold setL at h1
    rw [withL_has hk _ _ h, none_has, Bool.false_or, decide_eq_true_iff] at h1
    exact h1)
  omega

/-! they are read -/
theorem items_starts (it : Nat → List UInt8) (hit : ∀ c, c < 256 → IsItem (it c) c) {d : UInt8} (hd : d ≠ 92) (h93 : d ≠ 93) (r : List UInt8) : ∀ l : List Nat, (∀ x ∈ l, x < 256) → starts d (l.flatMap it ++ 93 :: r) = false
  | [], _ => by
    simp only [List.flatMap_nil, List.nil_append, starts, beq_eq_false_iff_ne]
    exact fun e => h93 e.symm
  | c :: l, h => by
    rw [List.flatMap_cons, List.append_assoc]
    exact (hit c (h c (List.mem_cons_self ..))).starts _ hd
theorem classLoop_items (it : Nat → List UInt8) (hit : ∀ c, c < 256 → IsItem (it c) c) (r : List UInt8) : ∀ (l : List Nat) (c : Nat) (f : Nat) (q : Q4), (∀ x ∈ c :: l, x < 256) → l.length + 1 ≤ f →
    classLoop f q ((c :: l).flatMap it ++ 93 :: r) = some (withL q (c :: l), r)
  | l, c, 0, q, h, hf => by omega
  | [], c, f + 1, q, h, hf => by
    have hc := hit c (h c (List.mem_cons_self ..))
    rw [List.flatMap_cons, List.append_assoc, List.flatMap_nil, List.nil_append]
    unfold classLoop classOne
    rw [hc.one]
    simp only [starts, show ((93 : UInt8) == 45) = false by decide, if_false, Bool.false_eq_true, beq_self_eq_true, if_true, List.tail_cons]
    rfl
  | d :: l, c, f + 1, q, h, hf => by
    have hc := hit c (h c (List.mem_cons_self ..))
    have hd := hit d (h d (by simp))
    rw [List.flatMap_cons, List.append_assoc]
    unfold classLoop classOne
    rw [hc.one]
    have h45 := items_starts it hit (d := 45) (by decide) (by decide) r (d :: l) (fun x hx => h x (List.mem_cons_of_mem _ hx))
    have h93 : starts 93 ((d :: l).flatMap it ++ 93 :: r) = false := by
      rw [List.flatMap_cons, List.append_assoc]
      exact hd.starts _ (by decide)
    simp only [h45, h93, if_false, Bool.false_eq_true]
    simp only [List.length_cons] at hf
    rw [classLoop_items it hit r l d f _ (fun x hx => h x (List.mem_cons_of_mem _ hx)) (by omega)]
    rfl
theorem class_items (it : Nat → List UInt8) (hit : ∀ c, c < 256 → IsItem (it c) c) {l : List Nat} (h : ∀ x ∈ l, x < 256) (hn : l ≠ []) {f : Nat} (hf : l.length ≤ f) (r : List UInt8) : classR f (l.flatMap it ++ 93 :: r) = some (setL l, r) := by
  have h94 := items_starts it hit (d := 94) (by decide) (by decide) r l h
  unfold classR
  rw [h94]
  simp only [if_false, Bool.false_eq_true]
  obtain ⟨c, l, rfl⟩ := List.exists_cons_of_ne_nil hn
  rw [classLoop_items it hit r l c f _ h hf]
  have := setL_some h hn
  unfold setL at this ⊢
  simp only [this, if_false, Bool.false_eq_true]
theorem class_others (it : Nat → List UInt8) (hit : ∀ c, c < 256 → IsItem (it c) c) {l : List Nat} (h : ∀ x ∈ l, x < 256) (hn : l ≠ []) (h2 : l.length < 256) {f : Nat} (hf : l.length ≤ f) (r : List UInt8) : classR f (94 :: (l.flatMap it ++ 93 :: r)) = some ((setL l).not, r) := by
  unfold classR
  simp only [starts, beq_self_eq_true, if_true, List.tail_cons]
  have h3 := setL_not h h2
  obtain ⟨c, l, rfl⟩ := List.exists_cons_of_ne_nil hn
  rw [classLoop_items it hit r l c f _ h hf]
  unfold setL at h3 ⊢
  simp only [h3, if_false, Bool.false_eq_true]
theorem parse_class {s : List UInt8} {q : Q4} (hs : s.length + 1 ≤ 128) (hc : classR (s.length + 1) s = some (q, [])) : parseR (91 :: s) = .inl (.set q) := by
  unfold parseR
  rw [if_neg (by rw [List.length_cons]; omega), show 3 * (91 :: s).length + 3 = (3 * (91 :: s).length + 2) + 1 by rfl, altR_piece (by rfl)]
  have ha : ∀ f, pieceR (f + 1 + 1) (91 :: s) = some (.set q, []) := by
    intro f
    simp only [pieceR, atomR, starts, show ((91 : UInt8) == 46) = false by decide, beq_self_eq_true, if_false, Bool.false_eq_true, if_true, List.tail_cons, List.length_cons, hc]
    exact sign_plain _ rfl
  rw [show 3 * (91 :: s).length + 2 = (3 * (91 :: s).length) + 1 + 1 by rfl, ha]
  simp only [List.nil_append]
  rw [altR_ends (by rfl)]
  simp only [List.isEmpty_nil, if_true]
  have hsz : ¬ 256 < (Rx.set q).sizeI := by simp [Rx.set, Rx.sizeI, sizeFrom]
  exact if_neg hsz
theorem items_length (it : Nat → List UInt8) (hit : ∀ c, c < 256 → IsItem (it c) c) : ∀ l : List Nat, (∀ x ∈ l, x < 256) → (l.flatMap it).length = 4 * l.length
  | [], _ => rfl
  | c :: l, h => by
    rw [List.flatMap_cons, List.length_append, (hit c (h c (List.mem_cons_self ..))).length, items_length it hit l (fun x hx => h x (List.mem_cons_of_mem _ hx)), List.length_cons]
    omega
theorem parse_items (it : Nat → List UInt8) (hit : ∀ c, c < 256 → IsItem (it c) c) {l : List Nat} (h : ∀ x ∈ l, x < 256) (hn : l ≠ []) (h30 : l.length ≤ 30) : parseR (91 :: (l.flatMap it ++ [93])) = .inl (.set (setL l)) := by
  have hl := items_length it hit l h
  apply parse_class
  · simp only [List.length_append, List.length_cons, List.length_nil]; omega
  · exact class_items it hit h hn (by simp only [List.length_append, List.length_cons, List.length_nil]; omega) []
theorem parse_others (it : Nat → List UInt8) (hit : ∀ c, c < 256 → IsItem (it c) c) {l : List Nat} (h : ∀ x ∈ l, x < 256) (hn : l ≠ []) (h30 : l.length ≤ 30) : parseR (91 :: 94 :: (l.flatMap it ++ [93])) = .inl (.set (setL l).not) := by
  have hl := items_length it hit l h
  apply parse_class
  · simp only [List.length_append, List.length_cons, List.length_nil]; omega
  · exact class_others it hit h hn (by omega) (by simp only [List.length_append, List.length_cons, List.length_nil]; omega) []
theorem parse_empty : parseR [91, 93] = .inr 50 := by rfl
theorem parse_empty' : parseR [91, 94, 93] = .inr 50 := by rfl
end Go.Proofs.YtjhclopdcbnmkaaDoor.PX
