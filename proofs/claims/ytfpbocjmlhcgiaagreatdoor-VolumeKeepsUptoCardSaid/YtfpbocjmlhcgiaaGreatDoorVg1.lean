/- Vg1, merged: VO1 VO2 VO3 VO4 VO5 VO4b VO6. -/
import Derived.Test.YtfpbocjmlhcgiaaGreatDoorJg6
import Derived.Test.YtfpbocjmlhcgiaaGreatDoorJg12
import Derived.Test.YtfpbocjmlhcgiaaGreatDoorJg19
import Derived.Sort.KeysCollected
import Derived.StringKeys
set_option linter.unusedSimpArgs false
set_option linter.unusedVariables false
/- Plain: entries by rising paths. -/
namespace Go.Proofs.YtfpbocjmlhcgiaaGreatDoor
open PJ

/-- A file, or a directory. -/
structure Ent where
  p : List UInt8
  d : Bool
  s : List UInt8
def Rise (l : List Ent) : Prop := l.Pairwise fun a b => a.p < b.p
def findE (l : List Ent) (p : List UInt8) : Option Ent := l.find? fun x => x.p == p
def putE : List Ent → Ent → List Ent
  | [], x => [x]
  | y :: r, x => if x.p < y.p then x :: y :: r else if x.p = y.p then x :: r else y :: putE r x
def delE (l : List Ent) (p : List UInt8) : List Ent := l.filter fun y => !(y.p == p)
theorem path_le {a b : List UInt8} (h : a < b) : a ≤ b := List.not_lt.1 (fun h2 => List.lt_irrefl _ (List.lt_trans h h2))
theorem path_tri {a b : List UInt8} (h1 : ¬ a < b) (h2 : ¬ a = b) : b < a := by
  cases Decidable.em (b < a) with
  | inl h => exact h
  | inr h => exact absurd (List.le_antisymm (List.not_lt.1 h) (List.not_lt.1 h1)) h2
theorem lt_ne {a b : List UInt8} (h : a < b) : a ≠ b := fun e => by subst e; exact List.lt_irrefl _ h
theorem Rise.tail {x : Ent} {l : List Ent} (h : Rise (x :: l)) : Rise l := (List.pairwise_cons.1 h).2
theorem Rise.head {x : Ent} {l : List Ent} (h : Rise (x :: l)) : ∀ y ∈ l, x.p < y.p := (List.pairwise_cons.1 h).1
theorem Rise.inj : ∀ {l : List Ent}, Rise l → ∀ {x y : Ent}, x ∈ l → y ∈ l → x.p = y.p → x = y
  | z :: r, h, x, y, hx, hy, e => by
    have hh := h.head
    rcases List.mem_cons.1 hx with e1 | hx <;> rcases List.mem_cons.1 hy with e2 | hy
    · rw [e1, e2]
    · rw [e1] at e
      exact absurd e (lt_ne (hh y hy))
    · rw [e2] at e
      exact absurd e.symm (lt_ne (hh x hx))
    · exact h.tail.inj hx hy e
theorem findE_some {l : List Ent} {p : List UInt8} {x : Ent} (h : findE l p = some x) : x ∈ l ∧ x.p = p :=
  ⟨List.mem_of_find?_eq_some h, by simpa using List.find?_some h⟩
theorem findE_of {l : List Ent} (hr : Rise l) {x : Ent} (hx : x ∈ l) : findE l x.p = some x := by
  cases h : findE l x.p with
  | none =>
    have := List.find?_eq_none.1 h x hx
    simp at this
  | some y =>
    obtain ⟨hy, e⟩ := findE_some h
    rw [hr.inj hy hx e]
theorem findE_none {l : List Ent} {p : List UInt8} : findE l p = none ↔ ∀ x ∈ l, x.p ≠ p := by
  unfold findE
  rw [List.find?_eq_none]
  simp
theorem put_mem : ∀ {l : List Ent}, Rise l → ∀ {x y : Ent}, y ∈ putE l x ↔ y = x ∨ (y ∈ l ∧ y.p ≠ x.p)
  | [], _, x, y => by simp [putE]
  | z :: r, h, x, y => by
    unfold putE
    have hh := h.head
    split
    · rename_i h1
      rw [List.mem_cons]
      refine or_congr Iff.rfl ⟨fun hy => ⟨hy, ?_⟩, fun hy => hy.1⟩
      rcases List.mem_cons.1 hy with rfl | hy
      · exact (lt_ne h1).symm
      · exact (lt_ne (List.lt_trans h1 (hh y hy))).symm
    · split
      · rename_i h1 h2
        rw [List.mem_cons]
        refine or_congr Iff.rfl ⟨fun hy => ⟨List.mem_cons_of_mem _ hy, ?_⟩, fun hy => ?_⟩
        · rw [h2]; exact (lt_ne (hh y hy)).symm
        · rcases List.mem_cons.1 hy.1 with rfl | hy'
          · exact absurd h2.symm hy.2
          · exact hy'
      · rename_i h1 h2
        rw [List.mem_cons, put_mem h.tail, List.mem_cons]
        constructor
        · rintro (rfl | rfl | hy)
          · exact .inr ⟨.inl rfl, fun e => h2 e.symm⟩
          · exact .inl rfl
          · exact .inr ⟨.inr hy.1, hy.2⟩
        · rintro (rfl | ⟨rfl | hy, hn⟩)
          · exact .inr (.inl rfl)
          · exact .inl rfl
          · exact .inr (.inr ⟨hy, hn⟩)
theorem put_rise : ∀ {l : List Ent}, Rise l → ∀ x : Ent, Rise (putE l x)
  | [], _, x => by simp [putE, Rise]
  | z :: r, h, x => by
    unfold putE
    have hh := h.head
    split
    · rename_i h1
      refine List.pairwise_cons.2 ⟨fun y hy => ?_, h⟩
      rcases List.mem_cons.1 hy with rfl | hy
      · exact h1
      · exact List.lt_trans h1 (hh y hy)
    · split
      · rename_i h1 h2
        exact List.pairwise_cons.2 ⟨fun y hy => by rw [h2]; exact hh y hy, h.tail⟩
      · rename_i h1 h2
        refine List.pairwise_cons.2 ⟨fun y hy => ?_, put_rise h.tail x⟩
        rcases (put_mem h.tail).1 hy with rfl | hy
        · exact path_tri h1 h2
        · exact hh y hy.1
theorem del_mem {l : List Ent} {p : List UInt8} {y : Ent} : y ∈ delE l p ↔ y ∈ l ∧ y.p ≠ p := by
  unfold delE
  rw [List.mem_filter]
  simp
theorem del_rise {l : List Ent} (h : Rise l) (p : List UInt8) : Rise (delE l p) := h.filter _
theorem rise_ext : ∀ {l m : List Ent}, Rise l → Rise m → (∀ x, x ∈ l ↔ x ∈ m) → l = m
  | [], [], _, _, _ => rfl
  | [], y :: m, _, _, h => by have := (h y).2 (List.mem_cons_self ..); cases this
  | x :: l, [], _, _, h => by have := (h x).1 (List.mem_cons_self ..); cases this
  | x :: l, y :: m, hl, hm, h => by
    have e : x = y := by
      rcases List.mem_cons.1 ((h x).1 (List.mem_cons_self ..)) with e | hx
      · exact e
      · rcases List.mem_cons.1 ((h y).2 (List.mem_cons_self ..)) with e | hy
        · exact e.symm
        · exact absurd (List.lt_trans (hm.head x hx) (hl.head y hy)) (List.lt_irrefl _)
    subst e
    rw [rise_ext hl.tail hm.tail fun z => ?_]
    constructor
    · intro hz
      rcases List.mem_cons.1 ((h z).1 (List.mem_cons_of_mem _ hz)) with rfl | hz'
      · exact absurd (hl.head _ hz) (List.lt_irrefl _)
      · exact hz'
    · intro hz
      rcases List.mem_cons.1 ((h z).2 (List.mem_cons_of_mem _ hz)) with rfl | hz'
      · exact absurd (hm.head _ hz) (List.lt_irrefl _)
      · exact hz'
theorem find_put {l : List Ent} (h : Rise l) (x : Ent) (p : List UInt8) : findE (putE l x) p = if p = x.p then some x else findE l p := by
  split
  · rename_i e
    rw [e]
    exact findE_of (put_rise h x) ((put_mem h).2 (.inl rfl))
  · rename_i hne
    cases hf : findE l p with
    | none =>
      rw [findE_none] at hf ⊢
      intro y hy
      rcases (put_mem h).1 hy with rfl | hy
      · exact fun e => hne e.symm
      · exact hf y hy.1
    | some y =>
      obtain ⟨hy, e⟩ := findE_some hf
      rw [← e]
      exact findE_of (put_rise h x) ((put_mem h).2 (.inr ⟨hy, fun e' => hne (e ▸ e')⟩))
theorem find_del {l : List Ent} (h : Rise l) (q p : List UInt8) : findE (delE l q) p = if p = q then none else findE l p := by
  split
  · rename_i e
    rw [findE_none]
    intro y hy
    rw [e]
    exact (del_mem.1 hy).2
  · rename_i hne
    cases hf : findE l p with
    | none =>
      rw [findE_none] at hf ⊢
      exact fun y hy => hf y (del_mem.1 hy).1
    | some y =>
      obtain ⟨hy, e⟩ := findE_some hf
      rw [← e]
      exact findE_of (del_rise h q) (del_mem.2 ⟨hy, fun e' => hne (e ▸ e')⟩)
/-- The paths, sorted. -/
theorem paths_sorted {l : List Ent} (h : Rise l) {ks : List (List UInt8)} (hp : ks.Perm (l.map (·.p))) : ks.mergeSort (fun a b => decide (a ≤ b)) = l.map (·.p) := by
  have hs : (l.map (·.p)).Pairwise (fun a b => a ≤ b) := List.pairwise_map.2 (h.imp fun hab => path_le hab)
  have tr : ∀ a b c : List UInt8, decide (a ≤ b) = true → decide (b ≤ c) = true → decide (a ≤ c) = true := fun a b c h1 h2 => by simp only [decide_eq_true_eq] at *; exact List.le_trans h1 h2
  have tot : ∀ a b : List UInt8, (decide (a ≤ b) || decide (b ≤ a)) = true := fun a b => by simp only [Bool.or_eq_true, decide_eq_true_eq]; exact List.le_total a b
  refine List.Perm.eq_of_pairwise (le := fun a b => decide (a ≤ b) = true) (fun a b _ _ h1 h2 => ?_) (List.pairwise_mergeSort tr tot ks) (hs.imp fun h => decide_eq_true h) ((List.mergeSort_perm ks _).trans hp)
  simp only [decide_eq_true_eq] at h1 h2
  exact List.le_antisymm h1 h2
theorem rise_nodup {l : List Ent} (h : Rise l) : (l.map (·.p)).Nodup := List.pairwise_map.2 (h.imp fun hab => lt_ne hab)
theorem put_len : ∀ {l : List Ent}, Rise l → ∀ x : Ent, (putE l x).length = if (findE l x.p).isSome then l.length else l.length + 1
  | [], _, x => rfl
  | z :: r, h, x => by
    unfold putE
    have hh := h.head
    split
    · rename_i h1
      rw [if_neg]
      · simp
      · rw [findE_none.2]
        · simp
        · intro y hy
          rcases List.mem_cons.1 hy with rfl | hy
          · exact (lt_ne h1).symm
          · exact (lt_ne (List.lt_trans h1 (hh y hy))).symm
    · split
      · rename_i h1 h2
        rw [if_pos]
        · simp
        · unfold findE
          rw [List.find?_cons_of_pos (by simp [h2])]
          rfl
      · rename_i h1 h2
        rw [List.length_cons, put_len h.tail x]
        have e : findE (z :: r) x.p = findE r x.p := by
          unfold findE
          rw [List.find?_cons_of_neg (by simpa using fun e => h2 e.symm)]
        rw [e]
        split <;> simp
theorem del_len : ∀ {l : List Ent}, Rise l → ∀ p : List UInt8, (delE l p).length + (if (findE l p).isSome then 1 else 0) = l.length
  | [], _, p => rfl
  | z :: r, h, p => by
    have ih := del_len h.tail p
    have hh := h.head
    unfold delE findE at ih ⊢
    by_cases e : z.p = p
    · rw [List.filter_cons_of_neg (by simp [e]), List.find?_cons_of_pos (by simp [e])]
      have hno : findE r p = none := findE_none.2 fun y hy e2 => lt_ne (hh y hy) (by rw [e, e2])
      unfold findE at hno
      rw [hno] at ih
      simpa using ih
    · rw [List.filter_cons_of_pos (by simp [e]), List.find?_cons_of_neg (by simp [e])]
      simp only [List.length_cons]
      omega
end Go.Proofs.YtfpbocjmlhcgiaaGreatDoor
/- Plain: names, paths, a path's parent. -/
namespace Go.Proofs.YtfpbocjmlhcgiaaGreatDoor
open PJ

/-- The bytes of names. -/
def okC (c : UInt8) : Bool := (97 ≤ c && c ≤ 122) || (48 ≤ c && c ≤ 57) || c == 46 || c == 95 || c == 45
def nameB (s : List UInt8) : Bool := !s.isEmpty && (decide (s.length ≤ 12) && (s != [46] && (s != [46, 46] && s.all okC)))
/-- Cut at each slash. -/
def splitS : List UInt8 → List (List UInt8)
  | [] => [[]]
  | c :: r => if c = 47 then [] :: splitS r else match splitS r with
    | [] => [[c]]
    | h :: t => (c :: h) :: t
def slashes (s : List UInt8) : Nat := s.countP (· == 47)
theorem splitS_ne : ∀ s : List UInt8, splitS s ≠ []
  | [] => by simp [splitS]
  | c :: r => by
    unfold splitS
    split
    · simp
    · split <;> simp
theorem splitS_len : ∀ s : List UInt8, (splitS s).length = slashes s + 1
  | [] => rfl
  | c :: r => by
    have h := splitS_len r
    unfold splitS slashes
    rw [List.countP_cons]
    split
    · rename_i e
      rw [List.length_cons, h, if_pos (by simp [e])]
      rfl
    · rename_i e
      rw [if_neg (by simp [e])]
      split
      · rename_i e2; exact absurd e2 (splitS_ne r)
      · rename_i x t e2
        rw [e2] at h
        unfold slashes at h
        simpa using h
/-- Without a slash. -/
theorem splitS_none {s : List UInt8} (h : ∀ c ∈ s, c ≠ 47) : splitS s = [s] := by
  induction s with
  | nil => rfl
  | cons c r ih =>
    unfold splitS
    rw [if_neg (h c (List.mem_cons_self ..)), ih fun x hx => h x (List.mem_cons_of_mem _ hx)]
/-- The first slash. -/
theorem splitS_at : ∀ (a r : List UInt8), (∀ c ∈ a, c ≠ 47) → splitS (a ++ 47 :: r) = a :: splitS r
  | [], r, _ => by rw [List.nil_append, splitS, if_pos rfl]
  | c :: a, r, h => by
    rw [List.cons_append, splitS, if_neg (h c (List.mem_cons_self ..)), splitS_at a r fun x hx => h x (List.mem_cons_of_mem _ hx)]
def pathB (s : List UInt8) : Bool := s == [47] || (decide (s.length ≤ 48) && (decide (1 < (splitS s).length) && ((splitS s).head? == some [] && (splitS s).tail.all nameB)))
/-- Where the last slash stands; -1: nowhere. -/
def lastS (s : List UInt8) : Int := (s.foldl (fun (a : Nat × Int) c => (a.1 + 1, if c = 47 then (a.1 : Int) else a.2)) (0, -1)).2
theorem lastS_fold : ∀ (s : List UInt8) (k : Nat) (a : Int), (s.foldl (fun (a : Nat × Int) c => (a.1 + 1, if c = 47 then (a.1 : Int) else a.2)) (k, a)).1 = k + s.length
  | [], k, a => rfl
  | c :: r, k, a => by rw [List.foldl_cons, lastS_fold r]; simp; omega
theorem lastS_snoc (s : List UInt8) (c : UInt8) : lastS (s ++ [c]) = if c = 47 then (s.length : Int) else lastS s := by
  unfold lastS
  rw [List.foldl_append, List.foldl_cons, List.foldl_nil]
  have h := lastS_fold s 0 (-1)
  simp only [Nat.zero_add] at h
  split
  · rename_i e
    simp only [e, if_true]
    rw [h]
  · rename_i e
    simp only [e, if_false]
theorem snoc_ind {P : List UInt8 → Prop} (h0 : P []) (h1 : ∀ l a, P l → P (l ++ [a])) (l : List UInt8) : P l := by
  have key : ∀ (m : Nat) (l : List UInt8), l.length = m → P l := by
    intro m
    induction m with
    | zero => intro l hl; rw [List.length_eq_zero_iff.1 hl]; exact h0
    | succ m ih =>
      intro l hl
      rcases List.eq_nil_or_concat l with rfl | ⟨t, a, rfl⟩
      · simp at hl
      · rw [List.concat_eq_append] at hl ⊢
        exact h1 t a (ih t (by simp at hl; omega))
  exact key _ l rfl
theorem lastS_bd (s : List UInt8) : -1 ≤ lastS s ∧ lastS s < (s.length : Int) ∨ s = [] ∧ lastS s = -1 := by
  induction s using snoc_ind with
  | h0 => exact .inr ⟨rfl, rfl⟩
  | h1 l a ih =>
    left
    rw [lastS_snoc]
    split
    · simp; omega
    · rcases ih with ih | ⟨rfl, ih⟩
      · simp; omega
      · rw [ih]; simp
/-- A path's parent. -/
def upP (s : List UInt8) : List UInt8 := s.take (max 1 (lastS s)).toNat
end Go.Proofs.YtfpbocjmlhcgiaaGreatDoor
/- Plain: a volume's image, the cells that change. -/
namespace Go.Proofs.YtfpbocjmlhcgiaaGreatDoor
open PJ

def entB (x : Ent) : List UInt8 := be (if x.d then 2 else 1) 1 ++ (be x.p.length 1 ++ (x.p ++ (be x.s.length 2 ++ x.s)))
def imageE (l : List Ent) : List UInt8 := be l.length 2 ++ l.flatMap entB
theorem entB_len (x : Ent) : (entB x).length = 4 + x.p.length + x.s.length := by
  unfold entB
  simp only [List.length_append, be_len]
  omega
theorem image_nil : imageE [] = be 0 2 := rfl
def sumE (l : List Ent) : Nat := (l.map fun x => 4 + x.p.length + x.s.length).sum
theorem imageE_len (l : List Ent) : (imageE l).length = 2 + sumE l := by
  unfold imageE sumE
  rw [List.length_append, be_len, List.length_flatMap]
  congr 2
  apply List.map_congr_left
  intro x _
  exact entB_len x
/-- A cell of an image. -/
def pcE (img : List UInt8) (c : Nat) : List UInt8 := padT ((img.drop (116 * c)).take 116) 116
theorem pcE_len (img : List UInt8) (c : Nat) : (pcE img c).length = 116 := pad_len (by rw [List.length_take]; omega)
/-- The cells that change, of the first ones. -/
def wrsV (was now : List UInt8) : Nat → List Wr
  | 0 => []
  | m + 1 => wrsV was now m ++ if pcE now m = pcE was m then [] else [⟨(m : Int), ⟨(pcE now m).toArray⟩⟩]
theorem wrsV_in {was now : List UInt8} : ∀ {m : Nat} {w : Wr}, w ∈ wrsV was now m → 0 ≤ w.cell ∧ w.cell < (m : Int) ∧ w.data.size = 116
  | m + 1, w, h => by
    rw [wrsV, List.mem_append] at h
    rcases h with h | h
    · obtain ⟨h1, h2, h3⟩ := wrsV_in h
      exact ⟨h1, by omega, h3⟩
    · split at h
      · cases h
      · rw [List.mem_singleton.1 h]
        refine ⟨by show (0 : Int) ≤ (m : Int); omega, by show (m : Int) < ((m + 1 : Nat) : Int); omega, ?_⟩
        show (pcE now m).toArray.size = 116
        rw [List.size_toArray, pcE_len]
theorem wrsV_len (was now : List UInt8) : ∀ m : Nat, (wrsV was now m).length ≤ m
  | 0 => by simp [wrsV]
  | m + 1 => by
    have := wrsV_len was now m
    rw [wrsV, List.length_append]
    split <;> simp <;> omega
theorem wrsV_apart (was now : List UInt8) : ∀ m : Nat, (wrsV was now m).Pairwise fun a b => a.cell ≠ b.cell
  | 0 => by simp [wrsV]
  | m + 1 => by
    rw [wrsV]
    refine List.pairwise_append.2 ⟨wrsV_apart was now m, ?_, ?_⟩
    · split <;> simp
    · intro a ha b hb e
      have h1 := (wrsV_in ha).2.1
      split at hb
      · cases hb
      · rw [List.mem_singleton.1 hb] at e
        have : a.cell = (m : Int) := e
        omega
theorem apartW_of {n : Int} : ∀ {l : List Wr} {seen : List Int}, (∀ w ∈ l, 0 ≤ w.cell ∧ w.cell < n ∧ ¬ w.cell ∈ seen) → l.Pairwise (fun a b => a.cell ≠ b.cell) → apartW n seen l = true
  | [], _, _, _ => rfl
  | w :: r, seen, h, hp => by
    obtain ⟨h1, h2, h3⟩ := h w (List.mem_cons_self ..)
    obtain ⟨p1, p2⟩ := List.pairwise_cons.1 hp
    have ih : apartW n (w.cell :: seen) r = true := apartW_of (fun x hx => by
      obtain ⟨a, b, c⟩ := h x (List.mem_cons_of_mem _ hx)
      refine ⟨a, b, fun e => ?_⟩
      rcases List.mem_cons.1 e with e | e
      · exact p1 x hx e.symm
      · exact c e) p2
    unfold apartW
    rw [ih]
    simp [h1, h2, h3]
theorem wrsV_may {n area m : Nat} (was now : List UInt8) (hm : m ≤ n) (h40 : m ≤ 40) (ha : m ≤ area - 3) : mayI n area (wrsV was now m) = 0 := by
  have hl := wrsV_len was now m
  have hg : longB (wrsV was now m) = false := by
    unfold longB
    rw [List.any_eq_false]
    intro w hw
    have := (wrsV_in hw).2.2
    simp; omega
  have hap : apartW (n : Int) [] (wrsV was now m) = true := apartW_of (fun w hw => by
    obtain ⟨h1, h2, h3⟩ := wrsV_in hw
    exact ⟨h1, by omega, by simp⟩) (wrsV_apart was now m)
  unfold mayI
  rw [if_neg (by rw [hg]; simp; omega), if_pos hap]
theorem v_behindW_len (R : List (List UInt8)) (w : Wr) : (behindW R w).length = R.length := by
  unfold behindW
  split
  · rw [List.length_set]
  · rfl
theorem v_behindL_len : ∀ (l : List Wr) (R : List (List UInt8)), (behindL R l).length = R.length
  | [], R => rfl
  | w :: r, R => by show (behindL (behindW R w) r).length = _; rw [v_behindL_len r, v_behindW_len]
theorem wrsV_behind {was now : List UInt8} {R : List (List UInt8)} (hR : ∀ c, c < R.length → R[c]? = some (pcE was c)) : ∀ m, m ≤ R.length → ∀ c, c < R.length → (behindL R (wrsV was now m))[c]? = some (if c < m then pcE now c else pcE was c)
  | 0, _, c, hc => by
    rw [if_neg (by omega)]
    exact hR c hc
  | m + 1, hm, c, hc => by
    have ih := wrsV_behind (now := now) hR m (by omega) c hc
    rw [wrsV]
    unfold behindL at ih ⊢
    rw [List.foldl_append]
    split
    · rename_i e
      rw [List.foldl_nil, ih]
      by_cases h1 : c < m
      · rw [if_pos h1, if_pos (by omega)]
      · by_cases h2 : c = m
        · subst h2
          rw [if_neg h1, if_pos (by omega), e]
        · rw [if_neg h1, if_neg (by omega)]
    · rename_i e
      rw [List.foldl_cons, List.foldl_nil]
      have hlen : (List.foldl behindW R (wrsV was now m)).length = R.length := v_behindL_len _ _
      obtain ⟨Q, hQ⟩ : ∃ Q, List.foldl behindW R (wrsV was now m) = Q := ⟨_, rfl⟩
      rw [hQ] at ih hlen ⊢
      have hsz : (pcE now m).toArray.size = 116 := by rw [List.size_toArray, pcE_len]
      unfold behindW
      rw [if_pos ⟨by show (0 : Int) ≤ (m : Int); omega, by show (m : Int) < (Q.length : Int); rw [hlen]; omega, by show (pcE now m).toArray.size ≤ 116; omega⟩]
      have hpad : padT (pcE now m) 116 = pcE now m := by
        unfold padT
        rw [pcE_len]
        simp
      show (Q.set (m : Int).toNat (padT (pcE now m) 116))[c]? = _
      rw [Int.toNat_natCast, hpad]
      by_cases h2 : c = m
      · subst h2
        rw [List.getElem?_set_self (by omega), if_pos (by omega)]
      · rw [List.getElem?_set_ne (fun e => h2 e.symm), ih]
        by_cases h1 : c < m
        · rw [if_pos h1, if_pos (by omega)]
        · rw [if_neg h1, if_neg (by omega)]
/-- The cells of a journal hold an image. -/
structure VoC (J : Jn) (img : List UInt8) : Prop where
  le : img.length ≤ 116 * (J.n - J.area)
  cell : ∀ c, c < J.n - J.area → J.cell c = pcE img c
end Go.Proofs.YtfpbocjmlhcgiaaGreatDoor
/- Plain: a volume, what its calls make of it. -/
namespace Go.Proofs.YtfpbocjmlhcgiaaGreatDoor
open PJ

def rootE : Ent := ⟨[47], true, []⟩
def atE (l : List Ent) (p : List UInt8) : Option Ent := if p = [47] then some rootE else findE l p
/-- What holds of every volume's entries. -/
structure VInv (l : List Ent) : Prop where
  rise : Rise l
  path : ∀ x ∈ l, pathB x.p = true ∧ x.p ≠ [47]
  dirS : ∀ x ∈ l, x.d = true → x.s = []
  file : ∀ x ∈ l, x.s.length ≤ 1024
  up : ∀ x ∈ l, upP x.p = [47] ∨ ∃ u ∈ l, u.p = upP x.p ∧ u.d = true
theorem VInv.nil : VInv [] := ⟨by simp [Rise], by simp, by simp, by simp, by simp⟩
theorem take_lt : ∀ (s : List UInt8) (k : Nat), k < s.length → s.take k < s
  | c :: r, 0, _ => by rw [List.take_zero]; exact List.Lex.nil
  | c :: r, k + 1, h => by
    rw [List.take_succ_cons]
    exact List.Lex.cons (take_lt r k (by simpa using h))
/-- A call's answer: its number, and the entries behind it. -/
abbrev Ans := Int × List Ent
def becE (room : Nat) (l now : List Ent) : Ans := if room < (imageE now).length then (175, l) else (0, now)
end Go.Proofs.YtfpbocjmlhcgiaaGreatDoor
/- Plain: a volume's calls; what holds of its entries stays so. -/
namespace Go.Proofs.YtfpbocjmlhcgiaaGreatDoor
open PJ

def mkE (room : Nat) (l : List Ent) (p : List UInt8) (d : Bool) : Ans :=
  if pathB p = false then (171, l) else match atE l p with
    | some _ => (173, l)
    | none => match atE l (upP (p ++ [0])) with
      | none => (172, l)
      | some u => if u.d = true then becE room l (putE l ⟨p, d, []⟩) else (174, l)
def wrE (room : Nat) (l : List Ent) (p : List UInt8) (at' : Int) (data : List UInt8) : Ans :=
  if pathB p = false then (171, l) else match atE l p with
    | none => (172, l)
    | some x => if x.d = true then (174, l) else if at' < 0 ∨ (x.s.length : Int) < at' then (1, l) else if 1024 - at' < (data.length : Int) then (176, l)
      else becE room l (putE l ⟨p, false, x.s.take at'.toNat ++ (data ++ x.s.drop (min x.s.length (at'.toNat + data.length)))⟩)
def rmE (room : Nat) (l : List Ent) (p : List UInt8) : Ans :=
  if pathB p = false then (171, l) else match atE l p with
    | none => (172, l)
    | some _ => if p = [47] then (174, l) else if l.any (fun x => upP x.p == p) then (177, l) else becE room l (delE l p)
def rnE (room : Nat) (l : List Ent) (p q : List UInt8) : Ans :=
  if (pathB p && pathB q) = false then (171, l) else match atE l p with
    | none => (172, l)
    | some x => if x.d = true then (174, l) else match atE l q with
      | some _ => (173, l)
      | none => match atE l (upP (q ++ [0])) with
        | none => (172, l)
        | some u => if u.d = true then becE room l (putE (delE l p) ⟨q, x.d, x.s⟩) else (174, l)
theorem becE_or (room : Nat) (l now : List Ent) : becE room l now = (175, l) ∨ (becE room l now = (0, now) ∧ (imageE now).length ≤ room) := by
  unfold becE
  split
  · exact .inl rfl
  · exact .inr ⟨rfl, by omega⟩
/-- A path that is not the root alone has its parent before it. -/
theorem pathB_len {p : List UInt8} (h : pathB p = true) (hr : p ≠ [47]) : 2 ≤ p.length ∧ p.length ≤ 48 ∧ p.head? = some 47 := by
  unfold pathB at h
  simp only [Bool.or_eq_true, Bool.and_eq_true, beq_iff_eq, decide_eq_true_eq] at h
  rcases h with h | ⟨h1, h2, h3, h4⟩
  · exact absurd h hr
  · cases p with
    | nil => simp [splitS] at h2
    | cons c r =>
      unfold splitS at h2 h3 h4
      by_cases e : c = 47
      · subst e
        rw [if_pos rfl] at h2 h3 h4
        cases r with
        | nil => exact absurd rfl hr
        | cons _ _ => exact ⟨by simp, h1, rfl⟩
      · rw [if_neg e] at h3
        split at h3 <;> simp at h3
theorem upP_snoc {p : List UInt8} (hp : p ≠ []) : upP (p ++ [0]) = upP p := by
  unfold upP
  rw [lastS_snoc, if_neg (by decide)]
  have hl : 1 ≤ p.length := by cases p with | nil => exact absurd rfl hp | cons _ _ => simp
  rcases lastS_bd p with h | ⟨h, -⟩
  · rw [List.take_append_of_le_length (by omega)]
  · exact absurd h hp
theorem upP_lt {p : List UInt8} (h : 2 ≤ p.length) : upP p < p := by
  unfold upP
  refine take_lt _ _ ?_
  rcases lastS_bd p with h1 | ⟨h1, -⟩
  · omega
  · subst h1; simp at h
theorem atE_some {l : List Ent} {p : List UInt8} {x : Ent} (h : atE l p = some x) : (p = [47] ∧ x = rootE) ∨ (p ≠ [47] ∧ x ∈ l ∧ x.p = p) := by
  unfold atE at h
  split at h
  · rename_i e; exact .inl ⟨e, (Option.some.inj h).symm⟩
  · rename_i e; exact .inr ⟨e, findE_some h⟩
/-- A new entry, or another one at its path. -/
theorem VInv.put {l : List Ent} (h : VInv l) (x : Ent) (h1 : pathB x.p = true) (h2 : x.p ≠ [47]) (h3 : x.d = true → x.s = []) (h4 : x.s.length ≤ 1024) (h5 : upP x.p = [47] ∨ ∃ u ∈ l, u.p = upP x.p ∧ u.d = true)
    (h6 : ∀ y ∈ l, y.p = x.p → y.d = true → x.d = true) : VInv (putE l x) := by
  have hx : 2 ≤ x.p.length := (pathB_len h1 h2).1
  have keep : ∀ q, (∃ u ∈ l, u.p = q ∧ u.d = true) → ∃ u ∈ putE l x, u.p = q ∧ u.d = true := by
    rintro q ⟨u, hu, e, hd⟩
    by_cases e2 : u.p = x.p
    · exact ⟨x, (put_mem h.rise).2 (.inl rfl), by rw [← e2, e], h6 u hu e2 hd⟩
    · exact ⟨u, (put_mem h.rise).2 (.inr ⟨hu, e2⟩), e, hd⟩
  refine ⟨put_rise h.rise x, fun y hy => ?_, fun y hy => ?_, fun y hy => ?_, fun y hy => ?_⟩
  all_goals rcases (put_mem h.rise).1 hy with rfl | ⟨hy, hne⟩
  · exact ⟨h1, h2⟩
  · exact h.path y hy
  · exact h3
  · exact h.dirS y hy
  · exact h4
  · exact h.file y hy
  · exact h5.imp id (keep _)
  · exact (h.up y hy).imp id (keep _)
/-- One less, on which nothing stands. -/
theorem VInv.del {l : List Ent} (h : VInv l) (p : List UInt8) (hp : p ≠ [47]) (hc : ∀ y ∈ l, upP y.p = p → ∀ u ∈ l, u.p = p → u.d = false) : VInv (delE l p) := by
  refine ⟨del_rise h.rise p, fun y hy => h.path y (del_mem.1 hy).1, fun y hy => h.dirS y (del_mem.1 hy).1, fun y hy => h.file y (del_mem.1 hy).1, fun y hy => ?_⟩
  rcases h.up y (del_mem.1 hy).1 with e | ⟨u, hu, e, hd⟩
  · exact .inl e
  · by_cases e2 : upP y.p = p
    · have := hc y (del_mem.1 hy).1 e2 u hu (e.trans e2)
      rw [hd] at this
      cases this
    · exact .inr ⟨u, del_mem.2 ⟨hu, by rw [e]; exact e2⟩, e, hd⟩
/-- The parent that a check finds. -/
theorem up_ok {l : List Ent} {p : List UInt8} (hp : p ≠ []) {u : Ent} (h : atE l (upP (p ++ [0])) = some u) (hd : u.d = true) : upP p = [47] ∨ ∃ u ∈ l, u.p = upP p ∧ u.d = true := by
  rw [upP_snoc hp] at h
  rcases atE_some h with ⟨e, -⟩ | ⟨-, hu, e⟩
  · exact .inl e
  · exact .inr ⟨u, hu, e, hd⟩
theorem at_none {l : List Ent} {p : List UInt8} (h : atE l p = none) : p ≠ [47] ∧ ∀ y ∈ l, y.p ≠ p := by
  unfold atE at h
  split at h
  · cases h
  · rename_i e; exact ⟨e, findE_none.1 h⟩
/-- What a call leaves: entries that may be, with their image in the room. -/
def AnsOK (room : Nat) (l : List Ent) (a : Ans) : Prop := (a.1 ≠ 0 ∧ a.2 = l) ∨ (a.1 = 0 ∧ VInv a.2 ∧ (imageE a.2).length ≤ room)
theorem AnsOK.bec {room : Nat} {l now : List Ent} (h : VInv now) : AnsOK room l (becE room l now) := by
  rcases becE_or room l now with e | ⟨e, hl⟩
  · rw [e]; exact .inl ⟨by simp, rfl⟩
  · rw [e]; exact .inr ⟨rfl, h, hl⟩
theorem mkE_ok {room : Nat} {l : List Ent} (h : VInv l) (p : List UInt8) (d : Bool) : AnsOK room l (mkE room l p d) := by
  unfold mkE
  split
  · exact .inl ⟨by simp, rfl⟩
  · rename_i hp
    have hp' : pathB p = true := by simpa using hp
    split
    · exact .inl ⟨by simp, rfl⟩
    · rename_i hn
      obtain ⟨hr, hno⟩ := at_none hn
      split
      · exact .inl ⟨by simp, rfl⟩
      · rename_i u hu
        split
        · rename_i hd
          have hl := (pathB_len hp' hr).1
          exact AnsOK.bec (h.put ⟨p, d, []⟩ hp' hr (fun _ => rfl) (by simp) (up_ok (fun e => by have e' : p = [] := e; rw [e'] at hl; simp at hl) hu hd) (fun y hy e => absurd e (hno y hy)))
        · exact .inl ⟨by simp, rfl⟩
theorem wrE_ok {room : Nat} {l : List Ent} (h : VInv l) (p : List UInt8) (at' : Int) (data : List UInt8) : AnsOK room l (wrE room l p at' data) := by
  unfold wrE
  split
  · exact .inl ⟨by simp, rfl⟩
  · split
    · exact .inl ⟨by simp, rfl⟩
    · rename_i x hx
      split
      · exact .inl ⟨by simp, rfl⟩
      · rename_i hd
        split
        · exact .inl ⟨by simp, rfl⟩
        · rename_i ha
          split
          · exact .inl ⟨by simp, rfl⟩
          · rename_i hl
            rcases atE_some hx with ⟨-, e⟩ | ⟨hr, hm, e⟩
            · rw [e] at hd; exact absurd rfl hd
            · subst e
              have hf := h.file x hm
              refine AnsOK.bec (h.put _ (h.path x hm).1 hr (fun e => by cases e) ?_ (h.up x hm) (fun y hy e hyd => ?_))
              · simp only [List.length_append, List.length_take, List.length_drop]
                omega
              · rw [h.rise.inj hy hm e] at hyd
                exact absurd hyd hd
theorem rmE_ok {room : Nat} {l : List Ent} (h : VInv l) (p : List UInt8) : AnsOK room l (rmE room l p) := by
  unfold rmE
  split
  · exact .inl ⟨by simp, rfl⟩
  · split
    · exact .inl ⟨by simp, rfl⟩
    · split
      · exact .inl ⟨by simp, rfl⟩
      · rename_i hr
        split
        · exact .inl ⟨by simp, rfl⟩
        · rename_i hc
          refine AnsOK.bec (h.del p hr fun y hy e => ?_)
          exfalso
          apply hc
          rw [List.any_eq_true]
          exact ⟨y, hy, by simp [e]⟩
theorem rnE_ok {room : Nat} {l : List Ent} (h : VInv l) (p q : List UInt8) : AnsOK room l (rnE room l p q) := by
  unfold rnE
  split
  · exact .inl ⟨by simp, rfl⟩
  · rename_i hpq
    have hq : pathB q = true := by simp at hpq; exact hpq.2
    split
    · exact .inl ⟨by simp, rfl⟩
    · rename_i x hx
      split
      · exact .inl ⟨by simp, rfl⟩
      · rename_i hd
        split
        · exact .inl ⟨by simp, rfl⟩
        · rename_i hn
          obtain ⟨hr, hno⟩ := at_none hn
          split
          · exact .inl ⟨by simp, rfl⟩
          · rename_i u hu
            split
            · rename_i hud
              rcases atE_some hx with ⟨-, e⟩ | ⟨hpr, hm, e⟩
              · rw [e] at hd; exact absurd rfl hd
              · subst e
                have hl := (pathB_len hq hr).1
                have hxd : x.d = false := by simpa using hd
                have hdel : VInv (delE l x.p) := h.del x.p hpr fun y hy e u' hu' e' => by rw [h.rise.inj hu' hm e']; exact hxd
                refine AnsOK.bec (hdel.put ⟨q, x.d, x.s⟩ hq hr (fun e => absurd e hd) (h.file x hm) ?_ (fun y hy e => absurd e (hno y (del_mem.1 hy).1)))
                rcases up_ok (fun e => by have e' : q = [] := e; rw [e'] at hl; simp at hl) hu hud with e | ⟨u', hu', e, hd'⟩
                · exact .inl e
                · refine .inr ⟨u', del_mem.2 ⟨hu', fun e2 => ?_⟩, e, hd'⟩
                  rw [h.rise.inj hu' hm e2] at hd'
                  exact hd hd'
            · exact .inl ⟨by simp, rfl⟩
end Go.Proofs.YtfpbocjmlhcgiaaGreatDoor
/- Plain: the cells behind a volume's commit. -/
namespace Go.Proofs.YtfpbocjmlhcgiaaGreatDoor
open PJ

theorem vread_at {J : Jn} {c : Nat} (h : c < J.n - J.area) : J.read[c]? = some (J.cell c) := by
  rw [Jn.read_eq, Jn.firstCells, List.getElem?_map, List.getElem?_range h]; rfl
theorem vcommit_dim (J : Jn) (l : List Wr) : (J.commit l).n = J.n ∧ (J.commit l).area = J.area ∧ (J.commit l).next = J.next + 1 ∧ (J.commit l).head ≤ J.head + 1 := by
  unfold Jn.commit
  split
  · exact ⟨rfl, rfl, rfl, Nat.le_refl _⟩
  · exact ⟨rfl, rfl, rfl, by show J.head ≤ J.head + 1; omega⟩
theorem vcommit_reads {J : Jn} (h : J.OK) (hh : J.head < 4611686018427387904) (hn : J.next ≤ 4611686018427387904) (l : List Wr) (hm : mayI (J.n - J.area) J.area l = 0) : (J.commit l).read = behindL J.read l := by
  obtain ⟨m1, m2, m3⟩ := may_ok hm
  have ha4 := h.area4
  unfold Jn.commit
  split
  · have hO := Jn.home_ok h hh hn
    rw [Jn.read_put hO (by show 2 + 1 + l.length ≤ J.area; omega) m3, Jn.read_home h]
  · rw [Jn.read_put h (by omega) m3]
theorem VoC.deed {J : Jn} {img now : List UInt8} (h : VoC J img) (hok : J.OK) (hh : J.head < 4611686018427387904) (hn : J.next ≤ 4611686018427387904) (hl : now.length ≤ 116 * (J.n - J.area)) (h40 : J.n - J.area ≤ 40) (ha : J.n - J.area ≤ J.area - 3) :
    VoC (J.deed (wrsV img now (J.n - J.area))) now := by
  have hR : ∀ c, c < J.read.length → J.read[c]? = some (pcE img c) := fun c hc => by
    have hc' : c < J.n - J.area := by rw [show J.read.length = J.n - J.area from cont_len _ _ _] at hc; exact hc
    rw [vread_at hc', h.cell c hc']
  have hlen : J.read.length = J.n - J.area := cont_len _ _ _
  have hb := fun c hc => wrsV_behind (now := now) hR (J.n - J.area) (Nat.le_of_eq hlen.symm) c hc
  have hm := wrsV_may (n := J.n - J.area) (area := J.area) img now (Nat.le_refl _) h40 ha
  unfold Jn.deed
  split
  · rename_i e
    rw [e] at hb
    refine ⟨hl, fun c hc => ?_⟩
    have h1 := hb c (by rw [hlen]; exact hc)
    rw [if_pos hc] at h1
    have h2 : J.read[c]? = some (pcE now c) := h1
    rw [vread_at hc] at h2
    exact Option.some.inj h2
  · (try rw [if_pos hm])
    obtain ⟨d1, d2, d3, d4⟩ := vcommit_dim J (wrsV img now (J.n - J.area))
    have hr := vcommit_reads hok hh hn (wrsV img now (J.n - J.area)) hm
    refine ⟨by rw [d1, d2]; exact hl, fun c hc => ?_⟩
    rw [d1, d2] at hc
    have h1 := hb c (by rw [hlen]; exact hc)
    rw [if_pos hc, ← hr, vread_at (by rw [d1, d2]; exact hc)] at h1
    exact Option.some.inj h1
theorem cells_cat (img : List UInt8) : ∀ k : Nat, (List.range k).flatMap (pcE img) = padT (img.take (116 * k)) (116 * k)
  | 0 => by simp [padT]
  | k + 1 => by
    rw [List.range_succ, List.flatMap_append, cells_cat img k]
    simp only [List.flatMap_cons, List.flatMap_nil, List.append_nil]
    unfold pcE padT
    rw [List.length_take, List.length_take, List.length_take, List.length_drop]
    rcases Nat.le_total img.length (116 * k) with h | h
    · have t1 : img.take (116 * k) = img := List.take_of_length_le h
      have t2 : img.take (116 * (k + 1)) = img := List.take_of_length_le (by omega)
      have t3 : img.drop (116 * k) = [] := List.drop_eq_nil_of_le h
      rw [t1, t2, t3, List.take_nil, List.nil_append, List.append_assoc, List.replicate_append_replicate]
      congr 2
      omega
    · rw [show 116 * k - min (116 * k) img.length = 0 from by omega, List.replicate_zero, List.append_nil, ← List.append_assoc, show 116 * (k + 1) = 116 * k + 116 from by omega, List.take_add]
      congr 2
      omega
/-- All cells, one behind the other. -/
theorem VoC.cat {J : Jn} {img : List UInt8} (h : VoC J img) : (List.range (J.n - J.area)).flatMap J.cell = img ++ List.replicate (116 * (J.n - J.area) - img.length) 0 := by
  have e : (List.range (J.n - J.area)).flatMap J.cell = (List.range (J.n - J.area)).flatMap (pcE img) := by
    have : ∀ l : List Nat, (∀ c ∈ l, c < J.n - J.area) → l.flatMap J.cell = l.flatMap (pcE img) := by
      intro l
      induction l with
      | nil => intro _; rfl
      | cons c r ih =>
        intro hc
        rw [List.flatMap_cons, List.flatMap_cons, h.cell c (hc c (List.mem_cons_self ..)), ih fun x hx => hc x (List.mem_cons_of_mem _ hx)]
    exact this _ fun c hc => List.mem_range.1 hc
  rw [e, cells_cat, List.take_of_length_le h.le]
  rfl
end Go.Proofs.YtfpbocjmlhcgiaaGreatDoor
/- Maps from paths to entries, in memory. -/
namespace Go.Proofs.YtfpbocjmlhcgiaaGreatDoor
open Go.RowKit PJ Go.Maps Go.WideMaps

def Ent.cells (x : Ent) : Array Value := #[.string ⟨x.p.toArray⟩, .bool x.d, .string ⟨x.s.toArray⟩]
def Ent.val (x : Ent) : Value := .agg x.cells
def Ent.dat (x : Ent) : DataW Unit := .agg [.lit (.string x.p), .lit (.bool x.d), .lit (.string x.s)]
def zeroE : Ent := ⟨[], false, []⟩
/-- How an entry in a map reads. -/
def entR (v : Value) : Option (DataW Unit × List MemPlace) := match v with
  | .agg cs => match cs.toList with
    | [.string p, .bool d, .string s] => some (.agg [.lit (.string p.data.toList), .lit (.bool d), .lit (.string s.data.toList)], [])
    | _ => none
  | _ => none
theorem entR_val (x : Ent) : entR x.val = some (x.dat, []) := rfl
theorem entR_inv {v : Value} {z : DataW Unit × List MemPlace} (h : entR v = some z) : ∃ x : Ent, v = x.val ∧ z = (x.dat, []) := by
  unfold entR at h
  split at h
  · rename_i cs
    split at h
    · rename_i p d s e
      refine ⟨⟨p.data.toList, d, s.data.toList⟩, ?_, (Option.some.inj h).symm⟩
      unfold Ent.val Ent.cells
      congr 1
      apply Array.toList_inj.1
      rw [e]
    · cases h
  · cases h
theorem dat_inj {x y : Ent} (h : x.dat = y.dat) : x = y := by
  obtain ⟨p, d, s⟩ := x
  obtain ⟨p', d', s'⟩ := y
  unfold Ent.dat at h
  simp only [DataW.agg.injEq, List.cons.injEq, DataW.lit.injEq, Lit.string.injEq, Lit.bool.injEq, and_true] at h
  obtain ⟨rfl, rfl, rfl⟩ := h
  rfl
theorem law_str : Keyed Tryz.prog 9 := string_keyed Tryz.underlying9
theorem zero_ent (w : World) : (zeroValue 74).run Tryz.prog w = .ok zeroE.val w := by kernel_rfl
/-- The datum holds these entries. -/
structure MapE (D : DataW Unit) (l : List Ent) : Prop where
  rise : Rise l
  size : Maps.size D = l.length
  at' : ∀ p : List UInt8, has D (.string p) = (findE l p).isSome ∧ D.atKey (.string p) zeroE.dat = ((findE l p).getD zeroE).dat
theorem MapE.put {D : DataW Unit} {l : List Ent} (h : MapE D l) (hd : IsMap D) (ht : Tidy D) (x : Ent) : MapE (D.put (.string x.p) x.dat) (putE l x) := by
  refine ⟨put_rise h.rise x, ?_, fun p => ?_⟩
  · rw [size_put ht, put_len h.rise x, (h.at' x.p).1, h.size]
  · rw [find_put h.rise]
    by_cases e : p = x.p
    · subst e
      rw [if_pos rfl]
      exact ⟨has_put_same hd (show WideAt.IsKeyLit (.string x.p) from trivial) _, atKey_put_same hd (show WideAt.IsKeyLit (.string x.p) from trivial) _ _⟩
    · have hne : (Lit.string p) ≠ .string x.p := fun h => e (by cases h; rfl)
      rw [if_neg e, has_put_other hne, atKey_put_other hne]
      exact h.at' p
theorem MapE.del {D : DataW Unit} {l : List Ent} (h : MapE D l) (ht : Tidy D) (q : List UInt8) : MapE (D.del (.string q)) (delE l q) := by
  refine ⟨del_rise h.rise q, ?_, fun p => ?_⟩
  · have h1 := size_del ht (k := .string q)
    have h2 := del_len h.rise q
    rw [(h.at' q).1, h.size] at h1
    omega
  · rw [find_del h.rise]
    by_cases e : p = q
    · subst e
      rw [if_pos rfl]
      exact ⟨has_del_same, atKey_del_same _⟩
    · have hne : (Lit.string p) ≠ .string q := fun h => e (by cases h; rfl)
      rw [if_neg e, has_del_other hne, atKey_del_other hne]
      exact h.at' p
/-- A map of entries. -/
def EMap (w : World) (mb : Nat) (l : List Ent) : Prop := ∃ n, ∃ D : DataW Unit, w.ownsMap Tryz.prog 9 entR mb n D ∧ MapE D l ∧ n ≤ 4096
theorem EMap.lt {w : World} {mb : Nat} {l : List Ent} (h : EMap w mb l) : mb < w.heap.size := by
  obtain ⟨n, D, h, -⟩ := h
  exact h.lt
theorem EMap.rise {w : World} {mb : Nat} {l : List Ent} (h : EMap w mb l) : Rise l := by
  obtain ⟨n, D, h, hm, -⟩ := h
  exact hm.rise
theorem EMap.kept {w w' : World} {mb : Nat} {l : List Ent} (h : EMap w mb l) (hb : w'.heap[mb]? = w.heap[mb]?) : EMap w' mb l := by
  obtain ⟨n, D, ⟨es, clock, h1, h2⟩, hm, hn⟩ := h
  exact ⟨n, D, ⟨es, clock, hb.trans h1, h2⟩, hm, hn⟩
theorem EMap.later {w w' : World} {mb : Nat} {l : List Ent} (h : EMap w mb l) (hl : LJ w w') : EMap w' mb l := h.kept (Below.block hl mb h.lt)
theorem EMap.made (w : World) : EMap (w.alloc (.map #[] 0)) w.heap.size [] := ⟨0, .map [], World.ownsMap_made _ _ _ _, ⟨by simp [Rise], rfl, fun p => ⟨rfl, rfl⟩⟩, by omega⟩
theorem str_key {p : List UInt8} (hp : p.length ≤ 140737488355328) : keyOf Tryz.prog 9 (.string ⟨p.toArray⟩) = some (.string p) := by
  have := keyOf_string_mk (P := Tryz.prog) (k := 9) Tryz.underlying9 (s := ⟨p.toArray⟩) (by show p.toArray.size ≤ maxLen; rw [List.size_toArray]; unfold maxLen; omega)
  exact this
theorem EMap.look {w : World} {mb : Nat} {l : List Ent} (h : EMap w mb l) (p : List UInt8) (hp : p.length ≤ 140737488355328) :
    (Instr.lookup 141 (.map (some mb)) (.string ⟨p.toArray⟩) false).run Tryz.prog w = .ok ((findE l p).getD zeroE).val w := by
  obtain ⟨n, D, h, hm, -⟩ := h
  obtain ⟨v, ps, hrun, hv⟩ := h.lookup law_str Tryz.underlying141 (zero_ent w) (entR_val zeroE) (str_key hp)
  rw [(hm.at' p).2] at hv
  obtain ⟨x, rfl, hz⟩ := entR_inv hv
  rw [hrun, dat_inj (Prod.mk.inj hz).1]
theorem EMap.look_ok {w : World} {mb : Nat} {l : List Ent} (h : EMap w mb l) (p : List UInt8) (hp : p.length ≤ 140737488355328) :
    (Instr.lookup 141 (.map (some mb)) (.string ⟨p.toArray⟩) true).run Tryz.prog w = .ok (.tuple #[((findE l p).getD zeroE).val, .bool (findE l p).isSome]) w := by
  obtain ⟨n, D, h, hm, -⟩ := h
  obtain ⟨v, ps, hrun, hv⟩ := h.look_ok law_str Tryz.underlying141 (zero_ent w) (entR_val zeroE) (str_key hp)
  rw [(hm.at' p).2] at hv
  obtain ⟨x, rfl, hz⟩ := entR_inv hv
  rw [hrun, dat_inj (Prod.mk.inj hz).1, (hm.at' p).1]
theorem EMap.len {w : World} {mb : Nat} {l : List Ent} (h : EMap w mb l) (ty : TypeId) : (Builtin.len_ #[141] ty #[.map (some mb)]).run Tryz.prog w = .ok (.int .i64 l.length) w := by
  obtain ⟨n, D, h, hm, -⟩ := h
  rw [h.len Tryz.underlying141 ty, hm.size]
theorem EMap.keys {w : World} {mb : Nat} {l : List Ent} (h : EMap w mb l) {n : Nat} {D : DataW Unit} (ho : w.ownsMap Tryz.prog 9 entR mb n D) (hm : MapE D l) : (l.map (·.p)).Perm (strKeys D) := by
  obtain ⟨es, rfl, hp, -⟩ := ho.entries law_str
  obtain ⟨es', e, hko⟩ := ho.keysOf
  obtain rfl : es = es' := by cases e; rfl
  refine perm_strKeys hp (fun p hp' => ?_) (rise_nodup hm.rise) fun x => ?_
  · obtain ⟨v, hv⟩ := hko p hp'
    obtain ⟨x, -, hx, -⟩ := Maps.keyOf_str Tryz.underlying9 hv
    exact ⟨x, hx⟩
  · rw [(hm.at' x).1, List.mem_map]
    constructor
    · rintro ⟨y, hy, rfl⟩
      rw [findE_of hm.rise hy]
      rfl
    · intro hs
      obtain ⟨y, hy⟩ := Option.isSome_iff_exists.1 hs
      obtain ⟨h1, h2⟩ := findE_some hy
      exact ⟨y, h1, h2⟩
end Go.Proofs.YtfpbocjmlhcgiaaGreatDoor
