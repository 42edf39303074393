/- Vg4, merged: VP1 VP3 VQ1 VM12 VP2 VP4 VP5. -/
import Derived.Test.YtfpbocjmlhcgiaaGreatDoorVg1
import Derived.Test.YtfpbocjmlhcgiaaGreatDoorJ80
import Derived.Test.YtfpbocjmlhcgiaaGreatDoorVg2
import Derived.Test.YtfpbocjmlhcgiaaGreatDoorJg14
import Derived.Lib.Builder
set_option linter.unusedSimpArgs false
set_option linter.unusedVariables false
/- Plain: a volume on its journal. -/
namespace Go.Proofs.YtfpbocjmlhcgiaaGreatDoor
open PJ

/-- A journal with a volume's entries. -/
structure VJ (J : Jn) (l : List Ent) : Prop where
  inv : VInv l
  voc : VoC J (imageE l)
  c40 : J.n - J.area ≤ 40
  ca : J.n - J.area ≤ J.area - 3
  whole : ∃ L, J.Whole L
def Jn.room' (J : Jn) : Nat := 116 * (J.n - J.area)
/-- What is laid for other entries. -/
def Jn.vol (J : Jn) (l now : List Ent) : Jn := J.deed (wrsV (imageE l) (imageE now) (J.n - J.area))
theorem deed_dim (J : Jn) (l : List Wr) : (J.deed l).n = J.n ∧ (J.deed l).area = J.area ∧ (J.deed l).next ≤ J.next + 1 ∧ (J.deed l).head ≤ J.head + 1 := by
  obtain ⟨d1, d2, d3, d4⟩ := vcommit_dim J l
  unfold Jn.deed
  split
  · exact ⟨rfl, rfl, by omega, by omega⟩
  · split
    · exact ⟨d1, d2, by omega, by omega⟩
    · exact ⟨rfl, rfl, by omega, by omega⟩
theorem vol_dim (J : Jn) (l now : List Ent) : (J.vol l now).n = J.n ∧ (J.vol l now).area = J.area ∧ (J.vol l now).next ≤ J.next + 1 ∧ (J.vol l now).head ≤ J.head + 1 := deed_dim J _
theorem VJ.may {J : Jn} {l now : List Ent} (h : VJ J l) : mayI (J.n - J.area) J.area (wrsV (imageE l) (imageE now) (J.n - J.area)) = 0 := wrsV_may _ _ (Nat.le_refl _) h.c40 h.ca
theorem VJ.bec {J : Jn} {l now : List Ent} (h : VJ J l) (hok : J.OK) (hh : J.head < 4611686018427387904) (hn : J.next ≤ 4611686018427387904) (hi : VInv now) (hl : (imageE now).length ≤ J.room') : VJ (J.vol l now) now := by
  obtain ⟨d1, d2, d3, d4⟩ := vol_dim J l now
  have hm := h.may (now := now)
  obtain ⟨L, hL⟩ := h.whole
  refine ⟨hi, h.voc.deed hok hh hn hl h.c40 h.ca, by rw [d1, d2]; exact h.c40, by rw [d1, d2]; exact h.ca, ?_⟩
  unfold Jn.vol Jn.deed
  split
  · exact ⟨L, hL⟩
  · rename_i h0
    (try rw [if_pos hm])
    exact hL.commit (may_rec h0 hm)
theorem sum6 : ∀ {l : List Ent}, (∀ x ∈ l, 2 ≤ x.p.length) → 6 * l.length ≤ sumE l
  | [], _ => by simp [sumE]
  | x :: r, h => by
    have ih := sum6 (l := r) fun y hy => h y (List.mem_cons_of_mem _ hy)
    have hx := h x (List.mem_cons_self ..)
    simp only [sumE, List.map_cons, List.sum_cons, List.length_cons] at ih ⊢
    omega
theorem VInv.two {l : List Ent} (h : VInv l) : ∀ x ∈ l, 2 ≤ x.p.length ∧ x.p.length ≤ 48 := fun x hx => by
  obtain ⟨h1, h2⟩ := h.path x hx
  have h3 := pathB_len h1 h2
  exact ⟨h3.1, h3.2.1⟩
theorem VJ.count {J : Jn} {l : List Ent} (h : VJ J l) : l.length ≤ 773 := by
  have h1 := sum6 fun x hx => (h.inv.two x hx).1
  have h2 := h.voc.le
  rw [imageE_len] at h2
  have h3 := h.c40
  omega
theorem sum_hi : ∀ {l : List Ent}, (∀ x ∈ l, x.p.length ≤ 48 ∧ x.s.length ≤ 1024) → sumE l ≤ 1076 * l.length
  | [], _ => by simp [sumE]
  | x :: r, h => by
    have ih := sum_hi (l := r) fun y hy => h y (List.mem_cons_of_mem _ hy)
    have hx := h x (List.mem_cons_self ..)
    simp only [sumE, List.map_cons, List.sum_cons, List.length_cons] at ih ⊢
    omega
theorem VInv.hi {l : List Ent} (h : VInv l) : ∀ x ∈ l, x.p.length ≤ 48 ∧ x.s.length ≤ 1024 := fun x hx => ⟨(h.two x hx).2, h.file x hx⟩
theorem VInv.image_le {l : List Ent} (h : VInv l) (hl : l.length ≤ 800) : (imageE l).length ≤ 870000 := by
  have h1 := sum_hi h.hi
  rw [imageE_len]
  omega
theorem put_len_le {l : List Ent} (h : Rise l) (x : Ent) : (putE l x).length ≤ l.length + 1 := by
  rw [put_len h x]
  split <;> omega
theorem del_len_le (l : List Ent) (p : List UInt8) : (delE l p).length ≤ l.length := List.length_filter_le _ _
/-- Entries one by one: the next one stands behind. -/
theorem put_last : ∀ {l : List Ent} {x : Ent}, (∀ y ∈ l, y.p < x.p) → putE l x = l ++ [x]
  | [], x, _ => rfl
  | y :: r, x, h => by
    have h1 := h y (List.mem_cons_self ..)
    unfold putE
    rw [if_neg (fun h2 => List.lt_irrefl _ (List.lt_trans h1 h2)), if_neg (fun e => lt_ne h1 e.symm), put_last fun z hz => h z (List.mem_cons_of_mem _ hz)]
    rfl
theorem rise_take {l : List Ent} (h : Rise l) {i : Nat} {x : Ent} (hx : l[i]? = some x) : ∀ y ∈ l.take i, y.p < x.p := by
  intro y hy
  obtain ⟨j, hj⟩ := List.getElem?_of_mem hy
  have hjl := (List.getElem?_eq_some_iff.1 hj).1
  rw [List.length_take] at hjl
  rw [List.getElem?_take_of_lt (by omega)] at hj
  have hp := List.pairwise_iff_getElem.1 h
  obtain ⟨b1, b2⟩ := List.getElem?_eq_some_iff.1 hj
  obtain ⟨c1, c2⟩ := List.getElem?_eq_some_iff.1 hx
  have := hp j i b1 c1 (by omega)
  rw [b2, c2] at this
  exact this
theorem rise_in {l : List Ent} (h : Rise l) {i : Nat} {x u : Ent} (hx : l[i]? = some x) (hu : u ∈ l) (hlt : u.p < x.p) : u ∈ l.take i := by
  obtain ⟨j, hj⟩ := List.getElem?_of_mem hu
  have hp := List.pairwise_iff_getElem.1 h
  obtain ⟨b1, b2⟩ := List.getElem?_eq_some_iff.1 hj
  obtain ⟨c1, c2⟩ := List.getElem?_eq_some_iff.1 hx
  have hji : j < i := by
    rcases Nat.lt_trichotomy j i with e | e | e
    · exact e
    · subst e
      rw [hj] at hx
      rw [Option.some.inj hx] at hlt
      exact absurd hlt (List.lt_irrefl _)
    · have := hp i j c1 b1 e
      rw [b2, c2] at this
      exact absurd (List.lt_trans this hlt) (List.lt_irrefl _)
  refine List.mem_of_getElem? (i := j) ?_
  rw [List.getElem?_take_of_lt hji]
  exact hj
theorem put_take {l : List Ent} (h : Rise l) {i : Nat} {x : Ent} (hx : l[i]? = some x) : putE (l.take i) x = l.take (i + 1) := by
  rw [put_last (rise_take h hx), List.take_add_one, hx]
  rfl
/-- An entry's parent stands ahead of it. -/
theorem VInv.ahead {l : List Ent} (h : VInv l) {i : Nat} {x : Ent} (hx : l[i]? = some x) (hr : upP x.p ≠ [47]) : ∃ u, findE (l.take i) (upP x.p) = some u ∧ u.d = true := by
  have hm := List.mem_of_getElem? hx
  rcases h.up x hm with e | ⟨u, hu, e, hd⟩
  · exact absurd e hr
  · have hlt : u.p < x.p := by rw [e]; exact upP_lt (h.two x hm).1
    refine ⟨u, ?_, hd⟩
    rw [← e]
    exact findE_of (List.Pairwise.sublist (List.take_sublist _ _) h.rise) (rise_in h.rise hx hu hlt)
theorem ent_rest {l : List Ent} {i : Nat} {x : Ent} (hx : l[i]? = some x) : (l.drop i).flatMap entB = entB x ++ (l.drop (i + 1)).flatMap entB := by
  obtain ⟨c1, c2⟩ := List.getElem?_eq_some_iff.1 hx
  rw [List.drop_eq_getElem_cons c1, List.flatMap_cons, c2]
end Go.Proofs.YtfpbocjmlhcgiaaGreatDoor
/- Plain: what a volume tells; a file moved there and back; writes at a file's end. -/
namespace Go.Proofs.YtfpbocjmlhcgiaaGreatDoor
open PJ

def kidsE (l : List Ent) (p : List UInt8) : List Ent := l.filter fun y => upP y.p == p
def lastN (p : List UInt8) : List UInt8 := p.drop (lastS p + 1).toNat
def rdE (l : List Ent) (p : List UInt8) (a n : Int) : List UInt8 × Int :=
  if pathB p = false then ([], 171) else match atE l p with
    | none => ([], 172)
    | some x => if x.d = true then ([], 174) else if a < 0 ∨ n < 0 ∨ (x.s.length : Int) < a then ([], 1) else ((x.s.drop a.toNat).take n.toNat, 0)
def lsE (l : List Ent) (p : List UInt8) : List (List UInt8) × Int :=
  if pathB p = false then ([], 171) else match atE l p with
    | none => ([], 172)
    | some x => if x.d = true then ((kidsE l p).map fun y => lastN y.p, 0) else ([], 174)
def stE (l : List Ent) (p : List UInt8) : Bool × Nat × Int :=
  if pathB p = false then (false, 0, 171) else match atE l p with
    | none => (false, 0, 172)
    | some x => (x.d, x.s.length + (kidsE l p).length, 0)
theorem becE_zero {room : Nat} {l now m : List Ent} (h : becE room l now = (0, m)) : m = now ∧ (imageE now).length ≤ room := by
  rcases becE_or room l now with e | ⟨e, hl⟩
  · rw [e] at h
    have := (Prod.mk.inj h).1
    omega
  · rw [e] at h
    exact ⟨((Prod.mk.inj h).2).symm, hl⟩
theorem path_ne {p : List UInt8} (h : pathB p = true) : p ≠ [] := by
  rintro rfl
  revert h
  decide
theorem rn_facts {room : Nat} {l now : List Ent} {p q : List UInt8} (hi : VInv l) (h : rnE room l p q = (0, now)) :
    ∃ x, x ∈ l ∧ x.p = p ∧ x.d = false ∧ pathB p = true ∧ pathB q = true ∧ p ≠ [47] ∧ q ≠ [47] ∧ findE l q = none ∧ now = putE (delE l p) ⟨q, x.d, x.s⟩ ∧ (imageE now).length ≤ room := by
  unfold rnE at h
  split at h
  · have := (Prod.mk.inj h).1; omega
  · rename_i hpq
    have hpp : pathB p = true := by simp at hpq; exact hpq.1
    have hpq' : pathB q = true := by simp at hpq; exact hpq.2
    split at h
    · have := (Prod.mk.inj h).1; omega
    · rename_i x hx
      split at h
      · have := (Prod.mk.inj h).1; omega
      · rename_i hd
        split at h
        · have := (Prod.mk.inj h).1; omega
        · rename_i hn
          split at h
          · have := (Prod.mk.inj h).1; omega
          · rename_i u hu
            split at h
            · obtain ⟨e1, e2⟩ := becE_zero h
              rcases atE_some hx with ⟨-, e⟩ | ⟨hr, hm, e⟩
              · rw [e] at hd; exact absurd rfl hd
              · obtain ⟨q1, q2⟩ := at_none hn
                exact ⟨x, hm, e, by simpa using hd, hpp, hpq', hr, q1, findE_none.2 q2, e1, by rw [e1]; exact e2⟩
            · have := (Prod.mk.inj h).1; omega
theorem moves_back {room : Nat} {l now : List Ent} {p q : List UInt8} (hi : VInv l) (hl : (imageE l).length ≤ room) (h : rnE room l p q = (0, now)) :
    ∃ x, findE l p = some x ∧ findE now q = some ⟨q, x.d, x.s⟩ ∧ findE now p = none ∧ now.length = l.length ∧ rnE room now q p = (0, l) := by
  obtain ⟨x, hm, e, hd, hpp, hpq, hpr, hqr, hfq, hnow, hroom⟩ := rn_facts hi h
  have hri := hi.rise
  have hdr := del_rise hri p
  have hne : p ≠ q := by
    rintro rfl
    rw [findE_none] at hfq
    exact hfq x hm e
  have hfp : findE l p = some x := by rw [← e]; exact findE_of hri hm
  have hfnow : ∀ r, findE now r = if r = q then some ⟨q, x.d, x.s⟩ else if r = p then none else findE l r := fun r => by rw [hnow, find_put hdr, find_del hri]
  have hnq : findE now q = some ⟨q, x.d, x.s⟩ := by rw [hfnow, if_pos rfl]
  have hnp : findE now p = none := by rw [hfnow, if_neg hne, if_pos rfl]
  have hrn : Rise now := by rw [hnow]; exact put_rise hdr _
  refine ⟨x, hfp, hnq, hnp, ?_, ?_⟩
  · have h1 := put_len hdr (⟨q, x.d, x.s⟩ : Ent)
    have h2 := del_len hri p
    rw [hfp] at h2
    rw [show findE (delE l p) (⟨q, x.d, x.s⟩ : Ent).p = none from by rw [find_del hri, if_neg (fun e => hne e.symm)]; exact hfq] at h1
    simp only [Option.isSome_none, Bool.false_eq_true, if_false, Option.isSome_some, if_true] at h1 h2
    rw [hnow, h1, h2]
  · have hback : putE (delE now q) ⟨p, x.d, x.s⟩ = l := by
      have ex : (⟨p, x.d, x.s⟩ : Ent) = x := by rw [← e]
      rw [ex]
      refine rise_ext (put_rise (del_rise hrn q) x) hri fun z => ?_
      rw [put_mem (del_rise hrn q), del_mem, hnow, put_mem hdr, del_mem]
      constructor
      · rintro (rfl | ⟨⟨rfl | ⟨⟨h1, -⟩, -⟩, h2⟩, h3⟩)
        · exact hm
        · exact absurd rfl h2
        · exact h1
      · intro hz
        by_cases e2 : z.p = x.p
        · exact .inl (hri.inj hz hm e2)
        · refine .inr ⟨⟨.inr ⟨⟨hz, by rw [← e]; exact e2⟩, ?_⟩, ?_⟩, e2⟩
          · exact findE_none.1 hfq z hz
          · exact findE_none.1 hfq z hz
    unfold rnE
    rw [if_neg (by rw [hpp, hpq]; simp)]
    have a1 : atE now q = some ⟨q, x.d, x.s⟩ := by unfold atE; rw [if_neg hqr, hnq]
    have a2 : atE now p = none := by unfold atE; rw [if_neg hpr, hnp]
    have a3 : ∃ u, atE now (upP (p ++ [0])) = some u ∧ u.d = true := by
      rw [upP_snoc (path_ne hpp)]
      unfold atE
      by_cases hr : upP p = [47]
      · rw [if_pos hr]; exact ⟨rootE, rfl, rfl⟩
      · rw [if_neg hr]
        rcases hi.up x hm with e2 | ⟨u, hu, e2, hud⟩
        · rw [e] at e2; exact absurd e2 hr
        · refine ⟨u, ?_, hud⟩
          rw [e] at e2
          rw [← e2, hfnow, if_neg (findE_none.1 hfq u hu), if_neg (fun e3 => by
            rw [hri.inj hu hm (e3.trans e.symm), hd] at hud
            cases hud)]
          exact findE_of hri hu
    obtain ⟨u, hu, hud⟩ := a3
    rw [a1]
    simp only
    rw [if_neg (by rw [hd]; simp), a2]
    simp only
    rw [hu]
    simp only
    rw [if_pos hud, hback]
    unfold becE
    rw [if_neg (by omega)]
end Go.Proofs.YtfpbocjmlhcgiaaGreatDoor
/- A volume in memory. -/
namespace Go.Proofs.YtfpbocjmlhcgiaaGreatDoor
open Go.RowKit PJ Go.Maps

def volC (jb mb : Nat) : Array Value := #[.pointer (some ⟨jb, 0, none⟩), .map (some mb), .bool false]
/-- A volume that lies in the blocks F. -/
def VAt (w : World) (p b jb vb : Nat) (F : Nat → Prop) (J : Jn) (l : List Ent) : Prop :=
  ∃ mb FJ, JAt w p b jb FJ J ∧ w.heap[vb]? = some (.cells (volC jb mb) 143 (0, 0)) ∧ EMap w mb l ∧ ¬ FJ vb ∧ ¬ FJ mb ∧ (∀ q, FJ q ∨ q = vb ∨ q = mb → F q) ∧ (∀ q, F q → q < w.heap.size) ∧ VJ J l
theorem VAt.vj {w : World} {p b jb vb : Nat} {F : Nat → Prop} {J : Jn} {l : List Ent} (h : VAt w p b jb vb F J l) : VJ J l := by
  obtain ⟨mb, FJ, h1, h2, h3, h4, h5, h6, h7, h8⟩ := h
  exact h8
theorem VAt.ok {w : World} {p b jb vb : Nat} {F : Nat → Prop} {J : Jn} {l : List Ent} (h : VAt w p b jb vb F J l) : J.OK := by
  obtain ⟨mb, FJ, h1, h2, h3, h4, h5, h6, h7, h8⟩ := h
  exact h1.ok
theorem VAt.lt {w : World} {p b jb vb : Nat} {F : Nat → Prop} {J : Jn} {l : List Ent} (h : VAt w p b jb vb F J l) : ∀ q, F q → q < w.heap.size := by
  obtain ⟨mb, FJ, h1, h2, h3, h4, h5, h6, h7, h8⟩ := h
  exact h7
theorem VAt.kept {w w' : World} {p b jb vb : Nat} {F F' : Nat → Prop} {J : Jn} {l : List Ent} (h : VAt w p b jb vb F J l) (hs : w.heap.size ≤ w'.heap.size) (ho : ∀ k, F k → w'.heap[k]? = w.heap[k]?) (hF : ∀ q, F q → F' q) (hF' : ∀ q, F' q → q < w'.heap.size) : VAt w' p b jb vb F' J l := by
  obtain ⟨mb, FJ, h1, h2, h3, h4, h5, h6, h7, h8⟩ := h
  have fv := h6 vb (.inr (.inl rfl))
  have fm := h6 mb (.inr (.inr rfl))
  exact ⟨mb, FJ, h1.kept hs (fun k hk => ho k (h6 k (.inl hk))) (fun _ h => h) (fun q hq => by have := h1.lt q hq; omega), (ho vb fv).trans h2, h3.kept (ho mb fm), h4, h5, fun q hq => hF q (h6 q hq), hF', h8⟩
theorem VAt.later {w w' : World} {p b jb vb : Nat} {F : Nat → Prop} {J : Jn} {l : List Ent} (h : VAt w p b jb vb F J l) (hl : LJ w w') : VAt w' p b jb vb F J l :=
  h.kept (Below.size hl) (fun k hk => Below.block hl k (h.lt k hk)) (fun _ h => h) (fun q hq => by have := h.lt q hq; have := Below.size hl; omega)
/-- The journal behind a call's answer. -/
def Jn.ans (J : Jn) (l : List Ent) (a : Ans) : Jn := if a.1 = 0 then J.vol l a.2 else J
theorem ans_dim (J : Jn) (l : List Ent) (a : Ans) : (J.ans l a).n = J.n ∧ (J.ans l a).area = J.area ∧ (J.ans l a).next ≤ J.next + 1 ∧ (J.ans l a).head ≤ J.head + 1 := by
  unfold Jn.ans
  split
  · exact vol_dim J l a.2
  · exact ⟨rfl, rfl, by omega, by omega⟩
/-- What a call leaves. -/
def VOut (w : World) (p b jb vb : Nat) (F : Nat → Prop) (J : Jn) (l : List Ent) (w' : World) : Prop := VAt w' p b jb vb (grow F w w') J l ∧ OnlyJ F w w'
theorem VOut.same {w w' : World} {p b jb vb : Nat} {F : Nat → Prop} {J : Jn} {l : List Ent} (h : VAt w p b jb vb F J l) (hl : LJ w w') : VOut w p b jb vb F J l w' :=
  ⟨(h.later hl).kept (Nat.le_refl _) (fun _ _ => rfl) grow_sub (grow_lt h.lt (Below.size hl)), OnlyJ.of_below hl⟩
theorem VOut.from {w w1 w' : World} {p b jb vb : Nat} {F : Nat → Prop} {J : Jn} {l : List Ent} (h : VOut w1 p b jb vb F J l w') (hl : LJ w w1) (hF : ∀ q, F q → q < w.heap.size) : VOut w p b jb vb F J l w' := by
  have h1 : w.heap.size ≤ w1.heap.size := Below.size hl
  have h2 := h.2.size
  refine ⟨h.1.kept (Nat.le_refl _) (fun _ _ => rfl) ?_ (grow_lt hF (by omega)), (OnlyJ.of_below hl).trans h.2⟩
  rintro q (hq | hq)
  · exact .inl hq
  · exact .inr ⟨by omega, hq.2⟩
/-- A volume that was laid since w; the blocks K are others'; B bounds its journal's numbers. -/
def VK (w W : World) (K : Nat → Prop) (p b jb vb : Nat) (J : Jn) (l : List Ent) (B : Nat) : Prop :=
  ∃ F, VAt W p b jb vb F J l ∧ (∀ q, F q → w.heap.size ≤ q) ∧ (∀ q, K q → ¬ F q ∧ q < W.heap.size) ∧ LJ w W ∧ J.head ≤ B ∧ J.next ≤ B
theorem VK.lj {w W : World} {K : Nat → Prop} {p b jb vb : Nat} {J : Jn} {l : List Ent} {B : Nat} (h : VK w W K p b jb vb J l B) : LJ w W := h.elim fun _ h => h.2.2.2.1
theorem VK.vj {w W : World} {K : Nat → Prop} {p b jb vb : Nat} {J : Jn} {l : List Ent} {B : Nat} (h : VK w W K p b jb vb J l B) : VJ J l := h.elim fun _ h => h.1.vj
theorem VK.ok {w W : World} {K : Nat → Prop} {p b jb vb : Nat} {J : Jn} {l : List Ent} {B : Nat} (h : VK w W K p b jb vb J l B) : J.OK := h.elim fun _ h => h.1.ok
theorem VK.more {w W W' : World} {K K' : Nat → Prop} {p b jb vb : Nat} {J : Jn} {l : List Ent} {B : Nat} (h : VK w W K p b jb vb J l B) (hl : LJ W W') (hK : ∀ q, K' q → K q ∨ (W.heap.size ≤ q ∧ q < W'.heap.size)) : VK w W' K' p b jb vb J l B := by
  obtain ⟨F, h1, h2, h3, h4, h5⟩ := h
  have hs := Below.size hl
  refine ⟨F, h1.later hl, h2, fun q hq => ?_, h4.trans hl, h5⟩
  rcases hK q hq with hq | hq
  · exact ⟨(h3 q hq).1, by have := (h3 q hq).2; omega⟩
  · exact ⟨fun e => by have := h1.lt q e; omega, hq.2⟩
theorem VK.later {w W W' : World} {K : Nat → Prop} {p b jb vb : Nat} {J : Jn} {l : List Ent} {B : Nat} (h : VK w W K p b jb vb J l B) (hl : LJ W W') : VK w W' K p b jb vb J l B := h.more hl fun q hq => .inl hq
theorem VK.kept {w W W' : World} {K : Nat → Prop} {p b jb vb : Nat} {J : Jn} {l : List Ent} {B : Nat} (h : VK w W K p b jb vb J l B) (hl : LJ W W') : KeptK K W W' := by
  obtain ⟨F, h1, h2, h3, h4, h5⟩ := h
  exact fun q hq => Below.block hl q (h3 q hq).2
theorem VK.of {w W W' : World} {K : Nat → Prop} {p b jb vb : Nat} {F : Nat → Prop} {J J' : Jn} {l l' : List Ent} {B : Nat} (h1 : VAt W p b jb vb F J l) (h2 : ∀ q, F q → w.heap.size ≤ q) (h3 : ∀ q, K q → ¬ F q ∧ q < W.heap.size) (h4 : LJ w W) (ho : VOut W p b jb vb F J' l' W') (hB : J'.head ≤ B ∧ J'.next ≤ B) : VK w W' K p b jb vb J' l' B ∧ KeptK K W W' := by
  have hs := ho.2.size
  have hw := Below.size h4
  refine ⟨⟨grow F W W', ho.1, ?_, fun q hq => ⟨grow_not (h3 q hq).1 (h3 q hq).2, by have := (h3 q hq).2; omega⟩, h4.only ho.2 h2, hB⟩, fun q hq => ho.2.block q (h3 q hq).2 (h3 q hq).1⟩
  rintro q (e | e)
  · exact h2 q e
  · omega
/-- A call that changes something. -/
theorem VK.call {w W : World} {K : Nat → Prop} {p b jb vb : Nat} {J : Jn} {l : List Ent} {B : Nat} (h : VK w W K p b jb vb J l B) {a : Ans} {f : FuncId} {args : Array Value} {R : Ending} (hc : ∀ F, VAt W p b jb vb F J l → Calls Tryz.prog f args W fun e w' => e = R ∧ VOut W p b jb vb F (J.ans l a) a.2 w') :
    Calls Tryz.prog f args W fun e w' => e = R ∧ VK w w' K p b jb vb (J.ans l a) a.2 (B + 1) ∧ KeptK K W w' := by
  obtain ⟨F, h1, h2, h3, h4, h5, h6⟩ := h
  obtain ⟨d1, d2, d3, d4⟩ := ans_dim J l a
  refine (hc F h1).mono ?_
  rintro e w' ⟨rfl, ho⟩
  exact ⟨rfl, VK.of h1 h2 h3 h4 ho ⟨by omega, by omega⟩⟩
/-- Others' blocks written, or new ones. -/
theorem VK.beside {w W W' : World} {K K' r : Nat → Prop} {p b jb vb : Nat} {J : Jn} {l : List Ent} {B : Nat} (h : VK w W K p b jb vb J l B) (ho : OnlyJ r W W') (hr : ∀ q, r q → q < W.heap.size → K q ∧ w.heap.size ≤ q) (hK : ∀ q, K' q → K q ∨ (W.heap.size ≤ q ∧ q < W'.heap.size)) : VK w W' K' p b jb vb J l B := by
  obtain ⟨F, h1, h2, h3, h4, h5⟩ := h
  have hs := ho.size
  have hw := Below.size h4
  refine ⟨F, h1.kept hs (fun k hk => ho.block k (h1.lt k hk) (fun e => (h3 k (hr k e (h1.lt k hk)).1).1 hk)) (fun _ h => h) (fun q hq => by have := h1.lt q hq; omega), h2, fun q hq => ?_, ?_, h5⟩
  · rcases hK q hq with hq | hq
    · exact ⟨(h3 q hq).1, by have := (h3 q hq).2; omega⟩
    · exact ⟨fun e => by have := h1.lt q e; omega, hq.2⟩
  · exact ⟨ho.os.trans h4.os, ho.tape.trans h4.tape, ho.output.trans h4.output, by omega, fun q hq => (ho.block q (by omega) (fun e => by have := (hr q e (by omega)).2; omega)).trans (Below.block h4 q hq)⟩
end Go.Proofs.YtfpbocjmlhcgiaaGreatDoor
/- A builder's write keeps what is of other types; what strings.Builder's users in the volume want. -/
namespace Go.Proofs.YtfpbocjmlhcgiaaGreatDoor
open Go.RowKit PJ Go.Maps

/-- Cells of other types than a builder's stay. -/
def Others (w w' : World) : Prop := ∀ (q : Nat) (cs : Array Value) (T : TypeId) (fr : Nat × Nat), w.heap[q]? = some (Obj.cells cs T fr) → T ≠ 164 → T ≠ 5 → w'.heap[q]? = some (Obj.cells cs T fr)
theorem Others.trans {a b c : World} (h : Others a b) (h' : Others b c) : Others a c := fun q cs T fr h1 h2 h3 => h' q cs T fr (h q cs T fr h1 h2 h3) h2 h3
theorem Others.refl (a : World) : Others a a := fun q cs T fr h1 h2 h3 => h1
theorem Others.of {w w' : World} (h : LJ w w') : Others w w' := fun q cs T fr h1 _ _ => h.block h1
theorem Others.setCell {w : World} {b : Nat} {cs : Array Value} {fr : Nat × Nat} (h : w.heap[b]? = some (.cells cs 164 fr)) (o : Nat) (v : Value) : Others w (w.setCell ⟨b, o, none⟩ v) := fun q cs' T fr' h1 h2 h3 => by
  have hne : q ≠ b := fun e => by
    subst e
    rw [h] at h1
    simp only [Option.some.injEq, Obj.cells.injEq] at h1
    exact h2 h1.2.1.symm
  exact (heap_setCell_other w ⟨b, o, none⟩ q _ hne).trans h1
theorem jcheck_keeps (B b : Nat) (bs : List Value) (w : World) (h : Lib.IsBuilderF 164 5 B b bs w) :
    Calls Tryz.prog 162 #[.pointer (some ⟨b, 0, none⟩)] w fun e w' => e = .returned (.tuple #[]) ∧ Lib.BuilderAtF 164 5 B b (.pointer (some ⟨b, 0, none⟩)) bs w' ∧ Below B w w' ∧ Others w w' := by
  rcases h with h | h
  · refine (jcheck_fresh b w h.cell0 h.shape h.frozen0).mono ?_
    rintro e w' ⟨rfl, rfl⟩
    have hk := h
    obtain ⟨_, _, hb, _⟩ := hk
    exact ⟨rfl, h.used _, (Below.refl B w).setCell (p := ⟨b, 0, none⟩) h.1 _, Others.setCell hb _ _⟩
  · refine (jcheck_used b w h.cell0).mono ?_
    rintro e w' ⟨rfl, rfl⟩
    exact ⟨rfl, h, Below.refl B _, Others.refl _⟩
set_option maxHeartbeats 2000000 in
set_option maxRecDepth 100000 in
theorem jbwrite_keeps (B b : Nat) (bs : List Value) (s : ByteArray) (w : World) (h : Lib.IsBuilderF 164 5 B b bs w) (hlen : bs.length + s.size ≤ 1000000) (hBw : B ≤ w.heap.size) :
    Calls Tryz.prog 113 #[.pointer (some ⟨b, 0, none⟩), .string s] w fun e w' => e = .returned (.tuple #[.int .i64 s.size, .nilIface]) ∧ Lib.BuilderAtF 164 5 B b (.pointer (some ⟨b, 0, none⟩)) (bs ++ Lib.strCells s) w' ∧ Below B w w' ∧ Others w w' := by
  obtain ⟨i0, hi, hz0, hz1, hz2⟩ := info_parts info_u8
  go_enter Tryz.func113, Tryz.ntmps113
  go_wp2_with (first
    | (go_at_call 162; refine (jcheck_keeps B b bs _ h).mono ?_; rintro e w1 ⟨rfl, h1, hb1, ho1⟩; obtain ⟨hB, v, hbk, hown, hne⟩ := h1; have HO1 := Lib.hid ho1; clear ho1; have c0 : w1.cell? ⟨b, 0, none⟩ = some (.pointer (some ⟨b, 0, none⟩)) := (by rw [Lib.cell_of_heap hbk]; rfl); have c1 : w1.cell? ⟨b, 1, none⟩ = some v := (by rw [Lib.cell_of_heap hbk]; rfl))
    | (at_builtin; refine Lib.wpList_append_own_stringF _ rfl _ _ 99 9 rfl B 5 i0 Tryz.underlying99 Tryz.underlying9 hi hz0 hz1 hz2 _ _ _ rfl hown s rfl (by unfold maxLen; omega) (by omega) (by have := hb1.size; omega) ?_
       intro v' w2 hown' hgrow _
       have hlt : b < w1.heap.size := lt_blk hbk
       have hb2 : w2.heap[b]? = some (.cells #[.pointer (some ⟨b, 0, none⟩), v] 164 (0, 0)) := by
         rw [hgrow.block b hlt (fun e => hne e.symm)]
         exact hbk
       have HO2 := Lib.hid (show Others w1 w2 from fun q cs T fr h1 h2 h3 => by
         refine (hgrow.block q (lt_blk h1) (fun e => ?_)).trans h1
         rcases hown.2 with ⟨e1, -⟩ | ⟨g, cap, cur, fz, e1, -, e2, -⟩
         · rw [e1] at e; cases e
         · rw [e1] at e
           obtain rfl : q = g := Option.some.inj e
           rw [e2] at h1
           simp only [Option.some.injEq, Obj.cells.injEq] at h1
           exact h3 h1.2.1.symm)
       have d0 : w2.cell? ⟨b, 0, none⟩ = some (.pointer (some ⟨b, 0, none⟩)) := by rw [Lib.cell_of_heap hb2]; rfl
       have d1 : w2.cell? ⟨b, 1, none⟩ = some v := by rw [Lib.cell_of_heap hb2]; rfl
       have f1 : w2.frozen? ⟨b, 1, none⟩ = false := Lib.frozen_of_heap hb2 1
       obtain ⟨ao, n', cap, rfl⟩ : ∃ ao n' cap, v' = .slice ao n' cap := by
         rcases hown'.2 with ⟨hv, _⟩ | ⟨g, cap, cur, fz, hv, _⟩
         · exact ⟨_, _, _, hv⟩
         · exact ⟨_, _, _, hv⟩)
    | fail)
  go_ret2
  refine ⟨rfl, ?_, ?_, HO1.out.trans (HO2.out.trans (Others.setCell hb2 _ _))⟩
  · exact Lib.BuilderAtF.put (T := 164) (e := 5) hB hb2 (bs' := bs ++ Lib.strCells s) (by simpa [Lib.strCells_length] using hown') (by decide)
  · exact (hb1.grown hgrow (by have := hb1.size; omega) (fun k hk => (hown.lt k hk).1)).setCell (p := ⟨b, 1, none⟩) hB _
theorem jbput_any (B b : Nat) (l : List UInt8) (s : ByteArray) (w : World) (h : JB B b l w) (hlen : l.length + s.size ≤ 1000000) (hBw : B ≤ w.heap.size) :
    Calls Tryz.prog 113 #[.pointer (some ⟨b, 0, none⟩), .string s] w fun e w' => e = .returned (.tuple #[.int .i64 s.size, .nilIface]) ∧ JB B b (l ++ s.data.toList) w' ∧ Below B w w' ∧ Others w w' := by
  refine (jbwrite_keeps B b (Lib.byteCells l) s w h (by rw [Lib.byteCells_length]; exact hlen) hBw).mono ?_
  rintro e w' ⟨rfl, h1, h2, h3⟩
  refine ⟨rfl, ?_, h2, h3⟩
  unfold JB
  rw [bc_app, ← bc_str]
  exact .inr h1
theorem JB.fresh (w : World) : JB w.heap.size w.heap.size [] (w.alloc (.cells #[.pointer none, .slice none 0 0] 164)) := Lib.IsBuilderF.of (Lib.fresh_isBuilder _ _ w)
theorem JB.later {B b : Nat} {l : List UInt8} {w w' : World} (h : JB B b l w) (hl : LJ w w') : JB B b l w' := by
  have key : ∀ p, Lib.BuilderAtF 164 5 B b p (Lib.byteCells l) w → Lib.BuilderAtF 164 5 B b p (Lib.byteCells l) w' := by
    rintro p h
    have hlt := h.lt
    obtain ⟨hB, v, hv, hown, hne⟩ := h
    exact ⟨hB, v, hl.block hv, hown.kept (row := none) ⟨hl.os, hl.tape, hl.output, Below.size hl, fun k hk _ => Below.block hl k hk⟩ (Classical.em _), hne⟩
  exact h.imp (key _) (key _)
/-- Rows of other types than a builder's. -/
theorem own_others {w w' : World} {B : Nat} {T : TypeId} {s : Nat} {v : Value} {n : Nat} {xs : List Value} (h : w.ownsRow B T s v n xs) (ho : Others w w') (h1 : T ≠ 164) (h2 : T ≠ 5) : w'.ownsRow B T s v n xs := by
  rcases h with ⟨h0, h | ⟨g, cap, cur, e, hb, hg, hr⟩⟩
  · exact ⟨h0, .inl h⟩
  · exact ⟨h0, .inr ⟨g, cap, cur, e, hb, ho _ _ _ _ hg h1 h2, hr⟩⟩
theorem entsC_get : ∀ {l : List Ent} {i : Nat} {x : Ent}, l[i]? = some x → (entsC l)[i * 3]? = some (.string ⟨x.p.toArray⟩) ∧ (entsC l)[i * 3 + 1]? = some (.bool x.d) ∧ (entsC l)[i * 3 + 2]? = some (.string ⟨x.s.toArray⟩)
  | y :: r, 0, x, h => by
    obtain rfl : y = x := by simpa using h
    exact ⟨rfl, rfl, rfl⟩
  | y :: r, i + 1, x, h => by
    have ih := entsC_get (l := r) (i := i) (x := x) (by simpa using h)
    have e : entsC (y :: r) = .string ⟨y.p.toArray⟩ :: .bool y.d :: .string ⟨y.s.toArray⟩ :: entsC r := rfl
    rw [e, show (i + 1) * 3 = i * 3 + 1 + 1 + 1 from by omega]
    exact ih
end Go.Proofs.YtfpbocjmlhcgiaaGreatDoor
/- Plain: the volume of the law's fixed. -/
namespace Go.Proofs.YtfpbocjmlhcgiaaGreatDoor
open PJ

def VF1 : List Ent := [⟨[47, 100], true, []⟩]
def VF2 : List Ent := [⟨[47, 100], true, []⟩, ⟨[47, 100, 47, 102], false, []⟩]
def VF3 : List Ent := [⟨[47, 100], true, []⟩, ⟨[47, 100, 47, 102], false, [97, 98, 99]⟩]
def VF4 : List Ent := [⟨[47, 100], true, []⟩, ⟨[47, 100, 47, 102], false, [97, 120, 99]⟩]
def VF5 : List Ent := [⟨[47, 100], true, []⟩, ⟨[47, 103], false, [97, 120, 99]⟩]
theorem vf_1 : mkE 348 [] [47, 100] true = (0, VF1) := by kernel_rfl
theorem vf_2 : mkE 348 VF1 [47, 100, 47, 102] false = (0, VF2) := by kernel_rfl
theorem vf_3 : mkE 348 VF2 [47, 100, 47, 102] false = (173, VF2) := by kernel_rfl
theorem vf_4 : mkE 348 VF2 [47, 120, 47, 102] false = (172, VF2) := by kernel_rfl
theorem vf_5 : mkE 348 VF2 [47, 100, 47, 102, 47, 103] false = (174, VF2) := by kernel_rfl
theorem vf_6 : wrE 348 VF2 [47, 100, 47, 102] 0 [97, 98, 99] = (0, VF3) := by kernel_rfl
theorem vf_7 : wrE 348 VF3 [47, 100, 47, 102] 1 [120] = (0, VF4) := by kernel_rfl
theorem vf_8 : wrE 348 VF4 [47, 100, 47, 102] 4 [121] = (1, VF4) := by kernel_rfl
theorem vf_9 : rmE 348 VF4 [47, 100] = (177, VF4) := by kernel_rfl
theorem vf_10 : rnE 348 VF4 [47, 100, 47, 102] [47, 103] = (0, VF5) := by kernel_rfl
theorem vf_11 : (imageE []).length = 2 := rfl
theorem vf_12 : (imageE VF2).length = 16 := by kernel_rfl
theorem vf_13 : pathB [47, 97, 47, 98, 46, 99] = true := by kernel_rfl
theorem vf_14 : pathB [47, 46, 46] = false := by kernel_rfl
end Go.Proofs.YtfpbocjmlhcgiaaGreatDoor
/- Plain: what the calls of a script leave: the room, what is told of what was made, written, removed, renamed. -/
namespace Go.Proofs.YtfpbocjmlhcgiaaGreatDoor
open PJ

def szE (x : Ent) : Nat := 4 + x.p.length + x.s.length
theorem sum_put : ∀ {l : List Ent}, Rise l → ∀ {x : Ent}, findE l x.p = none → sumE (putE l x) = sumE l + szE x
  | [], _, x, _ => by simp [putE, sumE, szE]
  | z :: r, h, x, hn => by
    have h1 := findE_none.1 hn
    have hz : z.p ≠ x.p := h1 z (List.mem_cons_self ..)
    have hr : findE r x.p = none := findE_none.2 fun y hy => h1 y (List.mem_cons_of_mem _ hy)
    unfold putE
    split
    · simp only [sumE, List.map_cons, List.sum_cons, szE]; omega
    · split
      · rename_i h2; exact absurd h2.symm hz
      · have ih := sum_put h.tail hr
        simp only [sumE, List.map_cons, List.sum_cons] at ih ⊢
        omega
theorem sum_del : ∀ {l : List Ent}, Rise l → ∀ {x : Ent}, x ∈ l → sumE (delE l x.p) + szE x = sumE l
  | z :: r, h, x, hm => by
    have hh := h.head
    by_cases e : z.p = x.p
    · have hzx : z = x := h.inj (List.mem_cons_self ..) hm e
      subst hzx
      have hf : delE (z :: r) z.p = r := by
        unfold delE
        rw [List.filter_cons_of_neg (by simp)]
        refine List.filter_eq_self.2 fun y hy => ?_
        have := lt_ne (hh y hy)
        simp [this.symm]
      rw [hf]
      simp only [sumE, List.map_cons, List.sum_cons, szE]; omega
    · have hm' : x ∈ r := by
        rcases List.mem_cons.1 hm with e2 | e2
        · rw [e2] at e; exact absurd rfl e
        · exact e2
      have ih := sum_del h.tail hm'
      have hf : delE (z :: r) x.p = z :: delE r x.p := by
        unfold delE
        rw [List.filter_cons_of_pos (by simp [e])]
      rw [hf]
      simp only [sumE, List.map_cons, List.sum_cons] at ih ⊢
      omega
theorem kids_none {l : List Ent} (h : VInv l) {p : List UInt8} (hp : p ≠ [47]) (hd : ∀ u ∈ l, u.p = p → u.d = false) : kidsE l p = [] := by
  unfold kidsE
  rw [List.filter_eq_nil_iff]
  intro y hy e
  have e' : upP y.p = p := by simpa using e
  rcases h.up y hy with e2 | ⟨u, hu, e2, hud⟩
  · exact hp (e'.symm.trans e2)
  · have := hd u hu (e2.trans e')
    rw [this] at hud
    cases hud
/-- Made. -/
theorem mk_facts {room : Nat} {l now : List Ent} {p : List UInt8} {d : Bool} (hi : VInv l) (h : mkE room l p d = (0, now)) :
    VInv now ∧ stE now p = (d, 0, 0) ∧ (imageE now).length = (imageE l).length + 4 + p.length ∧ (imageE now).length ≤ room := by
  have hok := mkE_ok hi p d (room := room)
  rw [h] at hok
  have hin : VInv now := by
    rcases hok with ⟨e, -⟩ | ⟨-, e, -⟩
    · exact absurd rfl e
    · exact e
  unfold mkE at h
  split at h
  · have := (Prod.mk.inj h).1; omega
  · rename_i hp
    split at h
    · have := (Prod.mk.inj h).1; omega
    · rename_i hn
      split at h
      · have := (Prod.mk.inj h).1; omega
      · rename_i u hu
        split at h
        · obtain ⟨e1, e2⟩ := becE_zero h
          obtain ⟨hr, hno⟩ := at_none hn
          have hpp : pathB p = true := by simpa using hp
          have hf : findE l (⟨p, d, []⟩ : Ent).p = none := findE_none.2 hno
          have hsum := sum_put hi.rise hf
          have hfn : findE now p = some ⟨p, d, []⟩ := by rw [e1, find_put hi.rise, if_pos rfl]
          have hk : kidsE now p = [] := by
            unfold kidsE
            rw [List.filter_eq_nil_iff]
            intro y hy e
            have e' : upP y.p = p := by simpa using e
            rw [e1] at hy
            rcases (put_mem hi.rise).1 hy with rfl | ⟨hy, -⟩
            · have e3 : upP p = p := e'
              have h4 := upP_lt (pathB_len hpp hr).1
              rw [e3] at h4
              exact List.lt_irrefl _ h4
            · rcases hi.up y hy with e2 | ⟨u, hu, e2, hud⟩
              · exact hr (e'.symm.trans e2)
              · exact hno u hu (e2.trans e')
          refine ⟨hin, ?_, ?_, by rw [e1]; exact e2⟩
          · unfold stE
            rw [hpp, if_neg (by simp)]
            have ha : atE now p = some ⟨p, d, []⟩ := by unfold atE; rw [if_neg hr, hfn]
            rw [ha, hk]
            rfl
          · rw [e1, imageE_len, imageE_len, hsum]
            simp [szE]
            omega
        · have := (Prod.mk.inj h).1; omega
/-- Written. -/
theorem wr_facts {room : Nat} {l now : List Ent} {p : List UInt8} {a : Int} {data : List UInt8} (hi : VInv l) (h : wrE room l p a data = (0, now)) :
    VInv now ∧ (∃ n : Nat, stE now p = (false, n, 0) ∧ a + (data.length : Int) ≤ (n : Int) ∧ n ≤ 2000) ∧ rdE now p a (data.length : Int) = (data, 0) ∧ (imageE now).length ≤ room ∧ 0 ≤ a ∧ a + (data.length : Int) ≤ 1024 := by
  have hok := wrE_ok hi p a data (room := room)
  rw [h] at hok
  have hin : VInv now := by
    rcases hok with ⟨e, -⟩ | ⟨-, e, -⟩
    · exact absurd rfl e
    · exact e
  unfold wrE at h
  split at h
  · have := (Prod.mk.inj h).1; omega
  · rename_i hp
    split at h
    · have := (Prod.mk.inj h).1; omega
    · rename_i x hx
      split at h
      · have := (Prod.mk.inj h).1; omega
      · rename_i hd
        split at h
        · have := (Prod.mk.inj h).1; omega
        · rename_i ha
          split at h
          · have := (Prod.mk.inj h).1; omega
          · rename_i hl
            obtain ⟨e1, e2⟩ := becE_zero h
            have hpp : pathB p = true := by simpa using hp
            rcases atE_some hx with ⟨-, e⟩ | ⟨hr, hm, e⟩
            · rw [e] at hd; exact absurd rfl hd
            · have hxs := hi.file x hm
              obtain ⟨k, rfl⟩ : ∃ k : Nat, a = (k : Int) := ⟨a.toNat, by omega⟩
              have hk : k ≤ x.s.length := by omega
              rw [Int.toNat_natCast] at e1 e2
              obtain ⟨S, hS⟩ : ∃ S, x.s.take k ++ (data ++ x.s.drop (min x.s.length (k + data.length))) = S := ⟨_, rfl⟩
              rw [hS] at e1 e2
              have hSl : S.length = k + data.length + (x.s.length - min x.s.length (k + data.length)) := by
                rw [← hS]
                simp only [List.length_append, List.length_take, List.length_drop]
                omega
              have hfn : findE now p = some ⟨p, false, S⟩ := by rw [e1, find_put hi.rise, if_pos rfl]
              have han : atE now p = some ⟨p, false, S⟩ := by unfold atE; rw [if_neg hr, hfn]
              have hkids : kidsE now p = [] := kids_none hin hr fun u hu e3 => by
                have h4 := findE_of hin.rise hu
                rw [e3, hfn] at h4
                rw [← Option.some.inj h4]
              refine ⟨hin, ⟨S.length, ?_, ?_, ?_⟩, ?_, by rw [e1]; exact e2, by omega, by omega⟩
              · unfold stE
                rw [hpp, if_neg (by simp), han, hkids]
                simp
              · omega
              · omega
              · unfold rdE
                rw [hpp, if_neg (by simp), han]
                simp only
                rw [if_neg (by simp), if_neg (by omega)]
                rw [Int.toNat_natCast, Int.toNat_natCast, ← hS]
                rw [List.drop_append_of_le_length (by rw [List.length_take]; omega)]
                rw [List.drop_eq_nil_of_le (by rw [List.length_take]; omega), List.nil_append, List.take_left']
                rfl
/-- Removed. -/
theorem rm_facts {room : Nat} {l now : List Ent} {p : List UInt8} (hi : VInv l) (h : rmE room l p = (0, now)) :
    VInv now ∧ stE now p = (false, 0, 172) ∧ (imageE now).length ≤ room := by
  have hok := rmE_ok hi p (room := room)
  rw [h] at hok
  have hin : VInv now := by
    rcases hok with ⟨e, -⟩ | ⟨-, e, -⟩
    · exact absurd rfl e
    · exact e
  unfold rmE at h
  split at h
  · have := (Prod.mk.inj h).1; omega
  · rename_i hp
    split at h
    · have := (Prod.mk.inj h).1; omega
    · split at h
      · have := (Prod.mk.inj h).1; omega
      · rename_i hr
        split at h
        · have := (Prod.mk.inj h).1; omega
        · obtain ⟨e1, e2⟩ := becE_zero h
          have hpp : pathB p = true := by simpa using hp
          refine ⟨hin, ?_, by rw [e1]; exact e2⟩
          have han : atE now p = none := by
            unfold atE
            rw [if_neg hr, e1, find_del hi.rise, if_pos rfl]
          unfold stE
          rw [hpp, if_neg (by simp), han]
/-- Renamed. -/
theorem rn_told {room : Nat} {l now : List Ent} {p q : List UInt8} (hi : VInv l) (h : rnE room l p q = (0, now)) :
    VInv now ∧ stE now p = (false, 0, 172) ∧ (∃ d n, stE now q = (d, n, 0) ∧ n ≤ 5000) ∧ (imageE now).length + p.length = (imageE l).length + q.length ∧ (imageE now).length ≤ room := by
  have hok := rnE_ok hi p q (room := room)
  rw [h] at hok
  have hin : VInv now := by
    rcases hok with ⟨e, -⟩ | ⟨-, e, -⟩
    · exact absurd rfl e
    · exact e
  obtain ⟨x, hm, e, hd, hpp, hpq, hpr, hqr, hfq, hnow, hroom⟩ := rn_facts hi h
  have hri := hi.rise
  have hdr := del_rise hri p
  have hne : p ≠ q := by
    rintro rfl
    rw [findE_none] at hfq
    exact hfq x hm e
  have hfnow : ∀ r, findE now r = if r = q then some ⟨q, x.d, x.s⟩ else if r = p then none else findE l r := fun r => by rw [hnow, find_put hdr, find_del hri]
  have hnq : atE now q = some ⟨q, x.d, x.s⟩ := by unfold atE; rw [if_neg hqr, hfnow, if_pos rfl]
  have hnp : atE now p = none := by unfold atE; rw [if_neg hpr, hfnow, if_neg hne, if_pos rfl]
  have hkids : kidsE now q = [] := kids_none hin hqr fun u hu e3 => by
    have h4 := findE_of hin.rise hu
    rw [e3, hfnow, if_pos rfl] at h4
    rw [← Option.some.inj h4]
    exact hd
  have hfile := hi.file x hm
  refine ⟨hin, ?_, ⟨x.d, x.s.length, ?_, by omega⟩, ?_, hroom⟩
  · unfold stE
    rw [hpp, if_neg (by simp), hnp]
  · unfold stE
    rw [hpq, if_neg (by simp), hnq, hkids]
    simp
  · have h1 : sumE now = sumE (delE l p) + szE ⟨q, x.d, x.s⟩ := by
      rw [hnow]
      refine sum_put hdr ?_
      show findE (delE l p) q = none
      rw [find_del hri, if_neg (fun e => hne e.symm)]
      exact hfq
    have h2 := sum_del hri hm
    rw [e] at h2
    rw [imageE_len, imageE_len, h1, ← h2]
    simp only [szE, e]
    omega
end Go.Proofs.YtfpbocjmlhcgiaaGreatDoor
/- Plain: where a path stands among entries. -/
namespace Go.Proofs.YtfpbocjmlhcgiaaGreatDoor
open PJ

/-- What the document's Find tells. -/
def FindR (l : List Ent) (p : List UInt8) (k : Nat) (b : Bool) : Prop :=
  k ≤ l.length ∧ (∀ j x, j < k → l[j]? = some x → x.p < p) ∧ ((k = l.length ∧ b = false) ∨ ∃ x, l[k]? = some x ∧ ¬ x.p < p ∧ b = (x.p == p))
theorem findR {l : List Ent} (h : Rise l) {p : List UInt8} {k : Nat} {b : Bool} (hr : FindR l p k b) : b = (findE l p).isSome ∧ ∀ x, findE l p = some x → l[k]? = some x := by
  obtain ⟨h1, h2, h3⟩ := hr
  rcases h3 with ⟨rfl, rfl⟩ | ⟨x, hx, hn, rfl⟩
  · have hno : findE l p = none := findE_none.2 fun y hy e => by
      obtain ⟨j, hj⟩ := List.getElem?_of_mem hy
      have := h2 j y (List.getElem?_eq_some_iff.1 hj).1 hj
      rw [e] at this
      exact List.lt_irrefl _ this
    rw [hno]
    exact ⟨rfl, fun x e => by cases e⟩
  · by_cases e : x.p = p
    · have hf : findE l p = some x := by rw [← e]; exact findE_of h (List.mem_of_getElem? hx)
      rw [hf]
      refine ⟨by simp [e], fun y hy => ?_⟩
      rw [← Option.some.inj hy]
      exact hx
    · have hlt := path_tri hn e
      have hno : findE l p = none := findE_none.2 fun y hy e2 => by
        obtain ⟨j, hj⟩ := List.getElem?_of_mem hy
        obtain ⟨c1, c2⟩ := List.getElem?_eq_some_iff.1 hj
        obtain ⟨d1, d2⟩ := List.getElem?_eq_some_iff.1 hx
        rcases Nat.lt_trichotomy j k with hjk | hjk | hjk
        · have := h2 j y hjk hj
          rw [e2] at this
          exact List.lt_irrefl _ this
        · subst hjk
          rw [hj] at hx
          rw [Option.some.inj hx] at e2
          exact e e2
        · have := List.pairwise_iff_getElem.1 h k j d1 c1 hjk
          rw [c2, d2, e2] at this
          exact List.lt_irrefl _ (List.lt_trans this hlt)
      rw [hno]
      refine ⟨by simp [e], fun x e => by cases e⟩
end Go.Proofs.YtfpbocjmlhcgiaaGreatDoor
