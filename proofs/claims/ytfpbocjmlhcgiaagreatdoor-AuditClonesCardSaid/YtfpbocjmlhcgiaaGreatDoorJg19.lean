/- Jg19, merged: J69 J70 J71. -/
import Derived.Test.YtfpbocjmlhcgiaaGreatDoorJg18
set_option linter.unusedSimpArgs false
set_option linter.unusedVariables false
/- The law's example: the journals of 'fixed', step by step. -/
namespace Go.Proofs.YtfpbocjmlhcgiaaGreatDoor
open Go.RowKit PJ Go.Maps

def fx1 : List Wr := [⟨0, ⟨#[97]⟩⟩, ⟨1, ⟨#[98]⟩⟩]
def fx2 : List Wr := [⟨0, ⟨#[120]⟩⟩, ⟨0, ⟨#[121]⟩⟩]
def fx3 : List Wr := [⟨2, ⟨#[99]⟩⟩]
def FJ0 : Jn := J0 8 5
def FJ1 : Jn := FJ0.put fx1
def FJ2 : Jn := FJ1.home
def FJ3 : Jn := FJ2.put fx3
theorem FJ0_ok : FJ0.OK := J0_ok (by omega) (by omega) (by omega)
theorem FJ1_ok : FJ1.OK := by
  refine Jn.put_ok FJ0_ok (by simp [fx1]) (by decide) (by decide) (fun w hw => ?_) (by decide)
  simp only [fx1, List.mem_cons, List.not_mem_nil, or_false] at hw
  rcases hw with rfl | rfl
  · exact ⟨by decide, by decide, by decide⟩
  · exact ⟨by decide, by decide, by decide⟩
theorem FJ2_ok : FJ2.OK := Jn.home_ok FJ1_ok (by decide) (by decide)
theorem FJ2_C : FJ2.C = fun _ => none := rfl
theorem FJ2_cell (c : Nat) (hc : c < 3) : FJ2.cell c = ((FJ1.C c).getD ((FJ1.V (5 + c)).take 116)) := by
  have h := Jn.read_home FJ1_ok
  have h1 : FJ2.read[c]? = FJ1.read[c]? := by rw [show FJ2.read = FJ1.read from h]
  have e2 : FJ2.read[c]? = some (FJ2.cell c) := cont_get hc
  have e1 : FJ1.read[c]? = some (FJ1.cell c) := cont_get hc
  rw [e1, e2] at h1
  exact Option.some.inj h1
theorem FJ2_cell0 : FJ2.cell 0 = padT [97] 116 := by
  rw [FJ2_cell 0 (by omega)]
  rfl
theorem FJ2_cell2 : FJ2.cell 2 = zs 116 := by
  rw [FJ2_cell 2 (by omega)]
  show (FJ1.V 7).take 116 = zs 116
  have e : FJ1.V 7 = blk [] 0 := rfl
  rw [e, take_blk (by simp)]
  rfl
theorem wsC_one' (l : List Wr) : ∀ j x, l[j]? = some x → (wsC l)[j * 2]? = some (.int .i64 x.cell) ∧ (wsC l)[j * 2 + 1]? = some (.string x.data) := fun j x h => wsC_get l j x h
/-- Commit of a list that is laid for it. -/
theorem commit_lit (W : World) (p b jb : Nat) (F : Nat → Prop) (J : Jn) (h : JAt W p b jb F J) (hh : J.head < 4611686018427387904) (hn : J.next < 4611686018427387904) (l : List Wr) (hl1 : 1 ≤ l.length) (hx : l.length ≤ 140737488355328) (hsz : ∀ x ∈ l, x.data.size ≤ 9223372036854775807) :
    Calls Tryz.prog 74 #[.pointer (some ⟨jb, 0, none⟩), .slice (some ⟨W.heap.size, 0, none⟩) l.length l.length] (W.alloc (.cells (wsC l).toArray 130)) fun e w' => e = .returned (.int .i64 (mayI (J.n - J.area) J.area l)) ∧ JOut W p b jb F (if mayI (J.n - J.area) J.area l = 0 then J.commit l else J) w' := by
  have hl : LJ W (W.alloc (.cells (wsC l).toArray 130)) := (LJ.refl W).alloc _
  have hF := h.lt
  refine (commit_some _ p b jb F J (h.later hl) hh hn W.heap.size 0 l.length l hl1 hx (Nat.le_refl _) (by simp) (fun e => by have := hF _ e; omega) (fun j x hj => ?_) hsz).mono ?_
  · obtain ⟨h1, h2⟩ := wsC_get l j x hj
    rw [Nat.zero_add]
    have c := cells_newJ W (wsC l) 130
    have c1 := c (j * 2) _ h1
    have c2 := c (j * 2 + 1) _ h2
    rw [addr_none, Nat.zero_add] at c1 c2
    exact ⟨c1, c2⟩
  · rintro e w' ⟨rfl, ho⟩
    exact ⟨rfl, ho.from hl hF⟩
theorem FC1 (W : World) (p b jb : Nat) (F : Nat → Prop) (h : JAt W p b jb F FJ0) :
    Calls Tryz.prog 74 #[.pointer (some ⟨jb, 0, none⟩), .slice (some ⟨W.heap.size, 0, none⟩) 2 2] (W.alloc (.cells #[.int .i64 0, .string ⟨#[97]⟩, .int .i64 1, .string ⟨#[98]⟩] 130)) fun e w' => e = .returned (.int .i64 0) ∧ JOut W p b jb F FJ1 w' := by
  refine (commit_lit W p b jb F FJ0 h (by decide) (by decide) fx1 (by decide) (by decide) (fun x hx => ?_)).mono ?_
  · simp only [fx1, List.mem_cons, List.not_mem_nil, or_false] at hx
    rcases hx with rfl | rfl <;> decide
  · rintro e w' ⟨rfl, ho⟩
    have hm : mayI (FJ0.n - FJ0.area) FJ0.area fx1 = 0 := by decide
    rw [hm, if_pos rfl] at ho
    exact ⟨by rw [hm], ho⟩
theorem FC2 (W : World) (p b jb : Nat) (F : Nat → Prop) (h : JAt W p b jb F FJ1) :
    Calls Tryz.prog 74 #[.pointer (some ⟨jb, 0, none⟩), .slice (some ⟨W.heap.size, 0, none⟩) 2 2] (W.alloc (.cells #[.int .i64 0, .string ⟨#[120]⟩, .int .i64 0, .string ⟨#[121]⟩] 130)) fun e w' => e = .returned (.int .i64 161) ∧ JOut W p b jb F FJ1 w' := by
  refine (commit_lit W p b jb F FJ1 h (by decide) (by decide) fx2 (by decide) (by decide) (fun x hx => ?_)).mono ?_
  · simp only [fx2, List.mem_cons, List.not_mem_nil, or_false] at hx
    rcases hx with rfl | rfl <;> decide
  · rintro e w' ⟨rfl, ho⟩
    have hm : mayI (FJ1.n - FJ1.area) FJ1.area fx2 = 161 := by decide
    rw [hm, if_neg (by decide)] at ho
    exact ⟨by rw [hm], ho⟩
theorem FC3 (W : World) (p b jb : Nat) (F : Nat → Prop) (h : JAt W p b jb F FJ1) :
    Calls Tryz.prog 74 #[.pointer (some ⟨jb, 0, none⟩), .slice (some ⟨W.heap.size, 0, none⟩) 1 1] (W.alloc (.cells #[.int .i64 2, .string ⟨#[99]⟩] 130)) fun e w' => e = .returned (.int .i64 0) ∧ JOut W p b jb F FJ3 w' := by
  refine (commit_lit W p b jb F FJ1 h (by decide) (by decide) fx3 (by decide) (by decide) (fun x hx => ?_)).mono ?_
  · simp only [fx3, List.mem_cons, List.not_mem_nil, or_false] at hx
    rcases hx with rfl
    decide
  · rintro e w' ⟨rfl, ho⟩
    have hm : mayI (FJ1.n - FJ1.area) FJ1.area fx3 = 0 := by decide
    rw [hm, if_pos rfl] at ho
    exact ⟨by rw [hm], ho⟩
end Go.Proofs.YtfpbocjmlhcgiaaGreatDoor
/- A journal among other things in memory: what the law's walks carry along. -/
namespace Go.Proofs.YtfpbocjmlhcgiaaGreatDoor
open Go.RowKit PJ Go.Maps

/-- A journal that was laid since w; the blocks K are others'. -/
def JK (w W : World) (K : Nat → Prop) (p b jb : Nat) (J : Jn) : Prop :=
  ∃ F, JAt W p b jb F J ∧ (∀ q, F q → w.heap.size ≤ q) ∧ (∀ q, K q → ¬ F q ∧ q < W.heap.size) ∧ LJ w W
def KeptK (K : Nat → Prop) (W W' : World) : Prop := ∀ q, K q → W'.heap[q]? = W.heap[q]?
theorem JK.lj {w W : World} {K : Nat → Prop} {p b jb : Nat} {J : Jn} (h : JK w W K p b jb J) : LJ w W := h.elim fun _ h => h.2.2.2
theorem JK.ok {w W : World} {K : Nat → Prop} {p b jb : Nat} {J : Jn} (h : JK w W K p b jb J) : J.OK := h.elim fun _ h => h.1.ok
theorem JK.less {w W : World} {K K' : Nat → Prop} {p b jb : Nat} {J : Jn} (h : JK w W K p b jb J) (hK : ∀ q, K' q → K q) : JK w W K' p b jb J :=
  h.elim fun F h => ⟨F, h.1, h.2.1, fun q hq => h.2.2.1 q (hK q hq), h.2.2.2⟩
theorem JK.later {w W W' : World} {K : Nat → Prop} {p b jb : Nat} {J : Jn} (h : JK w W K p b jb J) (hl : LJ W W') : JK w W' K p b jb J := by
  obtain ⟨F, h1, h2, h3, h4⟩ := h
  have hs := Below.size hl
  exact ⟨F, h1.later hl, h2, fun q hq => ⟨(h3 q hq).1, by have := (h3 q hq).2; omega⟩, h4.trans hl⟩
theorem KeptK.later {K : Nat → Prop} {w W W' : World} {p b jb : Nat} {J : Jn} (h : JK w W K p b jb J) (hl : LJ W W') : KeptK K W W' := by
  obtain ⟨F, h1, h2, h3, h4⟩ := h
  exact fun q hq => Below.block hl q (h3 q hq).2
theorem KeptK.trans {K : Nat → Prop} {W W' W'' : World} (h : KeptK K W W') (h' : KeptK K W' W'') : KeptK K W W'' := fun q hq => (h' q hq).trans (h q hq)
theorem KeptK.refl {K : Nat → Prop} {W : World} : KeptK K W W := fun q hq => rfl
theorem LJ.only {w a b : World} {F : Nat → Prop} (h : LJ w a) (ho : OnlyJ F a b) (hF : ∀ q, F q → w.heap.size ≤ q) : LJ w b := by
  have hs := Below.size h
  exact ⟨ho.os.trans h.os, ho.tape.trans h.tape, ho.output.trans h.output, Nat.le_trans hs ho.size, fun k hk => (ho.block k (by omega) (fun e => by have := hF k e; omega)).trans (Below.block h k hk)⟩
theorem JK.of {w W W' : World} {K : Nat → Prop} {p b jb : Nat} {F : Nat → Prop} {J J' : Jn} (h : JAt W p b jb F J) (h2 : ∀ q, F q → w.heap.size ≤ q) (h3 : ∀ q, K q → ¬ F q ∧ q < W.heap.size) (h4 : LJ w W) (ho : JOut W p b jb F J' W') : JK w W' K p b jb J' ∧ KeptK K W W' := by
  have hs := ho.2.size
  have hw := Below.size h4
  refine ⟨⟨grow F W W', ho.1, ?_, fun q hq => ⟨grow_not (h3 q hq).1 (h3 q hq).2, by have := (h3 q hq).2; omega⟩, h4.only ho.2 h2⟩, fun q hq => ho.2.block q (h3 q hq).2 (h3 q hq).1⟩
  rintro q (e | e)
  · exact h2 q e
  · omega
theorem JK.call {w W W' : World} {K : Nat → Prop} {p b jb : Nat} {J J' : Jn} (h : JK w W K p b jb J) {f : FuncId} {args : Array Value} {R : Ending} (hc : ∀ F, JAt W p b jb F J → (∀ q, F q → w.heap.size ≤ q) → Calls Tryz.prog f args W' fun e w' => e = R ∧ JOut W p b jb F J' w') :
    Calls Tryz.prog f args W' fun e w' => e = R ∧ JK w w' K p b jb J' ∧ KeptK K W w' := by
  obtain ⟨F, h1, h2, h3, h4⟩ := h
  refine (hc F h1 h2).mono ?_
  rintro e w' ⟨rfl, ho⟩
  exact ⟨rfl, JK.of h1 h2 h3 h4 ho⟩
/-- A call that only reads. -/
theorem JK.seen {w W : World} {K : Nat → Prop} {p b jb : Nat} {J : Jn} (h : JK w W K p b jb J) {f : FuncId} {args : Array Value} {R : Ending} (hc : ∀ F, JAt W p b jb F J → Calls Tryz.prog f args W fun e w' => e = R ∧ LJ W w') :
    Calls Tryz.prog f args W fun e w' => e = R ∧ JK w w' K p b jb J ∧ KeptK K W w' := by
  obtain ⟨F, h1, h2, h3, h4⟩ := h
  refine (hc F h1).mono ?_
  rintro e w' ⟨rfl, hl⟩
  exact ⟨rfl, JK.later ⟨F, h1, h2, h3, h4⟩ hl, KeptK.later ⟨F, h1, h2, h3, h4⟩ hl⟩
theorem k_cells {w W : World} {K : Nat → Prop} {p b jb : Nat} {J : Jn} (h : JK w W K p b jb J) :
    Calls Tryz.prog 62 #[.pointer (some ⟨jb, 0, none⟩)] W fun e w' => e = .returned (.int .i64 ((J.n - J.area : Nat) : Int)) ∧ JK w w' K p b jb J ∧ KeptK K W w' :=
  h.seen fun F h1 => (cells_any W p b jb F J h1).mono (by rintro e w' ⟨rfl, n, rfl⟩; exact ⟨rfl, (LJ.refl W).drewN n⟩)
theorem k_most {w W : World} {K : Nat → Prop} {p b jb : Nat} {J : Jn} (h : JK w W K p b jb J) :
    Calls Tryz.prog 112 #[.pointer (some ⟨jb, 0, none⟩)] W fun e w' => e = .returned (.int .i64 J.most) ∧ JK w w' K p b jb J ∧ KeptK K W w' :=
  h.seen fun F h1 => (most_any W p b jb F J h1).mono (by rintro e w' ⟨rfl, rfl⟩; exact ⟨rfl, LJ.refl W⟩)
theorem k_read {w W : World} {K : Nat → Prop} {p b jb : Nat} {J : Jn} (h : JK w W K p b jb J) (c : Nat) (hc : c < J.n - J.area) :
    Calls Tryz.prog 63 #[.pointer (some ⟨jb, 0, none⟩), .int .i64 c] W fun e w' => e = .returned (.tuple #[.string ⟨(J.cell c).toArray⟩, .int .i64 0]) ∧ JK w w' K p b jb J ∧ KeptK K W w' :=
  h.call fun F h1 _ => jread_any W p b jb F J h1 c hc
theorem k_out {w W : World} {K : Nat → Prop} {p b jb : Nat} {J : Jn} (h : JK w W K p b jb J) (c : Int) (hc : c < 0 ∨ c = ((J.n - J.area : Nat) : Int)) :
    Calls Tryz.prog 63 #[.pointer (some ⟨jb, 0, none⟩), .int .i64 c] W fun e w' => e = .returned (.tuple #[.string ⟨#[]⟩, .int .i64 161]) ∧ JK w w' K p b jb J ∧ KeptK K W w' :=
  h.seen fun F h1 => (jread_out W p b jb F J h1 c hc).mono (by rintro e w' ⟨rfl, n, rfl⟩; exact ⟨rfl, (LJ.refl W).drewN n⟩)
theorem k_sync {w W : World} {K : Nat → Prop} {p b jb : Nat} {J : Jn} (h : JK w W K p b jb J) :
    Calls Tryz.prog 75 #[.pointer (some ⟨jb, 0, none⟩)] W fun e w' => e = .returned (.int .i64 0) ∧ JK w w' K p b jb { J with S := J.V } ∧ KeptK K W w' :=
  h.call fun F h1 _ => sync_any W p b jb F J h1
theorem k_ckpt {w W : World} {K : Nat → Prop} {p b jb : Nat} {J : Jn} (h : JK w W K p b jb J) (hh : J.head < 4611686018427387904) (hn : J.next ≤ 4611686018427387904) :
    Calls Tryz.prog 138 #[.pointer (some ⟨jb, 0, none⟩)] W fun e w' => e = .returned (.int .i64 0) ∧ JK w w' K p b jb J.check ∧ KeptK K W w' :=
  h.call fun F h1 _ => ckpt_any W p b jb F J h1 hh hn
/-- What a deed makes of a journal. -/
def Jn.deed (J : Jn) (l : List Wr) : Jn := if l = [] then J else if mayI (J.n - J.area) J.area l = 0 then J.commit l else J
def deedE (J : Jn) (l : List Wr) : Int := if l = [] then 0 else mayI (J.n - J.area) J.area l
theorem k_commit {w W : World} {K : Nat → Prop} {p b jb : Nat} {J : Jn} (h : JK w W K p b jb J) (hh : J.head < 4611686018427387904) (hn : J.next < 4611686018427387904) (lv : Value) (l : List Wr) (hl : DeedAt w lv l) (hsz : ∀ x ∈ l, x.data.size ≤ 9223372036854775807) :
    Calls Tryz.prog 74 #[.pointer (some ⟨jb, 0, none⟩), lv] W fun e w' => e = .returned (.int .i64 (deedE J l)) ∧ JK w w' K p b jb (J.deed l) ∧ KeptK K W w' := by
  have hlj := h.lj
  refine h.call fun F h1 h2 => ?_
  obtain ⟨a, cap, rfl, hcp, hx, hd⟩ := hl
  unfold deedE Jn.deed
  by_cases h0 : l = []
  · subst h0
    rw [if_pos rfl, if_pos rfl]
    exact commit_none W p b jb F J h1 a cap
  · rw [if_neg h0, if_neg h0]
    rcases hd with hd | ⟨g, off, rfl, hg, hc⟩
    · exact absurd hd h0
    · have hs := Below.size hlj
      refine commit_some W p b jb F J h1 hh hn g off cap l (by cases l with | nil => exact absurd rfl h0 | cons _ _ => simp) hx hcp (by omega) (fun e => by have := h2 _ e; omega) (fun j x hj => (hc j x hj).kept (Below.block hlj g hg)) hsz
end Go.Proofs.YtfpbocjmlhcgiaaGreatDoor
/- The law's fixed. -/
namespace Go.Proofs.YtfpbocjmlhcgiaaGreatDoor
open Go.RowKit PJ Go.Maps

theorem k_fc1 {w W : World} {K : Nat → Prop} {p b jb : Nat} (h : JK w W K p b jb FJ0) :
    Calls Tryz.prog 74 #[.pointer (some ⟨jb, 0, none⟩), .slice (some ⟨W.heap.size, 0, none⟩) 2 2] (W.alloc (.cells #[.int .i64 0, .string ⟨#[97]⟩, .int .i64 1, .string ⟨#[98]⟩] 130)) fun e w' => e = .returned (.int .i64 0) ∧ JK w w' K p b jb FJ1 ∧ KeptK K W w' := h.call fun F h1 _ => FC1 W p b jb F h1
theorem k_fc2 {w W : World} {K : Nat → Prop} {p b jb : Nat} (h : JK w W K p b jb FJ1) :
    Calls Tryz.prog 74 #[.pointer (some ⟨jb, 0, none⟩), .slice (some ⟨W.heap.size, 0, none⟩) 2 2] (W.alloc (.cells #[.int .i64 0, .string ⟨#[120]⟩, .int .i64 0, .string ⟨#[121]⟩] 130)) fun e w' => e = .returned (.int .i64 161) ∧ JK w w' K p b jb FJ1 ∧ KeptK K W w' := h.call fun F h1 _ => FC2 W p b jb F h1
theorem k_fc3 {w W : World} {K : Nat → Prop} {p b jb : Nat} (h : JK w W K p b jb FJ1) :
    Calls Tryz.prog 74 #[.pointer (some ⟨jb, 0, none⟩), .slice (some ⟨W.heap.size, 0, none⟩) 1 1] (W.alloc (.cells #[.int .i64 2, .string ⟨#[99]⟩] 130)) fun e w' => e = .returned (.int .i64 0) ∧ JK w w' K p b jb FJ3 ∧ KeptK K W w' := h.call fun F h1 _ => FC3 W p b jb F h1
/-- A disk without power, that was laid since w. -/
def DK (w : World) (B : Nat) (W : World) (p n : Nat) (V : View) : Prop := ∃ safe g mb, DeadAt W p g mb n safe ∧ (∀ i, i < n → safT safe i = V i) ∧ w.heap.size ≤ p ∧ B ≤ g ∧ B ≤ mb ∧ mb < W.heap.size ∧ LJ w W ∧ w.heap.size ≤ B ∧ B ≤ W.heap.size
/-- .. with it. -/
def RK (w : World) (B : Nat) (W : World) (p n : Nat) (V : View) : Prop := ∃ safe g mb, DiskAt W p g mb n safe (fun _ => none) ∧ (∀ i, i < n → safT safe i = V i) ∧ w.heap.size ≤ p ∧ B ≤ g ∧ B ≤ mb ∧ mb < W.heap.size ∧ LJ w W ∧ w.heap.size ≤ B ∧ B ≤ W.heap.size
end Go.Proofs.YtfpbocjmlhcgiaaGreatDoor
