/- The walk of MatchJoins. -/
import Derived.Test.YtaelkjffidjcjaaDoorLong
import Derived.Deep.RegionHeld3
set_option linter.unusedSimpArgs false
set_option linter.unusedVariables false
namespace Go.Proofs.YtaelkjffidjcjaaDoor
open Go.RowKit PX

/-- A world that comes behind another one: what was there is as it was. -/
def Later (a b : World) : Prop := Below a.heap.size a b
theorem Later.refl (w : World) : Later w w := Below.refl _ _
theorem Later.trans {a b c : World} (h : Later a b) (k : Later b c) : Later a c := Below.trans h (Below.mono k (Below.size h))
theorem Later.alloc {a b : World} (h : Later a b) (o : Obj) : Later a (b.alloc o) := Below.alloc h (Below.size h) o
theorem Later.drew {a b : World} (h : Later a b) : Later a b.drew := Below.drew h
theorem Later.block {a b : World} (h : Later a b) {k : Nat} {o : Obj} (hk : a.heap[k]? = some o) : b.heap[k]? = some o := (Below.block h k (lt_of_block hk)).trans hk
theorem Later.of {a b : World} (h : Below a.heap.size a b) : Later a b := h
theorem Later.out {a b : World} (h : Later a b) : Below a.heap.size a b := h
theorem Later.cell {a b : World} (h : Later a b) {p : Addr} {v : Value} (hp : a.cell? p = some v) : b.cell? p = some v := (Below.cell h (World.block_lt_of_cell? _ _ hp)).trans hp

theorem MX.later {w w' : World} {p : Nat} {x : Rx} (h : MX w p x) (hl : Later w w') : MX w' p x := h.below hl

/-- A machine of an expression, or none, as fits tells it. -/
def MaybeX (w : World) (v : Value) (x : Rx) : Prop := (checkR x = 0 ∧ ∃ p, v = .pointer (some ⟨p, 0, none⟩) ∧ MX w p x) ∨ (checkR x ≠ 0 ∧ v = .pointer none)
theorem MaybeX.later {w w' : World} {v : Value} {x : Rx} (h : MaybeX w v x) (hl : Later w w') : MaybeX w' v x := by
  rcases h with ⟨h1, p, h2, h3⟩ | h
  · exact .inl ⟨h1, p, h2, h3.below hl⟩
  · exact .inr h

open Classical in
/-- Is a text in a language? -/
noncomputable def inB (L : List UInt8 → Prop) (s : List UInt8) : Bool := decide (L s)
theorem inB_iff {L : List UInt8 → Prop} {s : List UInt8} : inB L s = true ↔ L s := by
  unfold inB; exact @decide_eq_true_iff _ (Classical.propDecidable _)
theorem in_is (w : World) (p : Nat) (x : Rx) (h : MX w p x) (S : ByteArray) (hs : S.size ≤ 256) :
    Calls Tryd.prog 21 #[.pointer (some ⟨p, 0, none⟩), .string S] w fun e w' => e = .returned (.bool (inB x.lang S.data.toList)) ∧ Later w w' := by
  refine (in_any w p x S h.m h.t).mono ?_
  rintro e w' ⟨hb, r, rfl, hr⟩
  refine ⟨?_, hb⟩
  rw [show r = inB x.lang S.data.toList from by rw [Bool.eq_iff_iff, hr, inB_iff]; exact ⟨fun h => h.2, fun h => ⟨hs, h⟩⟩]
theorem in_part (w : World) (p : Nat) (x : Rx) (h : MX w p x) (S : ByteArray) (a b : Nat) (hb : b ≤ S.size) (hs : S.size ≤ 256) :
    Calls Tryd.prog 21 #[.pointer (some ⟨p, 0, none⟩), .string (S.extract a b)] w fun e w' => e = .returned (.bool (inB x.lang (sub S.data.toList a b))) ∧ Later w w' := by
  have := in_is w p x h (S.extract a b) (by rw [extract_size _ _ _ hb]; omega)
  rw [extract_sub] at this
  exact this

/-- fits, of an expression that lies somewhere. -/
theorem fits_of (w : World) (X : RxA) (hin : X.In w w.heap.size) (hT : TabAt 0 Lib.deBruijn64tab w) :
    Calls Tryd.prog 20 #[X.val] w fun e w' => ∃ v, e = .returned v ∧ Later w w' ∧ MaybeX w' v X.bare := by
  refine (fits_any X w w.heap.size (Nat.le_refl _) hin).mono ?_
  rintro e w' ⟨hb, ⟨h1, p, rfl, -, hm⟩ | ⟨h1, rfl⟩⟩
  · exact ⟨_, rfl, hb, .inl ⟨h1, p, rfl, hm, TabAt.below hT hb⟩⟩
  · exact ⟨_, rfl, hb, .inr ⟨h1, rfl⟩⟩
/-- What a call of fits needs: the table, and the two expressions. -/
structure JW (w : World) (X Y : RxA) : Prop where
  t : TabAt 0 Lib.deBruijn64tab w
  x : X.In w w.heap.size
  y : Y.In w w.heap.size
theorem alloc_at {w : World} {o : Obj} {k : Nat} (h : w.heap.size = k) : (w.alloc o).heap[k]? = some o := by subst h; exact alloc_block w o
theorem drew_block {w : World} {k : Nat} {o : Obj} (h : w.heap[k]? = some o) : w.drew.heap[k]? = some o := h
theorem JW.later {w w' : World} {X Y : RxA} (h : JW w X Y) (hl : Later w w') : JW w' X Y :=
  ⟨TabAt.below h.t hl, (h.x.below hl (Nat.le_refl _)).later (Below.size hl) (fun _ _ _ => rfl), (h.y.below hl (Nat.le_refl _)).later (Below.size hl) (fun _ _ _ => rfl)⟩
theorem fits_of2 {w0 w : World} {X Y : RxA} (h : JW w0 X Y) (hl : Later w0 w) (b : Nat) (cs : Array Value) (fr : Nat × Nat) (hb : w.heap[b]? = some (.cells cs 26 fr)) (hcs : cs = (X.cells ++ Y.cells).toArray) (k : Int) (hk : I64 k) :
    Calls Tryd.prog 20 #[.agg #[.int .i64 k, .int .i64 0, .int .i64 0, .int .u64 0, .int .u64 0, .int .u64 0, .int .u64 0, .slice (some ⟨b, 0, none⟩) 2 2]] w fun e w' => ∃ v, e = .returned v ∧ Later w w' ∧ MaybeX w' v (.node k 0 0 0 0 0 0 [X.bare, Y.bare]) := by
  have hj := h.later hl
  have hc : ∀ j, w.cell? ⟨b, j, none⟩ = cs[j]? := fun j => by simp [World.cell?, hb]
  refine fits_of w (.node k 0 0 0 0 0 0 (some ⟨b, 0, none⟩) 2 [X, Y]) ?_ hj.t
  simp only [RxA.In]
  refine ⟨⟨hk, ⟨by omega, by omega⟩, ⟨by omega, by omega⟩, ⟨by omega, by omega⟩, ⟨by omega, by omega⟩, ⟨by omega, by omega⟩, ⟨by omega, by omega⟩⟩, by simp, by decide, by simp, .inr ⟨b, 0, rfl, lt_of_block hb, ?_⟩⟩
  refine inL_of_row (fun j u hu => ?_) (fun Z hZ => ?_)
  · rw [Nat.zero_add, hc, hcs]; simpa [rxCells] using hu
  · rcases List.mem_cons.1 hZ with rfl | hZ
    · exact hj.x
    · rw [List.mem_singleton.1 hZ]; exact hj.y
theorem fits_of1 {w0 w : World} {X Y : RxA} (h : JW w0 X Y) (hl : Later w0 w) (b : Nat) (cs : Array Value) (fr : Nat × Nat) (hb : w.heap[b]? = some (.cells cs 26 fr)) (hcs : cs = X.cells.toArray) (mn mx : Int) (hmn : I64 mn) (hmx : I64 mx) :
    Calls Tryd.prog 20 #[.agg #[.int .i64 3, .int .i64 mn, .int .i64 mx, .int .u64 0, .int .u64 0, .int .u64 0, .int .u64 0, .slice (some ⟨b, 0, none⟩) 1 1]] w fun e w' => ∃ v, e = .returned v ∧ Later w w' ∧ MaybeX w' v (.node 3 mn mx 0 0 0 0 [X.bare]) := by
  have hj := h.later hl
  have hc : ∀ j, w.cell? ⟨b, j, none⟩ = cs[j]? := fun j => by simp [World.cell?, hb]
  refine fits_of w (.node 3 mn mx 0 0 0 0 (some ⟨b, 0, none⟩) 1 [X]) ?_ hj.t
  simp only [RxA.In]
  refine ⟨⟨⟨by omega, by omega⟩, hmn, hmx, ⟨by omega, by omega⟩, ⟨by omega, by omega⟩, ⟨by omega, by omega⟩, ⟨by omega, by omega⟩⟩, by simp, by decide, by simp, .inr ⟨b, 0, rfl, lt_of_block hb, ?_⟩⟩
  refine inL_of_row (fun j u hu => ?_) (fun Z hZ => ?_)
  · rw [Nat.zero_add, hc, hcs]; simpa [rxCells] using hu
  · rw [List.mem_singleton.1 hZ]; exact hj.x

/-- What the loop finds of cuts: up to a place. -/
noncomputable def cutB (x y : Rx) (s : List UInt8) : Nat → Bool
  | 0 => false
  | k + 1 => cutB x y s k || (inB x.lang (sub s 0 k) && inB y.lang (sub s k s.length))
theorem cutB_iff (x y : Rx) (s : List UInt8) : ∀ k, cutB x y s k = true ↔ ∃ i, i < k ∧ x.lang (sub s 0 i) ∧ y.lang (sub s i s.length)
  | 0 => by simp [cutB]
  | k + 1 => by
    simp only [cutB, Bool.or_eq_true, Bool.and_eq_true, inB_iff, cutB_iff x y s k]
    constructor
    · rintro (⟨i, h, h'⟩ | h)
      · exact ⟨i, by omega, h'⟩
      · exact ⟨k, by omega, h⟩
    · rintro ⟨i, h, h'⟩
      by_cases hi : i < k
      · exact .inl ⟨i, hi, h'⟩
      · obtain rfl : i = k := by omega
        exact .inr h'
theorem cutB_row (x y : Rx) (s : List UInt8) : cutB x y s (s.length + 1) = inB (Rx.node 1 0 0 0 0 0 0 [x, y]).lang s := by
  rw [Bool.eq_iff_iff, cutB_iff, inB_iff, seq2_lang]
  refine exists_congr fun i => ?_
  rw [sub_take, sub_drop]
  exact and_congr (by omega) Iff.rfl
noncomputable def againB (x m : Rx) (s : List UInt8) : Nat → Bool
  | 0 => s.isEmpty
  | k + 1 => againB x m s k || (decide (0 < k) && (inB x.lang (sub s 0 k) && inB m.lang (sub s k s.length)))
theorem againB_iff (x m : Rx) (s : List UInt8) : ∀ k, againB x m s k = true ↔ s = [] ∨ ∃ i, 0 < i ∧ i < k ∧ x.lang (sub s 0 i) ∧ m.lang (sub s i s.length)
  | 0 => by simp [againB]
  | k + 1 => by
    simp only [againB, Bool.or_eq_true, Bool.and_eq_true, inB_iff, againB_iff x m s k, decide_eq_true_iff]
    constructor
    · rintro ((h | ⟨i, h0, h, h'⟩) | ⟨h0, h⟩)
      · exact .inl h
      · exact .inr ⟨i, h0, by omega, h'⟩
      · exact .inr ⟨k, h0, by omega, h⟩
    · rintro (h | ⟨i, h0, h, h'⟩)
      · exact .inl (.inl h)
      · by_cases hi : i < k
        · exact .inl (.inr ⟨i, h0, hi, h'⟩)
        · obtain rfl : i = k := by omega
          exact .inr ⟨h0, h'⟩
theorem againB_many (x : Rx) (s : List UInt8) : againB x (.node 3 0 (-1) 0 0 0 0 [x]) s (s.length + 1) = inB (Rx.node 3 0 (-1) 0 0 0 0 [x]).lang s := by
  rw [Bool.eq_iff_iff, againB_iff, inB_iff, many_lang]
  refine or_congr Iff.rfl (exists_congr fun i => ?_)
  rw [sub_take, sub_drop]
  exact and_congr Iff.rfl (and_congr (by omega) Iff.rfl)
theorem inB_alt (x y : Rx) (s : List UInt8) : inB (Rx.node 2 0 0 0 0 0 0 [x, y]).lang s = (inB x.lang s || inB y.lang s) := by
  rw [Bool.eq_iff_iff, inB_iff, alt2_lang, Bool.or_eq_true, inB_iff, inB_iff]

set_option maxRecDepth 100000 in
set_option maxHeartbeats 4000000 in
theorem joins_any (w : World) (X Y : RxA) (S : ByteArray) (hJ : JW w X Y) :
    Calls Tryd.prog 4 #[X.val, Y.val, .string S] w fun e w' => e = .returned (.bool true) ∧ Later w w' := by
  obtain ⟨w0, hw0⟩ : ∃ w0, (w.alloc (.cells X.cells.toArray 26)).alloc (.cells Y.cells.toArray 26) = w0 := ⟨_, rfl⟩
  have hl0 : Later w w0 := by rw [← hw0]; exact ((Later.refl w).alloc _).alloc _
  have hJ0 := hJ.later hl0
  have hx0 : w0.heap[w.heap.size]? = some (.cells X.cells.toArray 26 (0, 0)) := by rw [← hw0]; exact alloc_old (alloc_block w _) _
  have hy0 : w0.heap[w.heap.size + 1]? = some (.cells Y.cells.toArray 26 (0, 0)) := by
    have := alloc_block (w.alloc (.cells X.cells.toArray 26)) (.cells Y.cells.toArray 26)
    rw [World.size_alloc] at this
    rw [← hw0]; exact this
  have hfx := fun w1 (h1 : Later w0 w1) => fits_of w1 X (hJ0.later h1).x (hJ0.later h1).t
  have hfy := fun w1 (h1 : Later w0 w1) => fits_of w1 Y (hJ0.later h1).y (hJ0.later h1).t
  have hf2 := fun w1 (h1 : Later w0 w1) => @fits_of2 w0 w1 X Y hJ0 h1
  have hf1 := fun w1 (h1 : Later w0 w1) => @fits_of1 w0 w1 X Y hJ0 h1
  have hfix := fun w1 (h1 : Later w0 w1) => fixed_any w1 (hJ0.later h1).t
  obtain ⟨x, hx⟩ : ∃ x, X.bare = x := ⟨_, rfl⟩
  obtain ⟨y, hy⟩ : ∃ y, Y.bare = y := ⟨_, rfl⟩
  rw [hx] at hfx hf2 hf1
  rw [hy] at hfy hf2
  clear hJ hJ0 hx hy
  obtain ⟨k, mn, mx, s0, s1, s2, s3, a, cap, l⟩ := X
  obtain ⟨k', mn', mx', s0', s1', s2', s3', a', cap', l'⟩ := Y
  simp only [RxA.val, RxA.cells, List.cons_append, List.nil_append] at hfx hfy hf2 hf1 hx0 hy0 hw0 ⊢
  obtain ⟨b0, hb0⟩ : ∃ b0, w.heap.size = b0 := ⟨_, rfl⟩
  obtain ⟨n, hn⟩ : ∃ n, l.length = n := ⟨_, rfl⟩
  obtain ⟨n', hn'⟩ : ∃ n', l'.length = n' := ⟨_, rfl⟩
  rw [hn] at hfx hf2 hf1 hx0 hw0
  rw [hn'] at hfy hf2 hy0 hw0
  rw [hn, hn']
  rw [hb0] at hx0 hy0
  have hS : ∀ w', Later w0 w' → w'.cell? ⟨b0, 0, none⟩ = some (.int .i64 k) ∧ w'.cell? ⟨b0, 1, none⟩ = some (.int .i64 mn) ∧ w'.cell? ⟨b0, 2, none⟩ = some (.int .i64 mx) ∧ w'.cell? ⟨b0, 3, none⟩ = some (.int .u64 s0) ∧ w'.cell? ⟨b0, 4, none⟩ = some (.int .u64 s1) ∧ w'.cell? ⟨b0, 5, none⟩ = some (.int .u64 s2) ∧ w'.cell? ⟨b0, 6, none⟩ = some (.int .u64 s3) ∧ w'.cell? ⟨b0, 7, none⟩ = some (.slice a n cap) ∧
      w'.cell? ⟨b0 + 1, 0, none⟩ = some (.int .i64 k') ∧ w'.cell? ⟨b0 + 1, 1, none⟩ = some (.int .i64 mn') ∧ w'.cell? ⟨b0 + 1, 2, none⟩ = some (.int .i64 mx') ∧ w'.cell? ⟨b0 + 1, 3, none⟩ = some (.int .u64 s0') ∧ w'.cell? ⟨b0 + 1, 4, none⟩ = some (.int .u64 s1') ∧ w'.cell? ⟨b0 + 1, 5, none⟩ = some (.int .u64 s2') ∧ w'.cell? ⟨b0 + 1, 6, none⟩ = some (.int .u64 s3') ∧ w'.cell? ⟨b0 + 1, 7, none⟩ = some (.slice a' n' cap') := by
    intro w' h'
    have h1 := h'.block hx0
    have h2 := h'.block hy0
    refine ⟨?_, ?_, ?_, ?_, ?_, ?_, ?_, ?_, ?_, ?_, ?_, ?_, ?_, ?_, ?_, ?_⟩ <;> first | exact cell_of_block h1 _ | exact cell_of_block h2 _
  have HS := Lib.hid hS; clear hS
  have HFX := Lib.hid hfx; clear hfx
  have HFY := Lib.hid hfy; clear hfy
  have HF2 := Lib.hid hf2; clear hf2
  have HF1 := Lib.hid hf1; clear hf1
  have HFIX := Lib.hid hfix; clear hfix
  have HL0 := Lib.hid hl0; clear hl0
  have HW0 := Lib.hid hw0; clear hw0 hn hn' hx0 hy0
  have HB0 := Lib.hid hb0
  go_enter Tryd.func4, Tryd.ntmps4
  go_wp2_with fail
  rw [HW0.out]
  have HL := Lib.hid (Later.refl w0)
  clear HW0 hb0
  go_region_held3 (fun w' => w'.cell? ⟨b0, 0, none⟩ = some (.int .i64 k) ∧ w'.cell? ⟨b0, 1, none⟩ = some (.int .i64 mn) ∧ w'.cell? ⟨b0, 2, none⟩ = some (.int .i64 mx) ∧ w'.cell? ⟨b0, 3, none⟩ = some (.int .u64 s0) ∧ w'.cell? ⟨b0, 4, none⟩ = some (.int .u64 s1) ∧ w'.cell? ⟨b0, 5, none⟩ = some (.int .u64 s2) ∧ w'.cell? ⟨b0, 6, none⟩ = some (.int .u64 s3) ∧ w'.cell? ⟨b0, 7, none⟩ = some (.slice a n cap) ∧
      w'.cell? ⟨b0 + 1, 0, none⟩ = some (.int .i64 k') ∧ w'.cell? ⟨b0 + 1, 1, none⟩ = some (.int .i64 mn') ∧ w'.cell? ⟨b0 + 1, 2, none⟩ = some (.int .i64 mx') ∧ w'.cell? ⟨b0 + 1, 3, none⟩ = some (.int .u64 s0') ∧ w'.cell? ⟨b0 + 1, 4, none⟩ = some (.int .u64 s1') ∧ w'.cell? ⟨b0 + 1, 5, none⟩ = some (.int .u64 s2') ∧ w'.cell? ⟨b0 + 1, 6, none⟩ = some (.int .u64 s3') ∧ w'.cell? ⟨b0 + 1, 7, none⟩ = some (.slice a' n' cap'))
    (first | exact HS.out _ (by repeat (first | assumption | exact Later.refl _ | refine Later.drew ?_ | refine Later.trans ?_ (by assumption)))) (first
      | (go_at_call 20; (with_reducible refine (HFX.out _ (by repeat (first | assumption | exact Later.refl _ | refine Later.drew ?_ | refine Later.trans ?_ (by assumption)))).mono ?_); rintro e w1 ⟨vx, rfl, hl1, hmx⟩)
      | (go_at_call 20; (with_reducible refine (HFY.out _ (by repeat (first | assumption | exact Later.refl _ | refine Later.drew ?_ | refine Later.trans ?_ (by assumption)))).mono ?_); rintro e w2 ⟨vy, rfl, hl2, hmy⟩)
      | fail)
  rcases hmx with ⟨hcx, px, rfl, hpx⟩ | ⟨hcx, rfl⟩
  · rcases hmy with ⟨hcy, py, rfl, hpy⟩ | ⟨hcy, rfl⟩
    · have HPX := Lib.hid (hpx.below hl2); clear hpx
      have HPY := Lib.hid hpy; clear hpy
      go_wp2_with (go_at_call 15; (with_reducible refine (HFIX.out _ (by repeat (first | assumption | exact Later.refl _ | refine Later.drew ?_ | refine Later.alloc ?_ _ | refine Later.trans ?_ (by assumption)))).mono ?_); rintro e w3 ⟨rfl, hb3⟩; have hl3 := Later.of hb3; clear hb3)
      · go_ret
        exact ⟨rfl, HL0.out.trans (by repeat (first | assumption | exact Later.refl _ | refine Later.drew ?_ | refine Later.alloc ?_ _ | refine Later.trans ?_ (by assumption)))⟩
      · have hsz : (S.size : Int) ≤ 24 := by assumption
        have hS256 : S.size ≤ 256 := by omega
        have HSZ := Lib.hid hsz; clear hsz
        go_cut [9, 10, 11] from 32 to 45 (fun a b c wx => MaybeX wx a (.node 1 0 0 0 0 0 0 [x, y]) ∧ MaybeX wx b (.node 2 0 0 0 0 0 0 [x, y]) ∧ MaybeX wx c (.node 3 0 (-1) 0 0 0 0 [x]) ∧ Later w3 wx)
        case first =>
          go_region_held3 (fun w' => w'.cell? ⟨b0, 0, none⟩ = some (.int .i64 k) ∧ w'.cell? ⟨b0, 1, none⟩ = some (.int .i64 mn) ∧ w'.cell? ⟨b0, 2, none⟩ = some (.int .i64 mx) ∧ w'.cell? ⟨b0, 3, none⟩ = some (.int .u64 s0) ∧ w'.cell? ⟨b0, 4, none⟩ = some (.int .u64 s1) ∧ w'.cell? ⟨b0, 5, none⟩ = some (.int .u64 s2) ∧ w'.cell? ⟨b0, 6, none⟩ = some (.int .u64 s3) ∧ w'.cell? ⟨b0, 7, none⟩ = some (.slice a n cap) ∧
      w'.cell? ⟨b0 + 1, 0, none⟩ = some (.int .i64 k') ∧ w'.cell? ⟨b0 + 1, 1, none⟩ = some (.int .i64 mn') ∧ w'.cell? ⟨b0 + 1, 2, none⟩ = some (.int .i64 mx') ∧ w'.cell? ⟨b0 + 1, 3, none⟩ = some (.int .u64 s0') ∧ w'.cell? ⟨b0 + 1, 4, none⟩ = some (.int .u64 s1') ∧ w'.cell? ⟨b0 + 1, 5, none⟩ = some (.int .u64 s2') ∧ w'.cell? ⟨b0 + 1, 6, none⟩ = some (.int .u64 s3') ∧ w'.cell? ⟨b0 + 1, 7, none⟩ = some (.slice a' n' cap'))
            (first | exact HS.out _ (by repeat (first | assumption | exact Later.refl _ | refine Later.drew ?_ | refine Later.alloc ?_ _ | refine Later.trans ?_ (by assumption))))
            (first
              | (go_at_call 20; (with_reducible refine (HF2.out _ (by repeat (first | assumption | exact Later.refl _ | refine Later.drew ?_ | refine Later.alloc ?_ _ | refine Later.trans ?_ (by assumption))) _ _ _ (by repeat (first | assumption | refine drew_block ?_ | (refine alloc_at ?_; (simp; done)) | refine alloc_old ?_ _ | refine Later.block (by assumption) ?_)) (by rfl) _ (by unfold I64; omega)).mono ?_); rintro e w4 ⟨v, rfl, hl4, hm4⟩)
              | (go_at_call 20; (with_reducible refine (HF1.out _ (by repeat (first | assumption | exact Later.refl _ | refine Later.drew ?_ | refine Later.alloc ?_ _ | refine Later.trans ?_ (by assumption))) _ _ _ (by repeat (first | assumption | refine drew_block ?_ | (refine alloc_at ?_; (simp; done)) | refine alloc_old ?_ _ | refine Later.block (by assumption) ?_)) (by rfl) _ _ (by unfold I64; omega) (by unfold I64; omega)).mono ?_); rintro e w4 ⟨v, rfl, hl4, hm4⟩)
              | fail)
          all_goals
            go_wp2_with fail
            go_meet
            case rel => exact ⟨MaybeX.later (by assumption) (by repeat (first | assumption | exact Later.refl _ | refine Later.drew ?_ | refine Later.alloc ?_ _ | refine Later.trans ?_ (by assumption))), MaybeX.later (by assumption) (by repeat (first | assumption | exact Later.refl _ | refine Later.drew ?_ | refine Later.alloc ?_ _ | refine Later.trans ?_ (by assumption))), MaybeX.later (by assumption) (by repeat (first | assumption | exact Later.refl _ | refine Later.drew ?_ | refine Later.alloc ?_ _ | refine Later.trans ?_ (by assumption))), (by repeat (first | assumption | exact Later.refl _ | refine Later.drew ?_ | refine Later.alloc ?_ _ | refine Later.trans ?_ (by assumption)))⟩
        case rest =>
          obtain ⟨hrow, halt, hmany, hl4⟩ := hcut
          have HROW := Lib.hid hrow; clear hrow
          have HMANY := Lib.hid hmany; clear hmany
          have HPX2 := Lib.hid ((HPX.out.below hl3).below hl4)
          have HPY2 := Lib.hid ((HPY.out.below hl3).below hl4)
          have hlw : Later w wc := HL0.out.trans (by repeat (first | assumption | exact Later.refl _ | refine Later.drew ?_ | refine Later.alloc ?_ _ | refine Later.trans ?_ (by assumption)))
          have HLW := Lib.hid hlw
          clear hlw hl1 hl2 hl3 hl4 HPX HPY
          go_upto_region 7 with fail
          go_cut [61] from 46 to 60 (fun v wx => v = .bool false ∧ Later wc wx)
          case first =>
            rcases halt with ⟨hca, pa, rfl, hpa⟩ | ⟨hca, rfl⟩
            · have hia := fun w1 (h1 : Later wc w1) => in_is w1 pa _ (hpa.below h1) S hS256
              have hix := fun w1 (h1 : Later wc w1) => in_is w1 px _ (HPX2.out.below h1) S hS256
              have hiy := fun w1 (h1 : Later wc w1) => in_is w1 py _ (HPY2.out.below h1) S hS256
              rw [inB_alt] at hia
              obtain ⟨bx, hbx⟩ : ∃ bx, inB x.lang S.data.toList = bx := ⟨_, rfl⟩
              obtain ⟨bY, hbY⟩ : ∃ bY, inB y.lang S.data.toList = bY := ⟨_, rfl⟩
              rw [hbx] at hia hix
              rw [hbY] at hia hiy
              clear hbx hbY
              cases bx <;> cases bY <;> (
                simp only [Bool.or_false, Bool.or_true] at hia
                have HIA := Lib.hid hia
                have HIX := Lib.hid hix
                have HIY := Lib.hid hiy
                clear hia hix hiy
                go_wp2_with (first
                  | (go_at_call 21; (with_reducible refine (HIA.out _ (by repeat (first | assumption | exact Later.refl _ | refine Later.drew ?_ | refine Later.alloc ?_ _ | refine Later.trans ?_ (by assumption)))).mono ?_); rintro e w5 ⟨rfl, hl5⟩)
                  | (go_at_call 21; (with_reducible refine (HIX.out _ (by repeat (first | assumption | exact Later.refl _ | refine Later.drew ?_ | refine Later.alloc ?_ _ | refine Later.trans ?_ (by assumption)))).mono ?_); rintro e w6 ⟨rfl, hl6⟩)
                  | (go_at_call 21; (with_reducible refine (HIY.out _ (by repeat (first | assumption | exact Later.refl _ | refine Later.drew ?_ | refine Later.alloc ?_ _ | refine Later.trans ?_ (by assumption)))).mono ?_); rintro e w7 ⟨rfl, hl7⟩))
                go_meet
                case rel => exact ⟨rfl, (by repeat (first | assumption | exact Later.refl _ | refine Later.drew ?_ | refine Later.alloc ?_ _ | refine Later.trans ?_ (by assumption)))⟩)
            · go_wp2_with fail
              go_meet
              case rel => exact ⟨rfl, Later.refl _⟩
          case rest =>
            obtain ⟨rfl, hl5⟩ := hcut
            have HROW2 := Lib.hid (HROW.out.later hl5)
            have HMANY2 := Lib.hid (HMANY.out.later hl5)
            have HPX3 := Lib.hid (HPX2.out.below hl5)
            have HPY3 := Lib.hid (HPY2.out.below hl5)
            have HLW2 := Lib.hid (HLW.out.trans hl5)
            have hemp : S.toList.isEmpty = S.data.toList.isEmpty := by rw [Lib.toList_data]
            obtain ⟨g0, hg0⟩ : ∃ g0, S.data.toList.isEmpty = g0 := ⟨_, rfl⟩
            rw [hg0] at hemp
            have HG0 := Lib.hid hg0; clear hg0 hl5 HROW HMANY HPX2 HPY2 HLW
            obtain ⟨wd, hwd⟩ : ∃ v, v = wc := ⟨_, rfl⟩
            subst hwd
            go_wp2_with fail
            have HEMP := Lib.hid hemp; clear hemp
            have HLEN := Lib.hid (ba_len S)
            go_loopw [12, 13, 14] (fun c g i wx => ∃ (k : Nat) (gb : Bool), k ≤ S.size + 1 ∧ i = .int .i64 k ∧ c = .bool (cutB x y S.data.toList k) ∧ g = .bool gb ∧ (checkR (.node 3 0 (-1) 0 0 0 0 [x]) = 0 → gb = againB x (.node 3 0 (-1) 0 0 0 0 [x]) S.data.toList k) ∧ Later wd wx) (fun _ _ i _ => S.size + 1 - (intOf i).toNat)
            case atStart => exact ⟨0, g0, by omega, rfl, rfl, rfl, fun _ => HG0.out.symm, Later.refl _⟩
            case round =>
              obtain ⟨k, gb, hk, rfl, rfl, rfl, hgb, hlr⟩ := hrel
              have HGB := Lib.hid hgb; clear hgb
              by_cases hke : k = S.size + 1
              · subst hke
                have hcr : cutB x y S.data.toList (S.size + 1) = inB (Rx.node 1 0 0 0 0 0 0 [x, y]).lang S.data.toList := by rw [← HLEN.out]; exact cutB_row x y _
                have hgm : checkR (.node 3 0 (-1) 0 0 0 0 [x]) = 0 → gb = inB (Rx.node 3 0 (-1) 0 0 0 0 [x]).lang S.data.toList := fun h => by rw [HGB.out h, ← HLEN.out]; exact againB_many x _
                have hrow2 := HROW2.out.later hlr
                have hmany2 := HMANY2.out.later hlr
                have hlw := HLW2.out.trans hlr
                have hir := fun w1 p (h1 : MX w1 p (.node 1 0 0 0 0 0 0 [x, y])) => in_is w1 p _ h1 S hS256
                have him := fun w1 p (h1 : MX w1 p (.node 3 0 (-1) 0 0 0 0 [x])) => in_is w1 p _ h1 S hS256
                rw [hcr]
                obtain ⟨cr, hcr2⟩ : ∃ cr, inB (Rx.node 1 0 0 0 0 0 0 [x, y]).lang S.data.toList = cr := ⟨_, rfl⟩
                rw [hcr2] at hir ⊢
                have HIR := Lib.hid hir
                have HIM := Lib.hid him
                have HGM := Lib.hid hgm
                clear hir him hgm hcr hcr2
                rcases hrow2 with ⟨hcr, pr, rfl, hpr⟩ | ⟨hcr, rfl⟩
                · rcases hmany2 with ⟨hcm, pm, rfl, hpm⟩ | ⟨hcm, rfl⟩
                  · have hgm := HGM.out hcm
                    have him := HIM.out
                    rw [← hgm] at him
                    have HIM2 := Lib.hid him
                    clear him hgm
                    cases cr <;> cases gb <;> (
                      go_wp2_with (first
                        | (go_at_call 21; (with_reducible refine (HIR.out _ _ hpr).mono ?_); rintro e w5 ⟨rfl, hl5⟩)
                        | (go_at_call 21; (with_reducible refine (HIM2.out _ _ (hpm.later hl5)).mono ?_); rintro e w6 ⟨rfl, hl6⟩))
                      go_ret
                      exact ⟨rfl, (by repeat (first | assumption | exact Later.refl _ | refine Later.drew ?_ | refine Later.alloc ?_ _ | refine Later.trans ?_ (by assumption)))⟩)
                  · cases cr <;> (
                      go_wp2_with (first
                        | (go_at_call 21; (with_reducible refine (HIR.out _ _ hpr).mono ?_); rintro e w5 ⟨rfl, hl5⟩))
                      go_ret
                      exact ⟨rfl, (by repeat (first | assumption | exact Later.refl _ | refine Later.drew ?_ | refine Later.alloc ?_ _ | refine Later.trans ?_ (by assumption)))⟩)
                · rcases hmany2 with ⟨hcm, pm, rfl, hpm⟩ | ⟨hcm, rfl⟩
                  · have hgm := HGM.out hcm
                    have him := HIM.out
                    rw [← hgm] at him
                    have HIM2 := Lib.hid him
                    clear him hgm
                    cases gb <;> (
                      go_wp2_with (first
                        | (go_at_call 21; (with_reducible refine (HIM2.out _ _ hpm).mono ?_); rintro e w6 ⟨rfl, hl6⟩))
                      go_ret
                      exact ⟨rfl, (by repeat (first | assumption | exact Later.refl _ | refine Later.drew ?_ | refine Later.alloc ?_ _ | refine Later.trans ?_ (by assumption)))⟩)
                  · go_wp2_with fail
                    go_ret
                    exact ⟨rfl, (by repeat (first | assumption | exact Later.refl _ | refine Later.drew ?_ | refine Later.alloc ?_ _ | refine Later.trans ?_ (by assumption)))⟩
              · have hks : (k : Int) ≤ S.size := by omega
                have hks2 : k ≤ S.size := by omega
                have hxk := fun w1 (h1 : Later wr w1) => in_part w1 px _ (HPX3.out.below (hlr.trans h1)) S 0 k hks2 hS256
                have hyk := fun w1 (h1 : Later wr w1) => in_part w1 py _ (HPY3.out.below (hlr.trans h1)) S k S.size (Nat.le_refl _) hS256
                have hcs : cutB x y S.data.toList (k + 1) = (cutB x y S.data.toList k || (inB x.lang (sub S.data.toList 0 k) && inB y.lang (sub S.data.toList k S.size))) := by rw [cutB, HLEN.out]
                have has : againB x (.node 3 0 (-1) 0 0 0 0 [x]) S.data.toList (k + 1) = (againB x (.node 3 0 (-1) 0 0 0 0 [x]) S.data.toList k || (decide (0 < k) && (inB x.lang (sub S.data.toList 0 k) && inB (Rx.node 3 0 (-1) 0 0 0 0 [x]).lang (sub S.data.toList k S.size)))) := by rw [againB, HLEN.out]
                obtain ⟨c, hc⟩ : ∃ c, cutB x y S.data.toList k = c := ⟨_, rfl⟩
                obtain ⟨a, ha⟩ : ∃ a, inB x.lang (sub S.data.toList 0 k) = a := ⟨_, rfl⟩
                obtain ⟨b, hb⟩ : ∃ b, inB y.lang (sub S.data.toList k S.size) = b := ⟨_, rfl⟩
                obtain ⟨m, hm⟩ : ∃ m, inB (Rx.node 3 0 (-1) 0 0 0 0 [x]).lang (sub S.data.toList k S.size) = m := ⟨_, rfl⟩
                have hmk := fun w1 p (h1 : MX w1 p (.node 3 0 (-1) 0 0 0 0 [x])) => in_part w1 p _ h1 S k S.size (Nat.le_refl _) hS256
                rw [hc, ha, hb] at hcs
                rw [ha, hm] at has
                rw [ha] at hxk
                rw [hb] at hyk
                rw [hm] at hmk
                rw [hc]
                have HXK := Lib.hid hxk
                have HYK := Lib.hid hyk
                have HMK := Lib.hid hmk
                have HCS := Lib.hid hcs
                have HAS := Lib.hid has
                clear hxk hyk hmk hcs has hc ha hb hm
                go_upto_region 13 with fail
                go_cut [12] from 70 to 84 (fun v wx => v = .bool (c || (a && b)) ∧ Later wr wx)
                case first =>
                  cases c <;> cases a <;> cases b <;> (
                    go_wp2_with (first
                      | (go_at_call 21; (with_reducible refine (HXK.out _ (by repeat (first | assumption | exact Later.refl _ | refine Later.drew ?_ | refine Later.alloc ?_ _ | refine Later.trans ?_ (by assumption)))).mono ?_); rintro e w5 ⟨rfl, hl5⟩)
                      | (go_at_call 21; (with_reducible refine (HYK.out _ (by repeat (first | assumption | exact Later.refl _ | refine Later.drew ?_ | refine Later.alloc ?_ _ | refine Later.trans ?_ (by assumption)))).mono ?_); rintro e w6 ⟨rfl, hl6⟩))
                    go_meet
                    case rel => exact ⟨rfl, (by repeat (first | assumption | exact Later.refl _ | refine Later.drew ?_ | refine Later.alloc ?_ _ | refine Later.trans ?_ (by assumption)))⟩)
                case rest =>
                  obtain ⟨rfl, hl6⟩ := hcut
                  rw [← HCS.out]
                  have hmany2 := HMANY2.out.later (hlr.trans hl6)
                  rcases hmany2 with ⟨hcm, pm, rfl, hpm⟩ | ⟨hcm, rfl⟩
                  · have hgbk := HGB.out hcm
                    have has := HAS.out
                    rw [← hgbk] at has
                    have HAS2 := Lib.hid has
                    have HXK2 := Lib.hid (fun w1 (h1 : Later wc w1) => HXK.out w1 (hl6.trans h1))
                    have HMK2 := Lib.hid (fun w1 (h1 : Later wc w1) => HMK.out w1 pm (hpm.below h1))
                    clear has hgbk
                    have HLR := Lib.hid (hlr.trans hl6)
                    clear hlr hl6
                    by_cases hk0 : k = 0
                    · subst hk0
                      go_wp2_with fail
                      go_roundw
                      case measure => simp only [intOf]; omega
                      case rel => exact ⟨1, gb, by omega, by simp, rfl, rfl, fun _ => by rw [HAS2.out]; simp, HLR.out⟩
                    · have hk1 : (0 : Int) < k := by omega
                      have hk2 : decide (0 < k) = true := by simp; omega
                      cases gb <;> cases a <;> cases m <;> (
                        go_wp2_with (first
                          | (go_at_call 21; (with_reducible refine (HXK2.out _ (by repeat (first | assumption | exact Later.refl _ | refine Later.drew ?_ | refine Later.alloc ?_ _ | refine Later.trans ?_ (by assumption)))).mono ?_); rintro e w5 ⟨rfl, hl5⟩)
                          | (go_at_call 21; (with_reducible refine (HMK2.out _ (by repeat (first | assumption | exact Later.refl _ | refine Later.drew ?_ | refine Later.alloc ?_ _ | refine Later.trans ?_ (by assumption)))).mono ?_); rintro e w6 ⟨rfl, hl6⟩))
                        go_roundw
                        case measure => simp only [intOf]; omega
                        case rel => exact ⟨k + 1, _, by omega, by simp, rfl, rfl, fun _ => by rw [HAS2.out, hk2]; rfl, HLR.out.trans (by repeat (first | assumption | exact Later.refl _ | refine Later.drew ?_ | refine Later.alloc ?_ _ | refine Later.trans ?_ (by assumption)))⟩)
                  · go_wp2_with fail
                    go_roundw
                    case measure => simp only [intOf]; omega
                    case rel => exact ⟨k + 1, gb, by omega, by simp, rfl, rfl, fun h => absurd h hcm, hlr.trans hl6⟩
    · go_wp2_with (go_at_call 15; (with_reducible refine (HFIX.out _ (by repeat (first | assumption | exact Later.refl _ | refine Later.drew ?_ | refine Later.alloc ?_ _ | refine Later.trans ?_ (by assumption)))).mono ?_); rintro e w3 ⟨rfl, hb3⟩)
      go_ret
      have hl3 := Later.of hb3
      exact ⟨rfl, HL0.out.trans (by repeat (first | assumption | exact Later.refl _ | refine Later.drew ?_ | refine Later.alloc ?_ _ | refine Later.trans ?_ (by assumption)))⟩
  · go_wp2_with (go_at_call 15; (with_reducible refine (HFIX.out _ (by repeat (first | assumption | exact Later.refl _ | refine Later.drew ?_ | refine Later.alloc ?_ _ | refine Later.trans ?_ (by assumption)))).mono ?_); rintro e w3 ⟨rfl, hb3⟩)
    go_ret
    have hl3 := Later.of hb3
    exact ⟨rfl, HL0.out.trans (by repeat (first | assumption | exact Later.refl _ | refine Later.drew ?_ | refine Later.alloc ?_ _ | refine Later.trans ?_ (by assumption)))⟩
end Go.Proofs.YtaelkjffidjcjaaDoor
