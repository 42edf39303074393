/- M2, merged: Turn Turns. -/
import Derived.Test.YtjhclopdcbnmkaaGreatDoorB3
import Derived.Test.YtjhclopdcbnmkaaGreatDoorR2
import Derived.Test.YtjhclopdcbnmkaaGreatDoorM1
import Derived.Laws.IdiomStrings
import Derived.SizedLaws
set_option linter.unusedSimpArgs false
set_option linter.unusedVariables false
/- The walk of turned. -/
namespace Go.Proofs.YtjhclopdcbnmkaaGreatDoor
open Go.RowKit PX

/-- A row of the call's own as the elements of an expression. -/
theorem AltInv.node {B : Nat} {w : World} {v1 : Value} {l1 l2 : List RxA} {a : Option Addr} {cap : Nat} {k mn mx s0 s1 s2 s3 : Int} (hn : I64 k ∧ I64 mn ∧ I64 mx ∧ U64 s0 ∧ U64 s1 ∧ U64 s2 ∧ U64 s3) (h : AltInv B w v1 (.slice a l2.length cap) l1 l2) (hl : l2.length ≤ 1000) :
    Kept w B v1 (.slice none 0 0) (.node k mn mx s0 s1 s2 s3 a cap l2) := by
  obtain ⟨a', cap', he, hc1, hc2, ha⟩ := row_value h.own2
  simp only [Value.slice.injEq, true_and] at he
  obtain ⟨rfl, rfl⟩ := he
  have hblk : ∀ b ∈ (RxA.node k mn mx s0 s1 s2 s3 a cap l2).blocks, (∃ g, a = some ⟨g, 0, none⟩ ∧ b = g ∧ B ≤ g ∧ g < w.heap.size ∧ (Value.slice a l2.length cap).ownBlock = some g) ∨ ∃ Y ∈ l2, b ∈ Y.blocks := by
    intro b hb
    simp only [RxA.blocks, List.mem_append] at hb
    rcases hb with hb | hb
    · rcases ha with ⟨-, rfl⟩ | ⟨g, rfl, h1, h2, h3⟩
      · simp at hb
      · exact .inl ⟨g, rfl, by simpa using hb, h1, h2, h3⟩
    · exact .inr (blocksAll_mem.1 hb)
  refine ⟨?_, fun b hb => ?_⟩
  · simp only [RxA.In]
    refine ⟨hn, hc1, hc2, by omega, ?_⟩
    rcases ha with ⟨h0, -⟩ | ⟨g, rfl, h1, h2, h3⟩
    · exact .inl (List.eq_nil_of_length_eq_zero h0)
    · refine .inr ⟨g, 0, rfl, h2, inL_of_row (fun j u hu => ?_) (fun X hX => (h.kept2 X hX).lies)⟩
      have hj : j < l2.length * 8 := by rw [← rxCells_length]; exact (List.getElem?_eq_some_iff.1 hu).1
      rw [Nat.zero_add, h.own2.cellAt j hj]; exact hu
  · rcases hblk b hb with ⟨g, -, rfl, h1, h2, h3⟩ | ⟨Y, hY, hbY⟩
    · exact ⟨h1, h2, fun he => h.apart _ he h3, fun he => by cases he⟩
    · obtain ⟨h1, h2, h3, -⟩ := (h.kept2 Y hY).far b hbY
      exact ⟨h1, h2, h3, fun he => by cases he⟩

theorem len_le_big : ∀ l : List RxA, (l.length : Int) ≤ bigAll (bareAll l)
  | [] => by simp [bareAll, bigAll]
  | x :: xs => by
    have := len_le_big xs
    have := Rx.big_pos x.bare
    simp only [bareAll, bigAll, List.length_cons]; omega
theorem big_le_all : ∀ (l : List RxA) (x : RxA), x ∈ l → x.bare.big ≤ bigAll (bareAll l)
  | y :: ys, x, h => by
    simp only [bareAll, bigAll]
    rcases List.mem_cons.1 h with rfl | h
    · have := bigAll_nonneg (bareAll ys); omega
    · have := big_le_all ys x h
      have := Rx.big_pos y.bare; omega

/-- Which element comes at round i. -/
def turnAt (k : Int) (n i : Nat) : Nat := if k = 1 then n - 1 - i else i
theorem turnAt_lt {k : Int} {n i : Nat} (h : i < n) : turnAt k n i < n := by unfold turnAt; split <;> omega
/-- The elements, turned, in their order. -/
def turnL (k : Int) (l : List RxA) : List Rx := if k = 1 then (turnedAll (bareAll l)).reverse else turnedAll (bareAll l)
theorem turnL_length (k : Int) (l : List RxA) : (turnL k l).length = l.length := by
  unfold turnL; split <;> simp [turnedAll_length, bareAll_length]
theorem turnL_get {k : Int} {l : List RxA} {i : Nat} (h : i < l.length) : (turnL k l)[i]? = some (l[turnAt k l.length i]'(turnAt_lt h)).bare.turned := by
  unfold turnL turnAt
  by_cases hk : k = 1
  · simp only [hk, if_true]
    rw [List.getElem?_reverse (by simp [turnedAll_length, bareAll_length]; exact h)]
    simp [turnedAll_eq, bareAll_eq, turnedAll_length, bareAll_length]
    have : l.length - 1 - i < l.length := by omega
    simp [this]
  · simp only [hk, if_false]
    simp [turnedAll_eq, bareAll_eq, h]
theorem turned_node (k mn mx s0 s1 s2 s3 : Int) (a a' : Option Addr) (cap cap' : Nat) (l rows : List RxA) (h : rows.map RxA.bare = turnL k l) : (RxA.node k mn mx s0 s1 s2 s3 a' cap' rows).bare = (RxA.node k mn mx s0 s1 s2 s3 a cap l).bare.turned := by
  simp only [RxA.bare, Rx.turned, bareAll_eq]
  rw [h]
  unfold turnL
  simp only [bareAll_eq]

/-- What turned answers. -/
def Turns (x : Rx) (w : World) (e : Ending) (w' : World) : Prop :=
  ∃ k mn mx s0 s1 s2 s3 a cap l, e = .returned (.agg #[.int .i64 k, .int .i64 mn, .int .i64 mx, .int .u64 s0, .int .u64 s1, .int .u64 s2, .int .u64 s3, .slice a l.length cap]) ∧ (RxA.node k mn mx s0 s1 s2 s3 a cap l).bare = x.turned ∧ Below w.heap.size w w' ∧
    (RxA.node k mn mx s0 s1 s2 s3 a cap l).In w' w'.heap.size ∧ ∀ b ∈ (RxA.node k mn mx s0 s1 s2 s3 a cap l).blocks, w.heap.size ≤ b ∧ b < w'.heap.size

/-- One element more. -/
theorem turn_push {B : Nat} {W3 wc w1 w3 : World} {V : Value} {rows : List RxA} {Y : RxA} {o : Obj} {g cap' : Nat} (hon : Only (fun q => q = B) W3 wc) (hW : W3.heap.size = B + 1) (hinv : AltInv (B + 1) wc (.slice none 0 0) V [] rows) (hb1 : Below wc.heap.size wc w1) (hB : B + 1 ≤ wc.heap.size) (hyin : Y.In w1 w1.heap.size)
    (hyk : ∀ b ∈ Y.blocks, wc.heap.size ≤ b ∧ b < w1.heap.size) (hown : w3.ownsRow (B + 1) 26 8 (.slice (some ⟨g, 0, none⟩) (rows.length + 1) cap') (rows.length + 1) (rxCells rows ++ Y.cells)) (hg : (w1.alloc o).grownBy w3 V.ownBlock)
    (hat : V.ownBlock = some g ∨ g = (w1.alloc o).heap.size) (u : Value) :
    AltInv (B + 1) (w3.setCell ⟨B, 7, none⟩ u) (.slice none 0 0) (.slice (some ⟨g, 0, none⟩) (rows.length + 1) cap') [] (rows ++ [Y]) ∧ Only (fun q => q = B) W3 (w3.setCell ⟨B, 7, none⟩ u) := by
  have hO2 : Only (fun _ => False) wc (w1.alloc o) := (Only.of_below hb1).alloc _
  have hi2 := hinv.only hO2 (fun j hj => hj.elim)
  have hlt : ∀ b, V.ownBlock = some b → B + 1 ≤ b ∧ b < wc.heap.size := fun b hb => hinv.own2.lt b hb
  have hK : Kept (w1.alloc o) (B + 1) (.slice none 0 0) V Y := by
    refine ⟨(hyin.below ((Below.refl _ _).alloc (Nat.le_refl _) o) (Nat.le_refl _)).later (by simp) (fun _ _ _ => rfl), fun b hb => ?_⟩
    obtain ⟨h1, h2⟩ := hyk b hb
    refine ⟨by omega, by simp; omega, (fun h => by cases h), fun h => ?_⟩
    have := (hlt b h).2
    omega
  have h3 := AltInv.push hi2 hK hown hg hat
  have hs : Only (fun q => q = B) w3 (w3.setCell ⟨B, 7, none⟩ u) := (Only.refl (fun q => q = B) w3).setCell (.inl rfl) u
  refine ⟨h3.only hs (by rintro k rfl; omega), ?_⟩
  have hO3 : Only (fun q => q = B) W3 (w1.alloc o) := hon.trans (hO2.mono (fun _ _ h => h.elim))
  refine Only.setCell (Only.grown hO3 hg (fun k hk => .inr ?_)) (.inl rfl) u
  rw [hW]; exact (hlt k hk).1

end Go.Proofs.YtjhclopdcbnmkaaGreatDoor

/- The walk of MatchTurns. -/
namespace Go.Proofs.YtjhclopdcbnmkaaGreatDoor
open Go.RowKit PX

theorem info_byte : (Tryz.prog.info? 5).map (fun i => (i.zero, i.size, i.bytes)) = some (some (.int .u8 0), 1, 1) := by kernel_rfl
theorem check_turned (x : Rx) : checkR x.turned = checkR x := by unfold checkR; rw [Rx.turned_form, Rx.turned_size]
/-- The cells of bytes. -/
def u8Cells (l : List UInt8) : List Value := l.map fun c => .int .u8 (c.toNat : Int)
theorem u8Cells_length (l : List UInt8) : (u8Cells l).length = l.length := by simp [u8Cells]

theorem new_good (w : World) (X : RxA) (hin : X.In w w.heap.size) (hT : TabAt 0 Lib.deBruijn64tab w) (hc : checkR X.bare = 0) :
    Calls Tryz.prog 40 #[X.val] w fun e w' => ∃ p, e = .returned (.tuple #[.pointer (some ⟨p, 0, none⟩), .int .i64 0]) ∧ Later w w' ∧ MX w' p X.bare := by
  refine (new_any X w w.heap.size (Nat.le_refl _) hin).mono ?_
  rintro e w' ⟨hb, ⟨-, p, he, -, hm⟩ | ⟨hc', -⟩⟩
  · exact ⟨p, he, hb, hm, TabAt.below hT hb⟩
  · exact absurd hc hc'
theorem new_bad (w : World) (X : RxA) (hin : X.In w w.heap.size) (hc : checkR X.bare ≠ 0) :
    Calls Tryz.prog 40 #[X.val] w fun e w' => ∃ n : Int, e = .returned (.tuple #[.pointer none, .int .i64 n]) ∧ (n != 0) = true ∧ Later w w' := by
  refine (new_any X w w.heap.size (Nat.le_refl _) hin).mono ?_
  rintro e w' ⟨hb, ⟨hc', -⟩ | ⟨-, he⟩⟩
  · exact absurd hc' hc
  · exact ⟨_, he, by rw [bne_iff_ne]; exact hc, hb⟩
/-- What Is tells. -/
noncomputable def isN (S : ByteArray) : Int := if S.size ≤ 256 then 0 else 60
theorem is_tells (w : World) (p : Nat) (x : Rx) (h : MX w p x) (S : ByteArray) :
    Calls Tryz.prog 37 #[.pointer (some ⟨p, 0, none⟩), .string S] w fun e w' => e = .returned (.tuple #[.bool (inT S x.lang), .int .i64 (isN S)]) ∧ Later w w' := by
  refine (is_any w p x S h.m h.t).mono ?_
  rintro e w' ⟨hb, ⟨h1, rfl⟩ | ⟨h1, r, rfl, hr⟩⟩
  · refine ⟨?_, hb⟩
    rw [isN, if_neg (by omega), show inT S x.lang = false from by unfold inT; rw [decide_eq_false (by omega)]; rfl]
  · refine ⟨?_, hb⟩
    rw [isN, if_pos h1, show r = inT S x.lang from by rw [Bool.eq_iff_iff, hr, inT_iff]; exact ⟨fun h => ⟨h1, h⟩, fun h => h.2⟩]
/-- The value of a row of the call's own. -/
theorem row_of {w : World} {base n sz : Nat} {e : TypeId} {v : Value} {xs : List Value} (h : w.ownsRow base e sz v n xs) : ∃ a cap, v = .slice a n cap := by
  rcases h.2 with ⟨rfl, h0⟩ | ⟨g, cap, cur, rfl, -⟩
  · subst h0; exact ⟨none, 0, rfl⟩
  · exact ⟨_, cap, rfl⟩
theorem Later.grown {a b c : World} (h : Later a b) {row : Option Nat} (hg : b.grownBy c row) (hr : ∀ k, row = some k → a.heap.size ≤ k) : Later a c := Below.grown h hg (Below.size h) hr

/-- A row of bytes of the call's own, as a text. -/
theorem conv_row {w : World} {base n : Nat} {v : Value} {l : List UInt8} (h : w.ownsRow base 5 1 v n (u8Cells l)) (hn : n = l.length) : (convert 58 9 v).run Tryz.prog w = .ok (.string ⟨l.toArray⟩) w := by
  rcases h.2 with ⟨rfl, h0⟩ | ⟨g, cap, cur, rfl, -⟩
  · have hl : l = [] := List.eq_nil_of_length_eq_zero (by omega)
    subst hl
    rw [run_convert_bytes_string w 58 9 5 none 0 0 Tryz.underlying58 Tryz.underlying5 Tryz.underlying9]
    simp [Conv.bytesToString]
    rfl
  · subst hn
    refine run_convert_bytes_back w 58 9 5 ⟨g, 0, none⟩ cap l Tryz.underlying58 Tryz.underlying5 Tryz.underlying9 (fun j hj => ?_)
    rw [add_none0, h.cellAt j (by omega)]
    simp [u8Cells, hj]
theorem inT_turned (x : Rx) (S : ByteArray) : inT ⟨S.data.toList.reverse.toArray⟩ x.turned.lang = inT S x.lang := by
  have hs : (⟨S.data.toList.reverse.toArray⟩ : ByteArray).size = S.size := by
    show S.data.toList.reverse.toArray.size = S.size
    rw [List.size_toArray, List.length_reverse]; exact ba_len S
  rw [Bool.eq_iff_iff, inT_iff, inT_iff, hs, Rx.turned_lang]
  simp
theorem isN_turned (S : ByteArray) : isN ⟨S.data.toList.reverse.toArray⟩ = isN S := by
  have hs : (⟨S.data.toList.reverse.toArray⟩ : ByteArray).size = S.size := by
    show S.data.toList.reverse.toArray.size = S.size
    rw [List.size_toArray, List.length_reverse]; exact ba_len S
  unfold isN; rw [hs]
theorem inB_turned_nil (x : Rx) : inB x.turned.lang [] = inB x.lang [] := by
  rw [Bool.eq_iff_iff, inB_iff, inB_iff, Rx.turned_lang]; rfl

end Go.Proofs.YtjhclopdcbnmkaaGreatDoor
