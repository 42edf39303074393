/- M2, merged: Turn Turns. -/
import Derived.Test.YtaelkjffidjcjaaDoorB3
import Derived.Test.YtaelkjffidjcjaaDoorR2
import Derived.Test.YtaelkjffidjcjaaDoorM1
import Derived.Laws.IdiomStrings
import Derived.SizedLaws
set_option linter.unusedSimpArgs false
set_option linter.unusedVariables false
/- The walk of turned. -/
namespace Go.Proofs.YtaelkjffidjcjaaDoor
open Go.RowKit PX

/-- A row of the call's own as the elements of an expression. -/
theorem AltInv.node {B : Nat} {w : World} {v1 : Value} {l1 l2 : List RxA} {a : Option Addr} {cap : Nat} {k mn mx s0 s1 s2 s3 : Int} (hn : I64 k ∧ I64 mn ∧ I64 mx ∧ U64 s0 ∧ U64 s1 ∧ U64 s2 ∧ U64 s3) (h : AltInv B w v1 (.slice a l2.length cap) l1 l2) (hl : l2.length ≤ 1000) :
    Kept w B v1 (.slice none 0 0) (.node k mn mx s0 s1 s2 s3 a cap l2) := by
  obtain ⟨a', cap', he, hc1, hc2, ha⟩ := row_value h.own2
  simp only [Value.slice.injEq, true_and] at he
  obtain ⟨rfl, rfl⟩ := he
  have hblk : ∀ b ∈ (RxA.node k mn mx s0 s1 s2 s3 a cap l2).blocks, (∃ g, a = some ⟨g, 0, none⟩ ∧ b = g ∧ B ≤ g ∧ g < w.heap.size ∧ (Value.slice a l2.length cap).ownBlock = some g) ∨ ∃ Y ∈ l2, b ∈ Y.blocks := by
    intro b hb
    simp only [RxA.blocks, List.mem_append] at hb
    rcases hb with hb | hb
    · rcases ha with ⟨-, rfl⟩ | ⟨g, rfl, h1, h2, h3⟩
      · simp at hb
      · exact .inl ⟨g, rfl, by simpa using hb, h1, h2, h3⟩
    · exact .inr (blocksAll_mem.1 hb)
  refine ⟨?_, fun b hb => ?_⟩
  · simp only [RxA.In]
    refine ⟨hn, hc1, hc2, by omega, ?_⟩
    rcases ha with ⟨h0, -⟩ | ⟨g, rfl, h1, h2, h3⟩
    · exact .inl (List.eq_nil_of_length_eq_zero h0)
    · refine .inr ⟨g, 0, rfl, h2, inL_of_row (fun j u hu => ?_) (fun X hX => (h.kept2 X hX).lies)⟩
      have hj : j < l2.length * 8 := by rw [← rxCells_length]; exact (List.getElem?_eq_some_iff.1 hu).1
      rw [Nat.zero_add, h.own2.cellAt j hj]; exact hu
  · rcases hblk b hb with ⟨g, -, rfl, h1, h2, h3⟩ | ⟨Y, hY, hbY⟩
    · exact ⟨h1, h2, fun he => h.apart _ he h3, fun he => by cases he⟩
    · obtain ⟨h1, h2, h3, -⟩ := (h.kept2 Y hY).far b hbY
      exact ⟨h1, h2, h3, fun he => by cases he⟩

theorem len_le_big : ∀ l : List RxA, (l.length : Int) ≤ bigAll (bareAll l)
  | [] => by simp [bareAll, bigAll]
  | x :: xs => by
    have := len_le_big xs
    have := Rx.big_pos x.bare
    simp only [bareAll, bigAll, List.length_cons]; omega
theorem big_le_all : ∀ (l : List RxA) (x : RxA), x ∈ l → x.bare.big ≤ bigAll (bareAll l)
  | y :: ys, x, h => by
    simp only [bareAll, bigAll]
    rcases List.mem_cons.1 h with rfl | h
    · have := bigAll_nonneg (bareAll ys); omega
    · have := big_le_all ys x h
      have := Rx.big_pos y.bare; omega

/-- Which element comes at round i. -/
def turnAt (k : Int) (n i : Nat) : Nat := if k = 1 then n - 1 - i else i
theorem turnAt_lt {k : Int} {n i : Nat} (h : i < n) : turnAt k n i < n := by unfold turnAt; split <;> omega
/-- The elements, turned, in their order. -/
def turnL (k : Int) (l : List RxA) : List Rx := if k = 1 then (turnedAll (bareAll l)).reverse else turnedAll (bareAll l)
theorem turnL_length (k : Int) (l : List RxA) : (turnL k l).length = l.length := by
  unfold turnL; split <;> simp [turnedAll_length, bareAll_length]
theorem turnL_get {k : Int} {l : List RxA} {i : Nat} (h : i < l.length) : (turnL k l)[i]? = some (l[turnAt k l.length i]'(turnAt_lt h)).bare.turned := by
  unfold turnL turnAt
  by_cases hk : k = 1
  · simp only [hk, if_true]
    rw [List.getElem?_reverse (by simp [turnedAll_length, bareAll_length]; exact h)]
    simp [turnedAll_eq, bareAll_eq, turnedAll_length, bareAll_length]
    have : l.length - 1 - i < l.length := by omega
    simp [this]
  · simp only [hk, if_false]
    simp [turnedAll_eq, bareAll_eq, h]
theorem turned_node (k mn mx s0 s1 s2 s3 : Int) (a a' : Option Addr) (cap cap' : Nat) (l rows : List RxA) (h : rows.map RxA.bare = turnL k l) : (RxA.node k mn mx s0 s1 s2 s3 a' cap' rows).bare = (RxA.node k mn mx s0 s1 s2 s3 a cap l).bare.turned := by
  simp only [RxA.bare, Rx.turned, bareAll_eq]
  rw [h]
  unfold turnL
  simp only [bareAll_eq]

/-- What turned answers. -/
def Turns (x : Rx) (w : World) (e : Ending) (w' : World) : Prop :=
  ∃ k mn mx s0 s1 s2 s3 a cap l, e = .returned (.agg #[.int .i64 k, .int .i64 mn, .int .i64 mx, .int .u64 s0, .int .u64 s1, .int .u64 s2, .int .u64 s3, .slice a l.length cap]) ∧ (RxA.node k mn mx s0 s1 s2 s3 a cap l).bare = x.turned ∧ Below w.heap.size w w' ∧
    (RxA.node k mn mx s0 s1 s2 s3 a cap l).In w' w'.heap.size ∧ ∀ b ∈ (RxA.node k mn mx s0 s1 s2 s3 a cap l).blocks, w.heap.size ≤ b ∧ b < w'.heap.size

/-- One element more. -/
theorem turn_push {B : Nat} {W3 wc w1 w3 : World} {V : Value} {rows : List RxA} {Y : RxA} {o : Obj} {g cap' : Nat} (hon : Only (fun q => q = B) W3 wc) (hW : W3.heap.size = B + 1) (hinv : AltInv (B + 1) wc (.slice none 0 0) V [] rows) (hb1 : Below wc.heap.size wc w1) (hB : B + 1 ≤ wc.heap.size) (hyin : Y.In w1 w1.heap.size)
    (hyk : ∀ b ∈ Y.blocks, wc.heap.size ≤ b ∧ b < w1.heap.size) (hown : w3.ownsRow (B + 1) 26 8 (.slice (some ⟨g, 0, none⟩) (rows.length + 1) cap') (rows.length + 1) (rxCells rows ++ Y.cells)) (hg : (w1.alloc o).grownBy w3 V.ownBlock)
    (hat : V.ownBlock = some g ∨ g = (w1.alloc o).heap.size) (u : Value) :
    AltInv (B + 1) (w3.setCell ⟨B, 7, none⟩ u) (.slice none 0 0) (.slice (some ⟨g, 0, none⟩) (rows.length + 1) cap') [] (rows ++ [Y]) ∧ Only (fun q => q = B) W3 (w3.setCell ⟨B, 7, none⟩ u) := by
  have hO2 : Only (fun _ => False) wc (w1.alloc o) := (Only.of_below hb1).alloc _
  have hi2 := hinv.only hO2 (fun j hj => hj.elim)
  have hlt : ∀ b, V.ownBlock = some b → B + 1 ≤ b ∧ b < wc.heap.size := fun b hb => hinv.own2.lt b hb
  have hK : Kept (w1.alloc o) (B + 1) (.slice none 0 0) V Y := by
    refine ⟨(hyin.below ((Below.refl _ _).alloc (Nat.le_refl _) o) (Nat.le_refl _)).later (by simp) (fun _ _ _ => rfl), fun b hb => ?_⟩
    obtain ⟨h1, h2⟩ := hyk b hb
    refine ⟨by omega, by simp; omega, (fun h => by cases h), fun h => ?_⟩
    have := (hlt b h).2
    omega
  have h3 := AltInv.push hi2 hK hown hg hat
  have hs : Only (fun q => q = B) w3 (w3.setCell ⟨B, 7, none⟩ u) := (Only.refl (fun q => q = B) w3).setCell (.inl rfl) u
  refine ⟨h3.only hs (by rintro k rfl; omega), ?_⟩
  have hO3 : Only (fun q => q = B) W3 (w1.alloc o) := hon.trans (hO2.mono (fun _ _ h => h.elim))
  refine Only.setCell (Only.grown hO3 hg (fun k hk => .inr ?_)) (.inl rfl) u
  rw [hW]; exact (hlt k hk).1

set_option maxRecDepth 100000 in
set_option maxHeartbeats 2000000 in
theorem turned_any : ∀ (X : RxA) (w : World) (B : Nat), X.In w B → B ≤ w.heap.size → X.bare.big ≤ 256 → Calls Tryd.prog 23 #[X.val] w (Turns X.bare w) := by
  refine RxA.ind fun k mn mx s0 s1 s2 s3 a cap l ih => ?_
  intro w B hin hB hbig
  have hbl : bigAll (bareAll l) ≤ 255 := by
    have ht := times_pos k mn mx
    have hnn := bigAll_nonneg (bareAll l)
    simp only [RxA.bare, Rx.big] at hbig
    have : 1 * bigAll (bareAll l) ≤ times k mn mx * bigAll (bareAll l) := Int.mul_le_mul_of_nonneg_right ht hnn
    omega
  have hlen : l.length ≤ 255 := by have := len_le_big l; omega
  have hinX := hin
  simp only [RxA.In] at hin
  obtain ⟨hnum, hlc, hcm, -, hrow⟩ := hin
  have hcap : cap ≤ 9223372036854775807 := by unfold maxLen at hcm; omega
  obtain ⟨i0, hi, hz0, hz1, hz2⟩ := info_parts info_rx3
  obtain ⟨n, hn⟩ : ∃ n, l.length = n := ⟨_, rfl⟩
  show Calls Tryd.prog 23 #[.agg #[.int .i64 k, .int .i64 mn, .int .i64 mx, .int .u64 s0, .int .u64 s1, .int .u64 s2, .int .u64 s3, .slice a l.length cap]] w _
  rw [hn]
  have hn255 : n ≤ 255 := by omega
  have HN := Lib.hid hn; clear hn
  have HIH := Lib.hid ih; clear ih
  have HROW := Lib.hid hrow; clear hrow hinX hbig
  have hb3 : Below w.heap.size w (((w.alloc (.cells #[.int .i64 k, .int .i64 mn, .int .i64 mx, .int .u64 s0, .int .u64 s1, .int .u64 s2, .int .u64 s3, .slice a n cap] 26)).alloc (.cells #[.int .i64 0, .int .i64 0, .int .i64 0, .int .u64 0, .int .u64 0, .int .u64 0, .int .u64 0, .slice none 0 0] 26)).alloc (.cells #[.int .i64 k, .int .i64 mn, .int .i64 mx, .int .u64 s0, .int .u64 s1, .int .u64 s2, .int .u64 s3, .slice none 0 0] 26)) :=
    (((Below.refl w.heap.size w).alloc (Nat.le_refl _) _).alloc (by simp) _).alloc (by simp; omega) _
  have he3 : (((w.alloc (.cells #[.int .i64 k, .int .i64 mn, .int .i64 mx, .int .u64 s0, .int .u64 s1, .int .u64 s2, .int .u64 s3, .slice a n cap] 26)).alloc (.cells #[.int .i64 0, .int .i64 0, .int .i64 0, .int .u64 0, .int .u64 0, .int .u64 0, .int .u64 0, .slice none 0 0] 26)).alloc (.cells #[.int .i64 k, .int .i64 mn, .int .i64 mx, .int .u64 s0, .int .u64 s1, .int .u64 s2, .int .u64 s3, .slice none 0 0] 26)).heap[w.heap.size]? = some (.cells #[.int .i64 k, .int .i64 mn, .int .i64 mx, .int .u64 s0, .int .u64 s1, .int .u64 s2, .int .u64 s3, .slice a n cap] 26 (0, 0)) :=
    alloc_old (alloc_old (alloc_block w _) _) _
  have hr3 : (((w.alloc (.cells #[.int .i64 k, .int .i64 mn, .int .i64 mx, .int .u64 s0, .int .u64 s1, .int .u64 s2, .int .u64 s3, .slice a n cap] 26)).alloc (.cells #[.int .i64 0, .int .i64 0, .int .i64 0, .int .u64 0, .int .u64 0, .int .u64 0, .int .u64 0, .slice none 0 0] 26)).alloc (.cells #[.int .i64 k, .int .i64 mn, .int .i64 mx, .int .u64 s0, .int .u64 s1, .int .u64 s2, .int .u64 s3, .slice none 0 0] 26)).heap[w.heap.size + 1]? = some (.cells zeroRx 26 (0, 0)) := by
    have := alloc_old (alloc_block (w.alloc (.cells #[.int .i64 k, .int .i64 mn, .int .i64 mx, .int .u64 s0, .int .u64 s1, .int .u64 s2, .int .u64 s3, .slice a n cap] 26)) (.cells zeroRx 26)) (.cells #[.int .i64 k, .int .i64 mn, .int .i64 mx, .int .u64 s0, .int .u64 s1, .int .u64 s2, .int .u64 s3, .slice none 0 0] 26)
    rw [World.size_alloc] at this
    exact this
  have ht3 : (((w.alloc (.cells #[.int .i64 k, .int .i64 mn, .int .i64 mx, .int .u64 s0, .int .u64 s1, .int .u64 s2, .int .u64 s3, .slice a n cap] 26)).alloc (.cells #[.int .i64 0, .int .i64 0, .int .i64 0, .int .u64 0, .int .u64 0, .int .u64 0, .int .u64 0, .slice none 0 0] 26)).alloc (.cells #[.int .i64 k, .int .i64 mn, .int .i64 mx, .int .u64 s0, .int .u64 s1, .int .u64 s2, .int .u64 s3, .slice none 0 0] 26)).heap[w.heap.size + 1 + 1]? = some (.cells #[.int .i64 k, .int .i64 mn, .int .i64 mx, .int .u64 s0, .int .u64 s1, .int .u64 s2, .int .u64 s3, .slice none 0 0] 26 (0, 0)) := by
    have := alloc_block ((w.alloc (.cells #[.int .i64 k, .int .i64 mn, .int .i64 mx, .int .u64 s0, .int .u64 s1, .int .u64 s2, .int .u64 s3, .slice a n cap] 26)).alloc (.cells zeroRx 26)) (.cells #[.int .i64 k, .int .i64 mn, .int .i64 mx, .int .u64 s0, .int .u64 s1, .int .u64 s2, .int .u64 s3, .slice none 0 0] 26)
    rw [World.size_alloc, World.size_alloc] at this
    exact this
  have hs3 : (((w.alloc (.cells #[.int .i64 k, .int .i64 mn, .int .i64 mx, .int .u64 s0, .int .u64 s1, .int .u64 s2, .int .u64 s3, .slice a n cap] 26)).alloc (.cells #[.int .i64 0, .int .i64 0, .int .i64 0, .int .u64 0, .int .u64 0, .int .u64 0, .int .u64 0, .slice none 0 0] 26)).alloc (.cells #[.int .i64 k, .int .i64 mn, .int .i64 mx, .int .u64 s0, .int .u64 s1, .int .u64 s2, .int .u64 s3, .slice none 0 0] 26)).heap.size = w.heap.size + 1 + 1 + 1 := by simp
  obtain ⟨W3, HW3⟩ : ∃ W3, Hid ((((w.alloc (.cells #[.int .i64 k, .int .i64 mn, .int .i64 mx, .int .u64 s0, .int .u64 s1, .int .u64 s2, .int .u64 s3, .slice a n cap] 26)).alloc (.cells #[.int .i64 0, .int .i64 0, .int .i64 0, .int .u64 0, .int .u64 0, .int .u64 0, .int .u64 0, .slice none 0 0] 26)).alloc (.cells #[.int .i64 k, .int .i64 mn, .int .i64 mx, .int .u64 s0, .int .u64 s1, .int .u64 s2, .int .u64 s3, .slice none 0 0] 26)) = W3) := ⟨_, Lib.hid rfl⟩
  rw [HW3.out] at hb3 he3 hr3 ht3 hs3
  have HE3 := Lib.hid he3; clear he3
  have HR3 := Lib.hid hr3; clear hr3
  have HT3 := Lib.hid ht3; clear ht3
  have HB3 := Lib.hid hb3; clear hb3
  go_enter Tryd.func23, Tryd.ntmps23
  go_wp2_with fail
  rw [HW3.out]
  clear HW3
  obtain ⟨eb, heb⟩ : ∃ eb, w.heap.size = eb := ⟨_, rfl⟩
  rw [heb] at HE3 HR3 HT3 HB3 hs3 hB ⊢
  go_loopw [4, 5] (fun iv _ wr => ∃ (i : Nat) (rows : List RxA) (V : Value), iv = .int .i64 i ∧ i ≤ n ∧ rows.length = i ∧ rows.map RxA.bare = (turnL k l).take i ∧
      wr.heap[eb + 1 + 1]? = some (.cells #[.int .i64 k, .int .i64 mn, .int .i64 mx, .int .u64 s0, .int .u64 s1, .int .u64 s2, .int .u64 s3, V] 26 (0, 0)) ∧ AltInv (eb + 1 + 1 + 1) wr (.slice none 0 0) V [] rows ∧ Only (fun q => q = eb + 1 + 1) W3 wr) (fun iv _ _ => n - (intOf iv).toNat)
  case atStart =>
    exact ⟨0, [], _, rfl, by omega, rfl, rfl, HT3.out, AltInv.start _ _, Only.refl _ _⟩
  case round =>
    obtain ⟨i, rows, V, rfl, hin, hrl, hrb, hvt, hinv, hon⟩ := hrel
    obtain ⟨av, capv, rfl, hcv1, hcv2, -⟩ := row_value hinv.own2
    have hcv2 : capv ≤ 9223372036854775807 := by unfold maxLen at hcv2; omega
    have hwrs := hon.size
    rw [hs3] at hwrs
    have hbe := (hon.block eb (by omega) (by omega)).trans HE3.out
    have hbr := (hon.block (eb + 1) (by omega) (by omega)).trans HR3.out
    have e0 : wr.cell? ⟨eb, 0, none⟩ = some (.int .i64 k) := by rw [cell_of_block hbe]; rfl
    have e7 : wr.cell? ⟨eb, 7, none⟩ = some (.slice a n cap) := by rw [cell_of_block hbe]; rfl
    have t7 : wr.cell? ⟨eb + 1 + 1, 7, none⟩ = some (.slice av rows.length capv) := by rw [cell_of_block hvt]; rfl
    have HVT := Lib.hid hvt; clear hvt
    have HBR := Lib.hid hbr; clear hbr hbe
    have HINV := Lib.hid hinv; clear hinv
    have HON := Lib.hid hon; clear hon
    have HRB := Lib.hid hrb; clear hrb
    rw [hrl] at t7 hcv1
    have hV7 : (#[.int .i64 k, .int .i64 mn, .int .i64 mx, .int .u64 s0, .int .u64 s1, .int .u64 s2, .int .u64 s3, .slice av rows.length capv] : Array Value)[7]? = some (.slice av i capv) := by rw [hrl]; rfl
    by_cases hie : i = n
    · subst hie
      have t0 : wr.cell? ⟨eb + 1 + 1, 0, none⟩ = some (.int .i64 k) := by rw [cell_of_block HVT.out]; rfl
      have t1 : wr.cell? ⟨eb + 1 + 1, 1, none⟩ = some (.int .i64 mn) := by rw [cell_of_block HVT.out]; rfl
      have t2 : wr.cell? ⟨eb + 1 + 1, 2, none⟩ = some (.int .i64 mx) := by rw [cell_of_block HVT.out]; rfl
      have t3 : wr.cell? ⟨eb + 1 + 1, 3, none⟩ = some (.int .u64 s0) := by rw [cell_of_block HVT.out]; rfl
      have t4 : wr.cell? ⟨eb + 1 + 1, 4, none⟩ = some (.int .u64 s1) := by rw [cell_of_block HVT.out]; rfl
      have t5 : wr.cell? ⟨eb + 1 + 1, 5, none⟩ = some (.int .u64 s2) := by rw [cell_of_block HVT.out]; rfl
      have t6 : wr.cell? ⟨eb + 1 + 1, 6, none⟩ = some (.int .u64 s3) := by rw [cell_of_block HVT.out]; rfl
      have HINF := Lib.hid (info_rxA (.node k mn mx s0 s1 s2 s3 av capv rows))
      have HONE := Lib.hid (cellsA_one (.node k mn mx s0 s1 s2 s3 av capv rows))
      have hcs : cellsA (.node k mn mx s0 s1 s2 s3 av capv rows) = #[.int .i64 k, .int .i64 mn, .int .i64 mx, .int .u64 s0, .int .u64 s1, .int .u64 s2, .int .u64 s3, .slice av i capv] := by rw [← hrl]; rfl
      rw [hcs] at HINF HONE
      clear hcs
      go_wp2_with (first
        | (refine wpList_store_row rfl 26 (.tmp 2) (.tmp 43) ?_ (eb + 1) #[.int .i64 k, .int .i64 mn, .int .i64 mx, .int .u64 s0, .int .u64 s1, .int .u64 s2, .int .u64 s3, .slice av i capv] ?_ ?_ 26 zeroRx ?_ HINF.out rfl HONE.out ?_; (with_reducible rfl); rfl; rfl; exact HBR.out))
      refine bodyPost_ret (results_cell_row rfl _ _ (eb + 1) 26 #[.int .i64 k, .int .i64 mn, .int .i64 mx, .int .u64 s0, .int .u64 s1, .int .u64 s2, .int .u64 s3, .slice av i capv] (0, 0) _ rfl (setRow_heap _ _ _ _ _ _ HBR.out) Tryd.underlying26 rfl HINF.out) rfl ?_
      have hinv := HINV.out
      rw [hrl] at hinv
      have hK := AltInv.node (k := k) (mn := mn) (mx := mx) (s0 := s0) (s1 := s1) (s2 := s2) (s3 := s3) hnum (a := av) (cap := capv) (by rw [hrl]; exact hinv) (by omega)
      have hK2 := hK.only ((Only.refl (fun q => q = eb + 1) wr).setRow (.inl rfl) #[.int .i64 k, .int .i64 mn, .int .i64 mx, .int .u64 s0, .int .u64 s1, .int .u64 s2, .int .u64 s3, .slice av i capv]) (by intro j hj; omega)
      have hbel : Below eb w (wr.setRow (eb + 1) #[.int .i64 k, .int .i64 mn, .int .i64 mx, .int .u64 s0, .int .u64 s1, .int .u64 s2, .int .u64 s3, .slice av i capv]) := by
        exact (HB3.out.trans (HON.out.below (by omega) (by intro j hj; omega))).trans (((Only.refl (fun q => q = eb + 1) wr).setRow (.inl rfl) _).below (by omega) (by intro j hj; omega))
      refine ⟨k, mn, mx, s0, s1, s2, s3, av, capv, rows, by rw [hrl], turned_node _ _ _ _ _ _ _ _ _ _ _ _ _ ?_, by rw [heb]; exact hbel, hK2.lies, fun b hb => ⟨by have := (hK2.far b hb).1; omega, (hK2.far b hb).2.1⟩⟩
      rw [HRB.out, List.take_of_length_le (by rw [turnL_length, HN.out]; exact Nat.le_refl _)]
    · have hlt : (i : Int) < n := by omega
      have hil : i < l.length := by rw [HN.out]; omega
      have hne : l ≠ [] := by rintro rfl; simp at hil
      obtain ⟨b, o, rfl, hbB, hL⟩ := HROW.out.resolve_left hne
      have hkl : turnAt k l.length i < l.length := turnAt_lt hil
      obtain ⟨hce, hie2⟩ := RxA.In.get hL _ hkl
      have hget := turnL_get (k := k) hil
      have hxl : l[turnAt k l.length i] ∈ l := List.getElem_mem hkl
      have hxb := big_le_all l _ hxl
      have hcall := HIH.out _ hxl wr.drew B
      obtain ⟨X, hX⟩ : ∃ X, l[turnAt k l.length i] = X := ⟨_, rfl⟩
      rw [hX] at hce hie2 hget hxb hcall
      have hkk : ∀ kk, turnAt k l.length i = kk → (kk : Int) = if k = 1 then (n : Int) - 1 - i else i := by
        intro kk h; rw [← h, ← HN.out]; unfold turnAt; split <;> omega
      obtain ⟨kk, hkk0⟩ : ∃ kk, turnAt k l.length i = kk := ⟨_, rfl⟩
      have hkk := hkk kk hkk0
      rw [hkk0] at hce hkl
      rw [HN.out] at hkl
      have hwb : b < w.heap.size := by rw [heb]; omega
      have hkeep : ∀ j, wr.cell? ⟨b, j, none⟩ = w.cell? ⟨b, j, none⟩ := fun j =>
        (World.cell?_of_block (w := W3) (HON.out.block b (by omega) (by omega))).trans (HB3.out.cell (p := ⟨b, j, none⟩) (by show b < eb; omega))
      have hinr : X.In wr.drew B := hie2.below (C := eb) (w := w) (w' := wr.drew) (HB3.out.trans (HON.out.below (by omega) (by intro j hj; omega))).drew (by omega)
      have hcall := hcall hinr (by simp; omega) (by omega)
      obtain ⟨xk, xmn, xmx, x0, x1, x2, x3, xa, xcap, xl⟩ := X
      have hce2 := node_cells (fun j hj => (hkeep (o + kk * 8 + j)).trans (hce j hj))
      obtain ⟨q0, q1, q2, q3, q4, q5, q6, q7⟩ := hce2
      have HCALL := Lib.hid hcall; clear hcall hce hie2 hinr hX hkeep
      have HGET := Lib.hid hget; clear hget
      have hfr : wr.frozen? ⟨eb + 1 + 1, 7, none⟩ = false := free_of_block HVT.out 7
      have hrl2 : rows.length + 1 ≤ 256 := by omega
      have hkb : (kk : Int) < n := by omega
      go_upto_if 25 with fail
      go_cut [5] from 15 to 42 (fun v wx => v = .int .i64 (kk : Int) ∧ wx = wr)
      case first =>
        go_wp2_with fail
        all_goals
          go_meet
          case rel => exact ⟨by congr 1; first | omega | (simp_all <;> omega), rfl⟩
      case rest =>
        obtain ⟨rfl, rfl⟩ := hcut
        clear hkk
        clear hkk
        have HWS := Lib.hid hwrs; clear hwrs
        go_upto_region 8 with fail
        go_region_law (first
          | (refine step_append_lies _ rfl (.tmp 33) (.tmp 40) 24 rfl (eb + 1 + 1 + 1) 26 i0 _ 8 80 Tryd.underlying24 hi hz0 hz1 hz2 rfl (by decide) (.slice av i capv) i (rxCells rows) rfl HI3.out ⟨w1.heap.size, 0, none⟩ 1 1 [.int .i64 yk, .int .i64 ymn, .int .i64 ymx, .int .u64 y0, .int .u64 y1, .int .u64 y2, .int .u64 y3, .slice ya yl.length ycap] rfl rfl (cells_new w1 [.int .i64 yk, .int .i64 ymn, .int .i64 ymx, .int .u64 y0, .int .u64 y1, .int .u64 y2, .int .u64 y3, .slice ya yl.length ycap] 26) (by intro v hv; exact rx_one (RxA.node yk ymn ymx y0 y1 y2 y3 ya ycap yl) v hv) (by decide) (by unfold maxLen; omega) (by omega) (by simp; omega) _ rfl ?_
             intro g cap' w3 hown3 hgrow hgat hglt
             have hv3 := (hgrow.block (eb + 1 + 1) hb1l (hvr _ (by omega))).trans HV2.out
             have hf3 : w3.frozen? ⟨eb + 1 + 1, 7, none⟩ = false := free_of_block hv3 7
             have hc3 : w3.cell? ⟨eb + 1 + 1, 7, none⟩ = some (.slice av i capv) := (cell_of_block hv3 7).trans hV7
             have HV3 := Lib.hid hv3
             clear hv3)
          | (go_simp
             go_at_call 23
             refine HCALL.out.mono ?_
             rintro e w1 ⟨yk, ymn, ymx, y0, y1, y2, y3, ya, ycap, yl, rfl, hyb, hb1, hyin, hyblk⟩
             have hb1 : Below wc.heap.size wc w1 := below_of_drew hb1
             have hb1s := hb1.size
             have hbase : eb + 1 + 1 + 1 ≤ w1.heap.size := by have := HWS.out; omega
             have hO2 : Only (fun _ => False) wc (w1.alloc (.cells ([.int .i64 yk, .int .i64 ymn, .int .i64 ymx, .int .u64 y0, .int .u64 y1, .int .u64 y2, .int .u64 y3, .slice ya yl.length ycap]).toArray 26)) := (Only.of_below hb1).alloc _
             have hvt1 := (hb1.block (eb + 1 + 1) (by have := HWS.out; omega)).trans HVT.out
             have t7' : w1.cell? ⟨eb + 1 + 1, 7, none⟩ = some (.slice av i capv) := (cell_of_block hvt1 7).trans hV7
             have hv2 : (w1.alloc (.cells ([.int .i64 yk, .int .i64 ymn, .int .i64 ymx, .int .u64 y0, .int .u64 y1, .int .u64 y2, .int .u64 y3, .slice ya yl.length ycap]).toArray 26)).heap[eb + 1 + 1]? = _ := alloc_old hvt1 _
             have hb1l := lt_of_block hv2
             have t7a : (w1.alloc (.cells #[.int .i64 yk, .int .i64 ymn, .int .i64 ymx, .int .u64 y0, .int .u64 y1, .int .u64 y2, .int .u64 y3, .slice ya yl.length ycap] 26)).cell? ⟨eb + 1 + 1, 7, none⟩ = some (.slice av i capv) := (cell_of_block hv2 7).trans hV7
             have HV2 := Lib.hid hv2
             have hi2 := HINV.out.only hO2 (fun j hj => hj.elim)
             have HI2 := Lib.hid hi2
             have hi3 : (w1.alloc (.cells ([.int .i64 yk, .int .i64 ymn, .int .i64 ymx, .int .u64 y0, .int .u64 y1, .int .u64 y2, .int .u64 y3, .slice ya yl.length ycap]).toArray 26)).ownsRow (eb + 1 + 1 + 1) 26 8 (.slice av i capv) i (rxCells rows) := by have := hi2.own2; rw [hrl] at this; exact this
             have HI3 := Lib.hid hi3
             have hvr : ∀ b, b < eb + 1 + 1 + 1 → some b ≠ (Value.slice av i capv).ownBlock := fun b hb he => by
               have := (hi3.lt b he.symm).1
               omega
             have HYB := Lib.hid hyb
             have HYI := Lib.hid hyin
             have HYK := Lib.hid hyblk
             clear hvt1 hv2 hi2 hi3 hyb hyin hyblk))
        all_goals
          go_wp2_with fail
          go_roundw
          case measure => simp only [intOf]; omega
          case rel =>
            have hinv := HINV.out
            have hown4 := hown3
            have hgrow4 := hgrow
            have hgat4 := hgat
            rw [← hrl] at hown4 hgrow4 hgat4 ⊢
            obtain ⟨h1, h2⟩ := turn_push HON.out hs3 hinv hb1 HWS.out HYI.out HYK.out hown4 hgrow4 hgat4 (.slice (some ⟨g, 0, none⟩) (rows.length + 1) cap')
            refine ⟨rows.length + 1, rows ++ [_], _, by simp, by omega, by simp, ?_, ?_, h1, h2⟩
            · rw [List.map_append, List.map_singleton, HYB.out, HRB.out, List.take_add_one, hrl, HGET.out]; rfl
            · exact setCell_block HV3.out 7 _
end Go.Proofs.YtaelkjffidjcjaaDoor

/- The walk of MatchTurns. -/
namespace Go.Proofs.YtaelkjffidjcjaaDoor
open Go.RowKit PX

theorem info_byte : (Tryd.prog.info? 5).map (fun i => (i.zero, i.size, i.bytes)) = some (some (.int .u8 0), 1, 1) := by kernel_rfl
theorem check_turned (x : Rx) : checkR x.turned = checkR x := by unfold checkR; rw [Rx.turned_form, Rx.turned_size]
/-- The cells of bytes. -/
def u8Cells (l : List UInt8) : List Value := l.map fun c => .int .u8 (c.toNat : Int)
theorem u8Cells_length (l : List UInt8) : (u8Cells l).length = l.length := by simp [u8Cells]

theorem new_good (w : World) (X : RxA) (hin : X.In w w.heap.size) (hT : TabAt 0 Lib.deBruijn64tab w) (hc : checkR X.bare = 0) :
    Calls Tryd.prog 14 #[X.val] w fun e w' => ∃ p, e = .returned (.tuple #[.pointer (some ⟨p, 0, none⟩), .int .i64 0]) ∧ Later w w' ∧ MX w' p X.bare := by
  refine (new_any X w w.heap.size (Nat.le_refl _) hin).mono ?_
  rintro e w' ⟨hb, ⟨-, p, he, -, hm⟩ | ⟨hc', -⟩⟩
  · exact ⟨p, he, hb, hm, TabAt.below hT hb⟩
  · exact absurd hc hc'
theorem new_bad (w : World) (X : RxA) (hin : X.In w w.heap.size) (hc : checkR X.bare ≠ 0) :
    Calls Tryd.prog 14 #[X.val] w fun e w' => ∃ n : Int, e = .returned (.tuple #[.pointer none, .int .i64 n]) ∧ (n != 0) = true ∧ Later w w' := by
  refine (new_any X w w.heap.size (Nat.le_refl _) hin).mono ?_
  rintro e w' ⟨hb, ⟨hc', -⟩ | ⟨-, he⟩⟩
  · exact absurd hc' hc
  · exact ⟨_, he, by rw [bne_iff_ne]; exact hc, hb⟩
/-- What Is tells. -/
noncomputable def isN (S : ByteArray) : Int := if S.size ≤ 256 then 0 else 60
theorem is_tells (w : World) (p : Nat) (x : Rx) (h : MX w p x) (S : ByteArray) :
    Calls Tryd.prog 17 #[.pointer (some ⟨p, 0, none⟩), .string S] w fun e w' => e = .returned (.tuple #[.bool (inT S x.lang), .int .i64 (isN S)]) ∧ Later w w' := by
  refine (is_any w p x S h.m h.t).mono ?_
  rintro e w' ⟨hb, ⟨h1, rfl⟩ | ⟨h1, r, rfl, hr⟩⟩
  · refine ⟨?_, hb⟩
    rw [isN, if_neg (by omega), show inT S x.lang = false from by unfold inT; rw [decide_eq_false (by omega)]; rfl]
  · refine ⟨?_, hb⟩
    rw [isN, if_pos h1, show r = inT S x.lang from by rw [Bool.eq_iff_iff, hr, inT_iff]; exact ⟨fun h => ⟨h1, h⟩, fun h => h.2⟩]
theorem nothing_tells (w : World) (p : Nat) (x : Rx) (h : MX w p x) :
    Calls Tryd.prog 18 #[.pointer (some ⟨p, 0, none⟩)] w fun e w' => e = .returned (.bool (inB x.lang [])) ∧ Later w w' := by
  refine (nothing_any w p x h.m).mono ?_
  rintro e w' ⟨r, rfl, hr, hb⟩
  refine ⟨?_, hb⟩
  rw [show r = inB x.lang [] from by rw [Bool.eq_iff_iff, hr, inB_iff]]

/-- turned, of an expression that may be. -/
theorem turned_good (w : World) (X : RxA) (hin : X.In w w.heap.size) (hc : checkR X.bare = 0) : Calls Tryd.prog 23 #[X.val] w fun e w' => ∃ Y : RxA, e = .returned Y.val ∧ Y.bare = X.bare.turned ∧ Y.In w' w'.heap.size ∧ Later w w' := by
  refine (turned_any X w w.heap.size hin (Nat.le_refl _) ((checkR_zero _).1 hc).2).mono ?_
  rintro e w' ⟨k, mn, mx, s0, s1, s2, s3, a, cap, l, rfl, hb, hl, hi, -⟩
  exact ⟨_, rfl, hb, hi, hl⟩

/-- The value of a row of the call's own. -/
theorem row_of {w : World} {base n sz : Nat} {e : TypeId} {v : Value} {xs : List Value} (h : w.ownsRow base e sz v n xs) : ∃ a cap, v = .slice a n cap := by
  rcases h.2 with ⟨rfl, h0⟩ | ⟨g, cap, cur, rfl, -⟩
  · subst h0; exact ⟨none, 0, rfl⟩
  · exact ⟨_, cap, rfl⟩
theorem Later.grown {a b c : World} (h : Later a b) {row : Option Nat} (hg : b.grownBy c row) (hr : ∀ k, row = some k → a.heap.size ≤ k) : Later a c := Below.grown h hg (Below.size h) hr

/-- A row of bytes of the call's own, as a text. -/
theorem conv_row {w : World} {base n : Nat} {v : Value} {l : List UInt8} (h : w.ownsRow base 5 1 v n (u8Cells l)) (hn : n = l.length) : (convert 43 9 v).run Tryd.prog w = .ok (.string ⟨l.toArray⟩) w := by
  rcases h.2 with ⟨rfl, h0⟩ | ⟨g, cap, cur, rfl, -⟩
  · have hl : l = [] := List.eq_nil_of_length_eq_zero (by omega)
    subst hl
    rw [run_convert_bytes_string w 43 9 5 none 0 0 Tryd.underlying43 Tryd.underlying5 Tryd.underlying9]
    simp [Conv.bytesToString]
    rfl
  · subst hn
    refine run_convert_bytes_back w 43 9 5 ⟨g, 0, none⟩ cap l Tryd.underlying43 Tryd.underlying5 Tryd.underlying9 (fun j hj => ?_)
    rw [add_none0, h.cellAt j (by omega)]
    simp [u8Cells, hj]
theorem inT_turned (x : Rx) (S : ByteArray) : inT ⟨S.data.toList.reverse.toArray⟩ x.turned.lang = inT S x.lang := by
  have hs : (⟨S.data.toList.reverse.toArray⟩ : ByteArray).size = S.size := by
    show S.data.toList.reverse.toArray.size = S.size
    rw [List.size_toArray, List.length_reverse]; exact ba_len S
  rw [Bool.eq_iff_iff, inT_iff, inT_iff, hs, Rx.turned_lang]
  simp
theorem isN_turned (S : ByteArray) : isN ⟨S.data.toList.reverse.toArray⟩ = isN S := by
  have hs : (⟨S.data.toList.reverse.toArray⟩ : ByteArray).size = S.size := by
    show S.data.toList.reverse.toArray.size = S.size
    rw [List.size_toArray, List.length_reverse]; exact ba_len S
  unfold isN; rw [hs]
theorem inB_turned_nil (x : Rx) : inB x.turned.lang [] = inB x.lang [] := by
  rw [Bool.eq_iff_iff, inB_iff, inB_iff, Rx.turned_lang]; rfl

set_option maxRecDepth 100000 in
set_option maxHeartbeats 4000000 in
theorem turns_any (w : World) (X : RxA) (S : ByteArray) (hJ : JW w X X) (hSz : S.size ≤ reachBytes) :
    Calls Tryd.prog 6 #[X.val, .string S] w fun e w' => e = .returned (.bool true) ∧ Later w w' := by
  obtain ⟨w0, hw0⟩ : ∃ w0, w.alloc (.cells X.cells.toArray 26) = w0 := ⟨_, rfl⟩
  have hl0 : Later w w0 := by rw [← hw0]; exact (Later.refl w).alloc _
  have hJ0 := hJ.later hl0
  have hx0 : w0.heap[w.heap.size]? = some (.cells X.cells.toArray 26 (0, 0)) := by rw [← hw0]; exact alloc_block w _
  have hfix := fun w1 (h1 : Later w0 w1) => fixed_any w1 (hJ0.later h1).t
  have hT := fun w1 (h1 : Later w0 w1) => (hJ0.later h1).t
  have HT := Lib.hid hT; clear hT
  obtain ⟨i0, hif, hz0, hz1, hz2⟩ := info_parts info_byte
  have hSz2 : S.size < 2 ^ 47 := Nat.lt_of_le_of_lt hSz reachBytes_lt
  have HSZ := Lib.hid hSz2
  have hSz3 : S.size ≤ 9223372036854775807 := by omega
  clear hSz hSz2
  by_cases hc : checkR X.bare = 0
  · have hnew := fun w1 (h1 : Later w0 w1) => new_good w1 X (hJ0.later h1).x (hJ0.later h1).t hc
    have htur := fun w1 (h1 : Later w0 w1) => turned_good w1 X (hJ0.later h1).x hc
    have hnew2 := fun w1 (Y : RxA) (h1 : Later w0 w1) (hY : Y.bare = X.bare.turned) (hin : Y.In w1 w1.heap.size) => new_good w1 Y hin (hJ0.later h1).t (by rw [hY, check_turned]; exact hc)
    clear hJ hJ0 hc
    obtain ⟨x, hx⟩ : ∃ x, X.bare = x := ⟨_, rfl⟩
    rw [hx] at hnew htur hnew2
    have HN2 := Lib.hid hnew2; clear hnew2 hx
    obtain ⟨k, mn, mx, s0, s1, s2, s3, a, cap, l⟩ := X
    simp only [RxA.val, RxA.cells] at hnew htur hx0 hw0 ⊢
    obtain ⟨b0, hb0⟩ : ∃ b0, w.heap.size = b0 := ⟨_, rfl⟩
    obtain ⟨n, hn⟩ : ∃ n, l.length = n := ⟨_, rfl⟩
    rw [hn] at hnew htur hx0 hw0 ⊢
    rw [hb0] at hx0
    have hsx : ∀ w', Later w0 w' → w'.cell? ⟨b0, 0, none⟩ = some (.int .i64 k) ∧ w'.cell? ⟨b0, 1, none⟩ = some (.int .i64 mn) ∧ w'.cell? ⟨b0, 2, none⟩ = some (.int .i64 mx) ∧ w'.cell? ⟨b0, 3, none⟩ = some (.int .u64 s0) ∧ w'.cell? ⟨b0, 4, none⟩ = some (.int .u64 s1) ∧ w'.cell? ⟨b0, 5, none⟩ = some (.int .u64 s2) ∧ w'.cell? ⟨b0, 6, none⟩ = some (.int .u64 s3) ∧ w'.cell? ⟨b0, 7, none⟩ = some (.slice a n cap) := by
      intro w' h'
      have h1 := h'.block hx0
      refine ⟨?_, ?_, ?_, ?_, ?_, ?_, ?_, ?_⟩ <;> exact cell_of_block h1 _
    have HSX := Lib.hid hsx
    have HNEW := Lib.hid hnew; clear hnew
    have HTUR := Lib.hid htur; clear htur
    have HFIX := Lib.hid hfix; clear hfix
    have HL0 := Lib.hid hl0; clear hl0
    have HW0 := Lib.hid hw0; clear hw0 hn hx0 hsx
    have HLEN := Lib.hid (ba_len S)
    go_enter Tryd.func6, Tryd.ntmps6
    go_upto_region 1 with fail
    rw [HW0.out]
    clear HW0 hb0
    obtain ⟨q0, q1, q2, q3, q4, q5, q6, q7⟩ := HSX.out w0 (Later.refl _)
    go_wp2_with (first
      | (go_at_call 14; (with_reducible refine (HNEW.out _ (Later.refl _)).mono ?_); rintro e w1 ⟨p, rfl, hl1, hm1⟩; have HM1 := Lib.hid hm1; clear hm1)
      | (go_at_call 15; (with_reducible refine (HFIX.out _ hl1).mono ?_); rintro e w2 ⟨rfl, hb2⟩; have hl2 := Later.of hb2; clear hb2; have HM2 := Lib.hid (HM1.out.later hl2); have hl02 := Later.trans hl1 hl2; obtain ⟨q0, q1, q2, q3, q4, q5, q6, q7⟩ := HSX.out w2 hl02)
      | (go_at_call 23; (with_reducible refine (HTUR.out _ hl02).mono ?_); rintro e w3 ⟨⟨yk, ymn, ymx, y0, y1, y2, y3, ya, ycap, yl⟩, rfl, hyb, hyin, hl3⟩; have hn2 := HN2.out _ _ (Later.trans hl02 hl3) hyb hyin; rw [hyb] at hn2; simp only [RxA.val, RxA.cells] at hn2; have HNN := Lib.hid hn2; clear hyb hyin hn2; have hl03 := Later.trans hl02 hl3; have HM3 := Lib.hid (HM2.out.later hl3))
      | (go_at_call 14; (with_reducible refine HNN.out.mono ?_); rintro e w4 ⟨p', rfl, hl4, hm4⟩; have HM4 := Lib.hid hm4; clear hm4; have HM5 := Lib.hid (HM3.out.later hl4); have hl04 := Later.trans hl03 hl4)
      | fail)
    have hlw4 := HL0.out.trans (Later.trans hl04 (Later.refl w4))
    have HLW4 := Lib.hid hlw4
    clear hl1 hl02 hl03 hl04 hlw4 hl2 hl3 hl4 q0 q1 q2 q3 q4 q5 q6 q7
    obtain ⟨L, hL⟩ : ∃ L, S.data.toList = L := ⟨_, rfl⟩
    have hlen := HLEN.out
    rw [hL] at hlen
    have HL := Lib.hid hL; clear hL
    have HLN := Lib.hid hlen; clear hlen HLEN
    go_loopw [9, 10] (fun v i wx => ∃ k : Nat, k ≤ S.size ∧ i = .int .i64 ((k : Int) - 1) ∧ wx.ownsRow w4.heap.size 5 1 v (S.size - k) (u8Cells (L.drop k).reverse) ∧ Later w4 wx) (fun _ i _ => (intOf i + 1).toNat)
    case atStart =>
      refine ⟨S.size, Nat.le_refl _, rfl, ⟨?_, .inr ⟨w4.heap.size, 0, #[], ?_, Nat.le_refl _, ?_, by omega, by simp, rfl, ?_⟩⟩, (Later.refl _).alloc _⟩
      · rw [u8Cells_length, List.length_reverse, List.length_drop, HLN.out]; omega
      · rw [Nat.sub_self]
      · exact alloc_block w4 _
      · rw [List.drop_eq_nil_of_le (by rw [HLN.out]; exact Nat.le_refl _), Nat.sub_self]; rfl
    case round =>
      obtain ⟨k, hk, rfl, hown, hlr⟩ := hrel
      obtain ⟨av, cv, rfl⟩ := row_of hown
      have HOWN := Lib.hid hown; clear hown
      have HLR := Lib.hid hlr; clear hlr
      cases k with
      | zero =>
        have hown := HOWN.out
        rw [Nat.sub_zero, List.drop_zero] at hown
        rw [Nat.sub_zero]
        have hcv := fun W' (h' : Later wr W') => conv_row ((Only.of_below (r := fun _ => False) h').ownsRow hown (fun _ _ h => h)) (by rw [List.length_reverse, HLN.out])
        have his := fun W' (h' : Later wr W') => is_tells W' p x (HM5.out.later (HLR.out.trans h')) S
        have his2 := fun W' (h' : Later wr W') => is_tells W' p' x.turned (HM4.out.later (HLR.out.trans h')) ⟨L.reverse.toArray⟩
        have hno := fun W' (h' : Later wr W') => nothing_tells W' p x (HM5.out.later (HLR.out.trans h'))
        have hno2 := fun W' (h' : Later wr W') => nothing_tells W' p' x.turned (HM4.out.later (HLR.out.trans h'))
        rw [inB_turned_nil] at hno2
        rw [← HL.out, inT_turned, isN_turned, HL.out] at his2
        obtain ⟨RS, hRS⟩ : ∃ RS : ByteArray, (⟨L.reverse.toArray⟩ : ByteArray) = RS := ⟨_, rfl⟩
        obtain ⟨bi, hbi⟩ : ∃ bi, inT S x.lang = bi := ⟨_, rfl⟩
        obtain ⟨ni, hni⟩ : ∃ ni, isN S = ni := ⟨_, rfl⟩
        obtain ⟨bn, hbn⟩ : ∃ bn, inB x.lang [] = bn := ⟨_, rfl⟩
        rw [hRS] at hcv his2
        rw [hbi, hni] at his his2
        rw [hbn] at hno hno2
        have HCV := Lib.hid hcv
        have HIS := Lib.hid his
        have HIS2 := Lib.hid his2
        have HNO := Lib.hid hno
        have HNO2 := Lib.hid hno2
        clear hcv his his2 hno hno2 hRS hbi hni hbn hown
        go_wp2_with (first
          | (go_at_call 17; (with_reducible refine (HIS.out _ (Later.refl _)).mono ?_); rintro e w6 ⟨rfl, hl6⟩; have hcv6 := HCV.out w6 hl6)
          | (go_at_call 17; (with_reducible refine (HIS2.out _ hl6).mono ?_); rintro e w7 ⟨rfl, hl7⟩)
          | (go_at_call 18; (with_reducible refine (HNO.out _ (Later.trans hl6 hl7)).mono ?_); rintro e w8 ⟨rfl, hl8⟩)
          | (go_at_call 18; (with_reducible refine (HNO2.out _ (Later.trans (Later.trans hl6 hl7) hl8)).mono ?_); rintro e w9 ⟨rfl, hl9⟩)
          | fail)
        go_ret
        exact ⟨by simp, (HLW4.out.trans HLR.out).trans (((hl6.trans hl7).trans hl8).trans hl9)⟩
      | succ j =>
        have hji : ((j + 1 : Nat) : Int) - 1 = (j : Int) := by omega
        rw [hji]
        clear hji
        have hjs : (j : Int) < S.size := by omega
        have hj0 : (0 : Int) ≤ j := by omega
        have hjm : (j : Int) ≤ 9223372036854775807 := by omega
        have hjs2 : j < S.size := by omega
        obtain ⟨nn, hnn⟩ : ∃ nn, S.size - (j + 1) = nn := ⟨_, rfl⟩
        rw [hnn]
        have hown := HOWN.out
        rw [hnn] at hown
        have hn1 : nn + 1 = S.size - j := by omega
        have HN1 := Lib.hid hn1
        obtain ⟨bb, hbb⟩ : ∃ bb, S[j] = bb := ⟨_, rfl⟩
        have hdrop : (L.drop j).reverse = (L.drop (j + 1)).reverse ++ [bb] := by
          have hjl : j < L.length := by rw [HLN.out]; exact hjs2
          rw [List.drop_eq_getElem_cons hjl, List.reverse_cons]
          congr 2
          rw [← hbb]
          have := HL.out
          subst this
          rfl
        have HDR := Lib.hid hdrop; clear hdrop hnn hn1
        have HOW2 := Lib.hid (hown.alloc (.cells #[.int .u8 (bb.toNat : Int)] 5)); clear hown
        have hbase : w4.heap.size ≤ wr.heap.size := Below.size HLR.out
        have HBB := Lib.hid hbb
        have hbb2 : ((S[j]).toNat : Int) = (bb.toNat : Int) := by rw [hbb]
        clear hbb
        go_wp2_with (first
          | (refine wpList_append_own _ rfl (.tmp 51) (.tmp 55) 43 rfl w4.heap.size 5 i0 _ 1 1 Tryd.underlying43 hif hz0 hz1 hz2 rfl (by decide) (.slice av nn cv) nn (u8Cells (L.drop (j + 1)).reverse) rfl HOW2.out ⟨wr.heap.size, 0, none⟩ 1 1 [.int .u8 (bb.toNat : Int)] rfl rfl (cells_new wr [.int .u8 (bb.toNat : Int)] 5) (by intro u hu; rw [List.mem_singleton.1 hu]; rfl) (by unfold maxLen; have := HSZ.out; have := HN1.out; omega) (by have := HSZ.out; have := HN1.out; omega) (by simp; omega) ?_
             intro v' w5 hown5 hgrow _)
          | fail)
        have hlr5 : Later w4 w5 := ((HLR.out.alloc _).grown hgrow (fun q hq => by
          have := (HOW2.out.lt q hq).1
          exact this))
        refine ⟨⟨j, by omega, rfl, ?_, hlr5⟩, ?_⟩
        · rw [HDR.out, ← HN1.out]
          simp only [u8Cells, List.map_append, List.map_singleton] at hown5 ⊢
          exact hown5
        · simp only [intOf]; omega
  · have hnew := fun w1 (h1 : Later w0 w1) => new_bad w1 X (hJ0.later h1).x hc
    clear hJ hJ0 hc HSZ hif hz0 hz1 hz2 hSz3
    obtain ⟨k, mn, mx, s0, s1, s2, s3, a, cap, l⟩ := X
    simp only [RxA.val, RxA.cells] at hnew hx0 hw0 ⊢
    obtain ⟨b0, hb0⟩ : ∃ b0, w.heap.size = b0 := ⟨_, rfl⟩
    obtain ⟨n, hn⟩ : ∃ n, l.length = n := ⟨_, rfl⟩
    rw [hn] at hnew hx0 hw0 ⊢
    rw [hb0] at hx0
    have q0 := cell_of_block hx0 0
    have q1 := cell_of_block hx0 1
    have q2 := cell_of_block hx0 2
    have q3 := cell_of_block hx0 3
    have q4 := cell_of_block hx0 4
    have q5 := cell_of_block hx0 5
    have q6 := cell_of_block hx0 6
    have q7 := cell_of_block hx0 7
    simp only [List.getElem?_toArray, List.getElem?_cons_zero, List.getElem?_cons_succ] at q0 q1 q2 q3 q4 q5 q6 q7
    have HNEW := Lib.hid hnew; clear hnew
    have HFIX := Lib.hid hfix; clear hfix
    have HL0 := Lib.hid hl0; clear hl0
    have HW0 := Lib.hid hw0; clear hw0 hn hx0
    go_enter Tryd.func6, Tryd.ntmps6
    go_upto_region 1 with fail
    rw [HW0.out]
    clear HW0 hb0
    go_wp2_with (first
      | (go_at_call 14; (with_reducible refine (HNEW.out _ (Later.refl _)).mono ?_); rintro e w1 ⟨m, rfl, hm0, hl1⟩)
      | (go_at_call 15; (with_reducible refine (HFIX.out _ hl1).mono ?_); rintro e w2 ⟨rfl, hb2⟩)
      | fail)
    go_ret
    exact ⟨rfl, (HL0.out.trans hl1).trans (Later.of hb2)⟩
end Go.Proofs.YtaelkjffidjcjaaDoor
