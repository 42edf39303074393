/- Jg6, merged: J18 J19 J20 J21 J22. -/
import Derived.Test.YtfpbocjmlhcgiaaGreatDoorJg5
import Derived.Test.YtfpbocjmlhcgiaaGreatDoorJg1
set_option linter.unusedSimpArgs false
set_option linter.unusedVariables false
/- The cache searched by touch's closure (J17's walk with the other closure). -/
namespace Go.Proofs.YtfpbocjmlhcgiaaGreatDoor
open Go.RowKit PJ Go.Maps

set_option maxRecDepth 100000 in
set_option maxHeartbeats 1000000 in
theorem kidxT_any (w : World) (g off cap : Nat) (xs : List Kept) (hx : xs.length ≤ 16) (hg : g < w.heap.size) (hc : ∀ j k, xs[j]? = some k → KeptCells w g (off + j * 3) k) (b bk : Nat) (hk : w.cell? ⟨bk, 0, none⟩ = some (.int .i64 b)) (hbk : bk < w.heap.size) :
    Calls Tryz.prog 175 #[.slice (some ⟨g, off, none⟩) xs.length cap, .func (.func 173) #[] #[.pointer (some ⟨bk, 0, none⟩)]] w fun e w' => e = .returned (.int .i64 (findK b xs 0)) ∧ Below w.heap.size w w' := by
  have HC := Lib.hid hc
  have HK := Lib.hid hk
  clear hc hk
  go_enter Tryz.func175, Tryz.ntmps175
  go_wp2_with fail
  go_loopw [8] (fun v wr => ∃ j : Nat, j ≤ xs.length ∧ v = .int .i64 (j : Int) ∧ (∀ m, m < j → ∀ k, xs[m]? = some k → k.at' ≠ b) ∧ Below w.heap.size w wr) (fun v _ => xs.length - (intOf v).toNat)
  case atStart => exact ⟨0, by omega, rfl, fun m hm => absurd hm (by omega), Below.refl _ _⟩
  case round =>
    obtain ⟨j, hj, rfl, hno, hb⟩ := hrel
    have HNO := Lib.hid hno
    clear hno
    by_cases hlt : j < xs.length
    · obtain ⟨k, hkj⟩ : ∃ k, xs[j]? = some k := ⟨_, List.getElem?_eq_getElem hlt⟩
      obtain ⟨q1, q2, q3⟩ := HC.out j k hkj
      have r1 := (hb.cell (p := ⟨g, off + j * 3, none⟩) hg).trans q1
      have r2 := (hb.cell (p := ⟨g, off + j * 3 + 1, none⟩) hg).trans q2
      have r3 := (hb.cell (p := ⟨g, off + j * 3 + 2, none⟩) hg).trans q3
      have HP := Lib.hid (touch1_any wr k.at' b ⟨k.data.toArray⟩ k.stamp bk ((hb.cell (p := ⟨bk, 0, none⟩) hbk).trans HK.out))
      clear q1 q2 q3
      by_cases hat : k.at' = b
      · rw [decide_eq_true hat] at HP
        have HAT := Lib.hid hat
        clear hat
        go_wp2_with (first
          | (go_at_call 173; (with_reducible refine HP.out.mono ?_); rintro e w1 ⟨rfl, hb1⟩)
          | fail)
        go_ret
        refine ⟨ret_int ?_, hb.trans (hb1.mono hb.size)⟩
        rw [findK_skip b xs j 0 HNO.out hj, List.drop_eq_getElem_cons hlt, findK]
        have hkk : xs[j] = k := by rw [List.getElem?_eq_getElem hlt] at hkj; exact Option.some.inj hkj
        rw [hkk, if_pos HAT.out]
        simp
      · rw [decide_eq_false hat] at HP
        have HAT := Lib.hid hat
        clear hat
        go_wp2_with (first
          | (go_at_call 173; (with_reducible refine HP.out.mono ?_); rintro e w1 ⟨rfl, hb1⟩)
          | fail)
        refine ⟨⟨j + 1, by omega, by simp, fun m hm x hx' => ?_, hb.trans (hb1.mono hb.size)⟩, by simp only [intOf]; omega⟩
        by_cases hmj : m = j
        · subst hmj
          rw [hkj] at hx'
          rw [← Option.some.inj hx']
          exact HAT.out
        · exact HNO.out m (by omega) x hx'
    · go_wp2_with fail
      go_ret
      refine ⟨ret_int ?_, hb⟩
      rw [findK_skip b xs j 0 HNO.out hj, List.drop_eq_nil_of_le (by omega), findK]
end Go.Proofs.YtfpbocjmlhcgiaaGreatDoor
/- The cache cloned: nil. -/
namespace Go.Proofs.YtfpbocjmlhcgiaaGreatDoor
open Go.RowKit PJ Go.Maps

set_option maxRecDepth 100000 in
theorem kclone_nil (w : World) :
    Calls Tryz.prog 71 #[.slice none 0 0] w fun e w' => e = .returned (.slice none 0 0) ∧ Below w.heap.size w w' := by
  have heq : (binOp .eql 103 (.slice none 0 0) (.slice none 0 0)).run Tryz.prog w = .ok (.bool true) w := run_eql_slice_nil w _ _ none 0 0 Tryz.underlying103
  go_enter Tryz.func71, Tryz.ntmps71
  go_wp2_with fail
  go_ret
  exact ⟨rfl, Below.refl _ _⟩

end Go.Proofs.YtfpbocjmlhcgiaaGreatDoor
/- The cache cloned. -/
namespace Go.Proofs.YtfpbocjmlhcgiaaGreatDoor
open Go.RowKit PJ Go.Maps

set_option maxRecDepth 100000 in
theorem kclone_any (w : World) (g off cap n : Nat) (hn : n ≤ 16) (hg : g < w.heap.size) (news : List Value) (hl : news.length = n * 3) (hc : ∀ j u, news[j]? = some u → w.cell? ⟨g, off + j, none⟩ = some u) (h1 : ∀ u ∈ news, u.oneCell' = true) :
    Calls Tryz.prog 71 #[.slice (some ⟨g, off, none⟩) n cap] w fun e w' => ∃ v, e = .returned v ∧ w'.ownsRow w.heap.size 126 3 v (0 + n) ([] ++ news) ∧ Below w.heap.size w w' := by
  have heq : (binOp .eql 103 (.slice (some ⟨g, off, none⟩) n cap) (.slice none 0 0)).run Tryz.prog w = .ok (.bool false) w := run_eql_slice_nil w _ _ (some ⟨g, off, none⟩) n cap Tryz.underlying103
  have hI : (Tryz.prog.info? 126).map (fun i => (i.zero, i.size, i.bytes)) = some (some (.agg #[.int .i64 0, .string ⟨#[]⟩, .int .i64 0]), 3, 32) := by kernel_rfl
  obtain ⟨iK, hiK, hpK⟩ := Option.map_eq_some_iff.1 hI
  obtain ⟨hzK, hsK, hbK⟩ : iK.zero = some (.agg #[.int .i64 0, .string ⟨#[]⟩, .int .i64 0]) ∧ iK.size = 3 ∧ iK.bytes = 32 := ⟨congrArg Prod.fst hpK, congrArg (fun x => x.2.1) hpK, congrArg (fun x => x.2.2) hpK⟩
  clear hI hpK
  go_enter Tryz.func71, Tryz.ntmps71
  go_wp2_with (first
    | (at_builtin; refine wpList_append_own _ rfl (.tmp 5) (.tmp 6) 103 rfl w.heap.size 126 iK (.agg #[.int .i64 0, .string ⟨#[]⟩, .int .i64 0]) 3 32 Tryz.underlying103 hiK hzK hsK hbK rfl (by decide) _ 0 [] rfl ⟨rfl, Or.inr ⟨w.heap.size, 0, #[], rfl, Nat.le_refl _, alloc_blk w _, Nat.le_refl _, by unfold maxLen; omega, rfl, rfl⟩⟩ ⟨g, off, none⟩ n cap news rfl hl (fun j u hu => by rw [addr_none]; exact ((alloc_below w _).cell (p := ⟨g, off + j, none⟩) hg).trans (hc j u hu)) h1 (by unfold maxLen; omega) (by omega) (by simp) ?_; intro v' w1 hown1 hgrow1 _)
    | fail)
  go_ret
  have h6 : (w.alloc (.cells #[] 126)).heap.size = w.heap.size + 1 := by simp
  have h7 : w.heap.size ≤ w1.heap.size := Nat.le_trans (alloc_below w (.cells #[] 126)).size hgrow1.size
  exact ⟨_, rfl, hown1, ⟨hgrow1.os, hgrow1.tape, hgrow1.output, h7, fun k hk => (hgrow1.block k (Nat.lt_of_lt_of_le hk (alloc_below w (.cells #[] 126)).size) (fun e => absurd (Option.some.inj (show some k = some w.heap.size from e)) (Nat.ne_of_lt hk))).trans (Below.heap_alloc _ _ _ hk)⟩⟩
end Go.Proofs.YtfpbocjmlhcgiaaGreatDoor
/- clear at a slice of structs: the cells behind are put to the zero value; those ahead stay. -/
namespace Go.Proofs.YtfpbocjmlhcgiaaGreatDoor
open Go.RowKit PJ Go.Maps

theorem run_clear_row (w : World) (t e ty : TypeId) (z : Value) (ht : Tryz.prog.underlying t = some (.slice e)) (hv : ∀ w, (zeroValue e).run Tryz.prog w = .ok z w) (b o n c : Nat) (hn : 0 < n)
    (hc : ∀ j, j < (Builtin.zeroCells z.cells n).toList.length → (w.cell? ⟨b, o + j, none⟩).isSome = true) (hf : ∀ j, j < (Builtin.zeroCells z.cells n).toList.length → w.frozen? ⟨b, o + j, none⟩ = false)
    (h1 : ∀ v ∈ (Builtin.zeroCells z.cells n).toList, v.oneCell' = true) :
    (Builtin.clear_ #[t] ty #[.slice (some ⟨b, o, none⟩) n c]).run Tryz.prog w = .ok (.tuple #[]) (w.setCells b o (Builtin.zeroCells z.cells n).toList) := by
  have hst := run_storeCells_cells (P := Tryz.prog) b o (Builtin.zeroCells z.cells n).toList 0 w (by simpa using hc) (by simpa using hf) h1
  simp only [Nat.add_zero] at hst
  obtain ⟨m, rfl⟩ : ∃ m, n = m + 1 := ⟨n - 1, by omega⟩
  simp [Builtin.clear_, run_underlying ht, hv, hst]
end Go.Proofs.YtfpbocjmlhcgiaaGreatDoor
/- Plain: a journal's cells and its transactions; no program in sight. -/
namespace Go.Proofs.YtfpbocjmlhcgiaaGreatDoor.PJ

/-- A write. -/
structure Wr where
  cell : Int
  data : ByteArray
def longB (l : List Wr) : Bool := l.any fun w => decide (116 < w.data.size)
/-- Cells that are there, each once. -/
def apartW (n : Int) : List Int → List Wr → Bool
  | _, [] => true
  | seen, w :: r => ((decide (0 ≤ w.cell) && decide (w.cell < n)) && !seen.contains w.cell) && apartW n (w.cell :: seen) r
/-- What may tells of writes, n cells, an area. -/
def mayI (n area : Nat) (l : List Wr) : Int := if 40 < l.length ∨ area - 3 < l.length ∨ longB l = true then 162 else if apartW n [] l = true then 0 else 161
abbrev Cells := Nat → Option (List UInt8)
def putW (C : Cells) (w : Wr) : Cells := fun c => if (c : Int) = w.cell then some (padT w.data.data.toList 116) else C c
def putsW (C : Cells) (l : List Wr) : Cells := l.foldl putW C
/-- All cells, as they are read. -/
def cont (C : Cells) (h : Nat → List UInt8) (n : Nat) : List (List UInt8) := (List.range n).map fun c => (C c).getD (h c)
theorem cont_len (C : Cells) (h : Nat → List UInt8) (n : Nat) : (cont C h n).length = n := by simp [cont]
theorem cont_get {C : Cells} {h : Nat → List UInt8} {n c : Nat} (hc : c < n) : (cont C h n)[c]? = some ((C c).getD (h c)) := by simp [cont, hc]
/-- Cells behind a write. -/
def behindW (now : List (List UInt8)) (w : Wr) : List (List UInt8) := if 0 ≤ w.cell ∧ w.cell < now.length ∧ w.data.size ≤ 116 then now.set w.cell.toNat (padT w.data.data.toList 116) else now
def behindL (now : List (List UInt8)) (l : List Wr) : List (List UInt8) := l.foldl behindW now
theorem behind_put {C : Cells} {h : Nat → List UInt8} {n : Nat} {w : Wr} (h0 : 0 ≤ w.cell) (h1 : w.cell < n) (h2 : w.data.size ≤ 116) : behindW (cont C h n) w = cont (putW C w) h n := by
  obtain ⟨k, hk⟩ := Int.eq_ofNat_of_zero_le h0
  unfold behindW
  rw [if_pos ⟨h0, by rw [cont_len]; exact h1, h2⟩]
  apply List.ext_getElem?
  intro i
  have hkn : k < n := by omega
  by_cases hi : i < n
  · rw [cont_get hi]
    by_cases e : k = i
    · subst e
      rw [hk, Int.toNat_natCast, List.getElem?_set_self (by rw [cont_len]; exact hkn)]
      simp [putW, hk]
    · rw [hk, Int.toNat_natCast, List.getElem?_set_ne e, cont_get hi]
      have : ¬ (i : Int) = w.cell := by rw [hk]; omega
      simp [putW, this]
  · rw [List.getElem?_eq_none (by rw [List.length_set, cont_len]; omega), List.getElem?_eq_none (by rw [cont_len]; omega)]
theorem apart_in {n : Int} : ∀ {l : List Wr} {seen : List Int}, apartW n seen l = true → ∀ w ∈ l, 0 ≤ w.cell ∧ w.cell < n
  | x :: r, seen, h, w, hw => by
    unfold apartW at h
    simp only [Bool.and_eq_true, decide_eq_true_eq] at h
    rcases List.mem_cons.1 hw with rfl | hw
    · exact h.1.1
    · exact apart_in h.2 w hw
theorem long_in {l : List Wr} (h : longB l = false) : ∀ w ∈ l, w.data.size ≤ 116 := by
  intro w hw
  unfold longB at h
  have := List.any_eq_false.1 h w hw
  simpa using this
theorem behind_puts {h : Nat → List UInt8} {n : Nat} : ∀ {l : List Wr} {C : Cells}, (∀ w ∈ l, 0 ≤ w.cell ∧ w.cell < n ∧ w.data.size ≤ 116) → behindL (cont C h n) l = cont (putsW C l) h n
  | [], C, _ => rfl
  | w :: r, C, hl => by
    obtain ⟨h0, h1, h2⟩ := hl w (List.mem_cons_self ..)
    show behindL (behindW (cont C h n) w) r = cont (putsW (putW C w) r) h n
    rw [behind_put h0 h1 h2]
    exact behind_puts fun x hx => hl x (List.mem_cons_of_mem _ hx)
theorem may_ok {n area : Nat} {l : List Wr} (h : mayI n area l = 0) : l.length ≤ 40 ∧ l.length ≤ area - 3 ∧ ∀ w ∈ l, 0 ≤ w.cell ∧ w.cell < (n : Int) ∧ w.data.size ≤ 116 := by
  unfold mayI at h
  split at h
  · exact absurd h (by decide)
  · rename_i hn
    split at h
    · rename_i ha
      have hlong : longB l = false := by
        cases e : longB l
        · rfl
        · exact absurd (.inr (.inr e)) hn
      refine ⟨by omega, by omega, fun w hw => ?_⟩
      have := apart_in ha w hw
      exact ⟨this.1, this.2, long_in hlong w hw⟩
    · exact absurd h (by decide)
end Go.Proofs.YtfpbocjmlhcgiaaGreatDoor.PJ
