/- The walk of Parse. -/
import Derived.Test.YtaelkjffidjcjaaDoorAltAll
import Derived.Test.YtaelkjffidjcjaaDoorCheck
import Derived.Defers
import Derived.Recover
set_option linter.unusedSimpArgs false
set_option linter.unusedVariables false
namespace Go.Proofs.YtaelkjffidjcjaaDoor
open Go.RowKit PX

theorem assert_wrong (w : World) : (Instr.typeAssert (.iface 83 (.agg #[])) 20 83 true).run Tryd.prog w = .ok (.tuple #[.agg #[], .bool true]) w := by kernel_rfl
theorem assert_nil (w : World) : (Instr.typeAssert .nilIface 20 83 true).run Tryd.prog w = .ok (.tuple #[.agg #[], .bool false]) w := by kernel_rfl

set_option maxRecDepth 100000 in
set_option maxHeartbeats 1000000 in
theorem catch_panicking (p : Addr) (x : Int) (w : World) (hlt : p.block < w.heap.size) (hc : w.cell? p = some (.int .i64 x)) (hz : w.frozen? p = false) :
    CallsD Tryd.prog 47 #[.pointer (some p)] (.panicking wrongP) w fun e u' w' =>
      e = .returned (.tuple #[]) ∧ u' = .panicking [{ v := .iface 83 (.agg #[]), recovered := true }] ∧ w' = (w.alloc (.cells #[] 83)).setCell p (.int .i64 50) := by
  refine callsD_of_wpS Tryd.func47 rfl fun c₀ cs hu => ?_
  unfold wrongP at hu
  apply wpS_seq
  apply wpS_region
  simp [wpOpsS, go_sem, recoverD, hu, Tryd.ntmps47, Exit.thenS, assert_wrong]
  have hc2 : (w.alloc (.cells #[] 83)).cell? p = some (.int .i64 x) := (World.cell?_of_block (w := w) (Below.heap_alloc _ _ _ hlt)).trans hc
  have hz2 : (w.alloc (.cells #[] 83)).frozen? p = false := (World.frozen?_of_block (w := w) (Below.heap_alloc _ _ _ hlt)).trans hz
  apply wpS_seq
  apply wpS_region
  simp [wpOpsS, go_sem, Exit.thenS, Array.replicate]
  refine wpS_cond (t := true) (by simp [Act.eval, Array.replicate]) ?_
  simp only [if_true]
  apply wpS_region
  simp [wpOpsS, go_sem, hc2, hz2, bodyPostS, results, Tryd.results47]

set_option maxRecDepth 100000 in
set_option maxHeartbeats 1000000 in
theorem catch_idle (p : Addr) (w : World) :
    CallsD Tryd.prog 47 #[.pointer (some p)] .returning w fun e u' w' =>
      e = .returned (.tuple #[]) ∧ u' = .returning ∧ w' = w.alloc (.cells #[] 83) := by
  refine callsD_of_wpS Tryd.func47 rfl fun c₀ cs hu => ?_
  apply wpS_seq
  apply wpS_region
  simp [wpOpsS, go_sem, recoverD, hu, Tryd.ntmps47, Exit.thenS, assert_nil]
  apply wpS_seq
  apply wpS_region
  simp [wpOpsS, go_sem, Exit.thenS, Array.replicate]
  refine wpS_cond (t := false) (by simp [Act.eval, Array.replicate]) ?_
  simp only [Bool.false_eq_true, if_false]
  refine wpS_of_wp (wp_skip ?_)
  cases c₀
  simp_all [bodyPostS, results, Tryd.results47]

theorem load_errno (w : World) (g : Nat) (n : Int) (hc : w.cell? ⟨g, 0, none⟩ = some (.int .i64 n)) : (loadVar 28 ⟨g, 0, none⟩).run Tryd.prog w = .ok (.int .i64 n) w := by
  simp [loadVar, isAgg, run_underlying Tryd.underlying28, go_sem, hc]
theorem results_cell2 {fn : Func} {p q : Tmp} {ty tq : TypeId} (h : fn.results = #[.cell p ty, .cell q tq]) (tmps : Array Value) (P : Program) (w : World) (g g2 : Nat) (t : TypeId) (cs : Array Value) (fr : Nat × Nat) (fs : Array Field) (v : Value)
    (hp : tmps.getD p undef = .pointer (some ⟨g, 0, none⟩)) (hg : w.heap[g]? = some (.cells cs t fr))
    (hu : P.underlying ty = some (.struct fs)) (hi : (P.info? ty).map (·.size) = some cs.size)
    (hq : tmps.getD q undef = .pointer (some ⟨g2, 0, none⟩)) (hl : (loadVar tq ⟨g2, 0, none⟩).run P w = .ok v w) :
    (results fn tmps).run P w = .ok (.tuple #[.agg cs, v]) w := by
  have hp' : tmps[p]?.getD undef = .pointer (some ⟨g, 0, none⟩) := by simpa using hp
  have hq' : tmps[q]?.getD undef = .pointer (some ⟨g2, 0, none⟩) := by simpa using hq
  simp [results, h, hp', hq', asAddr, run_loadVar_row w g t ty cs fr (.struct fs) hg hu rfl hi, hl]

theorem below_setRow {B q : Nat} {a w : World} (h : Below B a w) (hq : B ≤ q) (cs : Array Value) : Below B a (w.setRow q cs) :=
  ⟨h.os, h.tape, h.output, by simpa using h.size, fun k hk => (setRow_other w q k cs (by omega)).trans (h.block k hk)⟩
/-- What Parse tells. -/
def ParseSays (w : World) (l : List UInt8) (e : Ending) (w' : World) : Prop :=
  Below w.heap.size w w' ∧ ((∃ X : RxA, parseR l = .inl X.bare ∧ e = .returned (.tuple #[.agg (cellsA X), .int .i64 0]) ∧ X.In w' w'.heap.size) ∨ ∃ n, parseR l = .inr n ∧ e = .returned (.tuple #[.agg (cellsA (setA Q4.none)), .int .i64 n]))
theorem parseR_eq {l : List UInt8} (h : l.length ≤ 128) : parseR l = match altR (3 * l.length + 3) [] [] l with | none => .inr 50 | some (x, r) => if r.isEmpty then (if 256 < x.sizeI then .inr 51 else .inl x) else .inr 50 := by
  unfold parseR
  rw [if_neg (by omega)]
  rfl
theorem tameAll_iff : ∀ l : List Rx, tameAll l ↔ ∀ y ∈ l, tame y
  | [] => by simp [tameAll]
  | x :: xs => by simp [tameAll, tameAll_iff xs]
theorem tame_set (q : Q4) : tame (.set q) := by simp [Rx.set, tame, tameAll]
theorem tame_joined {kind : Int} {l : List Rx} (h : ∀ y ∈ l, tame y) : tame (Rx.joined kind l) := by
  match l, h with
  | [], _ => simp [Rx.joined, tame, tameAll]
  | [x], h => exact h x (by simp)
  | x :: y :: l, h =>
    show tame (.node kind 0 0 0 0 0 0 (x :: y :: l))
    simp only [tame]
    exact ⟨by omega, by omega, (tameAll_iff _).2 h⟩
theorem tame_sign {x : Rx} {s : List UInt8} {y : Rx} {r : List UInt8} (hx : tame x) (h : sign x s = some (y, r)) : tame y := by
  have hrep : ∀ m n : Int, (0 ≤ m ∧ m ≤ 15) → (-1 ≤ n ∧ n ≤ 15) → tame (.rep m n x) := by
    intro m n hm hn
    simp only [Rx.rep, tame, tameAll, and_true]
    exact ⟨by omega, by omega, hx⟩
  unfold sign at h
  split at h
  · cases h; exact hrep _ _ (by omega) (by omega)
  · split at h
    · cases h; exact hrep _ _ (by omega) (by omega)
    · split at h
      · cases h; exact hrep _ _ (by omega) (by omega)
      · split at h
        · split at h
          · cases h
          · rename_i m n r1 h1
            have := counts_lt h1
            cases h; exact hrep _ _ this.2.1 this.2.2
        · cases h; exact hx
theorem read_tame (f : Nat) : (∀ (l row : List Rx) (s : List UInt8) (x : Rx) (r : List UInt8), (∀ y ∈ l, tame y) → (∀ y ∈ row, tame y) → altR f l row s = some (x, r) → tame x) ∧
    (∀ (s : List UInt8) (x : Rx) (r : List UInt8), pieceR f s = some (x, r) → tame x) ∧ (∀ (s : List UInt8) (x : Rx) (r : List UInt8), atomR f s = some (x, r) → tame x) := by
  induction f with
  | zero => exact ⟨fun _ _ _ _ _ _ _ h => by simp [altR] at h, fun _ _ _ h => by simp [pieceR] at h, fun _ _ _ h => by simp [atomR] at h⟩
  | succ f ih =>
    obtain ⟨ia, ip, it⟩ := ih
    refine ⟨fun l row s x r hl hrow h => ?_, fun s x r h => ?_, fun s x r h => ?_⟩
    · have hj : ∀ y ∈ l ++ [Rx.joined 1 row], tame y := by
        intro y hy
        rcases List.mem_append.1 hy with hy | hy
        · exact hl y hy
        · obtain rfl := List.mem_singleton.1 hy
          exact tame_joined hrow
      simp only [altR] at h
      split at h
      · split at h
        · exact ia _ _ _ _ _ hj (fun y hy => by cases hy) h
        · cases h; exact tame_joined hj
      · split at h
        · cases h
        · rename_i y t h1
          refine ia _ _ _ _ _ hl (fun z hz => ?_) h
          rcases List.mem_append.1 hz with hz | hz
          · exact hrow z hz
          · obtain rfl := List.mem_singleton.1 hz
            exact ip _ _ _ h1
    · simp only [pieceR] at h
      split at h
      · cases h
      · rename_i y t h1
        exact tame_sign (it _ _ _ h1) h
    · simp only [atomR] at h
      split at h
      · cases h; exact tame_set _
      · split at h
        · split at h
          · cases h
          · cases h; exact tame_set _
        · split at h
          · split at h
            · cases h
            · rename_i y t h2
              split at h
              · cases h; exact ia _ _ _ _ _ (fun y hy => by cases hy) (fun y hy => by cases hy) h2
              · cases h
          · split at h
            · cases h
            · cases h; exact tame_set _

set_option maxRecDepth 100000 in
set_option maxHeartbeats 1000000 in
theorem parse_long (w : World) (S : ByteArray) (h : 128 < S.size) :
    Calls Tryd.prog 32 #[.string S] w fun e w' => e = .returned (.tuple #[.agg (cellsA (setA Q4.none)), .int .i64 51]) ∧ Below w.heap.size w w' := by
  have hi : (128 : Int) < S.size := by omega
  have hh : ((w.alloc (.cells #[.int .i64 0, .int .i64 0, .int .i64 0, .int .u64 0, .int .u64 0, .int .u64 0, .int .u64 0, .slice none 0 0] 26)).alloc (.cells #[.int .i64 51] 28)).heap[w.heap.size]? = some (.cells (cellsA (setA Q4.none)) 26 (0, 0)) := alloc_old (alloc_block _ _) _
  have hc : ((w.alloc (.cells #[.int .i64 0, .int .i64 0, .int .i64 0, .int .u64 0, .int .u64 0, .int .u64 0, .int .u64 0, .slice none 0 0] 26)).alloc (.cells #[.int .i64 51] 28)).cell? ⟨w.heap.size + 1, 0, none⟩ = some (.int .i64 51) := cell_of_block (alloc_block' _ _ _ (by simp)) 0
  have HH := Lib.hid hh; have HC := Lib.hid hc; clear hh hc
  go_enter_defers Tryd.func32, Tryd.ntmps32
  go_wp2_with fail
  exact ⟨_, results_cell2 rfl _ _ _ w.heap.size (w.heap.size + 1) 26 (cellsA (setA Q4.none)) (0, 0) _ (.int .i64 51) rfl HH.out Tryd.underlying26 (info_rxA _) rfl (load_errno _ _ _ HC.out), rfl, ((Below.refl w.heap.size w).alloc (Nat.le_refl _) _).alloc (by simp) _⟩

/-- The world in which the pattern is read. -/
theorem parse_start (w : World) (l : List UInt8) (S : ByteArray) (hS : (⟨l.toArray⟩ : ByteArray) = S) : ReadAt (((w.alloc (.cells #[.int .i64 0, .int .i64 0, .int .i64 0, .int .u64 0, .int .u64 0, .int .u64 0, .int .u64 0, .slice none 0 0] 26)).alloc (.cells #[.int .i64 0] 28)).alloc (.cells #[.string S] 87)) (w.heap.size + 2) l := by
  unfold ReadAt
  rw [hS]
  exact alloc_block' _ _ _ (by simp)

theorem parse_blocks (w : World) (S : ByteArray) : (((w.alloc (.cells #[.int .i64 0, .int .i64 0, .int .i64 0, .int .u64 0, .int .u64 0, .int .u64 0, .int .u64 0, .slice none 0 0] 26)).alloc (.cells #[.int .i64 0] 28)).alloc (.cells #[.string S] 87)).heap[w.heap.size]? = some (.cells (cellsA (setA Q4.none)) 26 (0, 0)) ∧ (((w.alloc (.cells #[.int .i64 0, .int .i64 0, .int .i64 0, .int .u64 0, .int .u64 0, .int .u64 0, .int .u64 0, .slice none 0 0] 26)).alloc (.cells #[.int .i64 0] 28)).alloc (.cells #[.string S] 87)).heap[w.heap.size + 1]? = some (.cells #[.int .i64 0] 28 (0, 0)) ∧ (((w.alloc (.cells #[.int .i64 0, .int .i64 0, .int .i64 0, .int .u64 0, .int .u64 0, .int .u64 0, .int .u64 0, .slice none 0 0] 26)).alloc (.cells #[.int .i64 0] 28)).alloc (.cells #[.string S] 87)).heap.size = w.heap.size + 3 :=
  ⟨alloc_old (alloc_old (alloc_block _ _) _) _, alloc_old (alloc_block' _ _ _ (by simp)) _, by simp⟩
theorem parse_below (w : World) (S : ByteArray) : Below w.heap.size w (((w.alloc (.cells #[.int .i64 0, .int .i64 0, .int .i64 0, .int .u64 0, .int .u64 0, .int .u64 0, .int .u64 0, .slice none 0 0] 26)).alloc (.cells #[.int .i64 0] 28)).alloc (.cells #[.string S] 87)) := (((Below.refl w.heap.size w).alloc (Nat.le_refl _) _).alloc (by simp) _).alloc (by simp; omega) _
set_option maxRecDepth 100000 in
set_option maxHeartbeats 1000000 in
theorem parse_none (w : World) (S : ByteArray) (l : List UInt8) (hS : (⟨l.toArray⟩ : ByteArray) = S) (hl : l.length ≤ 128) (hn : altR (3 * l.length + 3) [] [] l = none) :
    Calls Tryd.prog 32 #[.string S] w fun e w' => ParseSays w l e w' := by
  have hpr : parseR l = .inr 50 := by rw [parseR_eq hl, hn]
  have hmf : ∀ (fn : Fn) (first cap : Array Value) (w : World), (Instr.makeFunc fn first cap).run Tryd.prog w = .ok (.func fn first cap) w := fun _ _ _ _ => rfl
  have hr := parse_start w l S hS
  have halt := alt_all (3 * l.length + 3) _ (w.heap.size + 2) l hr hl (by omega)
  rw [hn] at halt
  have HALT := Lib.hid (halt.mono fun e w2 hR => readsRx_none hR); clear halt hr hn
  have hsz : S.size = l.length := by rw [← hS]; simp [ByteArray.size]
  have hi : ¬ (128 : Int) < l.length := by omega
  clear hS
  go_enter_defers Tryd.func32, Tryd.ntmps32
  go_wp2_with (go_at_call 48; refine HALT.out.mono ?_; rintro e w1 ⟨rfl, o1⟩)
  obtain ⟨hE0, hB0, hw0⟩ := parse_blocks w S
  have hE1 := (o1.block w.heap.size (by omega) (by omega)).trans hE0
  have hB1 := (o1.block (w.heap.size + 1) (by omega) (by omega)).trans hB0
  have hs1 := o1.size
  have hbl : Below w.heap.size w w1 := (parse_below w S).trans (o1.below (by omega) (by intro j hj; omega))
  refine leaves_cons (f := 47) (args := #[.pointer (some ⟨w.heap.size + 1, 0, none⟩)]) (by simp) (by simp [go_sem]) ?_
  refine (catch_panicking ⟨w.heap.size + 1, 0, none⟩ 0 w1 (by show w.heap.size + 1 < _; omega) (cell_of_block hB1 0) (free_of_block hB1 0)).mono ?_
  rintro e u' w2 ⟨rfl, rfl, rfl⟩
  have hE2 : ((w1.alloc (.cells #[] 83)).setCell ⟨w.heap.size + 1, 0, none⟩ (.int .i64 50)).heap[w.heap.size]? = some (.cells (cellsA (setA Q4.none)) 26 (0, 0)) :=
    (Below.heap_setCell _ _ _ _ (by show w.heap.size ≠ w.heap.size + 1; omega)).trans (alloc_old hE1 _)
  have hB2 := cell_of_block (setCell_block (alloc_old hB1 (.cells #[] 83)) 0 (.int .i64 50)) 0
  exact ⟨_, results_cell2 rfl _ _ _ w.heap.size (w.heap.size + 1) 26 (cellsA (setA Q4.none)) (0, 0) _ (.int .i64 50) rfl hE2 Tryd.underlying26 (info_rxA _) rfl (load_errno _ _ _ hB2), (hbl.alloc hbl.size _).setCell (by show w.heap.size ≤ w.heap.size + 1; omega) _, .inr ⟨50, hpr, rfl⟩⟩

set_option maxRecDepth 100000 in
set_option maxHeartbeats 1000000 in
theorem parse_rest (w : World) (S : ByteArray) (l : List UInt8) (hS : (⟨l.toArray⟩ : ByteArray) = S) (hl : l.length ≤ 128) (x : Rx) (c : UInt8) (r : List UInt8) (hn : altR (3 * l.length + 3) [] [] l = some (x, c :: r)) :
    Calls Tryd.prog 32 #[.string S] w fun e w' => ParseSays w l e w' := by
  have hpr : parseR l = .inr 50 := by rw [parseR_eq hl, hn]; rfl
  have hmf : ∀ (fn : Fn) (first cap : Array Value) (w : World), (Instr.makeFunc fn first cap).run Tryd.prog w = .ok (.func fn first cap) w := fun _ _ _ _ => rfl
  have hr := parse_start w l S hS
  have halt := alt_all (3 * l.length + 3) _ (w.heap.size + 2) l hr hl (by omega)
  rw [hn] at halt
  have hsz : S.size = l.length := by rw [← hS]; simp [ByteArray.size]
  have hi : ¬ (128 : Int) < l.length := by omega
  clear hS
  have HALT := Lib.hid (halt.mono fun e w2 hR => rx_node (readsRx_some hR)); clear halt hr hn
  obtain ⟨T, HT⟩ : ∃ T : ByteArray, Hid ((⟨(c :: r).toArray⟩ : ByteArray) = T) := ⟨_, Lib.hid rfl⟩
  obtain ⟨hne, hem, -, -, -⟩ := full c r HT.out
  go_enter_defers Tryd.func32, Tryd.ntmps32
  go_wp2_with (first
    | (go_at_call 48; refine HALT.out.mono ?_; rintro e w0 ⟨k, mn, mx, s0, s1, s2, s3, a, cap, l', hX, rfl, h0, o0, hXin, hXb⟩; have o1 := o0.alloc (.cells #[.int .i64 k, .int .i64 mn, .int .i64 mx, .int .u64 s0, .int .u64 s1, .int .u64 s2, .int .u64 s3, .slice a l'.length cap] 26); have h1 : ReadAt (w0.alloc (.cells #[.int .i64 k, .int .i64 mn, .int .i64 mx, .int .u64 s0, .int .u64 s1, .int .u64 s2, .int .u64 s3, .slice a l'.length cap] 26)) (w.heap.size + 2) (c :: r) := alloc_old h0 _; have h1' := h1; unfold ReadAt at h1'; rw [HT.out] at h1'; have hc1 := read_cell h1')
    | (go_at_call 49; refine (must_no rfl _).mono ?_; rintro e wm ⟨rfl, hwm⟩; have hwm := hwm.symm; subst hwm))
  obtain ⟨w1, hw1⟩ : ∃ w1, w0.alloc (.cells #[.int .i64 k, .int .i64 mn, .int .i64 mx, .int .u64 s0, .int .u64 s1, .int .u64 s2, .int .u64 s3, .slice a l'.length cap] 26) = w1 := ⟨_, rfl⟩
  rw [hw1] at o1 ⊢
  obtain ⟨hE0, hB0, hw0⟩ := parse_blocks w S
  have hE1 := (o1.block w.heap.size (by omega) (by omega)).trans hE0
  have hB1 := (o1.block (w.heap.size + 1) (by omega) (by omega)).trans hB0
  have hs1 := o1.size
  have hbl : Below w.heap.size w w1 := (parse_below w S).trans (o1.below (by omega) (by intro j hj; omega))
  refine leaves_cons (f := 47) (args := #[.pointer (some ⟨w.heap.size + 1, 0, none⟩)]) (by simp) (by simp [go_sem]) ?_
  refine (catch_panicking ⟨w.heap.size + 1, 0, none⟩ 0 w1 (by show w.heap.size + 1 < _; omega) (cell_of_block hB1 0) (free_of_block hB1 0)).mono ?_
  rintro e u' w2 ⟨rfl, rfl, rfl⟩
  have hE2 : ((w1.alloc (.cells #[] 83)).setCell ⟨w.heap.size + 1, 0, none⟩ (.int .i64 50)).heap[w.heap.size]? = some (.cells (cellsA (setA Q4.none)) 26 (0, 0)) :=
    (Below.heap_setCell _ _ _ _ (by show w.heap.size ≠ w.heap.size + 1; omega)).trans (alloc_old hE1 _)
  have hB2 := cell_of_block (setCell_block (alloc_old hB1 (.cells #[] 83)) 0 (.int .i64 50)) 0
  exact ⟨_, results_cell2 rfl _ _ _ w.heap.size (w.heap.size + 1) 26 (cellsA (setA Q4.none)) (0, 0) _ (.int .i64 50) rfl hE2 Tryd.underlying26 (info_rxA _) rfl (load_errno _ _ _ hB2), (hbl.alloc hbl.size _).setCell (by show w.heap.size ≤ w.heap.size + 1; omega) _, .inr ⟨50, hpr, rfl⟩⟩

set_option maxRecDepth 100000 in
set_option maxHeartbeats 1000000 in
theorem parse_done (w : World) (S : ByteArray) (l : List UInt8) (hS : (⟨l.toArray⟩ : ByteArray) = S) (hl : l.length ≤ 128) (x : Rx) (hn : altR (3 * l.length + 3) [] [] l = some (x, [])) :
    Calls Tryd.prog 32 #[.string S] w fun e w' => ParseSays w l e w' := by
  have hpr : parseR l = if 256 < x.sizeI then .inr 51 else .inl x := by rw [parseR_eq hl, hn]; rfl
  have htm := (read_tame (3 * l.length + 3)).1 [] [] l x [] (fun y hy => by cases hy) (fun y hy => by cases hy) hn
  have HTM := Lib.hid htm; clear htm
  have hmf : ∀ (fn : Fn) (first cap : Array Value) (w : World), (Instr.makeFunc fn first cap).run Tryd.prog w = .ok (.func fn first cap) w := fun _ _ _ _ => rfl
  have hr := parse_start w l S hS
  have halt := alt_all (3 * l.length + 3) _ (w.heap.size + 2) l hr hl (by omega)
  rw [hn] at halt
  have hsz : S.size = l.length := by rw [← hS]; simp [ByteArray.size]
  have hi : ¬ (128 : Int) < l.length := by omega
  clear hS
  have HALT := Lib.hid (halt.mono fun e w2 hR => rx_node (readsRx_some hR)); clear halt hr hn
  obtain ⟨n, hnn⟩ : ∃ n, x.sizeI = n := ⟨_, rfl⟩
  rw [hnn] at hpr
  have HNN := Lib.hid hnn; clear hnn
  obtain ⟨hE0, hB0, hw0⟩ := parse_blocks w S
  have HE0 := Lib.hid hE0; have HB0 := Lib.hid hB0; clear hE0 hB0
  have hbl0 := parse_below w S
  have HBL0 := Lib.hid hbl0; clear hbl0
  by_cases hbig : 256 < n
  · rw [if_pos hbig] at hpr
    have HPR := Lib.hid hpr; clear hpr
    go_enter_defers Tryd.func32, Tryd.ntmps32
    go_wp2_with (first
      | (go_at_call 48; refine HALT.out.mono ?_; rintro e w0 ⟨k, mn, mx, s0, s1, s2, s3, a, cap, l', hX, rfl, h0, o0, hXin, hXb⟩; have hs0 := o0.size; have h1 : ReadAt (w0.alloc (.cells #[.int .i64 k, .int .i64 mn, .int .i64 mx, .int .u64 s0, .int .u64 s1, .int .u64 s2, .int .u64 s3, .slice a l'.length cap] 26)) (w.heap.size + 2) [] := alloc_old h0 _; have hc1 : (w0.alloc (.cells #[.int .i64 k, .int .i64 mn, .int .i64 mx, .int .u64 s0, .int .u64 s1, .int .u64 s2, .int .u64 s3, .slice a l'.length cap] 26)).cell? ⟨w.heap.size + 2, 0, none⟩ = some (.string ⟨#[]⟩) := read_cell h1; have HX2 := Lib.hid (alloc_block w0 (.cells #[.int .i64 k, .int .i64 mn, .int .i64 mx, .int .u64 s0, .int .u64 s1, .int .u64 s2, .int .u64 s3, .slice a l'.length cap] 26)); have HE2 := Lib.hid (alloc_old ((o0.block w.heap.size (by omega) (by omega)).trans HE0.out) (.cells #[.int .i64 k, .int .i64 mn, .int .i64 mx, .int .u64 s0, .int .u64 s1, .int .u64 s2, .int .u64 s3, .slice a l'.length cap] 26)); have HB2 := Lib.hid (alloc_old ((o0.block (w.heap.size + 1) (by omega) (by omega)).trans HB0.out) (.cells #[.int .i64 k, .int .i64 mn, .int .i64 mx, .int .u64 s0, .int .u64 s1, .int .u64 s2, .int .u64 s3, .slice a l'.length cap] 26)); have hxi2 : RxA.In (w0.alloc (.cells #[.int .i64 k, .int .i64 mn, .int .i64 mx, .int .u64 s0, .int .u64 s1, .int .u64 s2, .int .u64 s3, .slice a l'.length cap] 26)) w0.heap.size (RxA.node k mn mx s0 s1 s2 s3 a cap l') := hXin.below (Below.alloc (Below.refl w0.heap.size w0) (Nat.le_refl _) (.cells #[.int .i64 k, .int .i64 mn, .int .i64 mx, .int .u64 s0, .int .u64 s1, .int .u64 s2, .int .u64 s3, .slice a l'.length cap] 26)) (Nat.le_refl _); have HXI2 := Lib.hid hxi2; have HXI := Lib.hid hXin; have HXB := Lib.hid hXb; have htm : tame (RxA.bare (RxA.node k mn mx s0 s1 s2 s3 a cap l')) := hX ▸ HTM.out; have HTM2 := Lib.hid htm; have hsz2 : (RxA.bare (RxA.node k mn mx s0 s1 s2 s3 a cap l')).sizeI = n := hX ▸ HNN.out; have HSZ2 := Lib.hid hsz2; have HXX := Lib.hid hX; have HBLW := Lib.hid (HBL0.out.trans (o0.below (B := w.heap.size) (by omega) (by intro j hj; omega))); have hw3 : w.heap.size + 3 ≤ w0.heap.size := (by omega); clear hxi2 hXin hXb htm hsz2 hX)
      | (go_at_call 49; refine (must_yes rfl _).mono ?_; rintro e wm ⟨rfl, hwm⟩; have hwm := hwm.symm; subst hwm)
      | (go_at_call 50; refine (psize_any (RxA.node k mn mx s0 s1 s2 s3 a cap l') (w0.alloc (.cells #[.int .i64 k, .int .i64 mn, .int .i64 mx, .int .u64 s0, .int .u64 s1, .int .u64 s2, .int .u64 s3, .slice a l'.length cap] 26)) w0.heap.size (by simp) HXI2.out HTM2.out).mono ?_; rintro e w5 ⟨rfl, hb5⟩; rw [HSZ2.out]; have HX5 := Lib.hid ((hb5.block w0.heap.size (by simp)).trans HX2.out); have HE5 := Lib.hid ((hb5.block w.heap.size (by simp; omega)).trans HE2.out); have hB5 := (hb5.block (w.heap.size + 1) (by simp; omega)).trans HB2.out; have hcb5 : ∀ cs, (w5.setRow w.heap.size cs).cell? ⟨w.heap.size + 1, 0, none⟩ = some (.int .i64 0) := fun cs => cell_of_block ((setRow_other w5 w.heap.size (w.heap.size + 1) cs (by omega)).trans hB5) 0; have hfb5 : ∀ cs, (w5.setRow w.heap.size cs).frozen? ⟨w.heap.size + 1, 0, none⟩ = false := fun cs => free_of_block ((setRow_other w5 w.heap.size (w.heap.size + 1) cs (by omega)).trans hB5) 0; have HB5 := Lib.hid hB5; have HBL5 := Lib.hid ((HBLW.out.alloc (by have := HBLW.out.size; omega) (.cells #[.int .i64 k, .int .i64 mn, .int .i64 mx, .int .u64 s0, .int .u64 s1, .int .u64 s2, .int .u64 s3, .slice a l'.length cap] 26)).trans (hb5.mono (by simp; omega))); clear hB5)
      | (refine wpList_load_row rfl 26 (.tmp 2) ?_ w.heap.size ?_ 26 #[.int .i64 0, .int .i64 0, .int .i64 0, .int .u64 0, .int .u64 0, .int .u64 0, .int .u64 0, .slice none 0 0] (0, 0) _ ?_ Tryd.underlying26 rfl info_rx ?_; (with_reducible rfl); rfl; exact HE5.out)
      | (refine wpList_store_row rfl 26 (.tmp 2) (.tmp 25) ?_ w.heap.size #[.int .i64 0, .int .i64 0, .int .i64 0, .int .u64 0, .int .u64 0, .int .u64 0, .int .u64 0, .slice none 0 0] ?_ ?_ 26 (cellsA (setA Q4.none)) ?_ info_rx rfl (cellsA_one (setA Q4.none)) ?_; (with_reducible rfl); rfl; rfl; exact HE5.out))
    refine leaves_cons (f := 47) (args := #[.pointer (some ⟨w.heap.size + 1, 0, none⟩)]) (by simp) (by simp [go_sem]) ?_
    refine (catch_idle ⟨w.heap.size + 1, 0, none⟩ _).mono ?_
    rintro e u' w6 ⟨rfl, rfl, rfl⟩
    have hB6 := cell_of_block (alloc_old (setCell_block ((setRow_other w5 w.heap.size (w.heap.size + 1) #[.int .i64 0, .int .i64 0, .int .i64 0, .int .u64 0, .int .u64 0, .int .u64 0, .int .u64 0, .slice none 0 0] (by omega)).trans HB5.out) 0 (.int .i64 51)) (.cells #[] 83)) 0
    have hE6 := alloc_old ((Below.heap_setCell (w5.setRow w.heap.size #[.int .i64 0, .int .i64 0, .int .i64 0, .int .u64 0, .int .u64 0, .int .u64 0, .int .u64 0, .slice none 0 0]) ⟨w.heap.size + 1, 0, none⟩ (.int .i64 51) w.heap.size (by show w.heap.size ≠ w.heap.size + 1; omega)).trans (setRow_heap _ _ _ _ _ _ HE5.out)) (.cells #[] 83)
    refine ⟨_, results_cell2 rfl _ _ _ w.heap.size (w.heap.size + 1) 26 (cellsA (setA Q4.none)) (0, 0) _ (.int .i64 51) rfl hE6 Tryd.underlying26 (info_rxA _) rfl (load_errno _ _ _ hB6), ?_, .inr ⟨51, HPR.out, rfl⟩⟩
    exact ((below_setRow HBL5.out (Nat.le_refl _) _).setCell (by show w.heap.size ≤ w.heap.size + 1; omega) _).alloc (by have := HBL5.out.size; simp; omega) _
  · rw [if_neg hbig] at hpr
    have HPR := Lib.hid hpr; clear hpr
    go_enter_defers Tryd.func32, Tryd.ntmps32
    go_wp2_with (first
      | (go_at_call 48; refine HALT.out.mono ?_; rintro e w0 ⟨k, mn, mx, s0, s1, s2, s3, a, cap, l', hX, rfl, h0, o0, hXin, hXb⟩; have hs0 := o0.size; have h1 : ReadAt (w0.alloc (.cells #[.int .i64 k, .int .i64 mn, .int .i64 mx, .int .u64 s0, .int .u64 s1, .int .u64 s2, .int .u64 s3, .slice a l'.length cap] 26)) (w.heap.size + 2) [] := alloc_old h0 _; have hc1 : (w0.alloc (.cells #[.int .i64 k, .int .i64 mn, .int .i64 mx, .int .u64 s0, .int .u64 s1, .int .u64 s2, .int .u64 s3, .slice a l'.length cap] 26)).cell? ⟨w.heap.size + 2, 0, none⟩ = some (.string ⟨#[]⟩) := read_cell h1; have HX2 := Lib.hid (alloc_block w0 (.cells #[.int .i64 k, .int .i64 mn, .int .i64 mx, .int .u64 s0, .int .u64 s1, .int .u64 s2, .int .u64 s3, .slice a l'.length cap] 26)); have HE2 := Lib.hid (alloc_old ((o0.block w.heap.size (by omega) (by omega)).trans HE0.out) (.cells #[.int .i64 k, .int .i64 mn, .int .i64 mx, .int .u64 s0, .int .u64 s1, .int .u64 s2, .int .u64 s3, .slice a l'.length cap] 26)); have HB2 := Lib.hid (alloc_old ((o0.block (w.heap.size + 1) (by omega) (by omega)).trans HB0.out) (.cells #[.int .i64 k, .int .i64 mn, .int .i64 mx, .int .u64 s0, .int .u64 s1, .int .u64 s2, .int .u64 s3, .slice a l'.length cap] 26)); have hxi2 : RxA.In (w0.alloc (.cells #[.int .i64 k, .int .i64 mn, .int .i64 mx, .int .u64 s0, .int .u64 s1, .int .u64 s2, .int .u64 s3, .slice a l'.length cap] 26)) w0.heap.size (RxA.node k mn mx s0 s1 s2 s3 a cap l') := hXin.below (Below.alloc (Below.refl w0.heap.size w0) (Nat.le_refl _) (.cells #[.int .i64 k, .int .i64 mn, .int .i64 mx, .int .u64 s0, .int .u64 s1, .int .u64 s2, .int .u64 s3, .slice a l'.length cap] 26)) (Nat.le_refl _); have HXI2 := Lib.hid hxi2; have HXI := Lib.hid hXin; have HXB := Lib.hid hXb; have htm : tame (RxA.bare (RxA.node k mn mx s0 s1 s2 s3 a cap l')) := hX ▸ HTM.out; have HTM2 := Lib.hid htm; have hsz2 : (RxA.bare (RxA.node k mn mx s0 s1 s2 s3 a cap l')).sizeI = n := hX ▸ HNN.out; have HSZ2 := Lib.hid hsz2; have HXX := Lib.hid hX; have HBLW := Lib.hid (HBL0.out.trans (o0.below (B := w.heap.size) (by omega) (by intro j hj; omega))); have hw3 : w.heap.size + 3 ≤ w0.heap.size := (by omega); clear hxi2 hXin hXb htm hsz2 hX)
      | (go_at_call 49; refine (must_yes rfl _).mono ?_; rintro e wm ⟨rfl, hwm⟩; have hwm := hwm.symm; subst hwm)
      | (go_at_call 50; refine (psize_any (RxA.node k mn mx s0 s1 s2 s3 a cap l') (w0.alloc (.cells #[.int .i64 k, .int .i64 mn, .int .i64 mx, .int .u64 s0, .int .u64 s1, .int .u64 s2, .int .u64 s3, .slice a l'.length cap] 26)) w0.heap.size (by simp) HXI2.out HTM2.out).mono ?_; rintro e w5 ⟨rfl, hb5⟩; rw [HSZ2.out]; have HX5 := Lib.hid ((hb5.block w0.heap.size (by simp)).trans HX2.out); have HE5 := Lib.hid ((hb5.block w.heap.size (by simp; omega)).trans HE2.out); have hB5 := (hb5.block (w.heap.size + 1) (by simp; omega)).trans HB2.out; have hcb5 : ∀ cs, (w5.setRow w.heap.size cs).cell? ⟨w.heap.size + 1, 0, none⟩ = some (.int .i64 0) := fun cs => cell_of_block ((setRow_other w5 w.heap.size (w.heap.size + 1) cs (by omega)).trans hB5) 0; have hfb5 : ∀ cs, (w5.setRow w.heap.size cs).frozen? ⟨w.heap.size + 1, 0, none⟩ = false := fun cs => free_of_block ((setRow_other w5 w.heap.size (w.heap.size + 1) cs (by omega)).trans hB5) 0; have HB5 := Lib.hid hB5; have HBL5 := Lib.hid ((HBLW.out.alloc (by have := HBLW.out.size; omega) (.cells #[.int .i64 k, .int .i64 mn, .int .i64 mx, .int .u64 s0, .int .u64 s1, .int .u64 s2, .int .u64 s3, .slice a l'.length cap] 26)).trans (hb5.mono (by simp; omega))); clear hB5)
      | (refine wpList_load_row rfl 26 (.tmp 5) ?_ w0.heap.size ?_ 26 #[.int .i64 k, .int .i64 mn, .int .i64 mx, .int .u64 s0, .int .u64 s1, .int .u64 s2, .int .u64 s3, .slice a l'.length cap] (0, 0) _ ?_ Tryd.underlying26 rfl info_rx ?_; (with_reducible rfl); rfl; exact HX5.out)
      | (refine wpList_store_row rfl 26 (.tmp 2) (.tmp 26) ?_ w.heap.size #[.int .i64 k, .int .i64 mn, .int .i64 mx, .int .u64 s0, .int .u64 s1, .int .u64 s2, .int .u64 s3, .slice a l'.length cap] ?_ ?_ 26 (cellsA (setA Q4.none)) ?_ info_rx rfl (cellsA_one (RxA.node k mn mx s0 s1 s2 s3 a cap l')) ?_; (with_reducible rfl); rfl; rfl; exact HE5.out))
    refine leaves_cons (f := 47) (args := #[.pointer (some ⟨w.heap.size + 1, 0, none⟩)]) (by simp) (by simp [go_sem]) ?_
    refine (catch_idle ⟨w.heap.size + 1, 0, none⟩ _).mono ?_
    rintro e u' w6 ⟨rfl, rfl, rfl⟩
    have hB6 := cell_of_block (alloc_old (setCell_block ((setRow_other w5 w.heap.size (w.heap.size + 1) #[.int .i64 k, .int .i64 mn, .int .i64 mx, .int .u64 s0, .int .u64 s1, .int .u64 s2, .int .u64 s3, .slice a l'.length cap] (by omega)).trans HB5.out) 0 (.int .i64 0)) (.cells #[] 83)) 0
    have hE6 := alloc_old ((Below.heap_setCell (w5.setRow w.heap.size #[.int .i64 k, .int .i64 mn, .int .i64 mx, .int .u64 s0, .int .u64 s1, .int .u64 s2, .int .u64 s3, .slice a l'.length cap]) ⟨w.heap.size + 1, 0, none⟩ (.int .i64 0) w.heap.size (by show w.heap.size ≠ w.heap.size + 1; omega)).trans (setRow_heap _ _ _ _ _ _ HE5.out)) (.cells #[] 83)
    have hbl6 : Below w.heap.size w (((w5.setRow w.heap.size #[.int .i64 k, .int .i64 mn, .int .i64 mx, .int .u64 s0, .int .u64 s1, .int .u64 s2, .int .u64 s3, .slice a l'.length cap]).setCell ⟨w.heap.size + 1, 0, none⟩ (.int .i64 0)).alloc (.cells #[] 83)) :=
      ((below_setRow HBL5.out (Nat.le_refl _) _).setCell (by show w.heap.size ≤ w.heap.size + 1; omega) _).alloc (by have := HBL5.out.size; simp; omega) _
    refine ⟨_, results_cell2 rfl _ _ _ w.heap.size (w.heap.size + 1) 26 #[.int .i64 k, .int .i64 mn, .int .i64 mx, .int .u64 s0, .int .u64 s1, .int .u64 s2, .int .u64 s3, .slice a l'.length cap] (0, 0) _ (.int .i64 0) rfl hE6 Tryd.underlying26 info_rx rfl (load_errno _ _ _ hB6), hbl6, .inl ⟨(RxA.node k mn mx s0 s1 s2 s3 a cap l'), by rw [← HXX.out]; exact HPR.out, rfl, ?_⟩⟩
    refine HXI.out.keep fun b hb => ?_
    have hb2 := HXB.out b hb
    have hs5 := hb5.size
    simp only [World.size_alloc] at hs5
    refine ⟨by simp; omega, fun o => World.cell?_of_block (w := w0) ?_⟩
    show (World.alloc _ _).heap[b]? = _
    rw [Below.heap_alloc _ _ _ (by simp; omega), Below.heap_setCell _ _ _ _ (by show b ≠ w.heap.size + 1; omega), setRow_other _ _ _ _ (by omega), hb5.block b (by simp; omega), Below.heap_alloc _ _ _ hb2.2]

theorem parse_any (w : World) (S : ByteArray) : Calls Tryd.prog 32 #[.string S] w fun e w' => ParseSays w S.data.toList e w' := by
  have hS : (⟨S.data.toList.toArray⟩ : ByteArray) = S := by simp
  have hlen : S.data.toList.length = S.size := by rw [Array.length_toList]; rfl
  by_cases hl : 128 < S.size
  · refine (parse_long w S hl).mono ?_
    rintro e w' ⟨he, hb⟩
    exact ⟨hb, .inr ⟨51, by unfold parseR; rw [if_pos (by omega)], he⟩⟩
  · cases hn : altR (3 * S.data.toList.length + 3) [] [] S.data.toList with
    | none => exact parse_none w S _ hS (by omega) hn
    | some p =>
      obtain ⟨x, r⟩ := p
      cases r with
      | nil => exact parse_done w S _ hS (by omega) x hn
      | cons c r => exact parse_rest w S _ hS (by omega) x c r hn
end Go.Proofs.YtaelkjffidjcjaaDoor
