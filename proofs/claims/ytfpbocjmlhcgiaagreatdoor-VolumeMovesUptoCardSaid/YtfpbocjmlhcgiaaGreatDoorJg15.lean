/- Jg15, merged: J55 J56. -/
import Derived.Test.YtfpbocjmlhcgiaaGreatDoorJg14
set_option linter.unusedSimpArgs false
set_option linter.unusedVariables false
/- strings.Repeat of the byte 0. -/
namespace Go.Proofs.YtfpbocjmlhcgiaaGreatDoor
open Go.RowKit PJ Go.Maps

set_option maxHeartbeats 2000000 in
set_option maxRecDepth 100000 in
theorem jbgrow_any (B b n : Nat) (w : World) (hB : B ≤ b) (hbk : w.heap[b]? = some (.cells #[.pointer none, .slice none 0 0] 164 (0, 0))) (hBw : B ≤ w.heap.size) (hn1 : 1 ≤ n) (hn : n ≤ 1000) :
    Calls Tryz.prog 128 #[.pointer (some ⟨b, 0, none⟩), .int .i64 n] w fun e w' => e = .returned (.tuple #[]) ∧ JB B b [] w' ∧ Below B w w' := by
  have hlt := lt_blk hbk
  have c0 : w.cell? ⟨b, 0, none⟩ = some (.pointer none) := cell_blk hbk 0
  have HCK := Lib.hid (jcheck_fresh b w c0 (by simp [World.shape?, hbk]) (free_blk hbk 0))
  have h1 := heap_setCell_same w b 0 _ _ (.pointer (some ⟨b, 0, none⟩)) hbk
  obtain ⟨w1, hw1⟩ : ∃ w1, w.setCell ⟨b, 0, none⟩ (.pointer (some ⟨b, 0, none⟩)) = w1 := ⟨_, rfl⟩
  rw [hw1] at h1 HCK
  have hb1 : Below B w w1 := by rw [← hw1]; exact (Below.refl B w).setCell (p := ⟨b, 0, none⟩) hB _
  have c1 : w1.cell? ⟨b, 1, none⟩ = some (.slice none 0 0) := cell_blk h1 1
  have HG := Lib.hid (fun m => show Calls Tryz.prog 182 #[.pointer (some ⟨b, 0, none⟩), .int .i64 n] (w1.drewN m) fun e w' => e = .returned (.tuple #[]) ∧ JB B b [] w' ∧ Below B w1 w' from
    (Any.Builder_grow_fresh Tryz.lays241 Tryz.Builder_Extra_241 B b n (w1.drewN m) hB h1 (Nat.le_trans hBw hb1.size) (by omega)).mono (by
      rintro e w' ⟨rfl, h2, h3⟩
      exact ⟨rfl, .inr (Lib.BuilderAtF.of h2), ⟨h3.os, h3.tape, h3.output, h3.size, h3.block⟩⟩))
  have HB1 := Lib.hid hb1
  have hni : (0 : Int) < (n : Int) := by omega
  clear hbk c0 h1 hb1 hw1
  go_enter Tryz.func128, Tryz.ntmps128
  go_upto_region 3 with (first
    | (go_at_call 162; (with_reducible refine HCK.out.mono ?_); rintro e w2 ⟨rfl, hw2⟩; have hw2 := hw2.symm; subst hw2)
    | fail)
  go_quiet (fail)
  go_wp2_with (first
    | (go_at_call 182; (with_reducible refine (HG.out _).mono ?_); rintro e w3 ⟨rfl, hj3, hb3⟩)
    | fail)
  go_end0
  exact ⟨rfl, hj3, HB1.out.trans hb3⟩
theorem run_min3J {P : Program} {w : World} (ts : Array TypeId) (t : TypeId) (k k' k'' : IntKind) (x y z : Int) :
    (Builtin.min_ ts t #[.int k x, .int k' y, .int k'' z]).run P w = .ok (.int k (if z < (if y < x then y else x) then z else (if y < x then y else x))) w := by
  simp [Builtin.min_, Builtin.min2]
theorem repl_take (k j : Nat) (h : j ≤ k) : (⟨(List.replicate k (0 : UInt8)).toArray⟩ : ByteArray).extract 0 j = ⟨(List.replicate j (0 : UInt8)).toArray⟩ := by
  apply ByteArray.ext
  apply Array.toList_inj.1
  have := ex_list (⟨(List.replicate k (0 : UInt8)).toArray⟩ : ByteArray) 0 j
  rw [this]
  simp
  omega
/-- How many bytes a builder holds. -/
def jbLen (w : World) (b : Nat) : Nat := match w.cell? ⟨b, 1, none⟩ with | some (.slice _ n _) => n | _ => 0
theorem JB.len {B b : Nat} {l : List UInt8} {w : World} (h : JB B b l w) : jbLen w b = l.length := by
  obtain ⟨p, hB, v, hbk, hown, hne⟩ : ∃ p, Lib.BuilderAtF 164 5 B b p (Lib.byteCells l) w := by
    rcases h with h | h
    · exact ⟨_, h⟩
    · exact ⟨_, h⟩
  have c1 : w.cell? ⟨b, 1, none⟩ = some v := cell_blk hbk 1
  unfold jbLen
  rw [c1]
  have hl : (Lib.byteCells l).length = l.length := Lib.byteCells_length l
  rcases hown.2 with ⟨rfl, h0⟩ | ⟨g, cap, cur, fz, rfl, -⟩
  · show 0 = l.length
    omega
  · exact hl
set_option maxHeartbeats 4000000 in
set_option maxRecDepth 100000 in
theorem repeat_any (w : World) (c : Nat) (hc : c ≤ 116) :
    Calls Tryz.prog 65 #[.string ⟨#[0]⟩, .int .i64 c] w fun e w' => e = .returned (.string ⟨(List.replicate c (0 : UInt8)).toArray⟩) ∧ LJ w w' := by
  rcases (by omega : c = 0 ∨ c = 1 ∨ 2 ≤ c) with rfl | rfl | h2
  · go_enter Tryz.func65, Tryz.ntmps65
    go_wp2_with fail
    go_ret
    exact ⟨rfl, LJ.refl w⟩
  · go_enter Tryz.func65, Tryz.ntmps65
    go_wp2_with fail
    go_ret
    exact ⟨rfl, LJ.refl w⟩
  · have hM := Any.bits_Mul Tryz.lays212 1 c (by omega) (by omega) w
    rw [Nat.one_mul, Nat.div_eq_of_lt (by omega), Nat.mod_eq_of_lt (by omega)] at hM
    have HM := Lib.hid (show Calls Tryz.prog 126 #[.int .u64 1, .int .u64 c] w fun e w' => e = .returned (.tuple #[.int .u64 0, .int .u64 c]) ∧ w' = w from hM)
    clear hM
    obtain ⟨w1, hw1⟩ : ∃ w1, w.alloc (.cells #[.pointer none, .slice none 0 0] 164) = w1 := ⟨_, rfl⟩
    have hl1 : LJ w w1 := by rw [← hw1]; exact (LJ.refl w).alloc _
    have hb1 : w1.heap[w.heap.size]? = some (.cells #[.pointer none, .slice none 0 0] 164 (0, 0)) := by rw [← hw1]; exact alloc_blk w _
    have hs1 : w.heap.size ≤ w1.heap.size := Below.size hl1
    have HGR := Lib.hid (jbgrow_any w.heap.size w.heap.size c w1 (Nat.le_refl _) hb1 hs1 (by omega) (by omega))
    have HW1 := Lib.hid hw1
    have HL1 := Lib.hid hl1
    have hci : (c : Int) ≤ 116 := by omega
    have hc2 : (2 : Int) ≤ (c : Int) := by omega
    have e0 : ((c : Int) == 0) = false := by simp; omega
    have e1 : ((c : Int) == 1) = false := by simp; omega
    clear hw1 hl1 hb1
    go_enter Tryz.func65, Tryz.ntmps65
    go_upto_region 36 with (first
      | (go_at_call 126; (with_reducible refine HM.out.mono ?_); rintro e w2 ⟨rfl, hw2⟩; have hw2 := hw2.symm; subst hw2)
      | fail)
    rw [HW1.out]
    have HWS := Lib.hid (fun W (hW : JB w.heap.size w.heap.size [] W) (hs : w.heap.size ≤ W.heap.size) => jbwrite_any w.heap.size w.heap.size [] ⟨#[0]⟩ W hW (by decide) hs)
    go_upto_region 38 with (first
      | (go_at_call 128; (with_reducible refine HGR.out.mono ?_); rintro e w3 ⟨rfl, hj3, hb3⟩; have HJ3 := Lib.hid hj3; have HB3 := Lib.hid hb3; clear hj3 hb3)
      | (go_at_call 113; (with_reducible refine (HWS.out _ HJ3.out (by have := HB3.out.size; omega)).mono ?_); rintro e w4 ⟨rfl, hj4, hb4⟩; have HJ4 := Lib.hid hj4; have HB4 := Lib.hid (HB3.out.trans hb4); clear hj4 hb4)
      | fail)
    have hmn := @run_min3J Tryz.prog
    go_loopw [10] (fun _ wr => ∃ k : Nat, 1 ≤ k ∧ k ≤ c ∧ Hid (JB w.heap.size w.heap.size (List.replicate k 0) wr) ∧ Hid (Below w.heap.size w1 wr)) (fun _ wr => c - jbLen wr w.heap.size)
    case atStart => exact ⟨1, by omega, by omega, HJ4, HB4⟩
    case round =>
      obtain ⟨k, hk1, hk2, HJ, HB⟩ := hrel
      have hsr : w.heap.size ≤ wr.heap.size := by have := HB.out.size; omega
      have HLN := Lib.hid (jblen_any w.heap.size w.heap.size (List.replicate k 0) wr HJ.out)
      rw [List.length_replicate] at HLN
      have HSR := Lib.hid hsr
      by_cases hkc : k < c
      · obtain ⟨m, hm1, hm2, hm3⟩ : ∃ m : Nat, 1 ≤ m ∧ m ≤ k ∧ k + m ≤ c ∧ (∀ W ts t, (Builtin.min_ ts t #[.int .i64 ((c : Int) - (k : Int)), .int .i64 (k : Int), .int .i64 (c : Int)]).run Tryz.prog W = .ok (.int .i64 (m : Int)) W) := by
          refine ⟨min k (c - k), by omega, by omega, by omega, fun W ts t => ?_⟩
          rw [hmn]
          congr 2
          split <;> split <;> omega
        obtain ⟨hm3, hmq⟩ := hm3
        obtain ⟨SK, hSK⟩ : ∃ SK : ByteArray, (⟨(List.replicate k (0 : UInt8)).toArray⟩ : ByteArray) = SK := ⟨_, rfl⟩
        have hSs : SK.size = k := by rw [← hSK]; show (List.replicate k (0 : UInt8)).toArray.size = k; simp
        have hex : SK.extract 0 m = ⟨(List.replicate m (0 : UInt8)).toArray⟩ := by rw [← hSK]; exact repl_take k m hm2
        have HST := Lib.hid (jbstring_any w.heap.size w.heap.size (List.replicate k 0) wr HJ.out hsr)
        rw [hSK] at HST
        have HWX := Lib.hid (fun W (hW : JB w.heap.size w.heap.size (List.replicate k 0) W) (hs : w.heap.size ≤ W.heap.size) => show Calls Tryz.prog 113 #[.pointer (some ⟨w.heap.size, 0, none⟩), .string (SK.extract 0 m)] W fun e w' => e = .returned (.tuple #[.int .i64 (SK.extract 0 m).size, .nilIface]) ∧ JB w.heap.size w.heap.size (List.replicate (k + m) 0) w' ∧ Below w.heap.size W w' from by
          have hms : (SK.extract 0 m).size = m := by rw [hex]; show (List.replicate m (0 : UInt8)).toArray.size = m; simp
          have h := jbwrite_any w.heap.size w.heap.size (List.replicate k 0) (SK.extract 0 m) W hW (by rw [List.length_replicate, hms]; omega) hs
          rw [show List.replicate k (0 : UInt8) ++ (SK.extract 0 m).data.toList = List.replicate (k + m) 0 by rw [hex]; simp] at h
          exact h)
        have hmS : (m : Int) ≤ (SK.size : Int) := by omega
        have hki : (k : Int) < (c : Int) := by omega
        clear hmn hSK hex hsr
        go_wp2_with (first
          | (go_at_call 129; (with_reducible refine HLN.out.mono ?_); rintro e w5 ⟨rfl, hw5⟩; subst hw5)
          | (go_at_call 115; (with_reducible refine HST.out.mono ?_); rintro e w6 ⟨rfl, hj6, hb6⟩; have HJ6 := Lib.hid hj6; have HB6 := Lib.hid hb6; clear hj6 hb6)
          | (go_at_call 113; (with_reducible refine (HWX.out _ HJ6.out (by have := HB6.out.size; have := HSR.out; omega)).mono ?_); rintro e w7 ⟨rfl, hj7, hb7⟩; have HJ7 := Lib.hid hj7; have HB7 := Lib.hid hb7; clear hj7 hb7)
          | fail)
        go_roundw
        case rel => exact ⟨k + m, by omega, by omega, HJ7, Lib.hid ((HB.out.trans HB6.out).trans HB7.out)⟩
        case measure => rw [HJ7.out.len, HJ.out.len, List.length_replicate, List.length_replicate]; omega
      · obtain rfl : k = c := by omega
        have HST := Lib.hid (jbstring_any w.heap.size w.heap.size (List.replicate k 0) wr HJ.out hsr)
        obtain ⟨SK, hSK⟩ : ∃ SK : ByteArray, (⟨(List.replicate k (0 : UInt8)).toArray⟩ : ByteArray) = SK := ⟨_, rfl⟩
        rw [hSK] at HST
        have HSK := Lib.hid hSK
        clear hmn hSK hsr
        go_wp2_with (first
          | (go_at_call 129; (with_reducible refine HLN.out.mono ?_); rintro e w5 ⟨rfl, hw5⟩; subst hw5)
          | (go_at_call 115; (with_reducible refine HST.out.mono ?_); rintro e w6 ⟨rfl, hj6, hb6⟩; have HB6 := Lib.hid hb6; clear hj6 hb6)
          | fail)
        go_ret
        exact ⟨ret_str HSK.out.symm, Below.trans HL1.out (HB.out.trans HB6.out)⟩
end Go.Proofs.YtfpbocjmlhcgiaaGreatDoor
/- A transaction's work: plain parts. -/
namespace Go.Proofs.YtfpbocjmlhcgiaaGreatDoor
open Go.RowKit PJ Go.Maps

theorem wrV_snoc (st : Nat) : ∀ (l : List Wr) (V : View) (i : Nat) (x : Wr), wrV st V i (l ++ [x]) = setS (wrV st V i l) (i + l.length) (blk x.data.data.toList st)
  | [], V, i, x => rfl
  | y :: r, V, i, x => by
    show wrV st (setS V i (blk y.data.data.toList st)) (i + 1) (r ++ [x]) = setS (wrV st (setS V i (blk y.data.data.toList st)) (i + 1) r) (i + (r.length + 1)) _
    rw [wrV_snoc st r _ (i + 1) x, show i + 1 + r.length = i + (r.length + 1) from by omega]
def padW (x : Wr) : Wr := ⟨x.cell, ⟨(padT x.data.data.toList 116).toArray⟩⟩
theorem padW_size {x : Wr} (h : x.data.size ≤ 116) : (padW x).data.size = 116 := by
  have : x.data.data.toList.length = x.data.size := by rw [Array.length_toList]; rfl
  have h2 := pad_len (d := x.data.data.toList) (k := 116) (by omega)
  show (padT x.data.data.toList 116).toArray.size = 116
  rw [List.size_toArray]
  exact h2
theorem putW_pad (C : Cells) {x : Wr} (h : x.data.size ≤ 116) : putW C (padW x) = putW C x := by
  have : x.data.data.toList.length = x.data.size := by rw [Array.length_toList]; rfl
  funext c
  show (if (c : Int) = x.cell then some (padT (padT x.data.data.toList 116) 116) else C c) = if (c : Int) = x.cell then some (padT x.data.data.toList 116) else C c
  rw [pad_pad (by omega)]
theorem puts_pad : ∀ (l : List Wr) (C : Cells), (∀ x ∈ l, x.data.size ≤ 116) → putsW C (l.map padW) = putsW C l
  | [], C, _ => rfl
  | x :: r, C, h => by
    show putsW (putW C (padW x)) (r.map padW) = putsW (putW C x) r
    rw [putW_pad C (h x (List.mem_cons_self ..))]
    exact puts_pad r _ fun y hy => h y (List.mem_cons_of_mem _ hy)
def mixW (l : List Wr) (j : Nat) : List Wr := (l.take j).map padW ++ l.drop j
theorem mixW_zero (l : List Wr) : mixW l 0 = l := by simp [mixW]
theorem mixW_all (l : List Wr) : mixW l l.length = l.map padW := by simp [mixW]
theorem mixW_get {l : List Wr} {j : Nat} {x : Wr} (h : l[j]? = some x) : (mixW l j)[j]? = some x := by
  have hj : j < l.length := (List.getElem?_eq_some_iff.1 h).1
  unfold mixW
  rw [List.getElem?_append_right (by rw [List.length_map, List.length_take]; omega), List.length_map, List.length_take, Nat.min_eq_left (by omega), Nat.sub_self, List.getElem?_drop, Nat.add_zero]
  exact h
theorem mixW_set {l : List Wr} {j : Nat} {x : Wr} (h : l[j]? = some x) : (mixW l j).set j (padW x) = mixW l (j + 1) := by
  have hj : j < l.length := (List.getElem?_eq_some_iff.1 h).1
  have hx : l[j] = x := by rw [List.getElem?_eq_getElem hj] at h; exact Option.some.inj h
  have hl : ((l.take j).map padW).length = j := by rw [List.length_map, List.length_take]; omega
  unfold mixW
  rw [List.set_append_right _ _ (by omega), hl, Nat.sub_self, List.drop_eq_getElem_cons hj, List.set_cons_zero, List.take_add_one, List.map_append, h]
  simp
theorem recT (l : List Wr) (j : Nat) {x : Wr} (h : l[j]? = some x) : be l.length 1 ++ (l.take (j + 1)).flatMap (fun w => be w.cell.toNat 2) = (be l.length 1 ++ (l.take j).flatMap fun w => be w.cell.toNat 2) ++ be x.cell.toNat 2 := by
  rw [List.take_add_one, h, List.flatMap_append, List.append_assoc]
  simp
theorem recT_len (l : List Wr) : ∀ j, ((l.take j).flatMap fun w => be w.cell.toNat 2).length = 2 * (l.take j).length := by
  intro j
  generalize l.take j = m
  induction m with
  | nil => rfl
  | cons w r ih => rw [List.flatMap_cons, List.length_append, be_len, ih, List.length_cons]; omega
/-- A store into a row beside the journal. -/
theorem JC.beside {w w' : World} {a : JA} {F : Nat → Prop} {V S : View} {dt : Bool} {head first next at' : Nat} {C : Cells} {g : Nat} (h : JC w a F V S dt head first next at' C) (ho : OnlyJ (fun q => q = g) w w') (hg : ¬ F g) : JC w' a F V S dt head first next at' C :=
  h.kept ho.size (fun k hk => ho.block k (h.dev.lt k hk) (fun e => hg (e ▸ hk))) (fun _ h => h) (fun q hq => Nat.lt_of_lt_of_le (h.dev.lt q hq) ho.size)
theorem own_only {w w' : World} {B : Nat} {T : TypeId} {s : Nat} {v : Value} {n : Nat} {xs : List Value} {r : Nat → Prop} (h : w.ownsRow B T s v n xs) (ho : OnlyJ r w w') (hr : ∀ g, v.ownBlock = some g → ¬ r g) : w'.ownsRow B T s v n xs := by
  rcases h with ⟨h0, h | ⟨g, cap, cur, h1, h2, h3, h4⟩⟩
  · exact ⟨h0, .inl h⟩
  · exact ⟨h0, .inr ⟨g, cap, cur, h1, h2, (ho.block g (lt_blk h3) (hr g (by rw [h1]; rfl))).trans h3, h4⟩⟩
end Go.Proofs.YtfpbocjmlhcgiaaGreatDoor
