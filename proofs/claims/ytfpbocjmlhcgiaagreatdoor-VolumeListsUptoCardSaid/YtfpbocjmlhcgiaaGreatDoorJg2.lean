/- Jg2, merged: J4 J5. -/
import Derived.Test.YtfpbocjmlhcgiaaGreatDoorJg1
import Derived.Deep.AppendLies
import Derived.Lib.BufferWrite
import Derived.Laws.Rows
set_option linter.unusedSimpArgs false
set_option linter.unusedVariables false
/- The walk of block.put: a number's bytes behind others. -/
namespace Go.Proofs.YtfpbocjmlhcgiaaGreatDoor
open Go.RowKit PJ

def bys (l : List UInt8) : List Value := l.map fun c => .int .u8 (c.toNat : Int)
/-- Bytes in a row: the call's own, or one that is full. -/
def RowOr (w : World) (B : Nat) (v : Value) (l : List UInt8) : Prop :=
  w.ownsRow B 5 1 v l.length (bys l) ∨ (∃ g, v = .slice (some ⟨g, 0, none⟩) l.length l.length ∧ ∀ (j : Nat) (u : Value), (bys l)[j]? = some u → w.cell? ⟨g, j, none⟩ = some u)
theorem info_u8 : (Tryz.prog.info? 5).map (fun i => (i.zero, i.size, i.bytes)) = some (some (.int .u8 0), 1, 1) := by kernel_rfl
theorem cells_newJ (w : World) (cs : List Value) (t : TypeId) : ∀ j u, cs[j]? = some u → (w.alloc (.cells cs.toArray t)).cell? ((⟨w.heap.size, 0, none⟩ : Addr).add j) = some u := by
  intro j u h
  have e : ((⟨w.heap.size, 0, none⟩ : Addr).add j) = ⟨w.heap.size, j, none⟩ := by
    unfold Addr.add; split
    · rename_i h0; subst h0; rfl
    · simp
  rw [e, World.cell?_alloc_at _ _ _ _ rfl]
  simpa using h
theorem own_base {w : World} {b B : Nat} {e : TypeId} {s : Nat} {v : Value} {n : Nat} {xs : List Value} (h : w.ownsRow b e s v n xs) (hB : B ≤ b) : w.ownsRow B e s v n xs := by
  refine ⟨h.1, ?_⟩
  rcases h.2 with h0 | ⟨g, cap, cur, hv, hg, hr⟩
  · exact .inl h0
  · exact .inr ⟨g, cap, cur, hv, Nat.le_trans hB hg, hr⟩
theorem be_get (n : Nat) : ∀ (k j : Nat), j < k → (be n k).take (j + 1) = (be n k).take j ++ [UInt8.ofNat (n / 256 ^ (k - 1 - j))]
  | k + 1, 0, _ => by simp [be]
  | k + 1, j + 1, h => by
    rw [be, List.take_succ_cons, List.take_succ_cons, be_get n k j (by omega), List.cons_append, show k + 1 - 1 - (j + 1) = k - 1 - j by omega]
theorem byte_div (n i : Nat) : (n : Int) / 2 ^ (8 * i) % 256 = ((n / 256 ^ i % 256 : Nat) : Int) := by
  have e : (2 : Int) ^ (8 * i) = ((256 ^ i : Nat) : Int) := by
    rw [show (256 : Nat) = 2 ^ 8 from rfl, ← Nat.pow_mul, Int.natCast_pow]
    rfl
  rw [e]
  rfl
theorem bys_snoc (l : List UInt8) (c : UInt8) : bys (l ++ [c]) = bys l ++ [.int .u8 (c.toNat : Int)] := by simp [bys]
theorem addr_none (b o k : Nat) : (⟨b, o, none⟩ : Addr).add k = ⟨b, o + k, none⟩ := by
  unfold Addr.add
  split
  · rename_i h; subst h; rfl
  · rfl
set_option maxRecDepth 100000 in
set_option maxHeartbeats 2000000 in
theorem bput_any (w : World) (B : Nat) (hB : B ≤ w.heap.size) (v : Value) (l : List UInt8) (hv : RowOr w B v l) (n k : Nat) (hn : n < 18446744073709551616) (hk : k ≤ 8) (hk1 : 1 ≤ k) (hl : l.length ≤ 1000) :
    Calls Tryz.prog 165 #[v, .int .u64 n, .int .i64 k] w fun e w' => ∃ v', e = .returned v' ∧ w'.ownsRow B 5 1 v' (l ++ be n k).length (bys (l ++ be n k)) ∧ Below B w w' := by
  have HV := Lib.hid hv
  clear hv
  obtain ⟨iU, hiU, hz0, hz1, hz2⟩ := info_parts info_u8
  have hki : (k : Int) ≤ 8 := by omega
  have hki1 : (1 : Int) ≤ (k : Int) := by omega
  go_enter Tryz.func165, Tryz.ntmps165
  go_wp2_with fail
  go_loopw [0, 7] (fun vb vi wr => ∃ j : Nat, j ≤ k ∧ vi = .int .i64 ((k : Int) - 1 - j) ∧ RowOr wr B vb (l ++ (be n k).take j) ∧ (1 ≤ j → wr.ownsRow B 5 1 vb (l ++ (be n k).take j).length (bys (l ++ (be n k).take j))) ∧ Below B w wr) (fun _ vi _ => (intOf vi + 1).toNat)
  case atStart => exact ⟨0, by omega, by simp, by simpa using HV.out, by omega, Below.refl _ _⟩
  case round =>
    obtain ⟨j, hj, rfl, hrow, hown, hbel⟩ := hrel
    have HROW := Lib.hid hrow
    have HOWN := Lib.hid hown
    clear hrow hown
    by_cases hlt : j < k
    · obtain ⟨i, hi⟩ : ∃ i : Nat, (k : Int) - 1 - j = i := ⟨k - 1 - j, by omega⟩
      rw [hi]
      have hi7 : i ≤ 7 := by omega
      have hik : k - 1 - j = i := by omega
      obtain ⟨u, hu⟩ : ∃ u, UInt8.ofNat (n / 256 ^ (k - 1 - j)) = u := ⟨_, rfl⟩
      have hbe := be_get n k j hlt
      rw [hu] at hbe
      have hLs : l ++ (be n k).take (j + 1) = (l ++ (be n k).take j) ++ [u] := by rw [hbe, List.append_assoc]
      have HLS := Lib.hid hLs
      have hz : (n : Int) / 2 ^ (8 * i) % 256 = (u.toNat : Int) := by
        rw [← hu, hik, UInt8.toNat_ofNat']
        exact byte_div n i
      obtain ⟨z, hzz⟩ : ∃ z : Int, (u.toNat : Int) = z := ⟨_, rfl⟩
      rw [hzz] at hz
      have HZZ := Lib.hid hzz
      have hlen : (l ++ (be n k).take j).length ≤ 1008 := by rw [List.length_append, List.length_take, be_len]; omega
      have HI := Lib.hid hi
      clear hi hik hu hbe hLs hzz
      obtain ⟨L, hL⟩ : ∃ L, l ++ (be n k).take j = L := ⟨_, rfl⟩
      rw [hL] at HROW HLS hlen
      clear hL HOWN
      rcases HROW.out with hown | ⟨g, rfl, hcs⟩
      · have HO := Lib.hid hown
        clear hown
        go_wp2_with (first
          | (at_builtin; refine wpList_append_own _ rfl (.tmp 14) (.tmp 20) 99 rfl B 5 iU (.int .u8 0) 1 1 Tryz.underlying99 hiU hz0 hz1 hz2 rfl (by decide) _ _ _ rfl (HO.out.alloc _) ⟨wr.heap.size, 0, none⟩ 1 1 [.int .u8 z] rfl rfl (cells_newJ wr [.int .u8 z] 5) (by intro u hu; rw [List.mem_singleton.1 hu]; rfl) (by unfold maxLen; omega) (by omega) (by have := hbel.size; simp; omega) ?_; intro v' w1 hown1 hgrow1 _)
          | fail)
        have hown2 : w1.ownsRow B 5 1 v' (L ++ [u]).length (bys (L ++ [u])) := by
          rw [bys_snoc, HZZ.out, List.length_append]
          exact hown1
        refine ⟨⟨j + 1, by omega, ?_, ?_, fun _ => ?_, ?_⟩, ?_⟩
        · show Value.int .i64 _ = Value.int .i64 _
          congr 1
          have := HI.out
          omega
        · rw [HLS.out]; exact .inl hown2
        · rw [HLS.out]; exact hown2
        · exact Below.grown (hbel.alloc (by have := hbel.size; omega) (.cells #[.int .u8 z] 5)) hgrow1 (by have := hbel.size; simp; omega) (fun q hq => ((HO.out.alloc (.cells #[.int .u8 z] 5)).lt q hq).1)
        · simp only [intOf]; omega
      · have HC := Lib.hid (show ∀ (b : Addr), (some ⟨g, 0, none⟩ : Option Addr) = some b → ∀ (j : Nat) (u : Value), (bys L)[j]? = some u → (wr.alloc (.cells #[.int .u8 z] 5)).cell? (b.add j) = some u from by
          rintro b hb j u hu
          obtain rfl : (⟨g, 0, none⟩ : Addr) = b := Option.some.inj hb
          have h1 := hcs j u hu
          rw [addr_none, Nat.zero_add, World.cell?_alloc_past _ _ _ (World.block_lt_of_cell? _ _ h1)]
          exact h1)
        have hLb : (bys L).length = L.length * 1 := by simp [bys]
        have HLb := Lib.hid hLb
        clear hcs hLb
        go_wp2_with (first
          | (at_builtin; refine wpList_append_grows _ rfl (.tmp 14) (.tmp 20) 99 rfl 5 iU (.int .u8 0) 1 1 Tryz.underlying99 hiU hz0 hz1 hz2 rfl (by decide) (some ⟨g, 0, none⟩) L.length L.length (bys L) rfl (by simp) HLb.out HC.out ⟨wr.heap.size, 0, none⟩ 1 1 [.int .u8 z] rfl rfl (cells_newJ wr [.int .u8 z] 5) (by intro u hu; rw [List.mem_singleton.1 hu]; rfl) (by omega) (by unfold maxLen; omega) (by omega) ?_; intro v' w1 hown1 hgrow1)
          | fail)
        have hown2 : w1.ownsRow B 5 1 v' (L ++ [u]).length (bys (L ++ [u])) := by
          rw [bys_snoc, HZZ.out, List.length_append]
          exact own_base hown1 (by have := hbel.size; simp; omega)
        refine ⟨⟨j + 1, by omega, ?_, ?_, fun _ => ?_, ?_⟩, ?_⟩
        · show Value.int .i64 _ = Value.int .i64 _
          congr 1
          have := HI.out
          omega
        · rw [HLS.out]; exact .inl hown2
        · rw [HLS.out]; exact hown2
        · exact Below.grown (hbel.alloc (by have := hbel.size; omega) (.cells #[.int .u8 z] 5)) hgrow1 (by have := hbel.size; simp; omega) (fun q hq => by cases hq)
        · simp only [intOf]; omega
    · obtain rfl : j = k := by omega
      have hneg : (j : Int) - 1 - j = -1 := by omega
      rw [hneg]
      have ho := HOWN.out hk1
      rw [List.take_of_length_le (by rw [be_len]; exact Nat.le_refl _)] at ho
      have HO := Lib.hid ho
      clear ho hneg
      go_wp2_with fail
      go_ret
      exact ⟨_, rfl, HO.out, hbel⟩
end Go.Proofs.YtfpbocjmlhcgiaaGreatDoor
/- The walk of block.Bytes: a block's bytes, where they may be. -/
namespace Go.Proofs.YtfpbocjmlhcgiaaGreatDoor
open Go.RowKit PJ

theorem cell_blk {w : World} {b : Nat} {cs : Array Value} {t : TypeId} {fr : Nat × Nat} (h : w.heap[b]? = some (.cells cs t fr)) (j : Nat) : w.cell? ⟨b, j, none⟩ = cs[j]? := by simp [World.cell?, h]
theorem lt_blk {w : World} {p : Nat} {o : Obj} (h : w.heap[p]? = some o) : p < w.heap.size := by
  rcases Nat.lt_or_ge p w.heap.size with h' | h'
  · exact h'
  · rw [Array.getElem?_eq_none h'] at h; cases h
theorem alloc_blk (w : World) (o : Obj) : (w.alloc o).heap[w.heap.size]? = some o := by
  show (w.heap.push o)[w.heap.size]? = some o
  simp
theorem own_conv {w : World} {B : Nat} {v : Value} {l : List UInt8} {n : Nat} (h : w.ownsRow B 5 1 v l.length (bys l)) (hn : l.length = n) (hl : 0 < n) :
    ∃ g cap, v = .slice (some ⟨g, 0, none⟩) n cap ∧ (convert 99 9 (.slice (some ⟨g, 0, none⟩) n cap)).run Tryz.prog w = .ok (.string ⟨l.toArray⟩) w := by
  subst hn
  rcases h.2 with ⟨-, h0⟩ | ⟨g, cap, cur, rfl, hg, hh, -⟩
  · omega
  · refine ⟨g, cap, rfl, run_convert_bytes_back _ _ _ 5 ⟨g, 0, none⟩ cap l Tryz.underlying99 Tryz.underlying5 Tryz.underlying9 (fun j hj => ?_)⟩
    have hb : (bys l)[j]? = some (.int .u8 ((l[j]).toNat : Int)) := by simp [bys, hj]
    have := h.cells (g := g) rfl j _ hb
    rw [this]
theorem zeros128 : Tryz.zeroCells210 = (List.replicate 128 (Value.int .u8 0)).toArray := by kernel_rfl
theorem bys_pad (s : List UInt8) (h : s.length ≤ 116) : Lib.byteCells s ++ (List.replicate 128 (Value.int .u8 0)).drop s.length = bys (padT s 116) ++ List.replicate 12 (Value.int .u8 0) := by
  unfold padT bys Lib.byteCells
  rw [List.map_append, List.map_replicate, List.append_assoc, List.drop_replicate]
  congr 1
  have e : (Value.int .u8 (((0 : UInt8).toNat : Nat) : Int)) = .int .u8 0 := rfl
  rw [e, List.replicate_append_replicate]
  congr 1
  omega
set_option maxRecDepth 100000 in
set_option maxHeartbeats 2000000 in
theorem bbytes_any (w : World) (s : ByteArray) (st : Nat) (hs : s.size ≤ 116) (hst : st ≤ 4611686018427387904) :
    Calls Tryz.prog 120 #[.string s, .int .i64 st] w fun e w' => e = .returned (.tuple #[.string ⟨(blockT sumN s.data.toList st).toArray⟩, .int .i64 0]) ∧ Below w.heap.size w w' := by
  have hsl : s.data.toList.length = s.size := by rw [Array.length_toList]; rfl
  obtain ⟨OUT, hO⟩ : ∃ OUT : ByteArray, (⟨(blockT sumN s.data.toList st).toArray⟩ : ByteArray) = OUT := ⟨_, rfl⟩
  obtain ⟨l, hl⟩ : ∃ l, padT s.data.toList 116 = l := ⟨_, rfl⟩
  have hll : l.length = 116 := by rw [← hl]; exact pad_len (by omega)
  obtain ⟨P, hP⟩ : ∃ P : ByteArray, (⟨l.toArray⟩ : ByteArray) = P := ⟨_, rfl⟩
  have hPd : P.data.toList = l := by rw [← hP]
  obtain ⟨w1, hw1⟩ : ∃ w1, w.alloc (.cells Tryz.zeroCells210 210) = w1 := ⟨_, rfl⟩
  have hb1 : w1.heap[w.heap.size]? = some (.cells Tryz.zeroCells210 210) := by rw [← hw1]; exact alloc_blk w _
  have hbel1 : Below w.heap.size w w1 := by rw [← hw1]; exact (Below.refl _ _).alloc (Nat.le_refl _) _
  obtain ⟨ROW, hROW⟩ : ∃ ROW, (List.take 0 (Tryz.zeroCells210).toList ++ Lib.byteCells s.data.toList ++ List.drop (0 + s.size) (Tryz.zeroCells210).toList).toArray = ROW := ⟨_, rfl⟩
  have hcopy : ∀ ty, (Builtin.copy_ #[99, 9] ty #[.slice (some ⟨w.heap.size, 0, none⟩) 116 128, .string s]).run Tryz.prog w1 = .ok (goInt s.size) (w1.setRow w.heap.size ROW) := by
    intro ty
    rw [← hROW]
    exact Lib.run_copy_row_string w1 _ _ ty 5 w.heap.size 0 116 128 s _ _ Tryz.underlying99 (by kernel_rfl) hb1 (by omega) (by rw [zeros128]; simp; omega)
  have hROW2 : ROW = (bys l ++ List.replicate 12 (Value.int .u8 0)).toArray := by
    rw [← hROW, zeros128, ← hl, ← bys_pad _ (by omega), hsl]
    simp
  obtain ⟨w2, hw2⟩ : ∃ w2, w1.setRow w.heap.size ROW = w2 := ⟨_, rfl⟩
  have hb2 : w2.heap[w.heap.size]? = some (.cells ROW 210) := by rw [← hw2]; exact setRow_heap _ _ _ _ _ _ hb1
  have hbel2 : Below w.heap.size w w2 := by
    rw [← hw2]
    exact ⟨hbel1.os, hbel1.tape, hbel1.output, by simpa using hbel1.size, fun k hk => (setRow_other _ _ _ _ (by omega)).trans (hbel1.block k hk)⟩
  have hcell : ∀ w', Below (w.heap.size + 1) w2 w' → ∀ (j : Nat) (u : Value), (bys l)[j]? = some u → w'.cell? ⟨w.heap.size, j, none⟩ = some u := by
    intro w' h' j u hu
    rw [h'.cell (p := ⟨w.heap.size, j, none⟩) (by show w.heap.size < _; omega), cell_blk hb2, hROW2, List.getElem?_toArray, List.getElem?_append_left (List.getElem?_eq_some_iff.1 hu).1]
    exact hu
  have hcv : (convert 99 9 (.slice (some ⟨w.heap.size, 0, none⟩) 116 116)).run Tryz.prog w2 = .ok (.string P) w2 := by
    have h := run_convert_bytes_back w2 99 9 5 ⟨w.heap.size, 0, none⟩ 116 l Tryz.underlying99 Tryz.underlying5 Tryz.underlying9 (fun j hj => by
      rw [addr_none, Nat.zero_add]
      exact hcell w2 (Below.refl _ _) j _ (by simp [bys, hj]))
    rw [hll, hP] at h
    exact h
  have hlt2 : w.heap.size < w2.heap.size := lt_blk hb2
  have hsum := sum_any P w2 (by show P.data.size ≤ 1000000; rw [← Array.length_toList, hPd, hll]; omega)
  rw [hPd, ← sumN_eq] at hsum
  have HSUM := Lib.hid hsum
  have HP1 := Lib.hid (fun w3 (h3 : Below w2.heap.size w2 w3) => show Calls Tryz.prog 165 #[.slice (some ⟨w.heap.size, 0, none⟩) 116 116, .int .u64 (sumN l : Nat), .int .i64 4] w3 fun e w' => ∃ v', e = .returned v' ∧ w'.ownsRow w.heap.size 5 1 v' (l ++ be (sumN l) 4).length (bys (l ++ be (sumN l) 4)) ∧ Below w.heap.size w3 w' from bput_any w3 w.heap.size (by have := h3.size; omega) (.slice (some ⟨w.heap.size, 0, none⟩) 116 116) l (.inr ⟨w.heap.size, by rw [hll], hcell w3 (h3.mono (by omega))⟩) (sumN l) 4 (by have := sumN_lt l; omega) (by omega) (by omega) (by omega))
  have HP2 := Lib.hid (fun w4 (hB : w.heap.size ≤ w4.heap.size) v (hv : w4.ownsRow w.heap.size 5 1 v (l ++ be (sumN l) 4).length (bys (l ++ be (sumN l) 4))) => show Calls Tryz.prog 165 #[v, .int .u64 st, .int .i64 8] w4 fun e w' => ∃ v', e = .returned v' ∧ w'.ownsRow w.heap.size 5 1 v' (l ++ be (sumN l) 4 ++ be st 8).length (bys (l ++ be (sumN l) 4 ++ be st 8)) ∧ Below w.heap.size w4 w' from bput_any w4 w.heap.size hB v (l ++ be (sumN l) 4) (.inl hv) st 8 (by omega) (by omega) (by omega) (by rw [List.length_append, be_len]; omega))
  have HO := Lib.hid (show (⟨(l ++ be (sumN l) 4 ++ be st 8).toArray⟩ : ByteArray) = OUT from by rw [← hO, ← hl]; unfold blockT; rw [List.append_assoc])
  have HB2 := Lib.hid hbel2
  have HW1 := Lib.hid hw1
  have HW2 := Lib.hid hw2
  have HCV := Lib.hid hcv
  have g1 : ¬ (116 : Int) < (s.size : Int) := by omega
  have g2 : ¬ (st : Int) < 0 := by omega
  have g3 : ¬ (4611686018427387904 : Int) < (st : Int) := by omega
  rw [hO]
  obtain ⟨n4, hn4⟩ : ∃ n4, sumN l = n4 := ⟨_, rfl⟩
  rw [hn4] at HSUM HP1 HP2 HO
  have hn4b : n4 < 4294967296 := by rw [← hn4]; exact sumN_lt l
  clear hcv hsum hcell hROW hROW2 hb1 hbel1 hbel2 hb2 hw1 hw2 hl hP hPd hO hsl hn4
  go_enter Tryz.func120, Tryz.ntmps120
  go_upto_region 6 with fail
  rw [HW1.out]
  go_upto_region 8 with fail
  rw [HW2.out]
  clear hcopy
  have hcv := HCV.out
  go_wp2_with (first
    | (go_at_call 166; (with_reducible refine HSUM.out.mono ?_); rintro e w3 ⟨rfl, hb3⟩)
    | (go_at_call 165; (with_reducible refine (HP1.out _ hb3).mono ?_); rintro e w4 ⟨v4, rfl, hown4, hb4⟩; have h04 := (HB2.out.trans (hb3.mono (by omega))).trans hb4; have HO4 := Lib.hid hown4; clear hown4)
    | (go_at_call 165; (with_reducible refine (HP2.out _ h04.size _ HO4.out).mono ?_); rintro e w5 ⟨v5, rfl, hown5, hb5⟩; obtain ⟨g5, cap5, rfl, hcv5⟩ := own_conv hown5 (n := 128) (by rw [List.length_append, List.length_append, be_len, be_len, hll]) (by decide); rw [HO.out] at hcv5; clear hown5)
    | fail)
  go_ret2
  exact ⟨rfl, h04.trans hb5⟩
end Go.Proofs.YtfpbocjmlhcgiaaGreatDoor
