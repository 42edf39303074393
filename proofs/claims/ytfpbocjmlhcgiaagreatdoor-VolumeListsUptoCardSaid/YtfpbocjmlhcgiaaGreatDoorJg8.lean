/- Jg8, merged: J34 J35. -/
import Derived.Test.YtfpbocjmlhcgiaaGreatDoorJg7
import Derived.WalkLawsBesides
set_option linter.unusedSimpArgs false
set_option linter.unusedVariables false
/- A block device: touch. -/
namespace Go.Proofs.YtfpbocjmlhcgiaaGreatDoor
open Go.RowKit PJ Go.Maps

theorem kclone_all (w : World) (R F : Nat → Prop) (cv : Value) (xs : List Kept) (hc : CacheAt w R F cv xs) (hx : xs.length ≤ 16) :
    Calls Tryz.prog 71 #[cv] w fun e w' => ∃ v, e = .returned v ∧ w'.ownsRow w.heap.size 126 3 v xs.length (ksC xs) ∧ Below w.heap.size w w' := by
  rcases hc with ⟨rfl, rfl⟩ | ⟨g, off, cap, rfl, hg, -, -, hk⟩
  · refine (kclone_nil w).mono ?_
    rintro e w' ⟨rfl, hb⟩
    exact ⟨_, rfl, ⟨rfl, .inl ⟨rfl, rfl⟩⟩, hb⟩
  · refine (kclone_any w g off cap xs.length hx hg (ksC xs) (ksC_len xs) (fun j u hu => ?_) (fun u hu => ?_)).mono ?_
    · have hj : j < xs.length * 3 := by rw [← ksC_len]; exact (List.getElem?_eq_some_iff.1 hu).1
      obtain ⟨k, hkj⟩ : ∃ k, xs[j / 3]? = some k := ⟨_, List.getElem?_eq_getElem (by omega)⟩
      obtain ⟨q1, q2, q3⟩ := ksC_get xs (j / 3) k hkj
      obtain ⟨p1, p2, p3⟩ := hk (j / 3) k hkj
      rcases (by omega : j = j / 3 * 3 ∨ j = j / 3 * 3 + 1 ∨ j = j / 3 * 3 + 2) with e | e | e
      · rw [← e] at q1 p1
        rw [q1] at hu
        rw [p1, hu]
      · rw [← e] at q2
        rw [Nat.add_assoc, ← e] at p2
        rw [q2] at hu
        rw [p2, hu]
      · rw [← e] at q3
        rw [Nat.add_assoc, ← e] at p3
        rw [q3] at hu
        rw [p3, hu]
    · unfold ksC at hu
      obtain ⟨k, -, hk⟩ := List.mem_flatMap.1 hu
      simp only [List.mem_cons, List.not_mem_nil, or_false] at hk
      rcases hk with rfl | rfl | rfl <;> rfl
    · rintro e w' ⟨v, rfl, ho, hb⟩
      rw [Nat.zero_add, List.nil_append] at ho
      exact ⟨v, rfl, ho, hb⟩
theorem info_kept : (Tryz.prog.info? 126).map (fun i => (i.zero, i.size, i.bytes)) = some (some (.agg #[.int .i64 0, .string ⟨#[]⟩, .int .i64 0]), 3, 32) := by kernel_rfl
/-- What touch leaves of the cache. -/
def Touched (w : World) (p b first count cached : Nat) (misses : Int) (R F : Nat → Prop) (xs : List Kept) (k : Kept) (w' : World) : Prop :=
  ∃ cv' xs', (∀ o ∈ xs', o = k ∨ (o ∈ xs ∧ o.at' ≠ k.at')) ∧ xs'.length ≤ 16 ∧ w'.heap[b]? = some (.cells (devCells p first count cached cv' misses) 105 (0, 0)) ∧ CacheAt w' R (grow F w w') cv' xs' ∧ OnlyJ (fun q => q = b) w w'
set_option maxRecDepth 100000 in
set_option maxHeartbeats 2000000 in
theorem btouch_any (w : World) (p b first count cached : Nat) (misses : Int) (cv : Value) (R F : Nat → Prop) (xs : List Kept) (hd : w.heap[b]? = some (.cells (devCells p first count cached cv misses) 105 (0, 0)))
    (hc : CacheAt w R F cv xs) (hx : xs.length ≤ 16) (hca : cached ≤ 16) (hRF : ∀ q, R q → F q) (hF : ∀ q, F q → q < w.heap.size) (hRb : R b) (k : Kept) (D : ByteArray) (hD : (⟨k.data.toArray⟩ : ByteArray) = D) :
    Calls Tryz.prog 122 #[.pointer (some ⟨b, 0, none⟩), .agg #[.int .i64 k.at', .string D, .int .i64 k.stamp]] w fun e w' => e = .returned (.tuple #[]) ∧ Touched w p b first count cached misses R F xs k w' := by
  have hmf : ∀ (fn : Fn) (first cap : Array Value) (w : World), (Instr.makeFunc fn first cap).run Tryz.prog w = .ok (.func fn first cap) w := fun _ _ _ _ => rfl
  obtain ⟨iK, hiK, hzK, hsK, hbK⟩ := info_parts info_kept
  obtain ⟨w1, hw1⟩ : ∃ w1, w.alloc (.cells #[.int .i64 k.at', .string D, .int .i64 k.stamp] 126) = w1 := ⟨_, rfl⟩
  have hb1 : Below w.heap.size w w1 := by rw [← hw1]; exact alloc_below w _
  have hx1 : w1.heap[w.heap.size]? = some (.cells #[.int .i64 k.at', .string D, .int .i64 k.stamp] 126 (0, 0)) := by rw [← hw1]; exact alloc_blk w _
  have hz1 : w1.heap.size = w.heap.size + 1 := by rw [← hw1, World.size_alloc]
  have hlt := lt_blk hd
  have hd1 := block_below hb1 hd hlt
  have c4 : w1.cell? ⟨b, 4, none⟩ = some cv := cell_blk hd1 4
  have HCL := Lib.hid (kclone_all w1 R F cv xs (hc.kept hb1.size (fun q hq _ => hb1.block q (hF q hq)) (fun _ h => h)) hx)
  have HDL := Lib.hid (fun w2 (h2 : Below w1.heap.size w1 w2) v hv => kdel_any w2 w1.heap.size h2.size v xs hv hx k.at' w.heap.size ((h2.cell (p := ⟨w.heap.size, 0, none⟩) (by show w.heap.size < w1.heap.size; omega)).trans (cell_blk hx1 0)) (by omega))
  have HW1 := Lib.hid hw1
  have HX1 := Lib.hid hx1
  have HD1 := Lib.hid hd1
  have HB1 := Lib.hid hb1
  have HZ1 := Lib.hid hz1
  have HLY := Lib.hid (List.length_filter_le (fun o : Kept => !decide (o.at' = k.at')) xs)
  clear hw1 hx1 hd1 hb1 hc hd hz1
  go_enter Tryz.func122, Tryz.ntmps122
  go_upto_region 1 with fail
  rw [HW1.out]
  go_upto_region 2 with (first
    | (go_at_call 71; (with_reducible refine HCL.out.mono ?_); rintro e w2 ⟨v2, rfl, hown2, hb2⟩; have HO2 := Lib.hid hown2; clear hown2)
    | (go_at_call 172; (with_reducible refine (HDL.out _ hb2 _ HO2.out).mono ?_); rintro e w3 ⟨v3, rfl, hown3, hb3⟩; have HO3 := Lib.hid hown3; clear hown3)
    | fail)
  have hb13 := hb2.trans (hb3.mono (Nat.le_refl _))
  have hx3 := block_below hb13 HX1.out (lt_blk HX1.out)
  have y1 : w3.cell? ⟨w.heap.size, 0, none⟩ = some (.int .i64 k.at') := cell_blk hx3 0
  have y2 : w3.cell? ⟨w.heap.size, 1, none⟩ = some (.string D) := cell_blk hx3 1
  have y3 : w3.cell? ⟨w.heap.size, 2, none⟩ = some (.int .i64 k.stamp) := cell_blk hx3 2
  obtain ⟨ys, hys⟩ : ∃ ys, offK k.at' xs = ys := ⟨_, rfl⟩
  have hyl : ys.length ≤ 16 := by rw [← hys]; exact Nat.le_trans HLY.out hx
  rw [hys] at HO3
  have HYS := Lib.hid hys
  have HB13 := Lib.hid hb13
  have hsz3 := hb13.size
  clear hx3 hb2 hb3 hys hb13 c4
  go_upto_region 3 with (first
    | (at_builtin; refine wpList_append_own _ rfl (.tmp 12) (.tmp 14) 103 rfl w1.heap.size 126 iK (.agg #[.int .i64 0, .string ⟨#[]⟩, .int .i64 0]) 3 32 Tryz.underlying103 hiK hzK hsK hbK rfl (by decide) _ _ _ rfl (HO3.out.alloc _) ⟨w3.heap.size, 0, none⟩ 1 1 [.int .i64 k.at', .string D, .int .i64 k.stamp] rfl rfl (cells_newJ w3 [.int .i64 k.at', .string D, .int .i64 k.stamp] 126) (by intro u hu; simp only [List.mem_cons, List.not_mem_nil, or_false] at hu; rcases hu with rfl | rfl | rfl <;> rfl) (by unfold maxLen; omega) (by omega) (by simp; omega) ?_; intro v4 w4 hown4 hgrow4 hnil4)
    | fail)
  have hz4 : ksC ys ++ [.int .i64 k.at', .string D, .int .i64 k.stamp] = ksC (ys ++ [k]) := by rw [ksC_append, ← hD]; rfl
  rw [hz4] at hown4
  have hb14 : Below w1.heap.size w1 w4 := Below.grown (HB13.out.alloc HB13.out.size (.cells #[.int .i64 k.at', .string D, .int .i64 k.stamp] 126)) hgrow4 (by simp; omega) (fun q hq => ((HO3.out.alloc (.cells #[.int .i64 k.at', .string D, .int .i64 k.stamp] 126)).lt q hq).1)
  obtain ⟨L, hL⟩ : ∃ L, ys.length + 1 = L := ⟨_, rfl⟩
  rw [hL] at hown4
  have hzl : (ys ++ [k]).length = L := by rw [← hL]; simp
  rcases hown4.2 with ⟨rfl, h0⟩ | ⟨g4, cap4, cur4, rfl, hBg4, hg4, hn4, -⟩
  · omega
  have hd4 := block_below hb14 HD1.out (by have := HZ1.out; omega)
  have d3 : w4.cell? ⟨b, 3, none⟩ = some (.int .i64 cached) := cell_blk hd4 3
  have d4 : w4.cell? ⟨b, 4, none⟩ = some cv := cell_blk hd4 4
  have e4 := free_blk hd4 4
  have hgb : g4 ≠ b := by have := HZ1.out; omega
  have HFIN := Lib.hid (fun (m : Nat) (hm : m ≤ L) (cv' : Value) (hcv : cv' = .slice (some ⟨g4, m * 3, none⟩) (L - m) (cap4 - m) ∨ (m = L ∧ ∃ o c, cv' = .slice (some ⟨g4, o, none⟩) 0 c)) (hmc : L - m ≤ 16) =>
    show Touched w p b first count cached misses R F xs k (w4.setCell ⟨b, 4, none⟩ cv') from by
      have hon : OnlyJ (fun q => q = b) w (w4.setCell ⟨b, 4, none⟩ cv') := by
        have h1 := (HB1.out.trans (hb14.mono HB1.out.size))
        exact ⟨h1.os, h1.tape, h1.output, by rw [World.size_setCell]; exact h1.size, fun q hq hne => (heap_setCell_other w4 ⟨b, 4, none⟩ q cv' hne).trans (h1.block q hq)⟩
      have hg4l : g4 < w4.heap.size := lt_blk hg4
      have hgo : grow F w (w4.setCell ⟨b, 4, none⟩ cv') g4 := .inr ⟨by have := HZ1.out; omega, by rw [World.size_setCell]; exact hg4l⟩
      have hgR : ¬ R g4 := fun h => by have := hF _ (hRF _ h); have := HZ1.out; omega
      refine ⟨cv', (ys ++ [k]).drop m, fun o ho => ?_, by rw [List.length_drop, hzl]; exact hmc, heap_setCell_same w4 b 4 _ _ cv' hd4, ?_, hon⟩
      · rcases List.mem_append.1 (List.mem_of_mem_drop ho) with h | h
        · rw [← HYS.out] at h
          obtain ⟨h1, h2⟩ := List.mem_filter.1 h
          exact .inr ⟨h1, by simpa using h2⟩
        · exact .inl (List.mem_singleton.1 h)
      · rcases hcv with rfl | ⟨rfl, o, c, rfl⟩
        · refine .inr ⟨g4, m * 3, cap4 - m, by rw [List.length_drop, hzl], by rw [World.size_setCell]; exact hg4l, hgR, hgo, fun j kk hj => ?_⟩
          rw [List.getElem?_drop] at hj
          obtain ⟨q1, q2, q3⟩ := ksC_get _ _ _ hj
          have hlt2 : m + j < L := by rw [← hzl]; exact (List.getElem?_eq_some_iff.1 hj).1
          have hbk := heap_setCell_other w4 ⟨b, 4, none⟩ g4 (.slice (some ⟨g4, m * 3, none⟩) (L - m) (cap4 - m)) hgb
          have e : m * 3 + j * 3 = (m + j) * 3 := by omega
          rw [e]
          refine KeptCells.kept (w := w4) ⟨?_, ?_, ?_⟩ hbk
          · rw [hown4.cellAt _ (by omega)]; exact q1
          · rw [hown4.cellAt _ (by omega)]; exact q2
          · rw [hown4.cellAt _ (by omega)]; exact q3
        · rw [List.drop_of_length_le (Nat.le_of_eq hzl)]
          exact .inr ⟨g4, o, c, rfl, by rw [World.size_setCell]; exact hg4l, hgR, hgo, fun j kk hj => by cases hj⟩)
  have HD4 := Lib.hid hd4
  have hL1 : 1 ≤ L := by omega
  have hL2 : L ≤ 17 := by omega
  clear hd4 hgrow4 hnil4 hz4 hb14 hown4 hzl hL hg4
  rcases Nat.lt_or_ge cached L with hcl | hcl
  · obtain ⟨m, hm⟩ : ∃ m, L - cached = m := ⟨_, rfl⟩
    have hwr : IntKind.i64.wrap ((L : Int) - (cached : Int)) = (m : Int) := by rw [IntKind.wrap_i64]; omega
    have hm1 : 1 ≤ m := by omega
    have hmL : m ≤ L := by omega
    have hmc : m ≤ cap4 := by omega
    have hms : (L : Int) - (cached : Int) = (m : Int) := by omega
    by_cases hcm : cap4 = m
    · subst hcm
      go_wp2_with fail
      go_end0
      exact ⟨rfl, HFIN.out cap4 hmL _ (.inr ⟨by omega, 0, 0, rfl⟩) (by omega)⟩
    · go_wp2_with fail
      go_end0
      exact ⟨rfl, HFIN.out m hmL _ (.inl rfl) (by omega)⟩
  · go_wp2_with fail
    go_end0
    exact ⟨rfl, HFIN.out 0 (by omega) _ (.inl (by simp)) (by omega)⟩
end Go.Proofs.YtfpbocjmlhcgiaaGreatDoor
/- A block device: Write. -/
namespace Go.Proofs.YtfpbocjmlhcgiaaGreatDoor
open Go.RowKit PJ Go.Maps

theorem secT_put (safe : List UInt8) (U : Int → Option (List UInt8)) (i : Nat) (s : List UInt8) (j : Nat) : secT safe (putU U i s) j = if j = i then s else secT safe U j := by
  unfold secT putU
  by_cases h : j = i
  · subst h; simp
  · rw [if_neg h, if_neg (by omega)]
theorem DevAt.n12 {w : World} {p g mb b n cached : Nat} {R F : Nat → Prop} {V S : View} {dt : Bool} (h : DevAt w p g mb b n cached R F V S dt) : n ≤ 4096 ∧ 1 ≤ n := by
  obtain ⟨_, _, _, _, _, h⟩ := h
  exact ⟨h.disk.2.2.1, h.disk.2.1⟩
theorem DevAt.lt {w : World} {p g mb b n cached : Nat} {R F : Nat → Prop} {V S : View} {dt : Bool} (h : DevAt w p g mb b n cached R F V S dt) : ∀ q, F q → q < w.heap.size := by
  obtain ⟨_, _, _, _, _, h⟩ := h
  exact h.lt
set_option maxRecDepth 100000 in
set_option maxHeartbeats 2000000 in
theorem bwrite_any (w : World) (p g mb b n cached : Nat) (R F : Nat → Prop) (V S : View) (dt : Bool) (h : DevAt w p g mb b n cached R F V S dt) (i : Nat) (hi : i < n) (s : ByteArray) (hs : s.size ≤ 116) (st : Nat) (hst : st ≤ 4611686018427387904) :
    Calls Tryz.prog 59 #[.pointer (some ⟨b, 0, none⟩), .int .i64 i, .string s, .int .i64 st] w fun e w' => e = .returned (.int .i64 0) ∧
      DevAt w' p g mb b n cached R (grow F w w') (setS V i (blk s.data.toList st)) S true ∧ OnlyJ (fun q => q = b ∨ q = mb) w w' := by
  obtain ⟨safe, U, cv, misses, xs, h⟩ := h
  have hn : n ≤ 4096 := h.disk.2.2.1
  have hsl : s.data.toList.length = s.size := by rw [Array.length_toList]; rfl
  have HC := Lib.hid (basked_any w p g mb n safe U h.disk b 0 n cached misses cv h.cells i hi hn)
  have HBY := Lib.hid (bbytes_any w s st hs hst)
  obtain ⟨OUT, hO⟩ : ∃ OUT : ByteArray, (⟨(blockT sumN s.data.toList st).toArray⟩ : ByteArray) = OUT := ⟨_, rfl⟩
  rw [hO] at HBY
  have hOd : OUT.data.toList = blk s.data.toList st := by rw [← hO]; rfl
  have hOl : OUT.data.toList.length = 128 := by rw [hOd]; exact block_len sumN (by omega) st
  have hOs : OUT.size = 128 := by rw [← hOl, Array.length_toList]; rfl
  have hDd : (OUT.extract 0 116).data.toList = padT s.data.toList 116 := by rw [ex_list, hOd]; exact block_data sumN (by omega) st
  have HDW := Lib.hid (fun w2 (h2 : Below w.heap.size w w2) => dwrite_any w2.drew p g mb n safe U (h.disk.later h2.drew) i hi OUT hOs)
  have HDD : Hid ((⟨(padT s.data.toList 116).toArray⟩ : ByteArray) = OUT.extract 0 116) := Lib.hid (by rw [← hDd])
  have HT := Lib.hid (fun w3 (h3 : OnlyJ (fun q => q = mb) w w3) => show Calls Tryz.prog 122 #[.pointer (some ⟨b, 0, none⟩), .agg #[.int .i64 i, .string (OUT.extract 0 116), .int .i64 st]] w3 fun e w' => e = .returned (.tuple #[]) ∧ Touched w3 p b 0 n cached misses R F xs ⟨i, padT s.data.toList 116, st⟩ w' from btouch_any w3 p b 0 n cached misses cv R F xs ((h3.block b (lt_blk h.cells) h.bm).trans h.cells) (h.cache.kept h3.size (fun q h5 h6 => h3.block q (h.lt q h5) (fun e => h6 (e ▸ h.rm))) (fun _ h => h)) h.len h.ca h.sub (fun q hq => Nat.lt_of_lt_of_le (h.lt q hq) h3.size) h.rb ⟨i, padT s.data.toList 116, st⟩ (OUT.extract 0 116) HDD.out)
  have hd0 := h.cells
  have hfin := fun (w3 w4 : World) (h3 : OnlyJ (fun q => q = mb) w w3) (hd3 : DiskAt w3 p g mb n safe (putU U i OUT.data.toList)) (h4 : Touched w3 p b 0 n cached misses R F xs ⟨i, padT s.data.toList 116, st⟩ w4) =>
    show DevAt w4 p g mb b n cached R (grow F w w4) (setS V i (blk s.data.toList st)) S true ∧ OnlyJ (fun q => q = b ∨ q = mb) w w4 from by
      obtain ⟨cv', xs', hm, hl, hd4, hc4, ho4⟩ := h4
      have hon : OnlyJ (fun q => q = b ∨ q = mb) w w4 := (h3.mono (fun _ _ h => .inr h)).trans (ho4.mono (fun _ _ h => .inl h))
      refine ⟨⟨safe, putU U i OUT.data.toList, cv', misses, xs', hd3.kept ho4.size ?_, hd4, hc4.kept (Nat.le_refl _) (fun _ _ _ => rfl) ?_, hl, h.ca, ?_, ?_, (fun e => by cases e), ?_, fun q hq => .inl (h.sub q hq), grow_lt h.lt hon.size, h.rp, h.rg, h.rm, h.rb, h.bp, h.bg, h.bm⟩, hon⟩
      · rintro k (rfl | rfl | rfl)
        · exact ho4.block _ (Nat.lt_of_lt_of_le (h.lt _ (h.sub _ h.rp)) h3.size) (Ne.symm h.bp)
        · exact ho4.block _ (Nat.lt_of_lt_of_le (h.lt _ (h.sub _ h.rg)) h3.size) (Ne.symm h.bg)
        · exact ho4.block _ (Nat.lt_of_lt_of_le (h.lt _ (h.sub _ h.rm)) h3.size) (Ne.symm h.bm)
      · rintro q (hq | hq)
        · exact .inl hq
        · exact .inr ⟨Nat.le_trans h3.size hq.1, hq.2⟩
      · intro j t hj
        unfold putU at hj
        split at hj
        · rename_i e
          subst e
          rw [← Option.some.inj hj]
          exact ⟨by omega, by omega, hOl⟩
        · exact h.keys j t hj
      · intro j hj
        rw [secT_put, hOd]
        obtain ⟨a1, a2⟩ := h.views j hj
        refine ⟨?_, a2⟩
        unfold setS
        rw [a1]
      · intro k hk
        rcases hm k hk with rfl | ⟨h5, h6⟩
        · refine ⟨hi, ?_⟩
          show parseT sumN (setS V i (blk s.data.toList st) i) = _
          rw [setS_same]
          exact parse_block sumN sumN_lt (by omega) hst
        · obtain ⟨a1, a2⟩ := h.kept k h5
          refine ⟨a1, ?_⟩
          rw [setS_other h6]
          exact a2
  have HFIN := Lib.hid hfin
  have c0 : w.cell? ⟨b, 0, none⟩ = some (.pointer (some ⟨p, 0, none⟩)) := cell_blk hd0 0
  have c1 : w.cell? ⟨b, 1, none⟩ = some (.int .i64 0) := cell_blk hd0 1
  have hlt := lt_blk hd0
  have hib : i ≤ 4096 := by omega
  have hO116 : (116 : Int) ≤ (OUT.size : Int) := by omega
  have HOS := Lib.hid hOs
  clear hsl hO hOd hOl hDd hd0 hfin hst hs h hn hOs
  go_enter Tryz.func59, Tryz.ntmps59
  go_upto_region 7 with (first
    | (go_at_call 119; (with_reducible refine HC.out.mono ?_); rintro e w1 ⟨rfl, rfl⟩)
    | (go_at_call 120; (with_reducible refine HBY.out.mono ?_); rintro e w2 ⟨rfl, hb2⟩)
    | fail)
  have d0 := (hb2.cell (p := ⟨b, 0, none⟩) hlt).trans c0
  have d1 := (hb2.cell (p := ⟨b, 1, none⟩) hlt).trans c1
  have HW := Lib.hid (HDW.out w2 hb2)
  have HB2 := Lib.hid hb2
  clear hb2 c0 c1
  go_still_tail 11, (by kernel_rfl)
  change wpList _ _ _ _ _ w2.drew
  obtain ⟨w4, hw4⟩ : ∃ w4, w2.drew = w4 := ⟨_, rfl⟩
  rw [hw4] at HW ⊢
  have HW4 := Lib.hid hw4
  clear hw4
  go_wp2_with (first
    | (go_at_call 121; (with_reducible refine HW.out.mono ?_); rintro e w5 ⟨rfl, hd5, ho5⟩)
    | fail)
  have hon5 : OnlyJ (fun q => q = mb) w w5 := (OnlyJ.of_below HB2.out).trans (by rw [← HW4.out] at ho5; exact ho5.undrew)
  have HT5 := Lib.hid (HT.out w5 hon5)
  go_wp2_with (first
    | (go_at_call 122; (with_reducible refine HT5.out.mono ?_); rintro e w6 ⟨rfl, ht6⟩)
    | fail)
  go_ret
  exact ⟨rfl, HFIN.out w5 w6 hon5 hd5 ht6⟩
end Go.Proofs.YtfpbocjmlhcgiaaGreatDoor
