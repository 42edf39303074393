/- A block device: Read, Barrier, Count. -/
import Derived.Test.YtfpbocjmlhcgiaaGreatDoorJg8
set_option linter.unusedSimpArgs false
set_option linter.unusedVariables false
namespace Go.Proofs.YtfpbocjmlhcgiaaGreatDoor
open Go.RowKit PJ Go.Maps

theorem findK_at (b : Nat) : ∀ (xs : List Kept) (i : Nat), findK b xs i = -1 ∨ ∃ m k, m < xs.length ∧ findK b xs i = ((i + m : Nat) : Int) ∧ xs[m]? = some k ∧ k.at' = b
  | [], i => .inl rfl
  | x :: r, i => by
    unfold findK
    by_cases h : x.at' = b
    · rw [if_pos h]
      exact .inr ⟨0, x, by simp, rfl, rfl, h⟩
    · rw [if_neg h]
      rcases findK_at b r (i + 1) with h1 | ⟨m, k, h1, h2, h3, h4⟩
      · exact .inl h1
      · exact .inr ⟨m + 1, k, by simpa using h1, by rw [h2]; congr 1; omega, by simpa using h3, h4⟩
theorem kidx_all (w : World) (R F : Nat → Prop) (cv : Value) (xs : List Kept) (hc : CacheAt w R F cv xs) (hx : xs.length ≤ 16) (b bk : Nat) (hk : w.cell? ⟨bk, 0, none⟩ = some (.int .i64 b)) (hbk : bk < w.heap.size) :
    Calls Tryz.prog 175 #[cv, .func (.func 176) #[] #[.pointer (some ⟨bk, 0, none⟩)]] w fun e w' => e = .returned (.int .i64 (findK b xs 0)) ∧ Below w.heap.size w w' := by
  rcases hc with ⟨rfl, rfl⟩ | ⟨g, off, cap, rfl, hg, -, -, hkk⟩
  · exact kidxR_nil w _
  · exact kidx_any w g off cap xs hx hg hkk b bk hk hbk
/-- What a reading call leaves. -/
theorem dev_touched {w w3 w4 : World} {p g mb b n cached : Nat} {R F : Nat → Prop} {V S : View} {dt : Bool} {safe : List UInt8} {U : Int → Option (List UInt8)} {cv : Value} {misses misses' : Int} {xs : List Kept} (h : DevS w p g mb b n cached R F V S dt safe U cv misses xs)
    (h3 : OnlyJ (fun q => q = b) w w3) (k : Kept) (hk : k.at' < n) (hp : parseT sumN (V k.at') = some (k.data, k.stamp)) (h4 : Touched w3 p b 0 n cached misses' R F xs k w4) :
    DevAt w4 p g mb b n cached R (grow F w w4) V S dt ∧ OnlyJ (fun q => q = b) w w4 := by
  obtain ⟨cv', xs', hm, hl, hd4, hc4, ho4⟩ := h4
  have hon := h3.trans ho4
  refine ⟨⟨safe, U, cv', misses', xs', h.disk.kept hon.size ?_, hd4, hc4.kept (Nat.le_refl _) (fun _ _ _ => rfl) ?_, hl, h.ca, h.keys, h.views, h.clean, ?_, fun q hq => .inl (h.sub q hq), grow_lt h.lt hon.size, h.rp, h.rg, h.rm, h.rb, h.bp, h.bg, h.bm⟩, hon⟩
  · rintro k (rfl | rfl | rfl)
    · exact hon.block _ (h.lt _ (h.sub _ h.rp)) (Ne.symm h.bp)
    · exact hon.block _ (h.lt _ (h.sub _ h.rg)) (Ne.symm h.bg)
    · exact hon.block _ (h.lt _ (h.sub _ h.rm)) (Ne.symm h.bm)
  · rintro q (hq | hq)
    · exact .inl hq
    · exact .inr ⟨Nat.le_trans h3.size hq.1, hq.2⟩
  · intro o ho
    rcases hm o ho with rfl | ⟨h5, h6⟩
    · exact ⟨hk, hp⟩
    · exact h.kept o h5
theorem DevAt.drewN {w : World} {p g mb b n cached : Nat} {R F : Nat → Prop} {V S : View} {dt : Bool} (h : DevAt w p g mb b n cached R F V S dt) (m : Nat) : DevAt (w.drewN m) p g mb b n cached R F V S dt := by
  obtain ⟨safe, U, cv, misses, xs, h⟩ := h
  exact ⟨safe, U, cv, misses, xs, ⟨h.disk, h.cells, h.cache, h.len, h.ca, h.keys, h.views, h.clean, h.kept, h.sub, h.lt, h.rp, h.rg, h.rm, h.rb, h.bp, h.bg, h.bm⟩⟩
theorem OnlyJ.drewN {r : Nat → Prop} {a w : World} (h : OnlyJ r a w) (m : Nat) : OnlyJ r a (w.drewN m) := ⟨h.os, h.tape, h.output, h.size, h.block⟩
theorem OnlyJ.drew {r : Nat → Prop} {a w : World} (h : OnlyJ r a w) : OnlyJ r a w.drew := ⟨h.os, h.tape, h.output, h.size, h.block⟩
set_option maxRecDepth 100000 in
set_option maxHeartbeats 4000000 in
theorem bread_any (w : World) (p g mb b n cached : Nat) (R F : Nat → Prop) (V S : View) (dt : Bool) (h : DevAt w p g mb b n cached R F V S dt) (i : Nat) (hi : i < n) (d : List UInt8) (st : Nat) (hp : parseT sumN (V i) = some (d, st)) :
    Calls Tryz.prog 125 #[.pointer (some ⟨b, 0, none⟩), .int .i64 i] w fun e w' => e = .returned (.tuple #[.string ⟨d.toArray⟩, .int .i64 st, .int .i64 0]) ∧
      DevAt w' p g mb b n cached R (grow F w w') V S dt ∧ OnlyJ (fun q => q = b) w w' := by
  obtain ⟨safe, U, cv, misses, xs, h⟩ := h
  have hmf : ∀ (fn : Fn) (first cap : Array Value) (w : World), (Instr.makeFunc fn first cap).run Tryz.prog w = .ok (.func fn first cap) w := fun _ _ _ _ => rfl
  have hn : n ≤ 4096 := h.disk.2.2.1
  have hib : i ≤ 4096 := by omega
  obtain ⟨D, hD⟩ : ∃ D : ByteArray, (⟨d.toArray⟩ : ByteArray) = D := ⟨_, rfl⟩
  obtain ⟨w1, hw1⟩ : ∃ w1, w.alloc (.cells #[.int .i64 i] 3) = w1 := ⟨_, rfl⟩
  have hb1 : Below w.heap.size w w1 := by rw [← hw1]; exact alloc_below w _
  have hz1 : w1.heap.size = w.heap.size + 1 := by rw [← hw1, World.size_alloc]
  have hx1 : w1.heap[w.heap.size]? = some (.cells #[.int .i64 i] 3 (0, 0)) := by rw [← hw1]; exact alloc_blk w _
  have hlt := lt_blk h.cells
  have hd1 := block_below hb1 h.cells hlt
  have HC := Lib.hid (basked_any w1 p g mb n safe U (h.disk.later hb1) b 0 n cached misses cv hd1 i hi hn)
  have hca1 : CacheAt w1 R F cv xs := h.cache.kept hb1.size (fun q hq _ => hb1.block q (h.lt q hq)) (fun _ h => h)
  have hKX := kidx_all w1 R F cv xs hca1 h.len i w.heap.size (cell_blk hx1 0) (by omega)
  have c4 : w1.cell? ⟨b, 4, none⟩ = some cv := cell_blk hd1 4
  have x0 : w1.cell? ⟨w.heap.size, 0, none⟩ = some (.int .i64 i) := cell_blk hx1 0
  have HW1 := Lib.hid hw1
  have HB1 := Lib.hid hb1
  have HZ1 := Lib.hid hz1
  have HX1 := Lib.hid hx1
  have HD1 := Lib.hid hd1
  have HD := Lib.hid hD
  have HFIN := Lib.hid (fun (w3 w4 : World) misses' h3 k hk hp h4 => dev_touched (w3 := w3) (w4 := w4) (misses' := misses') h h3 k hk hp h4)
  rcases findK_at i xs 0 with hf | ⟨m, k, hm, hf, hkm, hka⟩
  · rw [hf] at hKX
    have HKX := Lib.hid hKX
    obtain ⟨SK, hSK⟩ : ∃ SK : ByteArray, (⟨(secT safe U i).toArray⟩ : ByteArray) = SK := ⟨_, rfl⟩
    have hSd : SK.data.toList = V i := by rw [← hSK]; exact (h.views i hi).1
    have hVl : (V i).length = 128 := by
      rw [← (h.views i hi).1]
      unfold secT
      cases hu : U (i : Int) with
      | some s => exact (h.keys _ _ hu).2.2
      | none =>
        have := h.disk.1
        show ((safe.drop (128 * i)).take 128).length = 128
        simp; omega
    have hSs : SK.size = 128 := by
      have : SK.data.toList.length = 128 := by rw [hSd, hVl]
      rw [← this, Array.length_toList]; rfl
    have HPA := Lib.hid (fun w5 => show Calls Tryz.prog 178 #[.string SK] w5 fun e w' => e = .returned (.tuple #[.string D, .int .i64 st, .int .i64 0]) ∧ Below w5.heap.size w5 w' from (bparse_any SK w5 hSs).mono (by
      rintro e w' ⟨hs, hb⟩
      rw [hSd] at hs
      rcases hs with ⟨d', n', h1, rfl⟩ | ⟨h1, -⟩
      · rw [hp] at h1
        have := Option.some.inj h1
        obtain ⟨rfl, rfl⟩ : d = d' ∧ st = n' := ⟨congrArg Prod.fst this, congrArg Prod.snd this⟩
        exact ⟨by rw [HD.out], hb⟩
      · rw [hp] at h1; cases h1))
    obtain ⟨ms, hms⟩ : ∃ ms, wrap64 (misses + 1) = ms := ⟨_, rfl⟩
    have hW3 := fun (w3 : World) (h3 : OnlyJ (fun q => q = b) w w3) => show DiskAt w3 p g mb n safe U from h.disk.kept h3.size (by
      rintro k (rfl | rfl | rfl)
      · exact h3.block _ (h.lt _ (h.sub _ h.rp)) (Ne.symm h.bp)
      · exact h3.block _ (h.lt _ (h.sub _ h.rg)) (Ne.symm h.bg)
      · exact h3.block _ (h.lt _ (h.sub _ h.rm)) (Ne.symm h.bm))
    have HR := Lib.hid (fun (w3 : World) (h3 : OnlyJ (fun q => q = b) w w3) => show Calls Tryz.prog 177 #[.pointer (some ⟨p, 0, none⟩), .int .i64 i] w3 fun e w' => e = .returned (.tuple #[.string SK, .int .i64 0]) ∧ Below w3.heap.size w3 w' from by
      rw [← hSK]
      exact dread_any w3 p g mb n safe U (hW3 w3 h3) i hi)
    have HT := Lib.hid (fun w3 (h3 : OnlyJ (fun q => q = b) w w3) (h5 : w3.heap[b]? = some (.cells (devCells p 0 n cached cv ms) 105 (0, 0))) => show Calls Tryz.prog 122 #[.pointer (some ⟨b, 0, none⟩), .agg #[.int .i64 i, .string D, .int .i64 st]] w3 fun e w' => e = .returned (.tuple #[]) ∧ Touched w3 p b 0 n cached ms R F xs ⟨i, d, st⟩ w' from
      btouch_any w3 p b 0 n cached ms _ R F xs h5 (h.cache.kept h3.size (fun q hq hr => h3.block q (h.lt q hq) (fun e => hr (e ▸ h.rb))) (fun _ h => h)) h.len h.ca h.sub (fun q hq => Nat.lt_of_lt_of_le (h.lt q hq) h3.size) h.rb ⟨i, d, st⟩ D HD.out)
    have HP := Lib.hid hp
    have c0 : w1.cell? ⟨b, 0, none⟩ = some (.pointer (some ⟨p, 0, none⟩)) := cell_blk hd1 0
    have c1 : w1.cell? ⟨b, 1, none⟩ = some (.int .i64 0) := cell_blk hd1 1
    have c5 : w1.cell? ⟨b, 5, none⟩ = some (.int .i64 misses) := cell_blk hd1 5
    have hlt1 : b < w1.heap.size := by omega
    clear hKX hw1 hb1 hx1 hd1 hf hp h hz1 hca1 hSK hSd hVl hSs hW3 hD
    go_enter Tryz.func125, Tryz.ntmps125
    go_upto_region 1 with fail
    rw [HW1.out]
    go_upto_region 9 with (first
      | (go_at_call 119; (with_reducible refine HC.out.mono ?_); rintro e w2 ⟨rfl, rfl⟩)
      | (go_at_call 175; (with_reducible refine HKX.out.mono ?_); rintro e w2 ⟨rfl, hb2⟩)
      | fail)
    have hd2 := block_below hb2 HD1.out hlt1
    have q5 : w2.cell? ⟨b, 5, none⟩ = some (.int .i64 misses) := cell_blk hd2 5
    have f5 := free_blk hd2 5
    have x2 := (hb2.cell (p := ⟨w.heap.size, 0, none⟩) (lt_blk HX1.out)).trans x0
    have hd3 := heap_setCell_same w2 b 5 _ _ (.int .i64 ms) hd2
    have hb02 := HB1.out.trans (hb2.mono HB1.out.size)
    obtain ⟨w3, hw3⟩ : ∃ w3, w2.setCell ⟨b, 5, none⟩ (.int .i64 ms) = w3 := ⟨_, rfl⟩
    have hon3 : OnlyJ (fun q => q = b) w w3 := by
      rw [← hw3]
      exact ⟨hb02.os, hb02.tape, hb02.output, by rw [World.size_setCell]; exact hb02.size, fun q hq hne => (heap_setCell_other w2 ⟨b, 5, none⟩ q _ hne).trans (hb02.block q hq)⟩
    have x3 : w3.cell? ⟨w.heap.size, 0, none⟩ = some (.int .i64 i) := by
      rw [← hw3]
      exact (World.cell?_of_block (a := ⟨w.heap.size, 0, none⟩) (heap_setCell_other w2 ⟨b, 5, none⟩ _ _ (by show w.heap.size ≠ b; omega))).trans x2
    rw [hw3] at hd3
    have HMS := Lib.hid hms
    have HW3 := Lib.hid hw3
    have HON3 := Lib.hid hon3
    have HD3 := Lib.hid hd3
    clear hd2 hb02 hw3 hon3 hd3 hms c0 c1 c5
    go_upto_region 10 with fail
    rw [HMS.out, HW3.out]
    have d0 : w3.cell? ⟨b, 0, none⟩ = some (.pointer (some ⟨p, 0, none⟩)) := cell_blk HD3.out 0
    have d1 : w3.cell? ⟨b, 1, none⟩ = some (.int .i64 0) := cell_blk HD3.out 1
    have HR3 := Lib.hid (HR.out w3.drew HON3.out.drew)
    have hwi : IntKind.i64.wrap (i : Int) = (i : Int) := by rw [IntKind.wrap_i64]; omega
    clear q5 f5 x2 c4 x0
    go_region_with (go_at_call 177; (with_reducible refine HR3.out.mono ?_); rintro e w5 ⟨rfl, hb5⟩)
    all_goals
      have hb5' : Below w3.heap.size w3 w5 := ⟨hb5.os, hb5.tape, hb5.output, hb5.size, hb5.block⟩
      have HB5 := Lib.hid hb5'
      have x5 := (hb5'.cell (p := ⟨w.heap.size, 0, none⟩) (World.block_lt_of_cell? _ _ x3)).trans x3
      clear hb5 hb5' d0 d1 x3 hwi
      go_upto_region 15 with (first
        | (go_at_call 178; (with_reducible refine (HPA.out _).mono ?_); rintro e w6 ⟨rfl, hb6⟩)
        | fail)
      have x6 := (hb6.cell (p := ⟨w.heap.size, 0, none⟩) (World.block_lt_of_cell? _ _ x5)).trans x5
      have hb36 := HB5.out.trans (hb6.mono HB5.out.size)
      have hon6 : OnlyJ (fun q => q = b) w w6 := HON3.out.trans (OnlyJ.of_below hb36)
      have hd6 := block_below hb36 HD3.out (lt_blk HD3.out)
      have HT6 := Lib.hid (HT.out w6 hon6 hd6)
      have HON6 := Lib.hid hon6
      clear hb6 hb36 hon6 hd6 x5
      go_wp2_with (first
        | (go_at_call 122; (with_reducible refine HT6.out.mono ?_); rintro e w7 ⟨rfl, ht7⟩)
        | fail)
      go_ret3
      obtain ⟨f1, f2⟩ := HFIN.out w6 w7 ms HON6.out ⟨i, d, st⟩ hi HP.out ht7
      exact ⟨by rw [HD.out]; rfl, f1, f2⟩
  · rw [Nat.zero_add] at hf
    rw [hf] at hKX
    have HKX := Lib.hid hKX
    have hmem : k ∈ xs := List.mem_of_getElem? hkm
    obtain ⟨a1, a2⟩ := h.kept k hmem
    rw [hka, hp] at a2
    obtain ⟨e1, e2⟩ : d = k.data ∧ st = k.stamp := by
      have := Option.some.inj a2
      exact ⟨congrArg Prod.fst this, congrArg Prod.snd this⟩
    subst e1 e2
    rcases hca1 with ⟨-, rfl⟩ | ⟨cg, off, cap, rfl, hcg, hnR, -, hkk⟩
    · cases hkm
    have hKC := hkk m k hkm
    have HT := Lib.hid (fun w3 (h3 : Below w.heap.size w w3) => show Calls Tryz.prog 122 #[.pointer (some ⟨b, 0, none⟩), .agg #[.int .i64 i, .string D, .int .i64 k.stamp]] w3 fun e w' => e = .returned (.tuple #[]) ∧ Touched w3 p b 0 n cached misses R F xs k w' from by
      rw [← hka]
      exact btouch_any w3 p b 0 n cached misses _ R F xs (block_below h3 h.cells hlt) (h.cache.kept h3.size (fun q hq _ => h3.block q (h.lt q hq)) (fun _ h => h)) h.len h.ca h.sub (fun q hq => Nat.lt_of_lt_of_le (h.lt q hq) h3.size) h.rb k D hD)
    have hxl : xs.length ≤ 16 := h.len
    have HKC := Lib.hid hKC
    have HKA := Lib.hid hka
    have HP := Lib.hid hp
    clear hKX hw1 hb1 hx1 hd1 hD hf hkm a2 a1 hmem hkk hKC hka hp h hz1
    go_enter Tryz.func125, Tryz.ntmps125
    go_upto_region 1 with fail
    rw [HW1.out]
    go_upto_region 6 with (first
      | (go_at_call 119; (with_reducible refine HC.out.mono ?_); rintro e w2 ⟨rfl, rfl⟩)
      | (go_at_call 175; (with_reducible refine HKX.out.mono ?_); rintro e w2 ⟨rfl, hb2⟩)
      | fail)
    have q4 := (hb2.cell (p := ⟨b, 4, none⟩) (by show b < w1.heap.size; have := HZ1.out; omega)).trans c4
    obtain ⟨k1, k2, k3⟩ := HKC.out
    have r1 := (hb2.cell (p := ⟨cg, off + m * 3, none⟩) hcg).trans k1
    have r2 := (hb2.cell (p := ⟨cg, off + m * 3 + 1, none⟩) hcg).trans k2
    have r3 := (hb2.cell (p := ⟨cg, off + m * 3 + 2, none⟩) hcg).trans k3
    rw [HD.out] at r2
    rw [HKA.out] at r1
    have hb02 := HB1.out.trans (hb2.mono HB1.out.size)
    have HB02 := Lib.hid hb02
    have HA := Lib.hid (alloc_blk w2 (.cells #[.int .i64 i, .string D, .int .i64 k.stamp] 126))
    clear hb02 k1 k2 k3
    go_upto_region 8 with (first
      | (go_at_call 122; (with_reducible refine (HT.out _ (HB02.out.alloc HB02.out.size _)).mono ?_); rintro e w4 ⟨rfl, ht4⟩)
      | fail)
    obtain ⟨cv4, xs4, -, -, -, -, ho4⟩ := id ht4
    have hxb := (ho4.block w2.heap.size (by simp) (by have := HB02.out.size; omega)).trans HA.out
    have s1 : w4.cell? ⟨w2.heap.size, 1, none⟩ = some (.string D) := cell_blk hxb 1
    have s2 : w4.cell? ⟨w2.heap.size, 2, none⟩ = some (.int .i64 k.stamp) := cell_blk hxb 2
    have HTF := Lib.hid (HFIN.out (w2.alloc (.cells #[.int .i64 i, .string D, .int .i64 k.stamp] 126)) w4 misses (OnlyJ.of_below (HB02.out.alloc HB02.out.size _)) k (by rw [HKA.out]; exact hi) (by rw [HKA.out]; exact HP.out) ht4)
    clear ht4 ho4 hxb
    go_quiet (fail)
    go_wp2_with fail
    go_ret3
    exact ⟨by rw [HD.out]; rfl, HTF.out.1.drewN _, HTF.out.2.drewN _⟩
end Go.Proofs.YtfpbocjmlhcgiaaGreatDoor
