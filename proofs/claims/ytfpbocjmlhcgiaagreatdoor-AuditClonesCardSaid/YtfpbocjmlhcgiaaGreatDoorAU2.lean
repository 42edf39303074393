/- The audit's parse, at a record's cell. -/
import Derived.Test.YtfpbocjmlhcgiaaGreatDoorAU1
import Derived.Test.YtfpbocjmlhcgiaaGreatDoorJg17
set_option linter.unusedSimpArgs false
set_option linter.unusedVariables false
namespace Go.Proofs.YtfpbocjmlhcgiaaGreatDoor
open Go.RowKit PJ Go.Maps

theorem lj_only {w a b : World} {F : Nat → Prop} (h : LJ w a) (ho : OnlyJ F a b) (hF : ∀ q, F q → w.heap.size ≤ q) : LJ w b := by
  have hs := Below.size h
  exact ⟨ho.os.trans h.os, ho.tape.trans h.tape, ho.output.trans h.output, Nat.le_trans hs ho.size, fun k hk => (ho.block k (by omega) (fun e => by have := hF k e; omega)).trans (Below.block h k hk)⟩

/-- A record's cell. -/
def cellB (x : Rec) (lk : List UInt8) : List UInt8 := padT (1 :: (x.bytes ++ lk)) 116
theorem results_cell_row3 {P : Program} {fn : Func} {p u v : Tmp} {ty : TypeId} (h : fn.results = #[.cell p ty, .tmp u, .tmp v]) (tmps : Array Value) (w : World) (g : Nat) (t : TypeId) (cs : Array Value) (fr : Nat × Nat) (d : TypeDesc)
    (hp : tmps.getD p undef = .pointer (some ⟨g, 0, none⟩)) (hg : w.heap[g]? = some (.cells cs t fr))
    (hu : P.underlying ty = some d) (hd : (match d with | .struct _ | .array _ _ => true | _ => false) = true) (hi : (P.info? ty).map (·.size) = some cs.size) :
    (results fn tmps).run P w = .ok (.tuple #[.agg cs, tmps.getD u undef, tmps.getD v undef]) w := by
  have hp' : tmps[p]?.getD undef = .pointer (some ⟨g, 0, none⟩) := by simpa using hp
  simp [results, h, hp', asAddr, run_loadVar_row w g t ty cs fr d hg hu hd hi]
theorem info_rec : (Tryz.prog.info? 49).map (fun i => (i.size)) = some 5 := by kernel_rfl
theorem list_at (S : ByteArray) {l : List UInt8} (h : S.data.toList = l) {k : Nat} {u : UInt8} (hk : l[k]? = some u) (W : World) : (Instr.index 9 (.string S) (.int .i64 (k : Int))).run Tryz.prog W = .ok (.int .u8 (u.toNat : Int)) W := by
  have hl : k < l.length := (List.getElem?_eq_some_iff.1 hk).1
  have hs : k < S.size := by
    have : S.data.toList.length = S.size := by rw [Array.length_toList]; rfl
    rw [h] at this
    omega
  have := str_byte S hs W
  rw [h, List.getD_eq_getElem?_getD, hk] at this
  exact this
set_option maxRecDepth 100000 in
set_option maxHeartbeats 4000000 in
theorem aparse_any (w : World) (n f t r : Int) (h : ByteArray) (hm : Rec.may ⟨n, f, t, r, h⟩ = true) (lk : ByteArray) (hlk : lk.size = 32) (S : ByteArray) (hS : S.data.toList = cellB ⟨n, f, t, r, h⟩ lk.data.toList) :
    Calls Tryz.prog 66 #[.string S] w fun e w' => e = .returned (.tuple #[.agg #[.int .i64 n, .int .i64 f, .int .i64 t, .int .i64 r, .string h], .string lk, .bool true]) ∧ LJ w w' := by
  obtain ⟨m1, m2, m3, m4, m5, m6⟩ := may_facts hm
  have hlkl : lk.data.toList.length = 32 := by rw [Array.length_toList]; exact hlk
  have hhl : h.data.toList.length = 32 := by rw [Array.length_toList]; exact m6
  obtain ⟨NB, hNB⟩ : ∃ NB, be n.toNat 8 = NB := ⟨_, rfl⟩
  have hNl : NB.length = 8 := by rw [← hNB, be_len]
  have hcell : S.data.toList = [1] ++ (NB ++ ([UInt8.ofNat f.toNat, UInt8.ofNat t.toNat, UInt8.ofNat r.toNat] ++ (h.data.toList ++ (lk.data.toList ++ List.replicate 40 0)))) := by
    rw [hS]
    unfold cellB padT Rec.bytes
    rw [hNB]
    have : (1 :: (NB ++ ([UInt8.ofNat f.toNat, UInt8.ofNat t.toNat, UInt8.ofNat r.toNat] ++ h.data.toList) ++ lk.data.toList) : List UInt8).length = 76 := by
      simp [hNl, hhl, hlkl]
    rw [this]
    simp
  have hSs : S.size = 116 := by
    have h1 : S.data.toList.length = S.size := by rw [Array.length_toList]; rfl
    rw [hcell] at h1
    simp [hNl, hhl, hlkl] at h1
    omega
  have hi0 : ∀ W : World, (Instr.index 9 (.string S) (.int .i64 0)).run Tryz.prog W = .ok (.int .u8 1) W := fun W => list_at S hcell (k := 0) (u := 1) (by simp) W
  have hget : ∀ j, 1 + 8 ≤ j → S.data.toList[j]? = ([UInt8.ofNat f.toNat, UInt8.ofNat t.toNat, UInt8.ofNat r.toNat] ++ (h.data.toList ++ (lk.data.toList ++ List.replicate 40 0)))[j - 9]? := fun j hj => by
    rw [hcell, List.getElem?_append_right (by simp; omega), List.getElem?_append_right (by rw [hNl]; simp; omega), hNl]
    congr 1
  have hi9 : ∀ W : World, (Instr.index 9 (.string S) (.int .i64 9)).run Tryz.prog W = .ok (.int .u8 f) W := fun W => by
    have h1 := list_at S rfl (k := 9) (u := UInt8.ofNat f.toNat) (by rw [hget 9 (by omega)]; rfl) W
    rw [show ((UInt8.ofNat f.toNat).toNat : Int) = f from by rw [UInt8.toNat_ofNat']; omega] at h1
    exact h1
  have hi10 : ∀ W : World, (Instr.index 9 (.string S) (.int .i64 10)).run Tryz.prog W = .ok (.int .u8 t) W := fun W => by
    have h1 := list_at S rfl (k := 10) (u := UInt8.ofNat t.toNat) (by rw [hget 10 (by omega)]; rfl) W
    rw [show ((UInt8.ofNat t.toNat).toNat : Int) = t from by rw [UInt8.toNat_ofNat']; omega] at h1
    exact h1
  have hi11 : ∀ W : World, (Instr.index 9 (.string S) (.int .i64 11)).run Tryz.prog W = .ok (.int .u8 r) W := fun W => by
    have h1 := list_at S rfl (k := 11) (u := UInt8.ofNat r.toNat) (by rw [hget 11 (by omega)]; rfl) W
    rw [show ((UInt8.ofNat r.toNat).toNat : Int) = r from by rw [UInt8.toNat_ofNat']; omega] at h1
    exact h1
  have hdrop : ∀ k, S.data.toList.drop (12 + k) = (h.data.toList ++ (lk.data.toList ++ List.replicate 40 0)).drop k := fun k => by
    rw [hcell, ← List.append_assoc, ← List.append_assoc, ← List.drop_drop, List.drop_left' (by simp [hNl])]
  have hs12 : ∀ W : World, (Instr.slice 9 (.string S) (some (.int .i64 12)) (some (.int .i64 44)) none).run Tryz.prog W = .ok (.string h) W := fun W => by
    have h1 := slice_str W S 12 44 (by omega) (by omega)
    have e : S.extract 12 44 = h := by
      apply ByteArray.ext
      apply Array.toList_inj.1
      rw [ex_list, show S.data.toList.drop 12 = _ from hdrop 0, List.drop_zero, List.take_left' (by omega)]
    rw [e] at h1
    exact h1
  have hs44 : ∀ W : World, (Instr.slice 9 (.string S) (some (.int .i64 44)) (some (.int .i64 76)) none).run Tryz.prog W = .ok (.string lk) W := fun W => by
    have h1 := slice_str W S 44 76 (by omega) (by omega)
    have e : S.extract 44 76 = lk := by
      apply ByteArray.ext
      apply Array.toList_inj.1
      rw [ex_list, show S.data.toList.drop 44 = _ from hdrop 32, List.drop_left' hhl, List.take_left' (by omega)]
    rw [e] at h1
    exact h1
  obtain ⟨TL, hTL⟩ : ∃ TL : ByteArray, S.extract 76 S.size = TL := ⟨_, rfl⟩
  have hs76 : ∀ W : World, (Instr.slice 9 (.string S) (some (.int .i64 76)) none none).run Tryz.prog W = .ok (.string TL) W := fun W => by
    have h1 := slice_from W S 76 (by omega)
    rw [hTL] at h1
    exact h1
  have hTd : TL.data.toList = List.replicate 40 0 := by
    rw [← hTL, ex_list, show S.data.toList.drop 76 = _ from hdrop 64, ← List.append_assoc, List.drop_left' (by simp [hhl, hlkl]), List.take_of_length_le (by simp; omega)]
  have hTs : TL.size ≤ 200 := by
    have : TL.data.toList.length = 40 := by rw [hTd]; simp
    rw [Array.length_toList] at this
    have h2 : TL.size = TL.data.size := rfl
    omega
  have HT := Lib.hid (fun W => show Calls Tryz.prog 130 #[.string TL, .string ⟨#[0]⟩] W fun e w' => e = .returned (.string ⟨#[]⟩) ∧ ∃ n, w' = W.drewN n from by
    refine (Any.strings_Trim_one Tryz.lays160 TL 0 (by decide) W (by omega)).mono ?_
    rintro e w' ⟨rfl, h⟩
    refine ⟨by rw [trim_zeros _ (by rw [hTd]; intro c hc; exact List.eq_of_mem_replicate hc)], ?_⟩
    rcases h with rfl | rfl
    · exact ⟨0, rfl⟩
    · exact ⟨1, rfl⟩)
  have HIX := Lib.hid (fun (k : Nat) (hk : k < 8) => show ∃ u, NB[k]? = some u ∧ ∀ W : World, (Instr.index 9 (.string S) (.int .i64 (1 + (k : Int)))).run Tryz.prog W = .ok (.int .u8 (u.toNat : Int)) W from by
    refine ⟨NB[k]'(by omega), List.getElem?_eq_getElem (by omega), fun W => ?_⟩
    have h1 := list_at S hcell (k := 1 + k) (u := NB[k]'(by omega)) (by rw [List.getElem?_append_right (by simp), List.getElem?_append_left (by simp; omega)]; simp) W
    rw [show ((1 + k : Nat) : Int) = 1 + (k : Int) from by omega] at h1
    exact h1)
  have HM := Lib.hid (fun W => amay_any W n f t r h)
  rw [hm] at HM
  obtain ⟨w1, hw1⟩ : ∃ w1, w.alloc (.cells #[.int .i64 0, .int .i64 0, .int .i64 0, .int .i64 0, .string ⟨#[]⟩] 49) = w1 := ⟨_, rfl⟩
  have hb1 : w1.heap[w.heap.size]? = some (.cells #[.int .i64 0, .int .i64 0, .int .i64 0, .int .i64 0, .string ⟨#[]⟩] 49 (0, 0)) := by rw [← hw1]; exact alloc_blk w _
  have hl1 : LJ w w1 := by rw [← hw1]; exact (LJ.refl w).alloc _
  have HB1 := Lib.hid hb1
  have HL1 := Lib.hid hl1
  have HW1 := Lib.hid hw1
  obtain ⟨q, hq⟩ : ∃ q, w.heap.size = q := ⟨_, rfl⟩
  have HQ := Lib.hid hq
  have HF := Lib.hid (And.intro m1 (And.intro m2 (And.intro m3 (And.intro m4 m5))))
  have HNB := Lib.hid (And.intro hNB hNl)
  rw [hq] at HB1
  clear hm hlk hS m1 m2 m3 m4 m5 m6 hlkl hhl hNB hNl hcell hSs hget hdrop hTL hTd hTs hw1 hb1 hl1
  go_enter Tryz.func66, Tryz.ntmps66
  go_upto_region 1 with fail
  rw [HW1.out]
  clear hq
  go_upto_region 3 with (first
    | (go_at_call 130; (with_reducible refine (HT.out _).mono ?_); rintro e w2 ⟨rfl, nq, rfl⟩)
    | fail)
  obtain ⟨w3, hw3⟩ : ∃ w3, w1.drewN nq = w3 := ⟨_, rfl⟩
  rw [hw3]
  have hl3 : LJ w1 w3 := by rw [← hw3]; exact (LJ.refl w1).drewN nq
  have HL3 := Lib.hid hl3
  clear hw3 hl3 hs76 hi0
  go_wp2_with fail
  go_loopw [5, 17] (fun v5 v17 wr => ∃ k m : Nat, k ≤ 8 ∧ v17 = .int .i64 (k : Int) ∧ v5 = .int .u64 (m : Int) ∧ Hid (m = ofL (NB.take k)) ∧ wr = w3) (fun _ v17 _ => 8 - (intOf v17).toNat)
  case atStart => exact ⟨0, 0, by omega, rfl, rfl, Lib.hid rfl, rfl⟩
  case round =>
    obtain ⟨k, m, hk, rfl, rfl, HM0, hwr⟩ := hrel
    subst hwr
    by_cases hlt : k < 8
    · obtain ⟨u, hu, hix⟩ := HIX.out k hlt
      have hnb : m < 72057594037927936 := by
        have h1 := ofL_lt (NB.take k)
        rw [← HM0.out, List.length_take] at h1
        have h2 : 256 ^ min k NB.length ≤ 256 ^ 7 := Nat.pow_le_pow_right (by omega) (by omega)
        have h3 : (256 : Nat) ^ 7 = 72057594037927936 := by decide
        omega
      obtain ⟨c, hce⟩ : ∃ c : Int, (u.toNat : Int) = c := ⟨_, rfl⟩
      have hc0 : 0 ≤ c ∧ c ≤ 255 := by have := UInt8.toNat_lt u; omega
      simp only [hce] at hix
      have hst : Go.bits .or .u64 ((m : Int) * 256) c = (m : Int) * 256 + c := of_step (by omega) (by omega) hc0
      have hst2 : Go.bits .or .u64 (256 * (m : Int)) c = (m : Int) * 256 + c := by rw [Int.mul_comm]; exact hst
      have HST := Lib.hid (show m * 256 + u.toNat = ofL (NB.take (k + 1)) from by rw [List.take_add_one, hu, Option.toList_some, ofL_snoc, ← HM0.out])
      have HCE := Lib.hid hce
      clear hu hce
      go_wp2_with fail
      go_roundw
      case rel =>
        refine ⟨k + 1, m * 256 + u.toNat, by omega, by simp, ?_, HST, trivial⟩
        show Value.int .u64 _ = Value.int .u64 _
        congr 1
        have := HCE.out
        omega
      case measure => simp [intOf]; omega
    · have hk8 : k = 8 := by omega
      have hmn : (m : Int) = n := by
        have h1 := HM0.out
        obtain ⟨e1, e2⟩ := HNB.out
        have h2 := HF.out
        rw [hk8, List.take_of_length_le (by omega), ← e1, ofL_be_lt (k := 8) (by omega)] at h1
        omega
      have hgt : decide ((4611686018427387904 : Int) < n) = false := by have h2 := HF.out; simp; omega
      have hgt2 : ¬ (4611686018427387904 : Int) < n := by have h2 := HF.out; omega
      rw [hmn]
      have hwi : IntKind.i64.wrap n = n := by have h2 := HF.out; rw [IntKind.wrap_i64]; omega
      have hwf : IntKind.i64.wrap f = f := by have h2 := HF.out; rw [IntKind.wrap_i64]; omega
      have hwt : IntKind.i64.wrap t = t := by have h2 := HF.out; rw [IntKind.wrap_i64]; omega
      have hwr' : IntKind.i64.wrap r = r := by have h2 := HF.out; rw [IntKind.wrap_i64]; omega
      have hb3 : wr.heap[q]? = some (.cells #[.int .i64 0, .int .i64 0, .int .i64 0, .int .i64 0, .string ⟨#[]⟩] 49 (0, 0)) := HL3.out.block HB1.out
      have HB3 := Lib.hid hb3
      clear hk8 hmn hb3
      go_upto_region 11 with fail
      clear hgt hgt2
      go_still_tail 14, (by kernel_rfl)
      change wpList _ _ _ _ _ wr.drew
      obtain ⟨w4, hw4⟩ : ∃ w4, wr.drew = w4 := ⟨_, rfl⟩
      rw [hw4]
      have hl4 : LJ wr w4 := by rw [← hw4]; exact (LJ.refl wr).drew
      have hb4 := hl4.block HB3.out
      have HB4 := Lib.hid hb4
      have HL4 := Lib.hid hl4
      clear hw4 hl4 hb4 hi9 hi10 hi11 hs12
      have c0 : w4.cell? ⟨q, 0, none⟩ = some (.int .i64 0) := cell_blk HB4.out 0
      have c1 : w4.cell? ⟨q, 1, none⟩ = some (.int .i64 0) := cell_blk HB4.out 1
      have c2 : w4.cell? ⟨q, 2, none⟩ = some (.int .i64 0) := cell_blk HB4.out 2
      have c3 : w4.cell? ⟨q, 3, none⟩ = some (.int .i64 0) := cell_blk HB4.out 3
      have c4 : w4.cell? ⟨q, 4, none⟩ = some (.string ⟨#[]⟩) := cell_blk HB4.out 4
      have f0 := free_blk HB4.out 0
      have f1 := free_blk HB4.out 1
      have f2 := free_blk HB4.out 2
      have f3 := free_blk HB4.out 3
      have f4 := free_blk HB4.out 4
      obtain ⟨w5, hw5⟩ : ∃ w5, ((((w4.setCell ⟨q, 0, none⟩ (.int .i64 n)).setCell ⟨q, 1, none⟩ (.int .i64 f)).setCell ⟨q, 2, none⟩ (.int .i64 t)).setCell ⟨q, 3, none⟩ (.int .i64 r)).setCell ⟨q, 4, none⟩ (.string h) = w5 := ⟨_, rfl⟩
      have hb5 : w5.heap[q]? = some (.cells #[.int .i64 n, .int .i64 f, .int .i64 t, .int .i64 r, .string h] 49 (0, 0)) := by
        rw [← hw5]
        exact heap_setCell_same _ _ 4 _ _ _ (heap_setCell_same _ _ 3 _ _ _ (heap_setCell_same _ _ 2 _ _ _ (heap_setCell_same _ _ 1 _ _ _ (heap_setCell_same _ _ 0 _ _ _ HB4.out))))
      have ho5 : OnlyJ (fun k => k = q) w4 w5 := by
        rw [← hw5]
        exact ((((setCell_only _ _ _ _).trans (setCell_only _ _ _ _)).trans (setCell_only _ _ _ _)).trans (setCell_only _ _ _ _)).trans (setCell_only _ _ _ _)
      have HB5 := Lib.hid hb5
      have HO5 := Lib.hid ho5
      have HW5 := Lib.hid hw5
      clear hb5 ho5 hw5
      go_upto_region 12 with fail
      rw [HW5.out]
      clear c0 c1 c2 c3 c4 f0 f1 f2 f3 f4
      have HMM := Lib.hid (HM.out w5.drew)
      refine wp_region_held_drew (S := fun w' => w'.heap[q]? = some (.cells #[.int .i64 n, .int .i64 f, .int .i64 t, .int .i64 r, .string h] 49 (0, 0))) (by kernel_rfl) HB5.out (fun hHeld => ?_)
      refine tkS 0 hHeld ?_ (hy := by intro w hSw; have l0 := cell_blk hSw 0; have l1 := cell_blk hSw 1; have l2 := cell_blk hSw 2; have l3 := cell_blk hSw 3; have l4 := cell_blk hSw 4; go_simp; (try with_reducible rfl))
      refine tkS 1 hHeld ?_
      refine tkS 2 hHeld ?_
      refine tkS 3 hHeld ?_ (hy := by intro w hSw; have l0 := cell_blk hSw 0; have l1 := cell_blk hSw 1; have l2 := cell_blk hSw 2; have l3 := cell_blk hSw 3; have l4 := cell_blk hSw 4; go_simp; (try with_reducible rfl))
      refine wpAnyH_ready (rs := [4]) (by kernel_rfl) (by simp) ?_
      refine AllReadyH.cons rfl (fun K hK => ?_) AllReadyH.nil
      go_simp
      (with_reducible refine HMM.out.mono ?_); rintro e w6 ⟨rfl, hl6⟩
      have hl6' : LJ w5 w6 := hl6.undrew
      have HL6 := Lib.hid hl6'
      have HB6 := Lib.hid (hl6'.block HB5.out)
      clear hl6 hl6'
      refine hK.out _ _ HB6.out (fun hHeld => ?_)
      clear hK K
      refine wpAnyH_ready (rs := [5]) (by kernel_rfl) (by simp) ?_
      refine AllReadyH.cons rfl (fun K hK => ?_) AllReadyH.nil
      refine step_store_at rfl 49 (.tmp 2) (.tmp 46) rfl q 0 #[.int .i64 n, .int .i64 f, .int .i64 t, .int .i64 r, .string h] rfl rfl 49 _ HB6.out info_rec (Nat.le_refl 5) (by simp [Value.oneCell']) ?_
      have HB7 := Lib.hid (setRow_heap' w6 q _ #[.int .i64 n, .int .i64 f, .int .i64 t, .int .i64 r, .string h] _ HB6.out)
      refine hK.out _ _ HB7.out (fun hHeld => ?_)
      clear hK K
      refine tkS 6 hHeld ?_
      refine tkS 7 hHeld ?_
      refine wpAnyH_done (by kernel_rfl) ?_ _
      obtain ⟨w7, hw7⟩ : ∃ w7, (w6.setRow q
      (List.take 0
              #[Value.int IntKind.i64 n, Value.int IntKind.i64 f, Value.int IntKind.i64 t, Value.int IntKind.i64 r,
                  Value.string h].toList ++
            #[Value.int IntKind.i64 n, Value.int IntKind.i64 f, Value.int IntKind.i64 t, Value.int IntKind.i64 r,
                  Value.string h].toList ++ List.drop (0 + (#[Value.int IntKind.i64 n, Value.int IntKind.i64 f, Value.int IntKind.i64 t, Value.int IntKind.i64 r,
                  Value.string h]).size) #[Value.int IntKind.i64 n, Value.int IntKind.i64 f, Value.int IntKind.i64 t, Value.int IntKind.i64 r,
                  Value.string h].toList).toArray) = w7 := ⟨_, rfl⟩
      rw [hw7]
      have HO7 := Lib.hid (show OnlyJ (fun k => k = q) w6 w7 from by rw [← hw7]; exact setRow_only _ _ _)
      have HB7' := Lib.hid (show w7.heap[q]? = some (.cells #[.int .i64 n, .int .i64 f, .int .i64 t, .int .i64 r, .string h] 49 (0, 0)) from by rw [← hw7]; exact HB7.out)
      clear hw7 HB7
      go_simp
      go_wp2_with fail
      refine bodyPost_ret (results_cell_row3 rfl _ _ q 49 #[.int .i64 n, .int .i64 f, .int .i64 t, .int .i64 r, .string h] (0, 0) _ rfl HB7'.out Tryz.underlying49 rfl info_rec) rfl ?_
      refine ⟨rfl, ?_⟩
      have hge : ∀ k, (fun k => k = q) k → w.heap.size ≤ k := fun k hk => by have h2 := HQ.out; show w.heap.size ≤ k; rw [h2]; exact Nat.le_of_eq hk.symm
      have l4 : LJ w w4 := (HL1.out.trans HL3.out).trans HL4.out
      exact lj_only ((lj_only l4 HO5.out hge).trans HL6.out) HO7.out hge
end Go.Proofs.YtfpbocjmlhcgiaaGreatDoor
