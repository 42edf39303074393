/- Hg2, merged: H5 H6 H7. -/
import Derived.Test.YtfpbocjmlhcgiaaGreatDoorHg1
import Derived.Test.YtfpbocjmlhcgiaaGreatDoorJNX
import Derived.Deep.AppendLies
set_option linter.unusedSimpArgs false
set_option linter.unusedVariables false
/- The hash's Write: the walk. -/
namespace Go.Proofs.YtfpbocjmlhcgiaaGreatDoor
open Go.RowKit PJ Go.Maps

theorem step_load_at {P : Program} {ops : Array Oper} {o : Oper} {a : Act} {w : World} {K : Act → World → Prop} {Q : Exit → Act → World → Prop} {E : Prop} (hgd : o.guard = none) (ty : TypeId) (x : Operand) (ho : o.op = .load ty x)
    (g j : Nat) (hx : a.eval x = .pointer (some ⟨g, j, none⟩)) (cs : Array Value) (hl : (loadVar ty ⟨g, j, none⟩).run P w = .ok (.agg cs) w)
    (h : K (a.put o.dst (.agg cs)) w) : if Region.wanted o (yielded ops a.tmps) = true then Oper.wp P o a w K Q else E := by
  rw [if_pos (by simp [Region.wanted, hgd])]
  unfold Oper.wp execOp
  simp only [ho, hx, Instr.loadAt, Instr.sureAddr, Sem.run_bind, Sem.run_pure, Result.andThen_ok, hl]
  exact h
theorem step_store_at {P : Program} {ops : Array Oper} {o : Oper} {a : Act} {w : World} {K : Act → World → Prop} {Q : Exit → Act → World → Prop} {E : Prop} (hgd : o.guard = none) (ty : TypeId) (x y : Operand) (ho : o.op = .store ty x y)
    (g j : Nat) (cells : Array Value) (hx : a.eval x = .pointer (some ⟨g, j, none⟩)) (hy : a.eval y = .agg cells) (t : TypeId) (old : Array Value) (hg : w.heap[g]? = some (.cells old t (0, 0))) (hi : (P.info? ty).map (·.size) = some cells.size)
    (hfit : j + cells.size ≤ old.size) (h1 : cells.all (·.oneCell') = true)
    (h : K (a.put o.dst undef) (w.setRow g (old.toList.take j ++ cells.toList ++ old.toList.drop (j + cells.size)).toArray)) : if Region.wanted o (yielded ops a.tmps) = true then Oper.wp P o a w K Q else E := by
  rw [if_pos (by simp [Region.wanted, hgd])]
  unfold Oper.wp execOp
  simp only [ho, hx, hy, Instr.storeAt, Instr.sureAddr, Sem.run_bind, Sem.run_pure, Result.andThen_ok, run_storeVar_at w g j t ty old cells hg hi hfit h1]
  exact h
def strLen : Value → Nat
  | .string s => s.size
  | _ => 0
theorem size_u8 (w : World) : (Go.sizeOf 5).run Tryz.prog w = .ok 1 w := by kernel_rfl
theorem slice_arr (W : World) (b r : Nat) (hr : r < 64) : (Instr.sliceAt 233 (.pointer (some ⟨b, 8, none⟩)) (some (.int .i64 (r : Int))) none none).run Tryz.prog W = .ok (.slice (some ⟨b, 8 + r, none⟩) (64 - r) (64 - r)) W := by
  have hl : Tryz.prog.arrayLen 233 = 64 := by kernel_rfl
  have hs : ∀ W, (sizeOf (Tryz.prog.elem 233)).run Tryz.prog W = .ok 1 W := fun W => by kernel_rfl
  have h := run_sliceAt_array_l (P := Tryz.prog) W 233 ⟨b, 8, none⟩ (by kernel_rfl) .i64 (r : Int) (by omega) (by rw [hl]; omega)
  rw [hs, Result.andThen_ok, hl, Int.toNat_natCast] at h
  rw [h]
  unfold slicedAt
  rw [if_neg (by omega), Nat.mul_one, addr_none]
set_option maxRecDepth 100000 in
set_option maxHeartbeats 4000000 in
theorem hwrite_any (w : World) (hb : Nat) (s0 : HS) (l0 : ByteArray) (h : HashAt w hb s0) (hok : s0.OK) (hsz : s0.size + l0.size ≤ 1000000000) :
    Calls Tryz.prog 133 #[.pointer (some ⟨hb, 0, none⟩), .string l0] w fun e w' => e = .returned (.tuple #[]) ∧ HashAt w' hb (HS.putN l0.size s0 l0.data.toList) ∧ OnlyJ (fun q => q = hb) w w' := by
  have HK := Lib.hid (hkeys_any w)
  have hbl := lt_blk h
  obtain ⟨KX, hKX⟩ : ∃ KX, u32s K64 = KX := ⟨_, rfl⟩
  have h1 : (KX.all (·.oneCell')) = true := by rw [← hKX]; exact u32s_one K64
  have hs : KX.size = 64 := by rw [← hKX, u32s_size]; rfl
  have hinf : (Tryz.prog.info? 236).map (·.size) = some KX.size := by rw [hs]; exact info_a64
  rw [hKX] at HK
  have H1 := Lib.hid h1
  have HS' := Lib.hid hs
  have HINF := Lib.hid hinf
  have HKX := Lib.hid hKX
  have HH := Lib.hid h
  have HOK := Lib.hid hok
  have HSZ := Lib.hid hsz
  clear h hok hsz h1 hs hinf hKX
  go_enter Tryz.func133, Tryz.ntmps133
  go_upto_region 1 with (first
    | (go_at_call 191; (with_reducible refine HK.out.mono ?_); rintro e w1 ⟨rfl, hl1⟩; have HL1 := Lib.hid hl1; clear hl1)
    | refine wpList_store_rowTo rfl 236 (.tmp 4) (.tmp 6) rfl rfl w1.heap.size KX rfl rfl 236 (u32s (List.replicate 64 0)) (alloc_blk w1 _) HINF.out (by rw [HS'.out, u32s_size]; rfl) H1.out ?_
    | fail)
  obtain ⟨w2, hw2⟩ : ∃ w2, (w1.alloc (.cells (u32s (List.replicate 64 0)) 236)).setRow w1.heap.size KX = w2 := ⟨_, rfl⟩
  have hk2 : w2.heap[w1.heap.size]? = some (.cells (u32s K64) 236 (0, 0)) := by
    rw [← hw2, HKX.out]
    exact setRow_heap' _ _ _ _ _ (alloc_blk w1 _)
  have hl2 : LJ w1 w2 := by
    have hr5 : OnlyJ (fun q => q = w1.heap.size) (w1.alloc (.cells (u32s (List.replicate 64 0)) 236)) w2 := by rw [← hw2]; exact setRow_only _ _ _
    have h0 : LJ w1 (w1.alloc (.cells (u32s (List.replicate 64 0)) 236)) := (LJ.refl w1).alloc _
    have hz := hr5.size
    rw [World.size_alloc] at hz
    exact ⟨hr5.os.trans h0.os, hr5.tape.trans h0.tape, hr5.output.trans h0.output, by omega, fun k hk => (hr5.block k (by rw [World.size_alloc]; omega) (by show k ≠ w1.heap.size; omega)).trans (Below.block h0 k hk)⟩
  obtain ⟨q4, hq4⟩ : ∃ q4, w1.heap.size = q4 := ⟨_, rfl⟩
  rw [z64] at hw2
  rw [hw2, hq4]
  rw [hq4] at hk2
  have hl02 := HL1.out.trans hl2
  have HA2 := Lib.hid (show HashAt w2 hb s0 from hl02.block HH.out)
  have hs1 := Below.size HL1.out
  have HNE := Lib.hid (show hb ≠ q4 ∧ q4 < w2.heap.size ∧ hb < w2.heap.size from ⟨by omega, lt_blk hk2, by have := Below.size hl02; omega⟩)
  have HK2 := Lib.hid hk2
  have HL2 := Lib.hid hl02
  clear hw2 hk2 hl2 hq4 hl02 hs1
  go_loopw [1] (fun v1 wr => ∃ (S : ByteArray) (st : HS) (k : Nat), v1 = .string S ∧ S.size ≤ k ∧ Hid (st.size + S.size ≤ 1000000000) ∧ Hid (HS.putN k st S.data.toList = HS.putN l0.size s0 l0.data.toList) ∧ Hid (HashAt wr hb st) ∧ Hid st.OK ∧ Hid (OnlyJ (fun q => q = hb) w2 wr)) (fun v1 _ => strLen v1)
  case atStart => exact ⟨l0, s0, l0.size, rfl, Nat.le_refl _, HSZ, Lib.hid rfl, HA2, HOK, Lib.hid (OnlyJ.refl _ _)⟩
  case round =>
    obtain ⟨S, st, k, rfl, hk, HZ, HP, HA, HO1, HO⟩ := hrel
    have hSl : S.data.toList.length = S.size := by rw [Array.length_toList]; rfl
    by_cases h0 : S.size = 0
    · have hSe : S = ⟨#[]⟩ := by
        apply ByteArray.ext
        exact Array.eq_empty_of_size_eq_zero h0
      rw [hSe] at HP ⊢
      have HSE := Lib.hid hSe
      clear hSe hSl h0 hk
      go_wp2_with fail
      go_end0
      have h1 : HS.putN k st [] = HS.putN l0.size s0 l0.data.toList := HP.out
      rw [HS.putN_nil] at h1
      rw [← h1]
      have h2 := HL2.out
      have ho := HO.out
      have hs2 := Below.size h2
      exact ⟨rfl, HA.out, ⟨ho.os.trans h2.os, ho.tape.trans h2.tape, ho.output.trans h2.output, Nat.le_trans hs2 ho.size, fun q hq hne => (ho.block q (by omega) hne).trans (Below.block h2 q hq)⟩⟩
    · have hS2 : ¬ S = ⟨#[]⟩ := by
        intro e
        rw [e] at h0
        exact h0 rfl
      have hS3 : S.toList.isEmpty = false := by
        rw [ByteArray.toList_eq]
        cases e : S.data.toList with
        | nil => rw [e] at hSl; exact absurd hSl.symm h0
        | cons _ _ => rfl
      obtain ⟨sz, hszz⟩ : ∃ sz, st.size = sz := ⟨_, rfl⟩
      obtain ⟨r, hr⟩ : ∃ r, sz % 64 = r := ⟨_, rfl⟩
      have hr64 : r < 64 := by omega
      have c72 : wr.cell? ⟨hb, 72, none⟩ = some (.int .i64 (sz : Int)) := by
        have h1 := cell_blk HA.out 72
        rw [hashCells_len HO1.out, hszz] at h1
        exact h1
      have f72 := free_blk HA.out 72
      have hsla := fun W => slice_arr W hb r hr64
      have g1 : (sz : Int).tmod 64 = (r : Int) := by rw [Int.tmod_eq_emod_of_nonneg (by omega)]; omega
      have HSZR := Lib.hid (And.intro hszz hr)
      clear hszz hr
      go_upto_region 2 with fail
      go_still_tail 10, (by kernel_rfl)
      change wpList _ _ _ _ _ wr.drew
      obtain ⟨wx, hwx⟩ : ∃ wx, wr.drew = wx := ⟨_, rfl⟩
      rw [hwx]
      obtain ⟨l, hl⟩ : ∃ l, S.data.toList = l := ⟨_, rfl⟩
      rw [hl] at hSl HP
      obtain ⟨nn, hnn⟩ : ∃ nn, min l.length st.room = nn := ⟨_, rfl⟩
      have hrm : st.room = 64 - r := by unfold HS.room; rw [HSZR.out.1, HSZR.out.2]
      have hbx : wx.heap[hb]? = some (.cells (hashCells st.v st.blk st.size) 235 (0, 0)) := by rw [← hwx]; exact HA.out
      have hsz' := HSZR.out.1
      have hr' := HSZR.out.2
      obtain ⟨wy, hwy⟩ : ∃ wy, wx.setRow hb (hashCells st.v (st.blkW l) st.size) = wy := ⟨_, rfl⟩
      have hcp : ∀ ty, (Builtin.copy_ #[99, 9] ty #[.slice (some ⟨hb, 8 + r, none⟩) (64 - r) (64 - r), .string S]).run Tryz.prog wx = .ok (.int .i64 (nn : Int)) wy := by
        intro ty
        have h := run_copy_str (P := Tryz.prog) wx 99 9 ty 5 hb (8 + r) (64 - r) (64 - r) S _ _ nn Tryz.underlying99 size_u8 hbx (by rw [← hnn, hrm, hSl]) (by rw [hashCells_size HO1.out]; omega)
        have hc := hash_copied HO1.out l
        rw [hsz', hr', hnn] at hc
        rw [hl, hsz', hc, ← hsz', hwy] at h
        exact h
      have hst1 : HS.OK ⟨st.v, st.blkW l, st.size⟩ := ⟨HO1.out.v8, HO1.out.vU, st.blkW_len HO1.out l⟩
      have hby : wy.heap[hb]? = some (.cells (hashCells st.v (st.blkW l) st.size) 235 (0, 0)) := by rw [← hwy]; exact setRow_heap' _ _ _ _ _ hbx
      have hoy : OnlyJ (fun q => q = hb) wr wy := by
        rw [← hwy, ← hwx]
        exact (OnlyJ.of_below ((LJ.refl wr).drew)).trans (setRow_only _ _ _)
      have y72 : wy.cell? ⟨hb, 72, none⟩ = some (.int .i64 (sz : Int)) := by
        have h1 := cell_blk hby 72
        rw [hashCells_len hst1] at h1
        rw [← hsz']
        exact h1
      have yf := free_blk hby 72
      have hl1 : 1 ≤ l.length := by omega
      have hn1 : 1 ≤ nn ∧ nn ≤ 64 ∧ nn ≤ l.length := by omega
      obtain ⟨S2, hS2'⟩ : ∃ S2, S.extract nn S.size = S2 := ⟨_, rfl⟩
      have hsf := fun W => slice_from W S nn (by omega)
      simp only [hS2'] at hsf
      have hS2d : S2.data.toList = l.drop nn := by
        rw [← hS2', ex_list, hl, List.take_of_length_le (by rw [List.length_drop]; omega)]
      have hS2s : S2.size = S.size - nn := by
        have : S2.data.toList.length = l.length - nn := by rw [hS2d, List.length_drop]
        rw [Array.length_toList] at this
        have h2 : S2.size = S2.data.size := rfl
        omega
      obtain ⟨z2, hz2⟩ : ∃ z2, sz + nn = z2 := ⟨_, rfl⟩
      have hz2i : (sz : Int) + (nn : Int) = (z2 : Int) := by omega
      have hz2b : z2 ≤ 1000000000 := by have := HZ.out; omega
      have hwz : IntKind.i64.wrap (z2 : Int) = (z2 : Int) := by rw [IntKind.wrap_i64]; omega
      obtain ⟨wz, hwz'⟩ : ∃ wz, wy.setCell ⟨hb, 72, none⟩ (.int .i64 (z2 : Int)) = wz := ⟨_, rfl⟩
      have hbz : wz.heap[hb]? = some (.cells (hashCells st.v (st.blkW l) z2) 235 (0, 0)) := by
        rw [← hwz']
        have h1 := heap_setCell_same _ _ 72 _ _ (.int .i64 (z2 : Int)) hby
        rw [hash_sized hst1 _ hst1.b64] at h1
        exact h1
      have hoz : OnlyJ (fun q => q = hb) wr wz := by rw [← hwz']; exact hoy.trans (setCell_only _ _ _ _)
      have HBZ := Lib.hid hbz
      have HOZ := Lib.hid hoz
      have HZ2 := Lib.hid (And.intro hz2 (And.intro hz2b (And.intro hnn (And.intro hS2d (And.intro hS2s (And.intro hn1 hl1))))))
      have HST1 := Lib.hid hst1
      have HLS := Lib.hid (And.intro hl hSl)
      have HWZ := Lib.hid hwz'
      clear hwx hbx hwy hby hoy hbz hoz hz2 hz2b hnn hS2d hS2s hn1 hst1 hwz' hS2' hl hSl hrm hsz' hr' hl1 c72 f72 hsla g1
      go_upto_region 5 with fail
      rw [HWZ.out]
      obtain ⟨k', hk'⟩ : ∃ k', k = k' + 1 := ⟨k - 1, by omega⟩
      have hstep : st.step l = ⟨if z2 % 64 = 0 then nextP st.v (st.blkW l) K64 else st.v, st.blkW l, z2⟩ := by
        obtain ⟨e1, e2, e3, -⟩ := HZ2.out
        unfold HS.step
        rw [e3, HSZR.out.1, e1]
      have hput : HS.putN k' (st.step l) S2.data.toList = HS.putN l0.size s0 l0.data.toList := by
        have h1 := HP.out
        obtain ⟨e1, e2, e3, e4, e5, e6, e7⟩ := HZ2.out
        rw [hk', HS.putN, if_neg (by intro e; rw [e] at e7; simp at e7), e3] at h1
        rw [e4]
        exact h1
      have hks : S2.size ≤ k' := by obtain ⟨e1, e2, e3, e4, e5, e6, e7⟩ := HZ2.out; omega
      have hsum : z2 + S2.size ≤ 1000000000 := by
        obtain ⟨e1, e2, e3, e4, e5, e6, e7⟩ := HZ2.out
        have := HZ.out
        have h5 := HSZR.out.1
        have h6 := HLS.out.2
        omega
      have hlts : S2.size < S.size := by obtain ⟨e1, e2, e3, e4, e5, e6, e7⟩ := HZ2.out; omega
      have HSTEP := Lib.hid hstep
      have HPUT := Lib.hid hput
      have HKS := Lib.hid (And.intro hks (And.intro hsum hlts))
      have HOK2 := Lib.hid (st.step_ok HO1.out l)
      have z72 : wz.cell? ⟨hb, 72, none⟩ = some (.int .i64 (z2 : Int)) := by
        have h1 := cell_blk HBZ.out 72
        rw [hashCells_len (s := ⟨st.v, st.blkW l, z2⟩) ⟨HST1.out.v8, HST1.out.vU, HST1.out.b64⟩] at h1
        exact h1
      clear hk' hstep hput hks hsum hlts hcp y72 yf hsf hk h0
      obtain ⟨r2, hr2⟩ : ∃ r2, z2 % 64 = r2 := ⟨_, rfl⟩
      have g2 : (z2 : Int).tmod 64 = (r2 : Int) := by rw [Int.tmod_eq_emod_of_nonneg (by omega)]; omega
      by_cases hz0 : r2 = 0
      · have g3 : ((r2 : Int) == 0) = true := by simp; omega
        have g3' : (r2 : Int) = 0 := by omega
        rw [hr2, if_pos hz0] at HSTEP
        obtain ⟨CX, hCX⟩ : ∃ CX, u32s st.v = CX := ⟨_, rfl⟩
        have hCs : CX.size = 8 := by rw [← hCX, u32s_size]; exact HO1.out.v8
        have hlv : (loadVar 232 ⟨hb, 0, none⟩).run Tryz.prog wz = .ok (.agg CX) wz := by
          refine run_loadVar_at wz 232 hb 0 CX _ (fun j v hj => ?_) Tryz.underlying232 rfl (by rw [hCs]; exact info_hst)
          rw [Nat.zero_add]
          have h1 := cell_blk HBZ.out j
          rw [hashCells_v (s := ⟨st.v, st.blkW l, z2⟩) ⟨HST1.out.v8, HST1.out.vU, HST1.out.b64⟩ j v (by rw [hCX]; exact hj)] at h1
          exact h1
        have hnx := hnext_any wz.drew CX st.v hCX.symm HO1.out.v8 hb 8 64 (st.blkW l) HST1.out.b64 (fun j hj => by
          have h1 := cell_blk HBZ.out (8 + j)
          rw [hashCells_b (s := ⟨st.v, st.blkW l, z2⟩) ⟨HST1.out.v8, HST1.out.vU, HST1.out.b64⟩ j hj] at h1
          exact h1) (by omega) q4 K64 rfl HO1.out.vU (by
            obtain ⟨n1, n2, n3⟩ := HNE.out
            exact ((HO.out.trans HOZ.out).block q4 n2 (by show q4 ≠ hb; omega)).trans HK2.out)
        obtain ⟨NX, hNX⟩ : ∃ NX, u32s (nextP st.v (st.blkW l) K64) = NX := ⟨_, rfl⟩
        rw [hNX] at hnx
        have HNX := Lib.hid hnx
        have HCXE := Lib.hid hCX
        have HNE2 := Lib.hid hNX
        have HCS := Lib.hid hCs
        have hn8 : NX.size = 8 := by rw [← hNX, u32s_size]; exact nextP_len HO1.out.v8 _ _
        have HN8 := Lib.hid hn8
        have hone : NX.all (·.oneCell') = true := by rw [← hNX]; exact u32s_one _
        have HONE := Lib.hid hone
        have hinf' : (Tryz.prog.info? 232).map (·.size) = some NX.size := by rw [hn8]; exact info_hst
        have HINF' := Lib.hid hinf'
        clear hCX hCs hnx hNX hn8 hone hinf'
        go_upto_region 6 with fail
        have hlv2 : (loadVar 232 ⟨hb, 0, none⟩).run Tryz.prog wz.drew = .ok (.agg CX) wz.drew := by
          refine run_loadVar_at wz.drew 232 hb 0 CX _ (fun j v hj => ?_) Tryz.underlying232 rfl (by rw [HCS.out]; exact info_hst)
          rw [Nat.zero_add]
          have h1 := cell_blk HBZ.out j
          rw [hashCells_v (s := ⟨st.v, st.blkW l, z2⟩) ⟨HST1.out.v8, HST1.out.vU, HST1.out.b64⟩ j v (by rw [HCXE.out]; exact hj)] at h1
          exact h1
        have HLV := Lib.hid hlv2
        clear hlv hlv2
        refine wp_region_held_drew (S := fun _ => True) (by kernel_rfl) trivial (fun hHeld => ?_)
        refine tkS 0 hHeld ?_
        refine tkS 1 hHeld ?_
        refine tkS 2 hHeld ?_
        refine tkS 3 hHeld ?_
        refine tkS 5 hHeld ?_
        refine tkS 6 hHeld ?_
        refine tkS 7 hHeld ?_
        refine tkS 8 hHeld ?_
        refine wpAnyH_ready (rs := [4]) (by kernel_rfl) (by simp) ?_
        refine AllReadyH.cons rfl (fun K hK => ?_) AllReadyH.nil
        refine step_load_at rfl 232 (.tmp 40) rfl hb 0 rfl CX HLV.out ?_
        refine hK.out _ _ trivial (fun hHeld => ?_)
        clear hK K
        refine wpAnyH_ready (rs := [9]) (by kernel_rfl) (by simp) ?_
        refine AllReadyH.cons rfl (fun K hK => ?_) AllReadyH.nil
        go_simp
        (with_reducible refine HNX.out.mono ?_); rintro e w8 ⟨rfl, hl8⟩
        have hl8' : LJ wz w8 := hl8.undrew
        have HL8 := Lib.hid hl8'
        have HB8 := Lib.hid (hl8'.block HBZ.out)
        clear hl8 hl8'
        refine hK.out _ _ trivial (fun hHeld => ?_)
        clear hK K
        refine tkS 10 hHeld ?_
        refine tkS 11 hHeld ?_
        refine wpAnyH_ready (rs := [12]) (by kernel_rfl) (by simp) ?_
        refine AllReadyH.cons rfl (fun K hK => ?_) AllReadyH.nil
        refine step_store_at rfl 232 (.tmp 48) (.tmp 46) rfl hb 0 NX rfl rfl 235 _ HB8.out HINF'.out (by rw [HN8.out, hashCells_size (s := ⟨st.v, st.blkW l, z2⟩) ⟨HST1.out.v8, HST1.out.vU, HST1.out.b64⟩]; omega) HONE.out ?_
        refine hK.out _ _ trivial (fun hHeld => ?_)
        clear hK K
        refine wpAnyH_done (by kernel_rfl) ?_ _
        have hT : ((hashCells st.v (st.blkW l) z2).toList.take 0 ++ NX.toList ++ (hashCells st.v (st.blkW l) z2).toList.drop (0 + NX.size)).toArray = hashCells (nextP st.v (st.blkW l) K64) (st.blkW l) z2 := by
          rw [← HNE2.out]
          exact hash_turned HO1.out _ _ _ (nextP_len HO1.out.v8 _ _)
        rw [hT]
        obtain ⟨w9, hw9⟩ : ∃ w9, w8.setRow hb (hashCells (nextP st.v (st.blkW l) K64) (st.blkW l) z2) = w9 := ⟨_, rfl⟩
        rw [hw9]
        have hb9 : w9.heap[hb]? = some (.cells (hashCells (nextP st.v (st.blkW l) K64) (st.blkW l) z2) 235 (0, 0)) := by rw [← hw9]; exact setRow_heap' _ _ _ _ _ HB8.out
        have ho9 : OnlyJ (fun q => q = hb) wr w9 := by
          rw [← hw9]
          exact (HOZ.out.trans (OnlyJ.of_below HL8.out)).trans (setRow_only _ _ _)
        have HB9 := Lib.hid hb9
        have HO9 := Lib.hid ho9
        clear hw9 hb9 ho9 hT
        go_simp
        go_wp2_with fail
        go_roundw
        case rel =>
          refine ⟨S2, st.step l, k', rfl, HKS.out.1, Lib.hid ?_, HPUT, Lib.hid ?_, HOK2, Lib.hid (HO.out.trans HO9.out)⟩
          · rw [HSTEP.out]; exact HKS.out.2.1
          · rw [HSTEP.out]; exact HB9.out
        case measure => exact HKS.out.2.2
      · have g3 : ((r2 : Int) == 0) = false := by simp; omega
        have g3' : ¬ (r2 : Int) = 0 := by omega
        rw [hr2, if_neg hz0] at HSTEP
        go_wp2_with fail
        go_roundw
        case rel =>
          refine ⟨S2, st.step l, k', rfl, HKS.out.1, Lib.hid ?_, HPUT, Lib.hid ?_, HOK2, Lib.hid (HO.out.trans HOZ.out)⟩
          · rw [HSTEP.out]; exact HKS.out.2.1
          · rw [HSTEP.out]; exact HBZ.out
        case measure => exact HKS.out.2.2
end Go.Proofs.YtfpbocjmlhcgiaaGreatDoor
/- The hash's Sum: the walk. -/
namespace Go.Proofs.YtfpbocjmlhcgiaaGreatDoor
open Go.RowKit PJ Go.Maps

def padLen (sz : Nat) : Nat := (120 - (sz + 1) % 64) % 64
def padB (sz : Nat) : List UInt8 := (128 :: List.replicate (padLen sz) 0) ++ be (8 * sz) 8
def sumV (v : List Int) : List UInt8 := v.flatMap fun x => be x.toNat 4
def HS.last (s : HS) : HS := HS.putN (padB s.size).length s (padB s.size)
def HS.sumB (s : HS) : List UInt8 := sumV s.last.v
theorem sumV_len : ∀ (v : List Int), (sumV v).length = 4 * v.length
  | [] => rfl
  | x :: r => by
    show (be x.toNat 4 ++ sumV r).length = _
    rw [List.length_append, be_len, sumV_len r, List.length_cons]; omega
theorem HS.sumB_len {s : HS} (h : s.OK) : s.sumB.length = 32 := by
  unfold HS.sumB
  have h8 : s.last.v.length = 8 := (HS.putN_ok _ h _).v8
  rw [sumV_len, h8]
theorem info_hash : (Tryz.prog.info? 235).map (fun i => (i.size)) = some 73 := by kernel_rfl
theorem hashCells_one (s : HS) : (hashCells s.v s.blk s.size).all (·.oneCell') = true := by
  simp [hashCells, bys, Value.oneCell']
def lenV : Value → Nat
  | .slice _ n _ => n
  | _ => 0
theorem make_lc (W : World) (l c : Nat) (hlc : l ≤ c) (hc : c ≤ 100000) : (Instr.makeSlice 99 (.int .i64 (l : Int)) (.int .i64 (c : Int))).run Tryz.prog W = .ok (.slice (some ⟨W.heap.size, 0, none⟩) l c) (W.alloc (.cells (bys (List.replicate c 0)).toArray 5)) := by
  obtain ⟨i0, hi, hz0, hz1, hz2⟩ := info_parts info_u8
  have h := run_makeSlice (P := Tryz.prog) W 99 5 i0 (.int .u8 0) Tryz.underlying99 hi hz0 .i64 .i64 (l : Int) (c : Int) (by omega) (by omega) (by rw [hz1]; omega) (by rw [hz2]; omega) (by omega)
  have e : (c : Int).toNat = c := by omega
  have e1 : (l : Int).toNat = l := by omega
  have e2 : madeCells (Value.int .u8 0).cells (c * 1) = (bys (List.replicate c 0)).toArray := by
    apply Array.toList_inj.1
    rw [show (Value.int .u8 0).cells = #[.int .u8 0] from rfl, toList_madeCells_one, Nat.mul_one]
    unfold bys
    simp
  rw [hz1, e, e1, e2] at h
  exact h
theorem wpList_load_at {P : Program} {ops : Array Oper} {rest : List Oper} {o : Oper} {a : Act} {w : World} {Q : Exit → Act → World → Prop} (hgd : o.guard = none) (ty : TypeId) (x : Operand) (ho : o.op = .load ty x)
    (g j0 : Nat) (hx : a.eval x = .pointer (some ⟨g, j0, none⟩)) (cs : Array Value) (d : TypeDesc) (hc : ∀ j v, cs[j]? = some v → w.cell? ⟨g, j0 + j, none⟩ = some v)
    (hu : P.underlying ty = some d) (hd : (match d with | .struct _ | .array _ _ => true | _ => false) = true) (hi : (P.info? ty).map (·.size) = some cs.size)
    (h : wpList P ops Q rest (a.put o.dst (.agg cs)) w) : wpList P ops Q (o :: rest) a w := by
  refine wpList_plain hgd fun K hK => ?_
  unfold Oper.wp execOp
  simp only [ho, hx, Instr.loadAt, Instr.sureAddr, Sem.run_bind, Sem.run_pure, Result.andThen_ok, run_loadVar_at w ty g j0 cs d hc hu hd hi]
  exact hK _ _ h
theorem index_st (W : World) (C : Array Value) (hC : C.size = 8) (i : Nat) (hi : i < 8) (x : Int) (hv : C[i]? = some (.int .u32 x)) : (Instr.index 232 (.agg C) (.int .i64 (i : Int))).run Tryz.prog W = .ok (.int .u32 x) W := by
  have hu : Tryz.prog.underlying 232 = some (.array 8 211) := Tryz.underlying232
  have hn : (0 : Int) ≤ (i : Int) ∧ (i : Int) < ((8 : Nat) : Int) := by omega
  have hs : ∀ W, (sizeOf 211).run Tryz.prog W = .ok 1 W := fun W => by kernel_rfl
  have hiC : i < C.size := by omega
  have hx : C[i] = .int .u32 x := by rw [Array.getElem?_eq_getElem hiC] at hv; exact Option.some.inj hv
  simp [Instr.index, run_underlying hu, asIntOf, hn, go_sem, hs]
  rw [if_pos hi, hv]
  rfl
set_option maxRecDepth 100000 in
set_option maxHeartbeats 4000000 in
theorem hsum_any (w : World) (hb : Nat) (s : HS) (h : HashAt w hb s) (hok : s.OK) (hsz : s.size ≤ 100000000) :
    Calls Tryz.prog 135 #[.pointer (some ⟨hb, 0, none⟩)] w fun e w' => e = .returned (.string ⟨s.sumB.toArray⟩) ∧ LJ w w' := by
  obtain ⟨CX, hCX⟩ : ∃ CX, hashCells s.v s.blk s.size = CX := ⟨_, rfl⟩
  have hCs : CX.size = 73 := by rw [← hCX]; exact hashCells_size hok
  have hinf : (Tryz.prog.info? 235).map (·.size) = some CX.size := by rw [hCs]; exact info_hash
  have h1 : (CX.all (·.oneCell')) = true := by rw [← hCX]; exact hashCells_one s
  have hbc : w.heap[hb]? = some (.cells CX 235 (0, 0)) := by rw [← hCX]; exact h
  have hbl := lt_blk h
  have HBC := Lib.hid hbc
  have HINF := Lib.hid hinf
  have H1 := Lib.hid h1
  have HCS := Lib.hid hCs
  have HCX := Lib.hid hCX
  have HOK := Lib.hid hok
  have HSZ := Lib.hid hsz
  clear hCX hCs hinf h1 hbc h hok hsz
  go_enter Tryz.func135, Tryz.ntmps135
  go_upto_region 2 with (first
    | refine wpList_load_row rfl 235 (.tmp 9) rfl hb rfl 235 CX (0, 0) _ HBC.out Tryz.underlying235 rfl HINF.out ?_
    | refine wpList_store_rowTo rfl 235 (.tmp 3) (.tmp 10) rfl rfl w.heap.size CX rfl rfl 235 _ (alloc_blk w _) HINF.out (by rw [HCS.out]; kernel_rfl) H1.out ?_
    | fail)
  obtain ⟨w1, hw1⟩ : ∃ w1, (w.alloc (.cells Tryz.zeroCells235 235)).setRow w.heap.size CX = w1 := ⟨_, rfl⟩
  rw [hw1]
  have hb1 : w1.heap[w.heap.size]? = some (.cells CX 235 (0, 0)) := by rw [← hw1]; exact setRow_heap' _ _ _ _ _ (alloc_blk w _)
  have hl1 : LJ w w1 := by
    have hr : OnlyJ (fun q => q = w.heap.size) (w.alloc (.cells Tryz.zeroCells235 235)) w1 := by rw [← hw1]; exact setRow_only _ _ _
    have h0 : LJ w (w.alloc (.cells Tryz.zeroCells235 235)) := (LJ.refl w).alloc _
    have hz := hr.size
    rw [World.size_alloc] at hz
    exact ⟨hr.os.trans h0.os, hr.tape.trans h0.tape, hr.output.trans h0.output, by omega, fun k hk => (hr.block k (by rw [World.size_alloc]; omega) (by show k ≠ w.heap.size; omega)).trans (Below.block h0 k hk)⟩
  obtain ⟨q3, hq3⟩ : ∃ q3, w.heap.size = q3 := ⟨_, rfl⟩
  rw [hq3] at hb1 ⊢
  have hlt3 := lt_blk hb1
  have hmk : (Instr.makeSlice 99 (.int .i64 1) (.int .i64 72)).run Tryz.prog w1 = .ok (.slice (some ⟨w1.heap.size, 0, none⟩) 1 72) (w1.alloc (.cells (bys (List.replicate 72 0)).toArray 5)) := make_lc w1 1 72 (by omega) (by omega)
  obtain ⟨w2, hw2⟩ : ∃ w2, w1.alloc (.cells (bys (List.replicate 72 0)).toArray 5) = w2 := ⟨_, rfl⟩
  have hb2 : w2.heap[w1.heap.size]? = some (.cells (bys (List.replicate 72 0)).toArray 5 (0, 0)) := by rw [← hw2]; exact alloc_blk w1 _
  have hl2 : LJ w1 w2 := by rw [← hw2]; exact (LJ.refl w1).alloc _
  rw [hw2] at hmk
  obtain ⟨B, hB⟩ : ∃ B, w1.heap.size = B := ⟨_, rfl⟩
  rw [hB] at hmk hb2
  have c0 : w2.cell? ⟨B, 0, none⟩ = some (.int .u8 0) := cell_blk hb2 0
  have f0 := free_blk hb2 0
  obtain ⟨w3, hw3⟩ : ∃ w3, w2.setCell ⟨B, 0, none⟩ (.int .u8 128) = w3 := ⟨_, rfl⟩
  have hb3 : w3.heap[B]? = some (.cells ((bys (List.replicate 72 0)).toArray.setIfInBounds 0 (.int .u8 128)) 5 (0, 0)) := by rw [← hw3]; exact heap_setCell_same _ _ 0 _ _ _ hb2
  have how : w3.ownsRow B 5 1 (.slice (some ⟨B, 0, none⟩) 1 72) 1 (bys [128]) := ⟨rfl, .inr ⟨B, 72, _, rfl, Nat.le_refl _, hb3, by omega, by unfold maxLen; omega, by simp [bys], rfl⟩⟩
  have hl3 : Below B w1 w3 := by
    have ho : OnlyJ (fun q => q = B) w2 w3 := by rw [← hw3]; exact setCell_only _ _ _ _
    have hs2 := Below.size hl2
    rw [← hB]
    exact ⟨ho.os.trans hl2.os, ho.tape.trans hl2.tape, ho.output.trans hl2.output, by have := ho.size; omega, fun k hk => (ho.block k (by omega) (by show k ≠ B; omega)).trans (Below.block hl2 k hk)⟩
  have HB1 := Lib.hid hb1
  have HL1 := Lib.hid hl1
  have HOW := Lib.hid how
  have HL3 := Lib.hid hl3
  have HW3 := Lib.hid hw3
  have HQ := Lib.hid (And.intro hq3 (And.intro hB hlt3))
  clear hw1 hb1 hl1 hw2 hb2 hl2 hb3 how hl3 hw3 hq3 hB hlt3
  go_upto_region 4 with fail
  rw [HW3.out]
  obtain ⟨iU, hiU, hz0, hz1, hz2⟩ := info_parts info_u8
  obtain ⟨sz, hsz⟩ : ∃ sz, s.size = sz := ⟨_, rfl⟩
  have hszb : sz ≤ 100000000 := by have := HSZ.out; omega
  have HSE := Lib.hid hsz
  have c72w : w.cell? ⟨hb, 72, none⟩ = some (.int .i64 (sz : Int)) := by
    have h1 := cell_blk HBC.out 72
    rw [← HCX.out, hashCells_len HOK.out, hsz] at h1
    exact h1
  have HC72 := Lib.hid (fun W (hW : Below B w1 W) => show W.cell? ⟨hb, 72, none⟩ = some (.int .i64 (sz : Int)) from by
    have h1 := LJ.cell HL1.out c72w
    have := HQ.out
    exact (hW.cell (p := ⟨hb, 72, none⟩) (by show hb < B; omega)).trans h1)
  clear hsz c72w c0 f0 hmk
  go_wp2_with fail
  go_loopw [4] (fun v4 wr => ∃ (j : Nat) (cap : Nat) (g : Nat), j + (120 - (sz + 1 + j) % 64) % 64 = padLen sz ∧ v4 = .slice (some ⟨g, 0, none⟩) (1 + j) cap ∧ Hid (wr.ownsRow B 5 1 (.slice (some ⟨g, 0, none⟩) (1 + j) cap) (1 + j) (bys (128 :: List.replicate j 0))) ∧ Hid (Below B w1 wr)) (fun v4 _ => (120 - (sz + lenV v4) % 64) % 64)
  case atStart => exact ⟨0, 72, B, by unfold padLen; omega, rfl, HOW, HL3⟩
  case round =>
    obtain ⟨j, cap, g, hj, rfl, HR, HBW⟩ := hrel
    have c72 := HC72.out wr HBW.out
    have hj63 : j ≤ 63 := by unfold padLen at hj; omega
    obtain ⟨r, hr⟩ : ∃ r, (sz + 1 + j) % 64 = r := ⟨_, rfl⟩
    have g1 : ((sz : Int) + (1 + (j : Int))).tmod 64 = (r : Int) := by rw [Int.tmod_eq_emod_of_nonneg (by omega)]; omega
    have hwj : IntKind.i64.wrap ((sz : Int) + (1 + (j : Int))) = (sz : Int) + (1 + (j : Int)) := by rw [IntKind.wrap_i64]; omega
    have hBw : B ≤ wr.heap.size := Nat.le_trans (HR.out.lt g rfl).1 (Nat.le_of_lt (HR.out.lt g rfl).2)
    by_cases h56 : r = 56
    · have g2 : ((r : Int) != 56) = false := by simp; omega
      have g2' : (r : Int) = 56 := by omega
      have hjp : j = padLen sz := by omega
      have hbg := hbig_any wr B hBw (.slice (some ⟨g, 0, none⟩) (1 + j) cap) (128 :: List.replicate j 0) (.inl (by rw [List.length_cons, List.length_replicate, Nat.add_comm j 1]; exact HR.out)) (8 * sz) 8 (by omega) (by omega) (by omega) (by simp; omega)
      rw [show ((8 * sz : Nat) : Int) = 8 * (sz : Int) from by omega] at hbg
      have hpb : (128 :: List.replicate j 0) ++ be (8 * sz) 8 = padB sz := by unfold padB; rw [hjp]
      rw [hpb] at hbg
      have HBG := Lib.hid (show Calls Tryz.prog 134 #[.slice (some ⟨g, 0, none⟩) (1 + j) cap, .int .u64 (8 * (sz : Int)), .int .i64 8] wr fun e w' => ∃ v', e = .returned v' ∧ w'.ownsRow B 5 1 v' (padB sz).length (bys (padB sz)) ∧ Below B wr w' from hbg)
      have hpl : (padB sz).length = 9 + padLen sz := by unfold padB; rw [List.length_append, be_len, List.length_cons, List.length_replicate]; omega
      have hp63 : padLen sz ≤ 63 := by unfold padLen; omega
      obtain ⟨PB, hPB⟩ : ∃ PB : ByteArray, (⟨(padB sz).toArray⟩ : ByteArray) = PB := ⟨_, rfl⟩
      have hPd : PB.data.toList = padB sz := by rw [← hPB]
      have hPs : PB.size = (padB sz).length := by
        rw [← hPd, Array.length_toList]; rfl
      have HWRI := Lib.hid (fun w5 (hw : Below B w1 w5) => hwrite_any w5 q3 s PB (by
        have h1 := (hw.block q3 (by have := HQ.out; omega)).trans HB1.out
        rw [← HCX.out] at h1
        exact h1) HOK.out (by have := HSZ.out; omega))
      have HPB := Lib.hid (And.intro hPB (And.intro hPd hPs))
      have HPL := Lib.hid (And.intro hpl hp63)
      clear hjp hbg hpb hpl hp63 hPB hPd hPs hj
      obtain ⟨PN, hPN⟩ : ∃ PN, (padB sz).length = PN := ⟨_, rfl⟩
      rw [hPN] at HBG
      have hw8 : IntKind.u64.wrap (8 * (sz : Int)) = 8 * (sz : Int) := by rw [IntKind.wrap_u64]; omega
      go_upto_region 8 with (first
        | (go_at_call 134; (with_reducible refine HBG.out.mono ?_); rintro e w4 ⟨v4, rfl, hr4, hb4⟩
           rw [← hPN] at hr4
           obtain ⟨g4, cap4, hv4, hcv⟩ := own_conv hr4 rfl (by have := HPL.out.1; omega)
           subst hv4
           rw [HPB.out.1, hPN] at hcv
           have HW4 := Lib.hid (HWRI.out w4 (HBW.out.trans hb4))
           have HB4 := Lib.hid hb4
           clear hr4 hb4)
        | (go_at_call 133; (with_reducible refine HW4.out.mono ?_); rintro e w5 ⟨rfl, ha5, ho5⟩; have HA5 := Lib.hid ha5; have HO5 := Lib.hid ho5; clear ha5 ho5)
        | fail)
      have hok' := HS.putN_ok PB.size HOK.out PB.data.toList
      obtain ⟨st, hst⟩ : ∃ st, HS.putN PB.size s PB.data.toList = st := ⟨_, rfl⟩
      rw [hst] at HA5 hok'
      have hsum : s.sumB = sumV st.v := by
        unfold HS.sumB HS.last
        rw [← hst, HPB.out.2.1, HPB.out.2.2, HSE.out]
      obtain ⟨C8, hC8⟩ : ∃ C8, u32s st.v = C8 := ⟨_, rfl⟩
      have hC8s : C8.size = 8 := by rw [← hC8, u32s_size]; exact hok'.v8
      have hinf8 : (Tryz.prog.info? 232).map (·.size) = some C8.size := by rw [hC8s]; exact info_hst
      have hcell : ∀ j v, C8[j]? = some v → w5.cell? ⟨q3, 0 + j, none⟩ = some v := by
        intro j v hj
        rw [Nat.zero_add]
        have h1 := cell_blk HA5.out j
        rw [hashCells_v hok' j v (by rw [hC8]; exact hj)] at h1
        exact h1
      have HC8 := Lib.hid (And.intro hC8 hC8s)
      have HINF8 := Lib.hid hinf8
      have HCELL := Lib.hid hcell
      have HOK' := Lib.hid hok'
      have HSUM := Lib.hid hsum
      have HST := Lib.hid hst
      have HSB := Lib.hid hszb
      have HLW5 := Lib.hid (show LJ w w5 from by
        have h1 := HL1.out
        obtain ⟨q1, q2, q4⟩ := HQ.out
        have h2 := HBW.out.trans HB4.out
        have h3 := HO5.out
        have z1 := Below.size h1
        have z2 := h2.size
        have z3 := h3.size
        exact ⟨h3.os.trans (h2.os.trans h1.os), h3.tape.trans (h2.tape.trans h1.tape), h3.output.trans (h2.output.trans h1.output), by omega, fun k hk => (h3.block k (by omega) (by show k ≠ q3; omega)).trans ((h2.block k (by omega)).trans (Below.block h1 k hk))⟩)
      clear hszb
      clear hok' hst hsum hC8 hC8s hinf8 hcell hcv
      go_upto_region 9 with (first
        | refine wpList_load_at rfl 232 (.tmp 36) rfl q3 0 rfl C8 _ HCELL.out Tryz.underlying232 rfl HINF8.out ?_
        | fail)
      obtain ⟨B5, hB5⟩ : ∃ B5, w5.heap.size = B5 := ⟨_, rfl⟩
      have HB5 := Lib.hid hB5
      clear hB5
      go_loopw [5, 38] (fun v5 v38 wr => ∃ i : Nat, i ≤ 8 ∧ v38 = .int .i64 (i : Int) ∧ Hid (wr.ownsRow B5 5 1 v5 (sumV (st.v.take i)).length (bys (sumV (st.v.take i)))) ∧ Hid (Below B5 w5 wr)) (fun _ v38 _ => 8 - (intOf v38).toNat)
      case atStart => exact ⟨0, by omega, rfl, Lib.hid (World.ownsRow_nil _ _ _ _), Lib.hid (Below.refl _ _)⟩
      case round =>
        obtain ⟨i, hi, rfl, HR, HBW⟩ := hrel
        have hv8 := HOK'.out.v8
        by_cases hlt : i < 8
        · obtain ⟨x, hx⟩ : ∃ x, st.v[i]? = some x := ⟨_, List.getElem?_eq_getElem (by omega)⟩
          obtain ⟨x0, x1⟩ := HOK'.out.vU x (List.mem_of_getElem? hx)
          have hxn : ((x.toNat : Nat) : Int) = x := Int.toNat_of_nonneg x0
          have hc8 : C8[i]? = some (.int .u32 x) := by rw [← HC8.out.1, u32s_get, hx]; rfl
          have hBw : B5 ≤ wr.heap.size := by have := HBW.out.size; have := HB5.out; omega
          have hlen : (sumV (st.v.take i)).length = 4 * i := by rw [sumV_len, List.length_take]; omega
          have hsn : sumV (st.v.take i) ++ be x.toNat 4 = sumV (st.v.take (i + 1)) := by
            rw [List.take_add_one, hx]
            unfold sumV
            rw [Option.toList_some, List.flatMap_append]
            simp
          have hbg := hbig_any wr B5 hBw u5 (sumV (st.v.take i)) (.inl HR.out) x.toNat 4 (by omega) (by omega) (by omega) (by omega)
          rw [hsn, hxn] at hbg
          have HBG := Lib.hid (show Calls Tryz.prog 134 #[u5, .int .u64 x, .int .i64 4] wr fun e w' => ∃ v', e = .returned v' ∧ w'.ownsRow B5 5 1 v' (sumV (st.v.take (i + 1))).length (bys (sumV (st.v.take (i + 1)))) ∧ Below B5 wr w' from hbg)
          have HX1 := Lib.hid x1
          have hix := fun W => index_st W C8 HC8.out.2 i hlt x hc8
          have hw64 : IntKind.u64.wrap x = x := by rw [IntKind.wrap_u64]; omega
          clear hxn hx x0 x1 hlen hsn hbg hv8
          clear hr c72 hc8 hPN hw8 g1 g2 g2' hwj hj63 h56 hbl hz2 hz1 hz0 hiU hBw
          go_wp2_with (first
            | (go_at_call 134; (with_reducible refine HBG.out.mono ?_); rintro e w6 ⟨v6, rfl, hr6, hb6⟩; have HR6 := Lib.hid hr6; have HB6 := Lib.hid hb6; clear hr6 hb6)
            | fail)
          go_roundw
          case rel => exact ⟨i + 1, by omega, by simp, HR6, Lib.hid (HBW.out.trans HB6.out)⟩
          case measure => simp [intOf]; omega
        · have hi8 : i = 8 := by omega
          have hr := HR.out
          rw [hi8, List.take_of_length_le (by omega), ← HSUM.out] at hr
          have h32 := HS.sumB_len HOK.out
          obtain ⟨g9, cap9, hv9, hcv9⟩ := own_conv hr h32 (by omega)
          obtain ⟨OUT, hO⟩ : ∃ OUT : ByteArray, (⟨s.sumB.toArray⟩ : ByteArray) = OUT := ⟨_, rfl⟩
          rw [hO] at hcv9
          have HOUT := Lib.hid hO
          subst hv9
          clear hr h32 hO hv8 hi8
          go_wp2_with fail
          go_ret
          refine ⟨ret_str HOUT.out.symm, ?_⟩
          have h1 := HLW5.out
          have h2 := HBW.out
          have z1 := Below.size h1
          have z2 := HB5.out
          exact ⟨h2.os.trans h1.os, h2.tape.trans h1.tape, h2.output.trans h1.output, by have := h2.size; omega, fun k hk => (h2.block k (by omega)).trans (Below.block h1 k hk)⟩
    · have g2 : ((r : Int) != 56) = true := by simp; omega
      have g2' : ¬ (r : Int) = 56 := by omega
      go_wp2_with (first
        | (at_builtin; refine wpList_append_lies _ rfl (.tmp 23) (.tmp 24) 99 rfl B 5 iU (.int .u8 0) 1 1 Tryz.underlying99 hiU hz0 hz1 hz2 rfl (by decide) _ _ _ rfl (HR.out.alloc _) ⟨wr.heap.size, 0, none⟩ 1 1 [.int .u8 0] rfl rfl (cells_newJ wr [.int .u8 0] 5) (by intro u hu; simp only [List.mem_cons, List.not_mem_nil, or_false] at hu; rcases hu with rfl; rfl) (by omega) (by unfold maxLen; omega) (by omega) (by simp; omega) _ rfl ?_; intro g6 cap6 w6 hown6 hgrow6 hat6 hlt6)
        | fail)
      go_roundw
      case rel =>
        have hr' : (1 + j) + 1 = 1 + (j + 1) := by omega
        refine ⟨j + 1, cap6, g6, by omega, by first | rfl | simp [hr'], Lib.hid ?_, Lib.hid ?_⟩
        · have h1 : bys (128 :: List.replicate j 0) ++ [.int .u8 0] = bys (128 :: List.replicate (j + 1) 0) := by
            rw [List.replicate_succ']
            simp [bys]
          rw [h1, hr'] at hown6
          exact hown6
        · refine Below.grown (HBW.out.alloc (Nat.le_trans (by have := HQ.out; omega) hBw) _) hgrow6 ?_ ?_
          · rw [World.size_alloc]; omega
          · intro k hk
            have e : g = k := Option.some.inj hk
            rw [← e]
            exact (HR.out.lt g rfl).1
      case measure => simp [lenV]; omega
end Go.Proofs.YtfpbocjmlhcgiaaGreatDoor
/- The hash's Link and Chain. -/
namespace Go.Proofs.YtfpbocjmlhcgiaaGreatDoor
open Go.RowKit PJ Go.Maps

def HS0 : HS := ⟨H0w, List.replicate 64 0, 0⟩
theorem HS0_ok : HS0.OK := ⟨rfl, H0w_inU, by simp [HS0]⟩
def linkS (a b : List UInt8) : HS := HS.putN b.length (HS.putN 8 (HS.putN a.length HS0 a) (be b.length 8)) b
def linkB (a b : List UInt8) : List UInt8 := (linkS a b).sumB
theorem linkS_ok (a b : List UInt8) : (linkS a b).OK := HS.putN_ok _ (HS.putN_ok _ (HS.putN_ok _ HS0_ok _) _) _
theorem linkB_len (a b : List UInt8) : (linkB a b).length = 32 := HS.sumB_len (linkS_ok a b)
theorem linkS_size (a b : List UInt8) : (linkS a b).size = a.length + 8 + b.length := by
  unfold linkS
  rw [HS.putN_size _ _ _ (Nat.le_refl _), HS.putN_size _ _ _ (by rw [be_len]; omega), HS.putN_size _ _ _ (Nat.le_refl _), be_len]
  show 0 + _ + 8 + _ = _
  omega
set_option maxRecDepth 100000 in
set_option maxHeartbeats 4000000 in
theorem hlink_any (w : World) (a b : ByteArray) (ha : a.size ≤ 10000000) (hb : b.size ≤ 10000000) :
    Calls Tryz.prog 68 #[.string a, .string b] w fun e w' => e = .returned (.string ⟨(linkB a.data.toList b.data.toList).toArray⟩) ∧ LJ w w' := by
  have hal : a.data.toList.length = a.size := by rw [Array.length_toList]; rfl
  have hbl : b.data.toList.length = b.size := by rw [Array.length_toList]; rfl
  have HN := Lib.hid (hnew_any w)
  obtain ⟨q, hq⟩ : ∃ q, w.heap.size = q := ⟨_, rfl⟩
  obtain ⟨w1, hw1⟩ : ∃ w1, w.alloc (.cells (hashCells H0w (List.replicate 64 0) 0) 235) = w1 := ⟨_, rfl⟩
  have hh1 : HashAt w1 q HS0 := by
    rw [← hw1, ← hq]
    exact alloc_blk w _
  have hl1 : LJ w w1 := by rw [← hw1]; exact (LJ.refl w).alloc _
  rw [hw1, hq] at HN
  have HW1 := Lib.hid (hwrite_any w1 q HS0 a hh1 HS0_ok (by show 0 + a.size ≤ _; omega))
  obtain ⟨s1, hs1⟩ : ∃ s1, HS.putN a.size HS0 a.data.toList = s1 := ⟨_, rfl⟩
  have hs1o : s1.OK := by rw [← hs1]; exact HS.putN_ok _ HS0_ok _
  have hs1z : s1.size = a.size := by
    rw [← hs1, HS.putN_size _ _ _ (by omega), hal]
    show 0 + _ = _
    omega
  rw [hs1] at HW1
  obtain ⟨NB, hNB⟩ : ∃ NB : ByteArray, (⟨(be b.size 8).toArray⟩ : ByteArray) = NB := ⟨_, rfl⟩
  have hNd : NB.data.toList = be b.size 8 := by rw [← hNB]
  have hNs : NB.size = 8 := by
    have : NB.data.toList.length = 8 := by rw [hNd, be_len]
    rw [← this, Array.length_toList]; rfl
  obtain ⟨s2, hs2⟩ : ∃ s2, HS.putN 8 s1 (be b.size 8) = s2 := ⟨_, rfl⟩
  have hs2o : s2.OK := by rw [← hs2]; exact HS.putN_ok _ hs1o _
  have hs2z : s2.size = a.size + 8 := by rw [← hs2, HS.putN_size _ _ _ (by rw [be_len]; omega), hs1z, be_len]
  obtain ⟨s3, hs3⟩ : ∃ s3, HS.putN b.size s2 b.data.toList = s3 := ⟨_, rfl⟩
  have hs3o : s3.OK := by rw [← hs3]; exact HS.putN_ok _ hs2o _
  have hs3z : s3.size = a.size + 8 + b.size := by rw [← hs3, HS.putN_size _ _ _ (by omega), hs2z, hbl]
  have hout : linkB a.data.toList b.data.toList = s3.sumB := by
    unfold linkB linkS
    rw [hal, hbl, hs1, hs2, hs3]
  have HWB := Lib.hid (fun w2 (h2 : HashAt w2 q s1) => show Calls Tryz.prog 133 #[.pointer (some ⟨q, 0, none⟩), .string NB] w2 fun e w' => e = .returned (.tuple #[]) ∧ HashAt w' q s2 ∧ OnlyJ (fun k => k = q) w2 w' from by
    have h := hwrite_any w2 q s1 NB h2 hs1o (by omega)
    rw [hNs, hNd, hs2] at h
    exact h)
  have HWC := Lib.hid (fun w2 (h2 : HashAt w2 q s2) => show Calls Tryz.prog 133 #[.pointer (some ⟨q, 0, none⟩), .string b] w2 fun e w' => e = .returned (.tuple #[]) ∧ HashAt w' q s3 ∧ OnlyJ (fun k => k = q) w2 w' from by
    have h := hwrite_any w2 q s2 b h2 hs2o (by omega)
    rw [hs3] at h
    exact h)
  have HSU := Lib.hid (fun w2 (h2 : HashAt w2 q s3) => hsum_any w2 q s3 h2 hs3o (by omega))
  have HBG := Lib.hid (fun (w2 : World) => show Calls Tryz.prog 134 #[.slice none 0 0, .int .u64 (b.size : Int), .int .i64 8] w2 fun e w' => ∃ v', e = .returned v' ∧ w'.ownsRow w2.heap.size 5 1 v' (be b.size 8).length (bys (be b.size 8)) ∧ Below w2.heap.size w2 w' from by
    have h := hbig_any w2 w2.heap.size (Nat.le_refl _) (.slice none 0 0) [] (.inl (World.ownsRow_nil _ _ _ _)) b.size 8 (by omega) (by omega) (by omega) (by simp)
    rw [List.nil_append] at h
    exact h)
  obtain ⟨OUT, hO⟩ : ∃ OUT : ByteArray, (⟨s3.sumB.toArray⟩ : ByteArray) = OUT := ⟨_, rfl⟩
  rw [hO] at HSU
  have HOUT := Lib.hid (show (⟨(linkB a.data.toList b.data.toList).toArray⟩ : ByteArray) = OUT from by rw [hout]; exact hO)
  obtain ⟨bz, hbz⟩ : ∃ bz, b.size = bz := ⟨_, rfl⟩
  have hbzb : bz ≤ 10000000 := by omega
  have hw64 : IntKind.u64.wrap (bz : Int) = (bz : Int) := by rw [IntKind.wrap_u64]; omega
  have HNB := Lib.hid hNB
  have HL1 := Lib.hid hl1
  have HQ := Lib.hid hq
  rw [hbz] at HBG HNB
  clear hal hbl hq hw1 hh1 hl1 hs1 hs1o hs1z hNB hNd hNs hs2 hs2o hs2z hs3 hs3o hs3z hout hO ha hb hbzb
  go_enter Tryz.func68, Tryz.ntmps68
  go_wp2_with (first
    | (go_at_call 132; (with_reducible refine HN.out.mono ?_); rintro e wn ⟨rfl, hwn⟩; subst hwn)
    | (go_at_call 133; (with_reducible refine HW1.out.mono ?_); rintro e w2 ⟨rfl, hh2, ho2⟩; have HH2 := Lib.hid hh2; have HO2 := Lib.hid ho2; clear hh2 ho2)
    | (go_at_call 134; (with_reducible refine (HBG.out _).mono ?_); rintro e w3 ⟨v3, rfl, hr3, hb3⟩
       obtain ⟨g3, cap3, hv3, hcv⟩ := own_conv hr3 (be_len _ _) (by omega)
       subst hv3
       rw [HNB.out] at hcv
       have HW3 := Lib.hid (HWB.out w3 (hb3.block q (lt_blk HH2.out) |>.trans HH2.out))
       have HB3 := Lib.hid hb3
       clear hr3 hb3)
    | (go_at_call 133; (with_reducible refine HW3.out.mono ?_); rintro e w4 ⟨rfl, hh4, ho4⟩; have HW5 := Lib.hid (HWC.out w4 hh4); have HO4 := Lib.hid ho4; clear hh4 ho4)
    | (go_at_call 133; (with_reducible refine HW5.out.mono ?_); rintro e w5 ⟨rfl, hh5, ho5⟩; have HS5 := Lib.hid (HSU.out w5 hh5); have HO5 := Lib.hid ho5; clear hh5 ho5)
    | (go_at_call 135; (with_reducible refine HS5.out.mono ?_); rintro e w6 ⟨rfl, hl6⟩; have HL6 := Lib.hid hl6; clear hl6)
    | fail)
  go_ret
  refine ⟨ret_str HOUT.out.symm, ?_⟩
  have l1 := HL1.out
  have q1 := HQ.out
  have z1 := Below.size l1
  have o2 := HO2.out
  have b3 := HB3.out
  have o4 := HO4.out
  have o5 := HO5.out
  have l6 := HL6.out
  have z2 := o2.size
  have z3 := b3.size
  have z4 := o4.size
  have z5 := o5.size
  have z6 := Below.size l6
  refine ⟨l6.os.trans (o5.os.trans (o4.os.trans (b3.os.trans (o2.os.trans l1.os)))), l6.tape.trans (o5.tape.trans (o4.tape.trans (b3.tape.trans (o2.tape.trans l1.tape)))), l6.output.trans (o5.output.trans (o4.output.trans (b3.output.trans (o2.output.trans l1.output)))), by omega, fun k hk => ?_⟩
  exact (Below.block l6 k (by omega)).trans ((o5.block k (by omega) (by show k ≠ q; omega)).trans ((o4.block k (by omega) (by show k ≠ q; omega)).trans ((b3.block k (by omega)).trans ((o2.block k (by omega) (by show k ≠ q; omega)).trans (Below.block l1 k hk)))))
end Go.Proofs.YtfpbocjmlhcgiaaGreatDoor
