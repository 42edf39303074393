/- A transaction's work: the walk of Commit's closure. -/
import Derived.Test.YtfpbocjmlhcgiaaGreatDoorJg15
set_option linter.unusedSimpArgs false
set_option linter.unusedVariables false
namespace Go.Proofs.YtfpbocjmlhcgiaaGreatDoor
open Go.RowKit PJ Go.Maps

theorem LJ.undrew {a b : World} (h : LJ a.drew b) : LJ a b := by
  obtain ⟨h1, h2, h3, h4, h5⟩ := h
  exact ⟨h1, h2, h3, h4, h5⟩
theorem app_data (a b : ByteArray) : (a ++ b).data.toList = a.data.toList ++ b.data.toList := by simp
set_option maxRecDepth 100000 in
set_option maxHeartbeats 8000000 in
theorem commit1_any (w : World) (a : JA) (F : Nat → Prop) (V S : View) (dt : Bool) (head first next at' : Nat) (C : Cells) (h : JC w a F V S dt head first next at' C) (q0 q1 g off cap : Nat) (l : List Wr)
    (hq0 : w.cell? ⟨q0, 0, none⟩ = some (.slice (some ⟨g, off, none⟩) l.length cap)) (hq1 : w.cell? ⟨q1, 0, none⟩ = some (.pointer (some ⟨a.jb, 0, none⟩))) (hF0 : ¬ F q0) (hF1 : ¬ F q1) (hFg : ¬ F g) (hg : g < w.heap.size)
    (hc : ∀ j x, l[j]? = some x → WrCells w g (off + j * 2) x) (h40 : l.length ≤ 40) (hl1 : 1 ≤ l.length) (hw : ∀ x ∈ l, 0 ≤ x.cell ∧ x.cell < ((a.n - a.area : Nat) : Int) ∧ x.data.size ≤ 116)
    (hat2 : at' + 1 + l.length ≤ a.area) (han : a.area ≤ a.n) (hn : next < 4611686018427387904) :
    Calls Tryz.prog 139 #[.pointer (some ⟨q0, 0, none⟩), .pointer (some ⟨q1, 0, none⟩)] w fun e w' => e = .returned (.tuple #[]) ∧
      JC w' a (grow F w w') (wrV next (setS V at' (blk (recD l) next)) (at' + 1) l) S true head first (next + 1) (at' + 1 + l.length) (putsW C l) ∧ OnlyJ a.R w w' := by
  have hn12 := h.dev.n12.1
  have HCL := Lib.hid (wclone_any w g off cap l h40 hg hc)
  have HP1 := Lib.hid (fun W => show Calls Tryz.prog 118 #[.int .i64 l.length, .int .i64 1] W fun e w' => e = .returned (.string ⟨(be l.length 1).toArray⟩) ∧ LJ W w' from jput_any W l.length 1 (by omega) (by omega) (by omega))
  have hlt := h.dev.lt
  have HH := Lib.hid h
  have HLT := Lib.hid hlt
  have HC := Lib.hid hc
  have HW := Lib.hid hw
  have HF0 := Lib.hid hF0
  have HF1 := Lib.hid hF1
  have HFG := Lib.hid hFg
  have HNX := Lib.hid hn
  have HM := must_hid
  obtain ⟨n, hnn⟩ : ∃ n, l.length = n := ⟨_, rfl⟩
  have HN := Lib.hid hnn
  obtain ⟨D0, hD0⟩ : ∃ D0 : ByteArray, (⟨(be l.length 1).toArray⟩ : ByteArray) = D0 := ⟨_, rfl⟩
  have hD0d : D0.data.toList = be l.length 1 := by rw [← hD0]
  rw [hD0, hnn] at HP1
  rw [hnn] at HCL hq0 h40 hl1 hat2 ⊢
  have HD0 := Lib.hid hD0d
  clear h hlt hc hw hF0 hF1 hFg hn hnn hD0 hD0d
  go_enter Tryz.func139, Tryz.ntmps139
  go_upto_region 1 with (first
    | (go_at_call 140; (with_reducible refine HCL.out.mono ?_); rintro e w1 ⟨v2, rfl, hown1, hlj1⟩; have HO1 := Lib.hid hown1; have HL1 := Lib.hid hlj1; have p0 := LJ.cell hlj1 hq0; clear hown1 hlj1)
    | fail)
  go_upto_region 2 with (first
    | (go_at_call 118; (with_reducible refine (HP1.out _).mono ?_); rintro e w2 ⟨rfl, hl2⟩; have HL2 := Lib.hid hl2; have p1 := LJ.cell hl2 p0; clear hl2)
    | fail)
  rcases HO1.out.2 with ⟨-, hz⟩ | ⟨og, ocap, ocur, rfl, hBo, hog, hoc, hom, -⟩
  · omega
  go_upto_region 3 with fail
  have hog2 : w2.heap[og]? = some (.cells ocur 130 (0, 0)) := HL2.out.block hog
  clear p0 p1
  go_loopw [3, 5, 15] (fun v3 v5 v15 wr => ∃ (j : Nat) (D : ByteArray), j ≤ n ∧ v15 = .int .i64 (j : Int) ∧ v3 = .string D ∧ Hid (D.data.toList = be l.length 1 ++ (l.take j).flatMap fun w => be w.cell.toNat 2) ∧ Hid (LJ w2 wr)) (fun _ _ v15 _ => n - (intOf v15).toNat)
  case atStart => exact ⟨0, D0, by omega, rfl, rfl, Lib.hid (by rw [HD0.out]; simp), Lib.hid (LJ.refl _)⟩
  case round =>
    obtain ⟨j, D, hj, rfl, rfl, HD, HWR⟩ := hrel
    by_cases hjn : j < n
    · obtain ⟨x, hx⟩ : ∃ x, l[j]? = some x := ⟨_, List.getElem?_eq_getElem (by have := HN.out; omega)⟩
      obtain ⟨x0, x1, x2⟩ := HW.out x (List.mem_of_getElem? hx)
      obtain ⟨k, hk⟩ := Int.eq_ofNat_of_zero_le x0
      obtain ⟨q1', q2'⟩ := HC.out j x hx
      have hlw : LJ w wr := (HL1.out.trans HL2.out).trans HWR.out
      have r1 := LJ.cell hlw q1'
      have r2 := LJ.cell hlw q2'
      rw [hk] at r1
      have hk4 : k ≤ 4096 := by omega
      have hDl : D.size ≤ 100 := by
        have h1 : D.data.toList.length = D.size := by rw [Array.length_toList]; rfl
        have h2 := congrArg List.length HD.out
        rw [List.length_append, be_len, recT_len, List.length_take] at h2
        omega
      obtain ⟨K2, hK2⟩ : ∃ K2 : ByteArray, (⟨(be k 2).toArray⟩ : ByteArray) = K2 := ⟨_, rfl⟩
      have hK2d : K2.data.toList = be k 2 := by rw [← hK2]
      have hK2s : K2.size = 2 := by
        have : K2.data.toList.length = 2 := by rw [hK2d, be_len]
        rw [← this, Array.length_toList]; rfl
      have HP2 := Lib.hid (fun W => show Calls Tryz.prog 118 #[.int .i64 k, .int .i64 2] W fun e w' => e = .returned (.string K2) ∧ LJ W w' from by rw [← hK2]; exact jput_any W k 2 (by omega) (by omega) (by omega))
      have HX := Lib.hid (And.intro hx (And.intro hk hK2d))
      obtain ⟨w4, hw4⟩ : ∃ w4, wr.alloc (.cells #[.int .i64 (k : Int), .string x.data] 130) = w4 := ⟨_, rfl⟩
      have hl4 : LJ wr w4 := by rw [← hw4]; exact (LJ.refl wr).alloc _
      have s0 : w4.cell? ⟨wr.heap.size, 0, none⟩ = some (.int .i64 (k : Int)) := by rw [← hw4]; exact cell_blk (alloc_blk wr _) 0
      have HW4 := Lib.hid hw4
      have HL4 := Lib.hid hl4
      clear hx x0 x1 x2 hk q1' q2' hlw hK2 hK2d hw4 hl4
      go_upto_region 5 with fail
      rw [HW4.out]
      go_wp2_with (first
        | (go_at_call 118; (with_reducible refine (HP2.out _).mono ?_); rintro e w5 ⟨rfl, hl5⟩; have HL5 := Lib.hid hl5; clear hl5)
        | fail)
      go_roundw
      case rel =>
        refine ⟨j + 1, D ++ K2, by omega, by simp, rfl, Lib.hid ?_, Lib.hid ((HWR.out.trans HL4.out).trans HL5.out)⟩
        rw [recT l j HX.out.1, app_data, HD.out, HX.out.2.2, HX.out.2.1, Int.toNat_natCast]
      case measure => simp [intOf]; omega
    · have hjn' : j = n := by omega
      subst hjn'
      obtain ⟨wo, rfl⟩ : ∃ wo : World, wo = wr := ⟨_, rfl⟩
      have hDr : D.data.toList = recD l := by
        rw [HD.out, List.take_of_length_le (Nat.le_of_eq HN.out)]
        rfl
      have hlw : LJ w wo := (HL1.out.trans HL2.out).trans HWR.out
      have HLW := Lib.hid hlw
      have hjr := HH.out.later hlw
      have HJR := Lib.hid hjr
      have hDs : D.size ≤ 116 := by
        have h1 : D.data.toList.length = D.size := by rw [Array.length_toList]; rfl
        rw [hDr, recD_len, HN.out] at h1
        omega
      have r1 : wo.cell? ⟨q1, 0, none⟩ = some (.pointer (some ⟨a.jb, 0, none⟩)) := LJ.cell hlw hq1
      have d0 : wo.cell? ⟨a.jb, 0, none⟩ = some (.pointer (some ⟨a.b, 0, none⟩)) := cell_blk hjr.cells 0
      have d5 : wo.cell? ⟨a.jb, 5, none⟩ = some (.int .i64 at') := cell_blk hjr.cells 5
      have d4 : wo.cell? ⟨a.jb, 4, none⟩ = some (.int .i64 next) := cell_blk hjr.cells 4
      have HWA := Lib.hid (show Calls Tryz.prog 59 #[.pointer (some ⟨a.b, 0, none⟩), .int .i64 at', .string D, .int .i64 next] wo.drew fun e w' => e = .returned (.int .i64 0) ∧ JC w' a (grow F wo.drew w') (setS V at' (blk (recD l) next)) S true head first next at' C ∧ OnlyJ a.R wo.drew w' from by
        rw [← hDr]
        exact jwrite_any wo.drew a F V S dt head first next at' C hjr.drew wo.drew (LJ.refl _) at' (by omega) D hDs next (by have := HNX.out; omega))
      have hsw : w.heap.size ≤ wo.heap.size := Below.size hlw
      have hogw : og < wo.heap.size := by have h1 := lt_blk hog2; have h2 := Below.size HWR.out; omega
      have hor : wo.ownsRow w.heap.size 130 2 (.slice (some ⟨og, 0, none⟩) j ocap) j (wsC l) := own_below (own_below HO1.out HL2.out) HWR.out
      have HOR := Lib.hid hor
      have hogF : ¬ F og := fun e => by have := HLT.out og e; omega
      have HOGF := Lib.hid hogF
      have HQ0 := Lib.hid (LJ.cell hlw hq0)
      have HQ1 := Lib.hid r1
      have hq0l : q0 < w.heap.size := World.block_lt_of_cell? _ _ hq0
      have hq1l : q1 < w.heap.size := World.block_lt_of_cell? _ _ hq1
      have hjjb : a.jb < w.heap.size := HLT.out _ HH.out.Fj
      clear hlw hjr hDr hDs hor hogF hq0 hq1 hog2
      go_upto_region 7 with fail
      go_still_tail 13, (by kernel_rfl)
      change wpList _ _ _ _ _ wo.drew
      obtain ⟨wz, hwz⟩ : ∃ wz, wo.drew = wz := ⟨_, rfl⟩
      rw [hwz] at HWA ⊢
      have HWZ := Lib.hid hwz
      clear hwz d0 d5 d4 r1
      go_upto_region 8 with (first
        | (go_at_call 59; (with_reducible refine HWA.out.mono ?_); rintro e w5 ⟨rfl, hj5, ho5⟩; rw [← HWZ.out] at hj5 ho5; have HJ5 := Lib.hid hj5; have HO5 := Lib.hid ho5.undrew; clear hj5 ho5)
        | (go_at_call 58; (with_reducible refine (HM _).out.mono ?_); rintro e wm ⟨rfl, hwm⟩; subst hwm)
        | fail)
      have hRF := HH.out.dev.sub
      have p0 : w5.cell? ⟨q0, 0, none⟩ = some (.slice (some ⟨g, off, none⟩) j cap) := (World.cell?_of_block (a := ⟨q0, 0, none⟩) (HO5.out.block q0 (by omega) (fun e => HF0.out (hRF _ e)))).trans HQ0.out
      have HRF := Lib.hid hRF
      clear hRF
      go_upto_region 9 with fail
      clear p0
      obtain ⟨V1, hV1⟩ : ∃ V1, setS V at' (blk (recD l) next) = V1 := ⟨_, rfl⟩
      rw [hV1] at HJ5
      have HV1 := Lib.hid hV1
      clear hV1
      go_loopw [6, 7, 42] (fun v6 v7 v42 wr => ∃ i : Nat, i ≤ j ∧ v42 = .int .i64 (i : Int) ∧ Hid (JC wr a (grow F wo wr) (wrV next V1 (at' + 1) (l.take i)) S true head first next at' C) ∧ Hid (wr.ownsRow w.heap.size 130 2 (.slice (some ⟨og, 0, none⟩) j ocap) j (wsC (mixW l i))) ∧ Hid (OnlyJ (fun q => a.R q ∨ q = og) wo wr)) (fun _ _ v42 _ => j - (intOf v42).toNat)
      case atStart =>
        refine ⟨0, by omega, rfl, HJ5, Lib.hid ?_, Lib.hid (HO5.out.mono fun _ _ e => .inl e)⟩
        rw [mixW_zero]
        exact own_only HOR.out HO5.out (fun q hq e => by cases hq; exact HOGF.out (HRF.out _ e))
      case round =>
        obtain ⟨i, hi, rfl, HJY, HOW, HOY⟩ := hrel
        have hsy := HOY.out.size
        by_cases hij : i < j
        · obtain ⟨x, hx⟩ : ∃ x, l[i]? = some x := ⟨_, List.getElem?_eq_getElem (by have := HN.out; omega)⟩
          obtain ⟨x0, x1, x2⟩ := HW.out x (List.mem_of_getElem? hx)
          obtain ⟨c1, c2⟩ := HC.out i x hx
          have hgy : wr.heap[g]? = wo.heap[g]? := HOY.out.block g (by omega) (fun e => by rcases e with e | e; exact HFG.out (HRF.out _ e); omega)
          have hgr := HLW.out
          have r1 := (World.cell?_of_block (a := ⟨g, off + i * 2, none⟩) hgy).trans (LJ.cell hgr c1)
          have r2 := (World.cell?_of_block (a := ⟨g, off + i * 2 + 1, none⟩) hgy).trans (LJ.cell hgr c2)
          have s1 : wr.cell? ⟨q1, 0, none⟩ = some (.pointer (some ⟨a.jb, 0, none⟩)) := (World.cell?_of_block (a := ⟨q1, 0, none⟩) (HOY.out.block q1 (by omega) (fun e => by rcases e with e | e; exact HF1.out (HRF.out _ e); omega))).trans HQ1.out
          obtain ⟨k, hk⟩ := Int.eq_ofNat_of_zero_le x0
          rw [hk] at r1
          obtain ⟨DX, hDX⟩ : ∃ DX, x.data = DX := ⟨_, rfl⟩
          rw [hDX] at r2 x2
          obtain ⟨w6, hw6⟩ : ∃ w6, wr.alloc (.cells #[.int .i64 (k : Int), .string DX] 130) = w6 := ⟨_, rfl⟩
          have hl6 : LJ wr w6 := by rw [← hw6]; exact (LJ.refl wr).alloc _
          have hb6 : w6.heap[wr.heap.size]? = some (.cells #[.int .i64 (k : Int), .string DX] 130 (0, 0)) := by rw [← hw6]; exact alloc_blk wr _
          have hj6 := HJY.out.later hl6
          have t1 := LJ.cell hl6 s1
          have t2 : w6.cell? ⟨wr.heap.size, 1, none⟩ = some (.string DX) := cell_blk hb6 1
          have d0 : w6.cell? ⟨a.jb, 0, none⟩ = some (.pointer (some ⟨a.b, 0, none⟩)) := cell_blk hj6.cells 0
          have d5 : w6.cell? ⟨a.jb, 5, none⟩ = some (.int .i64 at') := cell_blk hj6.cells 5
          have d4 : w6.cell? ⟨a.jb, 4, none⟩ = some (.int .i64 next) := cell_blk hj6.cells 4
          have HWB := Lib.hid (show Calls Tryz.prog 59 #[.pointer (some ⟨a.b, 0, none⟩), .int .i64 ((at' : Int) + 1 + (i : Int)), .string DX, .int .i64 next] w6.drew fun e w' => e = .returned (.int .i64 0) ∧ JC w' a (grow (grow F wo wr) w6.drew w') (setS (wrV next V1 (at' + 1) (l.take i)) (at' + 1 + i) (blk DX.data.toList next)) S true head first next at' C ∧ OnlyJ a.R w6.drew w' from
            jwrite_any w6.drew a (grow F wo wr) _ S true head first next at' C hj6.drew w6.drew (LJ.refl _) (at' + 1 + i) (by omega) DX x2 next (by have := HNX.out; omega))
          have hog6 : ¬ grow F wo wr og := grow_not HOGF.out (by omega)
          have hwa : IntKind.i64.wrap ((at' : Int) + 1) = (at' : Int) + 1 := by rw [IntKind.wrap_i64]; omega
          have hwb : IntKind.i64.wrap ((at' : Int) + 1 + (i : Int)) = (at' : Int) + 1 + (i : Int) := by rw [IntKind.wrap_i64]; omega
          have HW6 := Lib.hid hw6
          have HL6 := Lib.hid hl6
          have HB6 := Lib.hid hb6
          have HX := Lib.hid (And.intro hx (And.intro hk hDX))
          have HR6 := Lib.hid hj6.dev.sub
          have HT6 := Lib.hid hj6.dev.lt
          have HOG6 := Lib.hid hog6
          have hti : (l.take i).length = i := by rw [List.length_take, HN.out]; omega
          have HTI := Lib.hid hti
          clear x0 x1 c1 c2 hgy hgr hk hDX hw6 hl6 hb6 hj6 s1 hx hog6 hti
          go_upto_region 11 with fail
          rw [HW6.out]
          go_still_tail 17, (by kernel_rfl)
          change wpList _ _ _ _ _ w6.drew
          obtain ⟨w7, hw7⟩ : ∃ w7, w6.drew = w7 := ⟨_, rfl⟩
          rw [hw7] at HWB ⊢
          have HW7 := Lib.hid hw7
          clear hw7 d0 d5 d4 t1 r1 r2
          go_upto_region 12 with (first
            | (go_at_call 59; (with_reducible refine HWB.out.mono ?_); rintro e w8 ⟨rfl, hj8, ho8⟩; rw [← HW7.out] at hj8 ho8; have HJ8 := Lib.hid hj8; have HO8 := Lib.hid ho8.undrew; clear hj8 ho8)
            | (go_at_call 58; (with_reducible refine (HM _).out.mono ?_); rintro e wm ⟨rfl, hwm⟩; subst hwm)
            | fail)
          have hnb : ¬ a.R wr.heap.size := fun e => by have := HJY.out.dev.lt _ (HJY.out.dev.sub _ e); omega
          have hb8 := (HO8.out.block _ (lt_blk HB6.out) hnb).trans HB6.out
          have u1 : w8.cell? ⟨wr.heap.size, 1, none⟩ = some (.string DX) := cell_blk hb8 1
          have hnog : ¬ a.R og := fun e => HOG6.out (HR6.out _ e)
          have HO8R := Lib.hid (own_only (own_below HOW.out HL6.out) HO8.out (fun q hq e => by cases hq; exact hnog e))
          obtain ⟨m, hm⟩ : ∃ m, 116 - DX.size = m := ⟨_, rfl⟩
          have hm2 : (116 : Int) - (DX.size : Int) = (m : Int) := by omega
          have hmw : IntKind.i64.wrap ((116 : Int) - (DX.size : Int)) = (m : Int) := by rw [IntKind.wrap_i64]; omega
          have hmw2 : IntKind.i64.wrap (m : Int) = (m : Int) := by rw [IntKind.wrap_i64]; omega
          obtain ⟨RP, hRP⟩ : ∃ RP : ByteArray, (⟨(List.replicate m (0 : UInt8)).toArray⟩ : ByteArray) = RP := ⟨_, rfl⟩
          have hRPs : RP.size = m := by rw [← hRP]; show (List.replicate m (0 : UInt8)).toArray.size = m; simp
          have HRE := Lib.hid (fun W => show Calls Tryz.prog 65 #[.string ⟨#[0]⟩, .int .i64 m] W fun e w' => e = .returned (.string RP) ∧ LJ W w' from by rw [← hRP]; exact repeat_any W m (by omega))
          have hpd : padW x = ⟨x.cell, DX ++ RP⟩ := by
            unfold padW
            congr 1
            apply ByteArray.ext
            apply Array.toList_inj.1
            rw [app_data, HX.out.2.2, ← hRP]
            unfold padT
            have : DX.data.toList.length = DX.size := by rw [Array.length_toList]; rfl
            simp [this, hm]
          have HPD := Lib.hid hpd
          have hcat : ¬ 9223372036854775807 < DX.size + RP.size := by omega
          have hcat2 : ¬ (9223372036854775807 : Int) < (DX.size : Int) + (RP.size : Int) := by omega
          have HK8 := Lib.hid (fun W (hW : LJ w8 W) => LJ.cell hW u1)
          have HOK := Lib.hid (fun W (hW : LJ w8 W) => And.intro ((own_below HO8R.out hW).frozenAt (i * 2 + 1)) (((own_below HO8R.out hW).cellAt (i * 2 + 1) (by omega)).trans (wsC_get _ _ _ (mixW_get HX.out.1)).2))
          rw [HX.out.2.2] at HOK
          obtain ⟨kf, kc⟩ := HOK.out w8 (LJ.refl _)
          have HKS := Lib.hid (fun W v (hW : LJ w8 W) => show (World.setCell W ⟨og, i * 2 + 1, none⟩ v).cell? ⟨wr.heap.size, 1, none⟩ = some (.string DX) from (World.cell?_of_block (a := ⟨wr.heap.size, 1, none⟩) (heap_setCell_other W ⟨og, i * 2 + 1, none⟩ wr.heap.size v (by show wr.heap.size ≠ og; omega))).trans (HK8.out W hW))
          clear hb8 hnb hnog hm hRP hpd hRPs
          go_region_held3 (fun w' => w'.cell? ⟨wr.heap.size, 1, none⟩ = some (.string DX)) (first | assumption | (refine HKS.out _ _ ?_; (repeat (first | assumption | exact LJ.refl _ | refine LJ.drew ?_ | refine LJ.trans ?_ (by assumption)))) | exact HK8.out _ (by repeat (first | assumption | exact LJ.refl _ | refine LJ.drew ?_ | refine LJ.trans ?_ (by assumption))))
            (first
              | (go_at_call 65; (with_reducible refine (HRE.out _).mono ?_); rintro e w9 ⟨rfl, hl9⟩; obtain ⟨kf9, kc9⟩ := HOK.out w9 (by repeat (first | assumption | exact LJ.refl _ | refine LJ.drew ?_ | refine LJ.trans ?_ (by assumption))))
              | fail)
          all_goals
            go_wp2_with fail
            go_roundw
            case rel =>
              have hl9' : LJ w8 w9 := LJ.undrew hl9
              have hs6 : wr.heap.size ≤ w6.heap.size := Below.size HL6.out
              have hs8 : w6.heap.size ≤ w8.heap.size := HO8.out.size
              have hs9 : w8.heap.size ≤ w9.heap.size := Below.size hl9'
              have hz : (w9.setCell ⟨og, i * 2 + 1, none⟩ (.string (DX ++ RP))).heap.size = w9.heap.size := World.size_setCell _ _ _
              refine ⟨i + 1, by omega, by simp, Lib.hid ?_, Lib.hid ?_, Lib.hid ?_⟩
              · have hj10 := (HJ8.out.later hl9').beside (setCell_only w9 og (i * 2 + 1) (.string (DX ++ RP))) (grow_not HOG6.out (by show og < w6.heap.size; omega))
                rw [List.take_add_one, HX.out.1, Option.toList_some, wrV_snoc, HTI.out, HX.out.2.2]
                refine hj10.wide ?_ (grow_lt HJR.out.dev.lt (by omega))
                rintro q ((e | e) | e)
                · exact .inl e
                · exact .inr ⟨e.1, by omega⟩
                · have e1 : w6.heap.size ≤ q := e.1
                  exact .inr ⟨by omega, by have := e.2; omega⟩
              · have h1 := ((own_below HO8R.out hl9').stored (i * 2 + 1) (.string (DX ++ RP))).1
                rw [wsC_set _ _ x _ (mixW_get HX.out.1), ← HPD.out, mixW_set HX.out.1] at h1
                exact h1
              · exact (((HOY.out.trans (OnlyJ.of_below HL6.out)).trans (HO8.out.mono fun _ _ e => Or.inl e)).trans (OnlyJ.of_below hl9')).trans ((setCell_only w9 og (i * 2 + 1) (.string (DX ++ RP))).mono fun _ _ e => Or.inr e)
            case measure => simp [intOf]; omega
        · have hij' : i = j := by omega
          subst hij'
          have hl0 : l.take i = l := List.take_of_length_le (Nat.le_of_eq HN.out)
          have hjk := HJY.out
          rw [hl0] at hjk
          have hma : mixW l i = l.map padW := by have := mixW_all l; rw [HN.out] at this; exact this
          have how := HOW.out
          rw [hma] at how
          have s1 : wr.cell? ⟨q1, 0, none⟩ = some (.pointer (some ⟨a.jb, 0, none⟩)) := (World.cell?_of_block (a := ⟨q1, 0, none⟩) (HOY.out.block q1 (by omega) (fun e => by rcases e with e | e; exact HF1.out (HRF.out _ e); omega))).trans HQ1.out
          have hlm : (l.map padW).length = i := by rw [List.length_map]; exact HN.out
          have hla : LAt wr (grow F wo wr) (.slice (some ⟨og, 0, none⟩) i ocap) (l.map padW) := by
            refine .inr ⟨og, 0, ocap, by rw [hlm], by omega, grow_not HOGF.out (by omega), fun m x hx => ?_⟩
            have hml : m < i := by rw [← hlm]; exact (List.getElem?_eq_some_iff.1 hx).1
            obtain ⟨e1, e2⟩ := wsC_get _ _ _ hx
            rw [Nat.zero_add]
            exact ⟨by rw [how.cellAt _ (by omega)]; exact e1, by rw [how.cellAt _ (by omega)]; exact e2⟩
          have HKE := Lib.hid (keeps_any wr a (grow F wo wr) _ S true head first next at' C hjk (.slice (some ⟨og, 0, none⟩) i ocap) (l.map padW) hla (by omega) (by omega) (fun y hy => by
            obtain ⟨x, hx, rfl⟩ := List.mem_map.1 hy
            obtain ⟨e1, e2, e3⟩ := HW.out x hx
            exact ⟨e1, e2, padW_size e3⟩) HNX.out (by omega))
          rw [hlm, puts_pad l C (fun x hx => (HW.out x hx).2.2)] at HKE
          clear hl0 hjk hma how hlm hla
          go_wp2_with (first
            | (go_at_call 141; (with_reducible refine HKE.out.mono ?_); rintro e w9 ⟨rfl, hj9, ho9⟩; have HJ9 := Lib.hid hj9; have HO9 := Lib.hid ho9; clear hj9 ho9)
            | fail)
          go_end0
          have hs9 := HO9.out.size
          have hj9 := HJ9.out
          rw [← HV1.out] at hj9
          refine ⟨rfl, hj9.wide ?_ (grow_lt HLT.out (by omega)), ?_⟩
          · rintro q ((e | e) | e)
            · exact .inl e
            · exact .inr ⟨by omega, by omega⟩
            · exact .inr ⟨by omega, e.2⟩
          · have h1 := (HOY.out.trans (HO9.out.mono fun q _ e => show a.R q ∨ q = og from .inl e))
            refine ⟨h1.os.trans HLW.out.os, h1.tape.trans HLW.out.tape, h1.output.trans HLW.out.output, by omega, fun q hq hne => (h1.block q (by omega) (fun e => ?_)).trans (Below.block HLW.out q hq)⟩
            rcases e with e | e
            · exact hne e
            · omega
end Go.Proofs.YtfpbocjmlhcgiaaGreatDoor
