/- The walk of law11.ConfigBack. (Printed by gen_nbk.py.) -/
import Derived.Test.YtbchkjfnakabkaaGreatDoorNSS
import Derived.Test.YtbchkjfnakabkaaGreatDoorYP
set_option linter.unusedSimpArgs false
set_option linter.unusedVariables false
namespace Go.Proofs.YtbchkjfnakabkaaGreatDoor
open Go.RowKit PX PC
open Go.Act renaming put → p0
open List renaming getElem_toArray → p1, getElem_cons_succ → p2, getElem_cons_zero → p3, setIfInBounds_toArray → p4, set_cons_zero → p5, set_cons_succ → p6

theorem ld_row {o : Oper} {a : Act} {t : Tmp} {p : Nat} {c : Cfg} {v : V7} {w : World} (ho : o.op = .load 32 (.tmp t)) (ha : a.eval (.tmp t) = .pointer (some ⟨p, 0, none⟩)) (h : VarAt w p c v) : (execOp a.eval o).run Tryz.prog w = .ok (.value (.agg (cfgA c v))) w := by
  have h1 := run_loadVar_row w p 32 32 (cfgA c v) (0, 0) _ h Tryz.underlying32 rfl (cfgA_info c v)
  unfold execOp
  simp only [ho, ha, Instr.loadAt, Instr.sureAddr, Sem.run_bind, Sem.run_pure, Result.andThen_ok, h1]
theorem same_zero (w : World) (X : Cfg) (v : V7) (h : RowsOf w X v) (hX : X = zeroCfg) : Calls Tryz.prog 19 #[.agg (cfgA X v), .agg #[.int .i64 0, .slice none 0 0, .slice none 0 0, .slice none 0 0, .slice none 0 0, .slice none 0 0, .int .i64 0, .int .i64 0, .int .i64 0, .int .i64 0, .int .i64 0, .int .i64 0, .slice none 0 0, .slice none 0 0, .string ⟨#[]⟩, .int .i64 0, .int .i64 0]] w fun e w' => e = .returned (.bool true) ∧ Later w w' := by
  subst hX
  exact same_at w zeroCfg v vZ h (zero_rows w) (laid_I zero_laid)
theorem print_parsed (w : World) (S : ByteArray) (X : Cfg) (v : V7) (h : RowsOf w X v) (hX : parseC S.data.toList = some X) : Calls Tryz.prog 15 #[.agg (cfgA X v)] w fun e w' => e = .returned (.tuple #[.string S, .int .i64 0]) ∧ Later w w' := by
  obtain ⟨hl, hb⟩ := bytes_parse hX
  have := print_at w X v h (laid_I hl)
  unfold printS printE at this
  rw [if_pos hl, if_pos hl, hb] at this
  exact this
theorem back_chk {c : Cfg} (h : c.laid = false) : chkI c = 111 := by
  unfold chkI
  rw [if_neg]
  intro k
  rw [wf_laid k] at h; cases h

set_option maxRecDepth 100000 in
set_option maxHeartbeats 8000000 in
theorem cback_any (w : World) (c : Cfg) (v : V7) (S : ByteArray) (h0 : RowsOf w c v) (hI : CfgI c) (hW : CfgW c) (hS : S.size ≤ 9223372036854775807) :
    Calls Tryz.prog 5 #[.agg (cfgA c v), .string S] w fun e w' => e = .returned (.bool true) ∧ Later w w' := by
  have HFX := Lib.hid fixed11_any
  obtain ⟨p, hp⟩ : ∃ p, w.heap.size = p := ⟨_, rfl⟩
  obtain ⟨w1, hw1⟩ : ∃ w1, w.alloc (.cells (cfgA c v) 32) = w1 := ⟨_, rfl⟩
  have hl1 : Later w w1 := by rw [← hw1]; exact (Later.refl w).alloc _
  have hv1 : VarAt w1 p c v := by unfold VarAt; rw [← hw1, ← hp]; exact alloc_block w _
  have HV := Lib.hid (fun (w' : World) (h : Later w1 w') => hv1.later h)
  have HR := Lib.hid (fun (w' : World) (h : Later w1 w') => Rows7.later h0 (hl1.trans h))
  have HPR := Lib.hid (fun (w' : World) (h : Later w1 w') => print_at w' c v (HR.out _ h) hI)
  have HCK := Lib.hid (fun (w' : World) (h : Later w1 w') => check_at w' c v (HR.out _ h) hI hW)
  have HW1 := Lib.hid hw1
  have HP := Lib.hid hp
  clear hp hw1 hv1
  cases hl : c.laid
  · have HL := Lib.hid hl
    have e1 : printS c = ⟨#[]⟩ := by unfold printS; rw [hl]; rfl
    have e2 : printE c = 111 := by unfold printE; rw [hl]; rfl
    have e3 := back_chk hl
    rw [e1, e2] at HPR
    rw [e3] at HCK
    clear e1 e2 e3 hl
    go_enter Tryz.func5, Tryz.ntmps5
    go_upto_region 1 with fail
    rw [HW1.out, HP.out]
    go_upto_region 8 with (first
      | refine wpList_load_row_on rfl 32 (.tmp 2) rfl p rfl 32 (cfgA c v) (0, 0) _ (HV.out _ (by repeat (first | assumption | exact Later.refl _ | refine Later.drew ?_ | refine Later.drewN ?_ _ | refine Later.alloc ?_ _ | refine Later.trans ?_ (by assumption)))) Tryz.underlying32 rfl (cfgA_info _ _) ?_
      | (go_at_call 15; (with_reducible refine (HPR.out _ (by repeat (first | assumption | exact Later.refl _ | refine Later.drew ?_ | refine Later.drewN ?_ _ | refine Later.alloc ?_ _ | refine Later.trans ?_ (by assumption)))).mono ?_); rintro e w2 ⟨rfl, hl2⟩)
      | (go_at_call 10; (with_reducible refine (HCK.out _ (by repeat (first | assumption | exact Later.refl _ | refine Later.drew ?_ | refine Later.drewN ?_ _ | refine Later.alloc ?_ _ | refine Later.trans ?_ (by assumption)))).mono ?_); rintro e w3 ⟨rfl, hl3⟩)
      | fail)
    have hlW : Later w w3 := (by repeat (first | assumption | exact Later.refl _ | refine Later.drew ?_ | refine Later.drewN ?_ _ | refine Later.alloc ?_ _ | refine Later.trans ?_ (by assumption)))
    clear hl2 hl3
    have HPS := Lib.hid (fun (w' : World) => parse_at w' S hS)
    cases hp : parseC S.data.toList with
    | none =>
      have HPE := Lib.hid (show parsedE S = 110 by unfold parsedE; rw [hp]; rfl)
      obtain ⟨X, hX⟩ : ∃ X, parsedC S = X := ⟨_, rfl⟩
      have HX := Lib.hid (show X = zeroCfg by rw [← hX]; unfold parsedC; rw [hp]; rfl)
      have HPC := Lib.hid hX
      clear hp hX
      go_upto_region 9 with (first
        | (go_at_call 17; (with_reducible refine (HPS.out _).mono ?_); rintro e wa ⟨vx, rfl, hrx, hla⟩; rw [HPC.out] at hrx; rw [HPC.out, HPE.out])
        | refine wpList_store_row rfl 32 (.tmp 9) (.tmp 54) rfl wa.heap.size (cfgA X vx) rfl rfl 32 _ (alloc_block _ _) (cfgA_info _ _) rfl hrx.one ?_
        | fail)
      generalize hWb : World.setRow _ _ _ = Wb
      have hvb : VarAt Wb wa.heap.size X vx := by rw [← hWb]; exact (var_new _ _ _ _).1
      have hlb : Later wa Wb := by rw [← hWb]; exact (var_new _ _ _ _).2
      clear hWb
      have HVB := Lib.hid (fun (w' : World) (h : Later Wb w') => hvb.later h)
      have HRB := Lib.hid (fun (w' : World) (h : Later Wb w') => hrx.later (hlb.trans h))
      generalize hbb : wa.heap.size = bb at HVB
      (try rw [hbb])
      have hlWb : Later w Wb := hlW.trans (hla.trans hlb)
      clear hvb hrx hbb hla hlb
      have HX0 := Lib.hid (fun (w' : World) (h : Later Wb w') => same_zero w' X vx (HRB.out _ h) HX.out)
      go_wp2_with (first
        | refine wpList_load_row_on rfl 32 (.tmp 9) rfl bb rfl 32 (cfgA X vx) (0, 0) _ (HVB.out _ (by repeat (first | assumption | exact Later.refl _ | refine Later.drew ?_ | refine Later.drewN ?_ _ | refine Later.alloc ?_ _ | refine Later.trans ?_ (by assumption)))) Tryz.underlying32 rfl (cfgA_info _ _) ?_
        | (go_at_call 19; (with_reducible refine (HX0.out _ (by repeat (first | assumption | exact Later.refl _ | refine Later.drew ?_ | refine Later.drewN ?_ _ | refine Later.alloc ?_ _ | refine Later.trans ?_ (by assumption)))).mono ?_); rintro e wc ⟨rfl, hlc⟩)
        | (go_at_call 14; (with_reducible refine (HFX.out _).mono ?_); rintro e wd ⟨rfl, hld⟩)
        | fail)
      go_ret
      exact ⟨rfl, (by repeat (first | assumption | exact Later.refl _ | refine Later.drew ?_ | refine Later.drewN ?_ _ | refine Later.alloc ?_ _ | refine Later.trans ?_ (by assumption)))⟩
    | some x =>
      have HPE := Lib.hid (show parsedE S = 0 by unfold parsedE; rw [hp]; rfl)
      obtain ⟨X, hX⟩ : ∃ X, parsedC S = X := ⟨_, rfl⟩
      have HX := Lib.hid (show parseC S.data.toList = some X by rw [← hX]; unfold parsedC; rw [hp]; rfl)
      have HPC := Lib.hid hX
      clear hp hX
      go_upto_region 9 with (first
        | (go_at_call 17; (with_reducible refine (HPS.out _).mono ?_); rintro e wa ⟨vx, rfl, hrx, hla⟩; rw [HPC.out] at hrx; rw [HPC.out, HPE.out])
        | refine wpList_store_row rfl 32 (.tmp 9) (.tmp 54) rfl wa.heap.size (cfgA X vx) rfl rfl 32 _ (alloc_block _ _) (cfgA_info _ _) rfl hrx.one ?_
        | fail)
      generalize hWb : World.setRow _ _ _ = Wb
      have hvb : VarAt Wb wa.heap.size X vx := by rw [← hWb]; exact (var_new _ _ _ _).1
      have hlb : Later wa Wb := by rw [← hWb]; exact (var_new _ _ _ _).2
      clear hWb
      have HVB := Lib.hid (fun (w' : World) (h : Later Wb w') => hvb.later h)
      have HRB := Lib.hid (fun (w' : World) (h : Later Wb w') => hrx.later (hlb.trans h))
      generalize hbb : wa.heap.size = bb at HVB
      (try rw [hbb])
      have hlWb : Later w Wb := hlW.trans (hla.trans hlb)
      clear hvb hrx hbb hla hlb
      have HPX := Lib.hid (fun (w' : World) (h : Later Wb w') => print_parsed w' S X vx (HRB.out _ h) HX.out)
      go_wp2_with (first
        | refine wpList_load_row_on rfl 32 (.tmp 9) rfl bb rfl 32 (cfgA X vx) (0, 0) _ (HVB.out _ (by repeat (first | assumption | exact Later.refl _ | refine Later.drew ?_ | refine Later.drewN ?_ _ | refine Later.alloc ?_ _ | refine Later.trans ?_ (by assumption)))) Tryz.underlying32 rfl (cfgA_info _ _) ?_
        | (go_at_call 15; (with_reducible refine (HPX.out _ (by repeat (first | assumption | exact Later.refl _ | refine Later.drew ?_ | refine Later.drewN ?_ _ | refine Later.alloc ?_ _ | refine Later.trans ?_ (by assumption)))).mono ?_); rintro e wc ⟨rfl, hlc⟩)
        | (go_at_call 14; (with_reducible refine (HFX.out _).mono ?_); rintro e wd ⟨rfl, hld⟩)
        | fail)
      go_ret
      exact ⟨ret_bool (by simp), (by repeat (first | assumption | exact Later.refl _ | refine Later.drew ?_ | refine Later.drewN ?_ _ | refine Later.alloc ?_ _ | refine Later.trans ?_ (by assumption)))⟩
  · have HL := Lib.hid hl
    have e1 : printS c = bytesOf c.bytes := by unfold printS; rw [hl]; rfl
    have e2 : printE c = 0 := by unfold printE; rw [hl]; rfl
    obtain ⟨A, hA⟩ : ∃ A, bytesOf c.bytes = A := ⟨_, rfl⟩
    have hpa : parseC A.data.toList = some c := by
      rw [← hA]
      have : (bytesOf c.bytes).data.toList = c.bytes := by show (c.bytes.toArray).toList = _; simp
      rw [this]; exact parse_bytes c hl
    have hAs : A.size ≤ 9223372036854775807 := by
      rw [← hA, ← S_all]
      have := s11 c (h0.inC).few
      omega
    rw [e1, e2, hA] at HPR
    have HPA := Lib.hid (fun (w' : World) => show Calls Tryz.prog 17 #[.string A] w' (ParseAt A w') from parse_at w' A hAs)
    have HAC := Lib.hid (show parsedC A = c by unfold parsedC; rw [hpa]; rfl)
    have HAE := Lib.hid (show parsedE A = 0 by unfold parsedE; rw [hpa]; rfl)
    clear e1 e2 hl hA hpa hAs
    go_enter Tryz.func5, Tryz.ntmps5
    go_upto_region 1 with fail
    rw [HW1.out, HP.out]
    go_upto_region 4 with (first
      | refine wpList_load_row_on rfl 32 (.tmp 2) rfl p rfl 32 (cfgA c v) (0, 0) _ (HV.out _ (by repeat (first | assumption | exact Later.refl _ | refine Later.drew ?_ | refine Later.drewN ?_ _ | refine Later.alloc ?_ _ | refine Later.trans ?_ (by assumption)))) Tryz.underlying32 rfl (cfgA_info _ _) ?_
      | (go_at_call 15; (with_reducible refine (HPR.out _ (by repeat (first | assumption | exact Later.refl _ | refine Later.drew ?_ | refine Later.drewN ?_ _ | refine Later.alloc ?_ _ | refine Later.trans ?_ (by assumption)))).mono ?_); rintro e w2 ⟨rfl, hl2⟩)
      | (go_at_call 17; (with_reducible refine (HPA.out _).mono ?_); rintro e w3 ⟨vd, rfl, hrd, hl3⟩; rw [HAC.out] at hrd; rw [HAC.out, HAE.out])
      | refine wpList_store_row rfl 32 (.tmp 7) (.tmp 23) rfl w3.heap.size (cfgA c vd) rfl rfl 32 _ (alloc_block _ _) (cfgA_info _ _) rfl hrd.one ?_
      | fail)
    generalize hW4 : World.setRow _ _ _ = W4
    have hv4 : VarAt W4 w3.heap.size c vd := by rw [← hW4]; exact (var_new _ _ _ _).1
    have hl4 : Later w3 W4 := by rw [← hW4]; exact (var_new _ _ _ _).2
    clear hW4
    have hl14 : Later w1 W4 := (by repeat (first | assumption | exact Later.refl _ | refine Later.drew ?_ | refine Later.drewN ?_ _ | refine Later.alloc ?_ _ | refine Later.trans ?_ (by assumption)))
    have HR4 := Lib.hid (fun (w' : World) (h : Later W4 w') => hrd.later (hl4.trans h))
    generalize hbd : w3.heap.size = bd at hv4
    (try rw [hbd])
    have HK := Lib.hid (fun (w' : World) (h : Later W4 w') => And.intro (HV.out w' (hl14.trans h)) (hv4.later h))
    have HSM := Lib.hid (fun (w' : World) (h : Later W4 w') => same_at w' c v vd (HR.out _ (hl14.trans h)) (HR4.out _ h) hI)
    have HC1 := Lib.hid (fun (w' : World) (h : Later W4 w') => HCK.out w' (hl14.trans h))
    have HC2 := Lib.hid (fun (w' : World) (h : Later W4 w') => check_at w' c vd (HR4.out _ h) hI hW)
    have hneq : (chkI c != chkI c) = false := by simp
    clear hl2 hl3 hl4 hrd hbd hv4
    refine wp_region_held_drew (S := fun w' => VarAt w' p c v ∧ VarAt w' bd c vd) (by kernel_rfl) (HK.out _ (by repeat (first | assumption | exact Later.refl _ | refine Later.drew ?_ | refine Later.drewN ?_ _ | refine Later.alloc ?_ _ | refine Later.trans ?_ (by assumption)))) (fun hHeld => ?_)
    refine tkT (i := 0) (v := ?_) ?_ hHeld ?_
    rotate_left
    · intro w hSw; (try dsimp only at hSw); go_simp; (try with_reducible rfl)
    (try simp only [p0, p1, p2, p3, p4, p5, p6])
    refine tkT (i := 1) (v := ?_) ?_ hHeld ?_
    rotate_left
    · intro w hSw; (try dsimp only at hSw); go_simp; (try with_reducible rfl)
    (try simp only [p0, p1, p2, p3, p4, p5, p6])
    refine tkT (i := 2) (v := ?_) ?_ hHeld ?_
    rotate_left
    · intro w hSw; (try dsimp only at hSw); go_simp; (try with_reducible rfl)
    (try simp only [p0, p1, p2, p3, p4, p5, p6])
    refine tkT (i := 3) (v := .agg (cfgA c v)) (fun w hSw => ld_row rfl rfl hSw.1) hHeld ?_
    (try simp only [p0, p1, p2, p3, p4, p5, p6])
    refine tkT (i := 4) (v := .agg (cfgA c vd)) (fun w hSw => ld_row rfl rfl hSw.2) hHeld ?_
    (try simp only [p0, p1, p2, p3, p4, p5, p6])
    refine wpAnyH_ready (rs := [5]) (by kernel_rfl) (by simp) ?_
    refine AllReadyH.cons rfl (fun K hK => ?_) AllReadyH.nil
    go_simp
    refine (HSM.out _ (by repeat (first | assumption | exact Later.refl _ | refine Later.drew ?_ | refine Later.drewN ?_ _ | refine Later.alloc ?_ _ | refine Later.trans ?_ (by assumption)))).mono ?_; rintro e we ⟨rfl, hle⟩
    refine hK.out _ _ ?_ (fun hHeld => ?_)
    · exact HK.out _ (by repeat (first | assumption | exact Later.refl _ | refine Later.drew ?_ | refine Later.drewN ?_ _ | refine Later.alloc ?_ _ | refine Later.trans ?_ (by assumption)))
    clear hK K
    (try simp only [p0, p1, p2, p3, p4, p5, p6])
    refine tkT (i := 6) (v := ?_) ?_ hHeld ?_
    rotate_left
    · intro w hSw; (try dsimp only at hSw); go_simp; (try with_reducible rfl)
    (try simp only [p0, p1, p2, p3, p4, p5, p6])
    refine tkT (i := 7) (v := ?_) ?_ hHeld ?_
    rotate_left
    · intro w hSw; (try dsimp only at hSw); go_simp; (try with_reducible rfl)
    (try simp only [p0, p1, p2, p3, p4, p5, p6])
    refine tkT (i := 8) (v := ?_) ?_ hHeld ?_
    rotate_left
    · intro w hSw; (try dsimp only at hSw); go_simp; (try with_reducible rfl)
    (try simp only [p0, p1, p2, p3, p4, p5, p6])
    refine tkT (i := 9) (v := .agg (cfgA c v)) (fun w hSw => ld_row rfl rfl hSw.1) hHeld ?_
    (try simp only [p0, p1, p2, p3, p4, p5, p6])
    refine tkT (i := 11) (v := .agg (cfgA c vd)) (fun w hSw => ld_row rfl rfl hSw.2) hHeld ?_
    (try simp only [p0, p1, p2, p3, p4, p5, p6])
    refine wpAnyH_ready (rs := [10]) (by kernel_rfl) (by simp) ?_
    refine AllReadyH.cons rfl (fun K hK => ?_) AllReadyH.nil
    go_simp
    refine (HC1.out _ (by repeat (first | assumption | exact Later.refl _ | refine Later.drew ?_ | refine Later.drewN ?_ _ | refine Later.alloc ?_ _ | refine Later.trans ?_ (by assumption)))).mono ?_; rintro e wf ⟨rfl, hlf⟩
    refine hK.out _ _ ?_ (fun hHeld => ?_)
    · exact HK.out _ (by repeat (first | assumption | exact Later.refl _ | refine Later.drew ?_ | refine Later.drewN ?_ _ | refine Later.alloc ?_ _ | refine Later.trans ?_ (by assumption)))
    clear hK K
    (try simp only [p0, p1, p2, p3, p4, p5, p6])
    refine wpAnyH_ready (rs := [12]) (by kernel_rfl) (by simp) ?_
    refine AllReadyH.cons rfl (fun K hK => ?_) AllReadyH.nil
    go_simp
    refine (HC2.out _ (by repeat (first | assumption | exact Later.refl _ | refine Later.drew ?_ | refine Later.drewN ?_ _ | refine Later.alloc ?_ _ | refine Later.trans ?_ (by assumption)))).mono ?_; rintro e wg ⟨rfl, hlg⟩
    refine hK.out _ _ ?_ (fun hHeld => ?_)
    · exact HK.out _ (by repeat (first | assumption | exact Later.refl _ | refine Later.drew ?_ | refine Later.drewN ?_ _ | refine Later.alloc ?_ _ | refine Later.trans ?_ (by assumption)))
    clear hK K
    (try simp only [p0, p1, p2, p3, p4, p5, p6])
    refine tkT (i := 13) (v := ?_) ?_ hHeld ?_
    rotate_left
    · intro w hSw; (try dsimp only at hSw); go_simp; (try with_reducible rfl)
    (try simp only [p0, p1, p2, p3, p4, p5, p6])
    refine tkT (i := 14) (v := ?_) ?_ hHeld ?_
    rotate_left
    · intro w hSw; (try dsimp only at hSw); go_simp; (try with_reducible rfl)
    (try simp only [p0, p1, p2, p3, p4, p5, p6])
    refine wpAnyH_done (by kernel_rfl) ?_ _
    go_upto_region 8 with fail
    have hlW : Later w wg := (hl1.trans hl14).trans (by repeat (first | assumption | exact Later.refl _ | refine Later.drew ?_ | refine Later.drewN ?_ _ | refine Later.alloc ?_ _ | refine Later.trans ?_ (by assumption)))
    clear hle hlf hlg hl14
    have HPS := Lib.hid (fun (w' : World) => parse_at w' S hS)
    cases hp : parseC S.data.toList with
    | none =>
      have HPE := Lib.hid (show parsedE S = 110 by unfold parsedE; rw [hp]; rfl)
      obtain ⟨X, hX⟩ : ∃ X, parsedC S = X := ⟨_, rfl⟩
      have HX := Lib.hid (show X = zeroCfg by rw [← hX]; unfold parsedC; rw [hp]; rfl)
      have HPC := Lib.hid hX
      clear hp hX
      go_upto_region 9 with (first
        | (go_at_call 17; (with_reducible refine (HPS.out _).mono ?_); rintro e wa ⟨vx, rfl, hrx, hla⟩; rw [HPC.out] at hrx; rw [HPC.out, HPE.out])
        | refine wpList_store_row rfl 32 (.tmp 9) (.tmp 54) rfl wa.heap.size (cfgA X vx) rfl rfl 32 _ (alloc_block _ _) (cfgA_info _ _) rfl hrx.one ?_
        | fail)
      generalize hWb : World.setRow _ _ _ = Wb
      have hvb : VarAt Wb wa.heap.size X vx := by rw [← hWb]; exact (var_new _ _ _ _).1
      have hlb : Later wa Wb := by rw [← hWb]; exact (var_new _ _ _ _).2
      clear hWb
      have HVB := Lib.hid (fun (w' : World) (h : Later Wb w') => hvb.later h)
      have HRB := Lib.hid (fun (w' : World) (h : Later Wb w') => hrx.later (hlb.trans h))
      generalize hbb : wa.heap.size = bb at HVB
      (try rw [hbb])
      have hlWb : Later w Wb := hlW.trans (hla.trans hlb)
      clear hvb hrx hbb hla hlb
      have HX0 := Lib.hid (fun (w' : World) (h : Later Wb w') => same_zero w' X vx (HRB.out _ h) HX.out)
      go_wp2_with (first
        | refine wpList_load_row_on rfl 32 (.tmp 9) rfl bb rfl 32 (cfgA X vx) (0, 0) _ (HVB.out _ (by repeat (first | assumption | exact Later.refl _ | refine Later.drew ?_ | refine Later.drewN ?_ _ | refine Later.alloc ?_ _ | refine Later.trans ?_ (by assumption)))) Tryz.underlying32 rfl (cfgA_info _ _) ?_
        | (go_at_call 19; (with_reducible refine (HX0.out _ (by repeat (first | assumption | exact Later.refl _ | refine Later.drew ?_ | refine Later.drewN ?_ _ | refine Later.alloc ?_ _ | refine Later.trans ?_ (by assumption)))).mono ?_); rintro e wc ⟨rfl, hlc⟩)
        | (go_at_call 14; (with_reducible refine (HFX.out _).mono ?_); rintro e wd ⟨rfl, hld⟩)
        | fail)
      go_ret
      exact ⟨rfl, (by repeat (first | assumption | exact Later.refl _ | refine Later.drew ?_ | refine Later.drewN ?_ _ | refine Later.alloc ?_ _ | refine Later.trans ?_ (by assumption)))⟩
    | some x =>
      have HPE := Lib.hid (show parsedE S = 0 by unfold parsedE; rw [hp]; rfl)
      obtain ⟨X, hX⟩ : ∃ X, parsedC S = X := ⟨_, rfl⟩
      have HX := Lib.hid (show parseC S.data.toList = some X by rw [← hX]; unfold parsedC; rw [hp]; rfl)
      have HPC := Lib.hid hX
      clear hp hX
      go_upto_region 9 with (first
        | (go_at_call 17; (with_reducible refine (HPS.out _).mono ?_); rintro e wa ⟨vx, rfl, hrx, hla⟩; rw [HPC.out] at hrx; rw [HPC.out, HPE.out])
        | refine wpList_store_row rfl 32 (.tmp 9) (.tmp 54) rfl wa.heap.size (cfgA X vx) rfl rfl 32 _ (alloc_block _ _) (cfgA_info _ _) rfl hrx.one ?_
        | fail)
      generalize hWb : World.setRow _ _ _ = Wb
      have hvb : VarAt Wb wa.heap.size X vx := by rw [← hWb]; exact (var_new _ _ _ _).1
      have hlb : Later wa Wb := by rw [← hWb]; exact (var_new _ _ _ _).2
      clear hWb
      have HVB := Lib.hid (fun (w' : World) (h : Later Wb w') => hvb.later h)
      have HRB := Lib.hid (fun (w' : World) (h : Later Wb w') => hrx.later (hlb.trans h))
      generalize hbb : wa.heap.size = bb at HVB
      (try rw [hbb])
      have hlWb : Later w Wb := hlW.trans (hla.trans hlb)
      clear hvb hrx hbb hla hlb
      have HPX := Lib.hid (fun (w' : World) (h : Later Wb w') => print_parsed w' S X vx (HRB.out _ h) HX.out)
      go_wp2_with (first
        | refine wpList_load_row_on rfl 32 (.tmp 9) rfl bb rfl 32 (cfgA X vx) (0, 0) _ (HVB.out _ (by repeat (first | assumption | exact Later.refl _ | refine Later.drew ?_ | refine Later.drewN ?_ _ | refine Later.alloc ?_ _ | refine Later.trans ?_ (by assumption)))) Tryz.underlying32 rfl (cfgA_info _ _) ?_
        | (go_at_call 15; (with_reducible refine (HPX.out _ (by repeat (first | assumption | exact Later.refl _ | refine Later.drew ?_ | refine Later.drewN ?_ _ | refine Later.alloc ?_ _ | refine Later.trans ?_ (by assumption)))).mono ?_); rintro e wc ⟨rfl, hlc⟩)
        | (go_at_call 14; (with_reducible refine (HFX.out _).mono ?_); rintro e wd ⟨rfl, hld⟩)
        | fail)
      go_ret
      exact ⟨ret_bool (by simp), (by repeat (first | assumption | exact Later.refl _ | refine Later.drew ?_ | refine Later.drewN ?_ _ | refine Later.alloc ?_ _ | refine Later.trans ?_ (by assumption)))⟩
theorem cback_cfg (w : World) (cs : List Value) (c : Cfg) (h : CfgIn w cs c) (hI : CfgI c) (hW : CfgW c) (S : ByteArray) (hS : S.size ≤ 9223372036854775807) :
    Calls Tryz.prog 5 #[.agg cs.toArray, .string S] w fun e w' => e = .returned (.bool true) ∧ Below w.heap.size w w' := by
  obtain ⟨v, hv, hr⟩ := h.asA
  rw [hv]
  exact (cback_any w c v S hr hI hW hS).mono fun e w' ⟨he, hl⟩ => ⟨he, hl.out⟩
end Go.Proofs.YtbchkjfnakabkaaGreatDoor

