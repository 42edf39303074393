/- The walk of law11.ConfigBytes. -/
import Derived.Test.YtbchkjfnakabkaaGreatDoorRB5
import Derived.Test.YtbchkjfnakabkaaGreatDoorRB6
import Derived.Test.YtbchkjfnakabkaaGreatDoorNSS
set_option linter.unusedSimpArgs false
set_option linter.unusedVariables false
namespace Go.Proofs.YtbchkjfnakabkaaGreatDoor
open Go.RowKit PX PC
theorem rprint_at (w:World) (c:Cfg) (v:V7) (h:RowsOf w c v) (hI:CfgI c):Calls Tryz.prog 16 #[.agg (cfgA c v)] w fun e w'=>e=.returned (.tuple #[.string (printS c),.int .i64 (printE c)])∧Later w w':=
 rprint_core w _ c v.F v.P v.W v.O v.V v.R v.K rfl h.rF h.rP h.rW h.rO h.rV h.rR h.rK hI (h.inC).few
theorem rparse_at (w:World) (S:ByteArray) (hS:S.size≤9223372036854775807):Calls Tryz.prog 18 #[.string S] w (ParseAt S w):=by
 refine (rparse_any w S hS).mono fun e w' ⟨cs,he,hin,hl⟩=>?_
 obtain ⟨v,hv,hr⟩:=hin.asA
 rw [hv] at he
 exact⟨v,he,hr,hl⟩
set_option maxRecDepth 100000 in
set_option maxHeartbeats 8000000 in
theorem cbytes_any (w:World) (c:Cfg) (v:V7) (S:ByteArray) (h0:RowsOf w c v) (hI:CfgI c) (hS:S.size≤9223372036854775807) :
 Calls Tryz.prog 4 #[.agg (cfgA c v),.string S] w fun e w'=>e=.returned (.bool true)∧Later w w':=by
 have HFX:=Lib.hid fixed11_any
 obtain ⟨p,hp⟩:∃ p,w.heap.size=p:=⟨_,rfl⟩
 obtain ⟨w1,hw1⟩:∃ w1,w.alloc (.cells (cfgA c v) 32)=w1:=⟨_,rfl⟩
 have hl1:Later w w1:=by rw [←hw1];exact (Later.refl w).alloc _
 have hv1:VarAt w1 p c v:=by unfold VarAt;rw [←hw1,←hp];exact alloc_block w _
 have HV:=Lib.hid (fun (w':World) (h:Later w1 w')=>hv1.later h)
 have HR:=Lib.hid (fun (w':World) (h:Later w1 w')=>Rows7.later h0 (hl1.trans h))
 have HPR:=Lib.hid (fun (w':World) (h:Later w1 w')=>print_at w' c v (HR.out _ h) hI)
 have HRP:=Lib.hid (fun (w':World) (h:Later w1 w')=>rprint_at w' c v (HR.out _ h) hI)
 have HPS:=Lib.hid (fun (w':World)=>parse_at w' S hS)
 have HRS:=Lib.hid (fun (w':World)=>rparse_at w' S hS)
 unfold ParseAt at HPS HRS
 have HXI:=Lib.hid (laid_I (parsed_laid S))
 obtain ⟨A,hA⟩:∃ A,printS c=A:=⟨_,rfl⟩
 obtain ⟨B,hB⟩:∃ A,printE c=A:=⟨_,rfl⟩
 obtain ⟨X,hX⟩:∃ X,parsedC S=X:=⟨_,rfl⟩
 obtain ⟨Y,hY⟩:∃ X,parsedE S=X:=⟨_,rfl⟩
 rw [hA,hB] at HPR HRP
 rw [hX,hY] at HPS HRS
 rw [hX] at HXI
 have HW1:=Lib.hid hw1
 have HP:=Lib.hid hp
 clear hp hw1 hv1 hA hB hX hY
 go_enter Tryz.func4,Tryz.ntmps4
 go_upto_region 1 with fail
 rw [HW1.out,HP.out]
 go_upto_region 3 with (first
  | refine wpList_load_row_on rfl 32 (.tmp 2) rfl p rfl 32 (cfgA c v) (0,0) _ (HV.out _ (by repeat (first | assumption | exact Later.refl _ | refine Later.drew ?_ | refine Later.drewN ?_ _ | refine Later.alloc ?_ _ | refine Later.trans ?_ (by assumption)))) Tryz.underlying32 rfl (cfgA_info _ _) ?_
  | (go_at_call 15;(with_reducible refine (HPR.out _ (by repeat (first | assumption | exact Later.refl _ | refine Later.drew ?_ | refine Later.drewN ?_ _ | refine Later.alloc ?_ _ | refine Later.trans ?_ (by assumption)))).mono ?_);rintro e w2 ⟨rfl,hl2⟩)
  | (go_at_call 16;(with_reducible refine (HRP.out _ (by repeat (first | assumption | exact Later.refl _ | refine Later.drew ?_ | refine Later.drewN ?_ _ | refine Later.alloc ?_ _ | refine Later.trans ?_ (by assumption)))).mono ?_);rintro e w3 ⟨rfl,hl3⟩)
  | fail)
 have hlW:Later w w3:=(by repeat (first | assumption | exact Later.refl _ | refine Later.drew ?_ | refine Later.drewN ?_ _ | refine Later.alloc ?_ _ | refine Later.trans ?_ (by assumption)))
 clear hl2 hl3
 go_upto_region 4 with (first
  | (go_at_call 17;(with_reducible refine (HPS.out _).mono ?_);rintro e wa ⟨vx,rfl,hrx,hla⟩)
  | refine wpList_store_row rfl 32 (.tmp 9) (.tmp 26) rfl wa.heap.size (cfgA X vx) rfl rfl 32 _ (alloc_block _ _) (cfgA_info _ _) rfl hrx.one ?_
  | fail)
 generalize hWb:World.setRow _ _ _=Wb
 have hvb:VarAt Wb wa.heap.size X vx:=by rw [←hWb];exact (var_new _ _ _ _).1
 have hlb:Later wa Wb:=by rw [←hWb];exact (var_new _ _ _ _).2
 clear hWb
 have HVB:=Lib.hid (fun (w':World) (h:Later Wb w')=>hvb.later h)
 have HRB:=Lib.hid (fun (w':World) (h:Later Wb w')=>hrx.later (hlb.trans h))
 generalize hbb:wa.heap.size=bb at HVB
 (try rw [hbb])
 have hlWb:Later w Wb:=hlW.trans (hla.trans hlb)
 clear hvb hrx hbb hla hlb
 go_upto_region 5 with (first
  | (go_at_call 18;(with_reducible refine (HRS.out _).mono ?_);rintro e wc ⟨vy,rfl,hry,hlc⟩)
  | refine wpList_store_row rfl 32 (.tmp 11) (.tmp 31) rfl wc.heap.size (cfgA X vy) rfl rfl 32 _ (alloc_block _ _) (cfgA_info _ _) rfl hry.one ?_
  | fail)
 generalize hWd:World.setRow _ _ _=Wd
 have hvd:VarAt Wd wc.heap.size X vy:=by rw [←hWd];exact (var_new _ _ _ _).1
 have hld:Later wc Wd:=by rw [←hWd];exact (var_new _ _ _ _).2
 clear hWd
 have hbd:Later Wb Wd:=hlc.trans hld
 have HVD:=Lib.hid (fun (w':World) (h:Later Wd w')=>hvd.later h)
 have HVE:=Lib.hid (fun (w':World) (h:Later Wd w')=>HVB.out _ (hbd.trans h))
 have HSA:=Lib.hid (fun (w':World) (h:Later Wd w')=>same_at w' X vx vy (HRB.out _ (hbd.trans h)) (hry.later (hld.trans h)) HXI.out)
 generalize hbb:wc.heap.size=bd at HVD
 (try rw [hbb])
 have hlWd:Later w Wd:=hlWb.trans hbd
 clear hvd hry hbb hlc hld hbd hlWb
 go_wp2_with (first
  | refine wpList_load_row_on rfl 32 (.tmp 9) rfl bb rfl 32 (cfgA X vx) (0,0) _ (HVE.out _ (by repeat (first | assumption | exact Later.refl _ | refine Later.drew ?_ | refine Later.drewN ?_ _ | refine Later.alloc ?_ _ | refine Later.trans ?_ (by assumption)))) Tryz.underlying32 rfl (cfgA_info _ _) ?_
  | refine wpList_load_row_on rfl 32 (.tmp 11) rfl bd rfl 32 (cfgA X vy) (0,0) _ (HVD.out _ (by repeat (first | assumption | exact Later.refl _ | refine Later.drew ?_ | refine Later.drewN ?_ _ | refine Later.alloc ?_ _ | refine Later.trans ?_ (by assumption)))) Tryz.underlying32 rfl (cfgA_info _ _) ?_
  | (go_at_call 19;(with_reducible refine (HSA.out _ (by repeat (first | assumption | exact Later.refl _ | refine Later.drew ?_ | refine Later.drewN ?_ _ | refine Later.alloc ?_ _ | refine Later.trans ?_ (by assumption)))).mono ?_);rintro e we ⟨rfl,hle⟩)
  | (go_at_call 14;(with_reducible refine (HFX.out _).mono ?_);rintro e wf ⟨rfl,hlf⟩)
  | fail)
 go_ret
 exact⟨ret_bool (by simp),(by repeat (first | assumption | exact Later.refl _ | refine Later.drew ?_ | refine Later.drewN ?_ _ | refine Later.alloc ?_ _ | refine Later.trans ?_ (by assumption)))⟩
theorem cbytes_cfg (w:World) (cs:List Value) (c:Cfg) (h:CfgIn w cs c) (hI:CfgI c) (S:ByteArray) (hS:S.size≤9223372036854775807) :
 Calls Tryz.prog 4 #[.agg cs.toArray,.string S] w fun e w'=>e=.returned (.bool true)∧Below w.heap.size w w':=by
 obtain ⟨v,hv,hr⟩:=h.asA
 rw [hv]
 exact (cbytes_any w c v S hr hI hS).mono fun e w' ⟨he,hl⟩=>⟨he,hl.out⟩
end Go.Proofs.YtbchkjfnakabkaaGreatDoor
