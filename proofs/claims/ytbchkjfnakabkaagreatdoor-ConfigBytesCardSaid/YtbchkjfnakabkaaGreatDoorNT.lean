/- The walks of config.Check and config.Need. -/
import Derived.Test.YtbchkjfnakabkaaGreatDoorNL
import Derived.Test.YtbchkjfnakabkaaGreatDoorYC
import Derived.Deep.RegionHeld3
set_option linter.unusedSimpArgs false
set_option linter.unusedVariables false
namespace Go.Proofs.YtbchkjfnakabkaaGreatDoor
open Go.RowKit PX PC
open Go.Act renaming put → p0
open List renaming getElem_toArray → p1, getElem_cons_succ → p2, getElem_cons_zero → p3, setIfInBounds_toArray → p4, set_cons_zero → p5, set_cons_succ → p6
theorem info_cfg17:(Tryz.prog.info? 32).map (·.size)=some 17:=by kernel_rfl
theorem fold_pre {α:Type}:∀ (l pre old tail:List α),old.length=l.length→(l.zipIdx pre.length).foldl (fun (m:List α) (x:α × Nat)=>m.set x.snd x.fst) (pre++(old++tail))=pre++(l++tail)
 | [],pre,[],tail,_=>by simp
 | a::l,pre,o::old,tail,h=>by
  rw [List.zipIdx_cons,List.foldl_cons]
  have e:(pre++(o::old++tail)).set pre.length a=(pre++[a])++(old++tail):=by simp
  rw [e]
  have:=fold_pre l (pre++[a]) old tail (by simpa using h)
  rw [List.length_append] at this
  simpa using this
 | [],pre,o::old,tail,h=>by simp at h
 | a::l,pre,[],tail,h=>by simp at h
theorem fold_arr17 {α:Type} (cs:Array α) (old tail:List α) (n:Nat) (h:old.length=n) (hn:cs.size=n):Array.foldl (fun (l:Array α) (x:α × Nat)=>l.setIfInBounds x.snd x.fst) (old++tail).toArray cs.zipIdx 0 n=(cs.toList++tail).toArray:=by
 have e:∀ (l:List (α × Nat)) (a:Array α),(List.foldl (fun (l:Array α) (x:α × Nat)=>l.setIfInBounds x.snd x.fst) a l).toList=List.foldl (fun (l:List α) (x:α × Nat)=>l.set x.snd x.fst) a.toList l:=by
  intro l
  induction l with
  | nil=>intro a;rfl
  | cons x l ih=>intro a;rw [List.foldl_cons,List.foldl_cons,ih];simp
 apply Array.toList_inj.1
 have hz:n=cs.zipIdx.size:=by simp [hn]
 rw [hz,←Array.foldl_toList,e]
 have:=fold_pre cs.toList [] old tail (by simpa [hn] using h)
 simpa using this
def formZ:List Value:=[.int .i64 0,.slice none 0 0,.slice none 0 0,.slice none 0 0,.slice none 0 0,.slice none 0 0,.int .i64 0,.int .i64 0,.int .i64 0,.int .i64 0,.int .i64 0,.int .i64 0,.slice none 0 0,.slice none 0 0,.string ⟨#[]⟩,.int .i64 0,.int .i64 0]
-- WALKS
noncomputable def chkI (c:Cfg):Int:=if c.checkB then 0 else 111
set_option maxRecDepth 100000 in
set_option maxHeartbeats 4000000 in
theorem cneed_core (w:World) (C:Array Value) (c:Cfg) (vF vP vW vO vV vR vK:Value) (hC:C=#[.int .i64 c.levels,vF,vP,vW,vO,vV,.int .i64 c.audit.level,.int .i64 c.audit.first,.int .i64 c.audit.count,.int .i64 c.audit.journal,.int .i64 c.boot,.int .i64 c.sectors,vR,vK,.string c.login,.int .i64 c.recovery,.int .i64 c.bound])
 (hr:Rows7 w c vF vP vW vO vV vR vK) (hI:CfgI c) (hW:CfgW c) :
 Calls Tryz.prog 12 #[.agg C] w fun e w'=>e=.returned (.int .i64 c.needB)∧Later w w':=by
 have hC17:C.size=17:=by rw [hC];rfl
 have hin:(Tryz.prog.info? 32).map (·.size)=some C.size:=by rw [hC17];exact info_cfg17
 have hfold:=fold_arr17 C formZ [Value.pointer none] 17 rfl hC17
 have hfm:(C.toList++[Value.pointer none]).toArray=formA c vF vP vW vO vV vR vK (.pointer none):=by rw [hC];rfl
 rw [hfm] at hfold
 simp only [formZ,List.cons_append,List.nil_append] at hfold
 obtain ⟨p,hp⟩:∃ p,w.heap.size=p:=⟨_,rfl⟩
 obtain ⟨w1,hw1⟩:∃ w1,w.alloc (.cells C 32)=w1:=⟨_,rfl⟩
 have hl1:Later w w1:=by rw [←hw1];exact (Later.refl _).alloc _
 have hbd:w1.heap[p]?=some (.cells C 32 (0,0)):=by rw [←hw1,←hp];exact alloc_block w _
 have HC:=Lib.hid (fun (w':World) (h:Later w1 w')=>And.intro (show w'.cell? ⟨p,15,none⟩=some (.int .i64 c.recovery) from by rw [cell_of_block (h.block hbd) 15,hC];rfl) (show w'.cell? ⟨p,16,none⟩=some (.int .i64 c.bound) from by rw [cell_of_block (h.block hbd) 16,hC];rfl))
 have hr1:=hr.later hl1
 obtain ⟨fb,hfb⟩:∃ fb,w1.heap.size=fb:=⟨_,rfl⟩
 obtain ⟨w2,hw2⟩:∃ w2,w1.alloc (.cells (formA c vF vP vW vO vV vR vK (.pointer none)) 61)=w2:=⟨_,rfl⟩
 have hl2:Later w1 w2:=by rw [←hw2];exact (Later.refl _).alloc _
 have hfi:FineIn w1 fb c vF vP vW vO vV vR vK 0 w2:=⟨.pointer none,by rw [←hw2,←hfb];exact alloc_block w1 _,hl2,fun h=>by omega⟩
 have HFI:=Lib.hid (fun (w':World) (h:Later w2 w')=>fine_any w1 w' fb c vF vP vW vO vV vR vK (hfi.later h) hr1 hI hW (by omega))
 have HRW:=Lib.hid hr1
 obtain ⟨b,hb⟩:∃ b,c.fine=b:=⟨_,rfl⟩
 have HB:=Lib.hid hb
 rw [hb] at HFI
 have HW1:=Lib.hid hw1
 have HP:=Lib.hid hp
 have HW2:=Lib.hid hw2
 have HFB:=Lib.hid hfb
 clear hw1 hp hw2 hfb hfm hC hr hfi hb hr1 hI hW
 cases b
 ·go_enter Tryz.func12,Tryz.ntmps12
  go_upto_region 1 with fail
  rw [HW1.out,HP.out]
  go_upto_region 2 with (first
   | refine wpList_load_row rfl 32 (.tmp 1) rfl p rfl 32 C (0,0) _ hbd Tryz.underlying32 rfl hin ?_
   | fail)
  (try rw [hfold])
  rw [HW2.out,HFB.out]
  clear hfold hbd
  go_wp2_with (first
   | (go_at_call 22;(with_reducible refine (HFI.out _ (by repeat (first | assumption | exact Later.refl _ | refine Later.drew ?_ | refine Later.drewN ?_ _ | refine Later.alloc ?_ _ | refine Later.trans ?_ (by assumption)))).mono ?_);rintro e w3 ⟨rfl,hl3,hn3⟩)
   | fail)
  go_ret
  refine⟨ret_int ?_,hl1.trans hl3⟩
  unfold Cfg.needB
  rw [HB.out];rfl
 ·go_enter Tryz.func12,Tryz.ntmps12
  go_upto_region 1 with fail
  rw [HW1.out,HP.out]
  go_upto_region 2 with (first
   | refine wpList_load_row rfl 32 (.tmp 1) rfl p rfl 32 C (0,0) _ hbd Tryz.underlying32 rfl hin ?_
   | fail)
  (try rw [hfold])
  rw [HW2.out,HFB.out]
  clear hfold hbd
  go_wp2_with (first
   | (go_at_call 22;(with_reducible refine (HFI.out _ (by repeat (first | assumption | exact Later.refl _ | refine Later.drew ?_ | refine Later.drewN ?_ _ | refine Later.alloc ?_ _ | refine Later.trans ?_ (by assumption)))).mono ?_);rintro e w3 ⟨rfl,hl3,hn3⟩;obtain ⟨lv',hform,-⟩:=FineIn.form (hn3 rfl) HRW.out;have HND:=Lib.hid (fun (w':World) (h:Later w3 w')=>need_any w' fb c vF vP vW vO vV vR vK lv' (hform.later h) (needOK_of HB.out));clear hform hn3)
   | (go_at_call 24;(with_reducible refine (HND.out _ (by repeat (first | assumption | exact Later.refl _ | refine Later.drew ?_ | refine Later.drewN ?_ _ | refine Later.alloc ?_ _ | refine Later.trans ?_ (by assumption)))).mono ?_);rintro e w4 ⟨rfl,hl4⟩)
   | fail)
  go_ret
  refine⟨ret_int ?_,(hl1.trans hl3).trans hl4⟩
  unfold Cfg.needB
  rw [HB.out];rfl
set_option maxRecDepth 100000 in
set_option maxHeartbeats 8000000 in
theorem ccheck_core (w:World) (C:Array Value) (c:Cfg) (vF vP vW vO vV vR vK:Value) (hC:C=#[.int .i64 c.levels,vF,vP,vW,vO,vV,.int .i64 c.audit.level,.int .i64 c.audit.first,.int .i64 c.audit.count,.int .i64 c.audit.journal,.int .i64 c.boot,.int .i64 c.sectors,vR,vK,.string c.login,.int .i64 c.recovery,.int .i64 c.bound])
 (hr:Rows7 w c vF vP vW vO vV vR vK) (hI:CfgI c) (hW:CfgW c) :
 Calls Tryz.prog 10 #[.agg C] w fun e w'=>e=.returned (.int .i64 (chkI c))∧Later w w':=by
 have hC17:C.size=17:=by rw [hC];rfl
 have hin:(Tryz.prog.info? 32).map (·.size)=some C.size:=by rw [hC17];exact info_cfg17
 have hfold:=fold_arr17 C formZ [Value.pointer none] 17 rfl hC17
 have hfm:(C.toList++[Value.pointer none]).toArray=formA c vF vP vW vO vV vR vK (.pointer none):=by rw [hC];rfl
 rw [hfm] at hfold
 simp only [formZ,List.cons_append,List.nil_append] at hfold
 obtain ⟨p,hp⟩:∃ p,w.heap.size=p:=⟨_,rfl⟩
 obtain ⟨w1,hw1⟩:∃ w1,w.alloc (.cells C 32)=w1:=⟨_,rfl⟩
 have hl1:Later w w1:=by rw [←hw1];exact (Later.refl _).alloc _
 have hbd:w1.heap[p]?=some (.cells C 32 (0,0)):=by rw [←hw1,←hp];exact alloc_block w _
 have HC:=Lib.hid (fun (w':World) (h:Later w1 w')=>And.intro (show w'.cell? ⟨p,15,none⟩=some (.int .i64 c.recovery) from by rw [cell_of_block (h.block hbd) 15,hC];rfl) (show w'.cell? ⟨p,16,none⟩=some (.int .i64 c.bound) from by rw [cell_of_block (h.block hbd) 16,hC];rfl))
 have hr1:=hr.later hl1
 obtain ⟨fb,hfb⟩:∃ fb,w1.heap.size=fb:=⟨_,rfl⟩
 obtain ⟨w2,hw2⟩:∃ w2,w1.alloc (.cells (formA c vF vP vW vO vV vR vK (.pointer none)) 61)=w2:=⟨_,rfl⟩
 have hl2:Later w1 w2:=by rw [←hw2];exact (Later.refl _).alloc _
 have hfi:FineIn w1 fb c vF vP vW vO vV vR vK 0 w2:=⟨.pointer none,by rw [←hw2,←hfb];exact alloc_block w1 _,hl2,fun h=>by omega⟩
 have HFI:=Lib.hid (fun (w':World) (h:Later w2 w')=>fine_any w1 w' fb c vF vP vW vO vV vR vK (hfi.later h) hr1 hI hW (by omega))
 have HRW:=Lib.hid hr1
 obtain ⟨b,hb⟩:∃ b,c.fine=b:=⟨_,rfl⟩
 have HB:=Lib.hid hb
 rw [hb] at HFI
 have HW1:=Lib.hid hw1
 have HP:=Lib.hid hp
 have HW2:=Lib.hid hw2
 have HFB:=Lib.hid hfb
 clear hw1 hp hw2 hfb hfm hC hr hfi hb hr1 hI hW
 have HIR:=Lib.hid (fun (w':World)=>cin_any w' c.recovery 1 65535)
 have HIB:=Lib.hid (fun (w':World)=>cin_any w' c.bound c.need 65535)
 obtain ⟨br,hbr⟩:∃ b,inB c.recovery 1 65535=b:=⟨_,rfl⟩
 obtain ⟨bb,hbb⟩:∃ b,inB c.bound c.need 65535=b:=⟨_,rfl⟩
 have HBB:=Lib.hid (And.intro hbr hbb)
 rw [hbr] at HIR
 rw [hbb] at HIB
 clear hbr hbb
 cases b
 ·go_enter Tryz.func10,Tryz.ntmps10
  go_upto_region 1 with fail
  rw [HW1.out,HP.out]
  go_upto_region 2 with (first
   | refine wpList_load_row rfl 32 (.tmp 1) rfl p rfl 32 C (0,0) _ hbd Tryz.underlying32 rfl hin ?_
   | fail)
  (try rw [hfold])
  rw [HW2.out,HFB.out]
  clear hfold hbd
  refine wp_region_held_drew (S:=fun w'=>w'.cell? ⟨p,15,none⟩=some (.int .i64 c.recovery)∧w'.cell? ⟨p,16,none⟩=some (.int .i64 c.bound)) (by kernel_rfl) (HC.out _ (by repeat (first | assumption | exact Later.refl _ | refine Later.drew ?_ | refine Later.drewN ?_ _ | refine Later.alloc ?_ _ | refine Later.trans ?_ (by assumption)))) (fun hHeld=>?_)
  refine tkT (i:=0) (v:=?_) ?_ hHeld ?_
  rotate_left
  ·intro w hSw;(try dsimp only at hSw);go_simp;(try with_reducible rfl)
  (try simp only [p0,p1,p2,p3,p4,p5,p6])
  refine wpAnyH_ready (rs:=[1]) (by kernel_rfl) (by simp) ?_
  refine AllReadyH.cons rfl (fun K hK=>?_) AllReadyH.nil
  go_simp
  refine (HFI.out _ (by repeat (first | assumption | exact Later.refl _ | refine Later.drew ?_ | refine Later.drewN ?_ _ | refine Later.alloc ?_ _ | refine Later.trans ?_ (by assumption)))).mono ?_;rintro e w3 ⟨rfl,hl3,hn3⟩
  refine hK.out _ _ ?_ (fun hHeld=>?_)
  ·exact HC.out _ (by repeat (first | assumption | exact Later.refl _ | refine Later.drew ?_ | refine Later.drewN ?_ _ | refine Later.alloc ?_ _ | refine Later.trans ?_ (by assumption)))
  clear hK K
  (try simp only [p0,p1,p2,p3,p4,p5,p6])
  refine tkT (i:=2) (v:=?_) ?_ hHeld ?_
  rotate_left
  ·intro w hSw;(try dsimp only at hSw);go_simp;(try with_reducible rfl)
  (try simp only [p0,p1,p2,p3,p4,p5,p6])
  refine tkT (i:=3) (v:=?_) ?_ hHeld ?_
  rotate_left
  ·intro w hSw;(try dsimp only at hSw);go_simp;(try with_reducible rfl)
  (try simp only [p0,p1,p2,p3,p4,p5,p6])
  refine tkU (i:=4) hHeld ?_
  (try simp only [p0,p1,p2,p3,p4,p5,p6])
  refine tkU (i:=5) hHeld ?_
  (try simp only [p0,p1,p2,p3,p4,p5,p6])
  refine tkU (i:=6) hHeld ?_
  (try simp only [p0,p1,p2,p3,p4,p5,p6])
  refine tkU (i:=7) hHeld ?_
  (try simp only [p0,p1,p2,p3,p4,p5,p6])
  refine tkT (i:=8) (v:=?_) ?_ hHeld ?_
  rotate_left
  ·intro w hSw;(try dsimp only at hSw);go_simp;(try with_reducible rfl)
  (try simp only [p0,p1,p2,p3,p4,p5,p6])
  refine tkT (i:=9) (v:=?_) ?_ hHeld ?_
  rotate_left
  ·intro w hSw;(try dsimp only at hSw);go_simp;(try with_reducible rfl)
  (try simp only [p0,p1,p2,p3,p4,p5,p6])
  refine tkU (i:=10) hHeld ?_
  (try simp only [p0,p1,p2,p3,p4,p5,p6])
  refine tkU (i:=11) hHeld ?_
  (try simp only [p0,p1,p2,p3,p4,p5,p6])
  refine tkU (i:=12) hHeld ?_
  (try simp only [p0,p1,p2,p3,p4,p5,p6])
  refine tkU (i:=13) hHeld ?_
  (try simp only [p0,p1,p2,p3,p4,p5,p6])
  refine tkU (i:=14) hHeld ?_
  (try simp only [p0,p1,p2,p3,p4,p5,p6])
  refine tkU (i:=15) hHeld ?_
  (try simp only [p0,p1,p2,p3,p4,p5,p6])
  refine tkT (i:=16) (v:=?_) ?_ hHeld ?_
  rotate_left
  ·intro w hSw;(try dsimp only at hSw);go_simp;(try with_reducible rfl)
  (try simp only [p0,p1,p2,p3,p4,p5,p6])
  refine wpAnyH_done (by kernel_rfl) ?_ _
  go_wp2_with fail
  go_ret
  refine⟨ret_int ?_,hl1.trans hl3⟩
  unfold chkI Cfg.checkB
  rw [HB.out]
  rfl
 ·cases br
  ·go_enter Tryz.func10,Tryz.ntmps10
   go_upto_region 1 with fail
   rw [HW1.out,HP.out]
   go_upto_region 2 with (first
    | refine wpList_load_row rfl 32 (.tmp 1) rfl p rfl 32 C (0,0) _ hbd Tryz.underlying32 rfl hin ?_
    | fail)
   (try rw [hfold])
   rw [HW2.out,HFB.out]
   clear hfold hbd
   refine wp_region_held_drew (S:=fun w'=>w'.cell? ⟨p,15,none⟩=some (.int .i64 c.recovery)∧w'.cell? ⟨p,16,none⟩=some (.int .i64 c.bound)) (by kernel_rfl) (HC.out _ (by repeat (first | assumption | exact Later.refl _ | refine Later.drew ?_ | refine Later.drewN ?_ _ | refine Later.alloc ?_ _ | refine Later.trans ?_ (by assumption)))) (fun hHeld=>?_)
   refine tkT (i:=0) (v:=?_) ?_ hHeld ?_
   rotate_left
   ·intro w hSw;(try dsimp only at hSw);go_simp;(try with_reducible rfl)
   (try simp only [p0,p1,p2,p3,p4,p5,p6])
   refine wpAnyH_ready (rs:=[1]) (by kernel_rfl) (by simp) ?_
   refine AllReadyH.cons rfl (fun K hK=>?_) AllReadyH.nil
   go_simp
   refine (HFI.out _ (by repeat (first | assumption | exact Later.refl _ | refine Later.drew ?_ | refine Later.drewN ?_ _ | refine Later.alloc ?_ _ | refine Later.trans ?_ (by assumption)))).mono ?_;rintro e w3 ⟨rfl,hl3,hn3⟩
   refine hK.out _ _ ?_ (fun hHeld=>?_)
   ·exact HC.out _ (by repeat (first | assumption | exact Later.refl _ | refine Later.drew ?_ | refine Later.drewN ?_ _ | refine Later.alloc ?_ _ | refine Later.trans ?_ (by assumption)))
   clear hK K
   (try simp only [p0,p1,p2,p3,p4,p5,p6])
   refine tkT (i:=2) (v:=?_) ?_ hHeld ?_
   rotate_left
   ·intro w hSw;(try dsimp only at hSw);go_simp;(try with_reducible rfl)
   (try simp only [p0,p1,p2,p3,p4,p5,p6])
   refine tkT (i:=3) (v:=?_) ?_ hHeld ?_
   rotate_left
   ·intro w hSw;(try dsimp only at hSw);go_simp;(try with_reducible rfl)
   (try simp only [p0,p1,p2,p3,p4,p5,p6])
   refine tkT (i:=4) (v:=?_) ?_ hHeld ?_
   rotate_left
   ·intro w hSw;(try dsimp only at hSw);go_simp;(try with_reducible rfl)
   (try simp only [p0,p1,p2,p3,p4,p5,p6])
   refine tkT (i:=5) (v:=?_) ?_ hHeld ?_
   rotate_left
   ·intro w hSw;(try dsimp only at hSw);go_simp;(try with_reducible rfl)
   (try simp only [p0,p1,p2,p3,p4,p5,p6])
   refine wpAnyH_ready (rs:=[6]) (by kernel_rfl) (by simp) ?_
   refine AllReadyH.cons rfl (fun K hK=>?_) AllReadyH.nil
   go_simp
   refine (HIR.out _).mono ?_;rintro e w9 ⟨rfl,hw9⟩;obtain rfl:=hw9.symm
   refine hK.out _ _ ?_ (fun hHeld=>?_)
   ·exact HC.out _ (by repeat (first | assumption | exact Later.refl _ | refine Later.drew ?_ | refine Later.drewN ?_ _ | refine Later.alloc ?_ _ | refine Later.trans ?_ (by assumption)))
   clear hK K
   (try simp only [p0,p1,p2,p3,p4,p5,p6])
   refine tkT (i:=7) (v:=?_) ?_ hHeld ?_
   rotate_left
   ·intro w hSw;(try dsimp only at hSw);go_simp;(try with_reducible rfl)
   (try simp only [p0,p1,p2,p3,p4,p5,p6])
   refine tkT (i:=8) (v:=?_) ?_ hHeld ?_
   rotate_left
   ·intro w hSw;(try dsimp only at hSw);go_simp;(try with_reducible rfl)
   (try simp only [p0,p1,p2,p3,p4,p5,p6])
   refine tkT (i:=9) (v:=?_) ?_ hHeld ?_
   rotate_left
   ·intro w hSw;(try dsimp only at hSw);go_simp;(try with_reducible rfl)
   (try simp only [p0,p1,p2,p3,p4,p5,p6])
   refine tkU (i:=10) hHeld ?_
   (try simp only [p0,p1,p2,p3,p4,p5,p6])
   refine tkU (i:=11) hHeld ?_
   (try simp only [p0,p1,p2,p3,p4,p5,p6])
   refine tkU (i:=12) hHeld ?_
   (try simp only [p0,p1,p2,p3,p4,p5,p6])
   refine tkU (i:=13) hHeld ?_
   (try simp only [p0,p1,p2,p3,p4,p5,p6])
   refine tkU (i:=14) hHeld ?_
   (try simp only [p0,p1,p2,p3,p4,p5,p6])
   refine tkU (i:=15) hHeld ?_
   (try simp only [p0,p1,p2,p3,p4,p5,p6])
   refine tkT (i:=16) (v:=?_) ?_ hHeld ?_
   rotate_left
   ·intro w hSw;(try dsimp only at hSw);go_simp;(try with_reducible rfl)
   (try simp only [p0,p1,p2,p3,p4,p5,p6])
   refine wpAnyH_done (by kernel_rfl) ?_ _
   go_wp2_with fail
   go_ret
   refine⟨ret_int ?_,hl1.trans hl3⟩
   unfold chkI Cfg.checkB
   rw [HB.out,HBB.out.1]
   rfl
  ·cases bb
   ·go_enter Tryz.func10,Tryz.ntmps10
    go_upto_region 1 with fail
    rw [HW1.out,HP.out]
    go_upto_region 2 with (first
     | refine wpList_load_row rfl 32 (.tmp 1) rfl p rfl 32 C (0,0) _ hbd Tryz.underlying32 rfl hin ?_
     | fail)
    (try rw [hfold])
    rw [HW2.out,HFB.out]
    clear hfold hbd
    refine wp_region_held_drew (S:=fun w'=>w'.cell? ⟨p,15,none⟩=some (.int .i64 c.recovery)∧w'.cell? ⟨p,16,none⟩=some (.int .i64 c.bound)) (by kernel_rfl) (HC.out _ (by repeat (first | assumption | exact Later.refl _ | refine Later.drew ?_ | refine Later.drewN ?_ _ | refine Later.alloc ?_ _ | refine Later.trans ?_ (by assumption)))) (fun hHeld=>?_)
    refine tkT (i:=0) (v:=?_) ?_ hHeld ?_
    rotate_left
    ·intro w hSw;(try dsimp only at hSw);go_simp;(try with_reducible rfl)
    (try simp only [p0,p1,p2,p3,p4,p5,p6])
    refine wpAnyH_ready (rs:=[1]) (by kernel_rfl) (by simp) ?_
    refine AllReadyH.cons rfl (fun K hK=>?_) AllReadyH.nil
    go_simp
    refine (HFI.out _ (by repeat (first | assumption | exact Later.refl _ | refine Later.drew ?_ | refine Later.drewN ?_ _ | refine Later.alloc ?_ _ | refine Later.trans ?_ (by assumption)))).mono ?_;rintro e w3 ⟨rfl,hl3,hn3⟩;obtain ⟨lv',hform,-⟩:=FineIn.form (hn3 rfl) HRW.out;have HND:=Lib.hid (fun (w':World) (h:Later w3 w')=>need_any w' fb c vF vP vW vO vV vR vK lv' (hform.later h) (needOK_of HB.out));clear hform hn3
    refine hK.out _ _ ?_ (fun hHeld=>?_)
    ·exact HC.out _ (by repeat (first | assumption | exact Later.refl _ | refine Later.drew ?_ | refine Later.drewN ?_ _ | refine Later.alloc ?_ _ | refine Later.trans ?_ (by assumption)))
    clear hK K
    (try simp only [p0,p1,p2,p3,p4,p5,p6])
    refine tkT (i:=2) (v:=?_) ?_ hHeld ?_
    rotate_left
    ·intro w hSw;(try dsimp only at hSw);go_simp;(try with_reducible rfl)
    (try simp only [p0,p1,p2,p3,p4,p5,p6])
    refine tkT (i:=3) (v:=?_) ?_ hHeld ?_
    rotate_left
    ·intro w hSw;(try dsimp only at hSw);go_simp;(try with_reducible rfl)
    (try simp only [p0,p1,p2,p3,p4,p5,p6])
    refine tkT (i:=4) (v:=?_) ?_ hHeld ?_
    rotate_left
    ·intro w hSw;(try dsimp only at hSw);go_simp;(try with_reducible rfl)
    (try simp only [p0,p1,p2,p3,p4,p5,p6])
    refine tkT (i:=5) (v:=?_) ?_ hHeld ?_
    rotate_left
    ·intro w hSw;(try dsimp only at hSw);go_simp;(try with_reducible rfl)
    (try simp only [p0,p1,p2,p3,p4,p5,p6])
    refine wpAnyH_ready (rs:=[6]) (by kernel_rfl) (by simp) ?_
    refine AllReadyH.cons rfl (fun K hK=>?_) AllReadyH.nil
    go_simp
    refine (HIR.out _).mono ?_;rintro e w9 ⟨rfl,hw9⟩;obtain rfl:=hw9.symm
    refine hK.out _ _ ?_ (fun hHeld=>?_)
    ·exact HC.out _ (by repeat (first | assumption | exact Later.refl _ | refine Later.drew ?_ | refine Later.drewN ?_ _ | refine Later.alloc ?_ _ | refine Later.trans ?_ (by assumption)))
    clear hK K
    (try simp only [p0,p1,p2,p3,p4,p5,p6])
    refine tkT (i:=7) (v:=?_) ?_ hHeld ?_
    rotate_left
    ·intro w hSw;(try dsimp only at hSw);go_simp;(try with_reducible rfl)
    (try simp only [p0,p1,p2,p3,p4,p5,p6])
    refine tkT (i:=8) (v:=?_) ?_ hHeld ?_
    rotate_left
    ·intro w hSw;(try dsimp only at hSw);go_simp;(try with_reducible rfl)
    (try simp only [p0,p1,p2,p3,p4,p5,p6])
    refine tkT (i:=9) (v:=?_) ?_ hHeld ?_
    rotate_left
    ·intro w hSw;(try dsimp only at hSw);go_simp;(try with_reducible rfl)
    (try simp only [p0,p1,p2,p3,p4,p5,p6])
    refine tkT (i:=10) (v:=?_) ?_ hHeld ?_
    rotate_left
    ·intro w hSw;(try dsimp only at hSw);go_simp;(try with_reducible rfl)
    (try simp only [p0,p1,p2,p3,p4,p5,p6])
    refine tkT (i:=11) (v:=?_) ?_ hHeld ?_
    rotate_left
    ·intro w hSw;(try dsimp only at hSw);go_simp;(try with_reducible rfl)
    (try simp only [p0,p1,p2,p3,p4,p5,p6])
    refine tkT (i:=12) (v:=?_) ?_ hHeld ?_
    rotate_left
    ·intro w hSw;(try dsimp only at hSw);go_simp;(try with_reducible rfl)
    (try simp only [p0,p1,p2,p3,p4,p5,p6])
    refine wpAnyH_ready (rs:=[13]) (by kernel_rfl) (by simp) ?_
    refine AllReadyH.cons rfl (fun K hK=>?_) AllReadyH.nil
    go_simp
    refine (HND.out _ (by repeat (first | assumption | exact Later.refl _ | refine Later.drew ?_ | refine Later.drewN ?_ _ | refine Later.alloc ?_ _ | refine Later.trans ?_ (by assumption)))).mono ?_;rintro e w4 ⟨rfl,hl4⟩
    refine hK.out _ _ ?_ (fun hHeld=>?_)
    ·exact HC.out _ (by repeat (first | assumption | exact Later.refl _ | refine Later.drew ?_ | refine Later.drewN ?_ _ | refine Later.alloc ?_ _ | refine Later.trans ?_ (by assumption)))
    clear hK K
    (try simp only [p0,p1,p2,p3,p4,p5,p6])
    refine wpAnyH_ready (rs:=[14]) (by kernel_rfl) (by simp) ?_
    refine AllReadyH.cons rfl (fun K hK=>?_) AllReadyH.nil
    go_simp
    refine (HIB.out _).mono ?_;rintro e w8 ⟨rfl,hw8⟩;obtain rfl:=hw8.symm
    refine hK.out _ _ ?_ (fun hHeld=>?_)
    ·exact HC.out _ (by repeat (first | assumption | exact Later.refl _ | refine Later.drew ?_ | refine Later.drewN ?_ _ | refine Later.alloc ?_ _ | refine Later.trans ?_ (by assumption)))
    clear hK K
    (try simp only [p0,p1,p2,p3,p4,p5,p6])
    refine tkT (i:=15) (v:=?_) ?_ hHeld ?_
    rotate_left
    ·intro w hSw;(try dsimp only at hSw);go_simp;(try with_reducible rfl)
    (try simp only [p0,p1,p2,p3,p4,p5,p6])
    refine tkT (i:=16) (v:=?_) ?_ hHeld ?_
    rotate_left
    ·intro w hSw;(try dsimp only at hSw);go_simp;(try with_reducible rfl)
    (try simp only [p0,p1,p2,p3,p4,p5,p6])
    refine wpAnyH_done (by kernel_rfl) ?_ _
    go_wp2_with fail
    go_ret
    refine⟨ret_int ?_,(hl1.trans hl3).trans hl4⟩
    unfold chkI Cfg.checkB
    rw [HB.out,HBB.out.1,HBB.out.2]
    rfl
   ·go_enter Tryz.func10,Tryz.ntmps10
    go_upto_region 1 with fail
    rw [HW1.out,HP.out]
    go_upto_region 2 with (first
     | refine wpList_load_row rfl 32 (.tmp 1) rfl p rfl 32 C (0,0) _ hbd Tryz.underlying32 rfl hin ?_
     | fail)
    (try rw [hfold])
    rw [HW2.out,HFB.out]
    clear hfold hbd
    refine wp_region_held_drew (S:=fun w'=>w'.cell? ⟨p,15,none⟩=some (.int .i64 c.recovery)∧w'.cell? ⟨p,16,none⟩=some (.int .i64 c.bound)) (by kernel_rfl) (HC.out _ (by repeat (first | assumption | exact Later.refl _ | refine Later.drew ?_ | refine Later.drewN ?_ _ | refine Later.alloc ?_ _ | refine Later.trans ?_ (by assumption)))) (fun hHeld=>?_)
    refine tkT (i:=0) (v:=?_) ?_ hHeld ?_
    rotate_left
    ·intro w hSw;(try dsimp only at hSw);go_simp;(try with_reducible rfl)
    (try simp only [p0,p1,p2,p3,p4,p5,p6])
    refine wpAnyH_ready (rs:=[1]) (by kernel_rfl) (by simp) ?_
    refine AllReadyH.cons rfl (fun K hK=>?_) AllReadyH.nil
    go_simp
    refine (HFI.out _ (by repeat (first | assumption | exact Later.refl _ | refine Later.drew ?_ | refine Later.drewN ?_ _ | refine Later.alloc ?_ _ | refine Later.trans ?_ (by assumption)))).mono ?_;rintro e w3 ⟨rfl,hl3,hn3⟩;obtain ⟨lv',hform,-⟩:=FineIn.form (hn3 rfl) HRW.out;have HND:=Lib.hid (fun (w':World) (h:Later w3 w')=>need_any w' fb c vF vP vW vO vV vR vK lv' (hform.later h) (needOK_of HB.out));clear hform hn3
    refine hK.out _ _ ?_ (fun hHeld=>?_)
    ·exact HC.out _ (by repeat (first | assumption | exact Later.refl _ | refine Later.drew ?_ | refine Later.drewN ?_ _ | refine Later.alloc ?_ _ | refine Later.trans ?_ (by assumption)))
    clear hK K
    (try simp only [p0,p1,p2,p3,p4,p5,p6])
    refine tkT (i:=2) (v:=?_) ?_ hHeld ?_
    rotate_left
    ·intro w hSw;(try dsimp only at hSw);go_simp;(try with_reducible rfl)
    (try simp only [p0,p1,p2,p3,p4,p5,p6])
    refine tkT (i:=3) (v:=?_) ?_ hHeld ?_
    rotate_left
    ·intro w hSw;(try dsimp only at hSw);go_simp;(try with_reducible rfl)
    (try simp only [p0,p1,p2,p3,p4,p5,p6])
    refine tkT (i:=4) (v:=?_) ?_ hHeld ?_
    rotate_left
    ·intro w hSw;(try dsimp only at hSw);go_simp;(try with_reducible rfl)
    (try simp only [p0,p1,p2,p3,p4,p5,p6])
    refine tkT (i:=5) (v:=?_) ?_ hHeld ?_
    rotate_left
    ·intro w hSw;(try dsimp only at hSw);go_simp;(try with_reducible rfl)
    (try simp only [p0,p1,p2,p3,p4,p5,p6])
    refine wpAnyH_ready (rs:=[6]) (by kernel_rfl) (by simp) ?_
    refine AllReadyH.cons rfl (fun K hK=>?_) AllReadyH.nil
    go_simp
    refine (HIR.out _).mono ?_;rintro e w9 ⟨rfl,hw9⟩;obtain rfl:=hw9.symm
    refine hK.out _ _ ?_ (fun hHeld=>?_)
    ·exact HC.out _ (by repeat (first | assumption | exact Later.refl _ | refine Later.drew ?_ | refine Later.drewN ?_ _ | refine Later.alloc ?_ _ | refine Later.trans ?_ (by assumption)))
    clear hK K
    (try simp only [p0,p1,p2,p3,p4,p5,p6])
    refine tkT (i:=7) (v:=?_) ?_ hHeld ?_
    rotate_left
    ·intro w hSw;(try dsimp only at hSw);go_simp;(try with_reducible rfl)
    (try simp only [p0,p1,p2,p3,p4,p5,p6])
    refine tkT (i:=8) (v:=?_) ?_ hHeld ?_
    rotate_left
    ·intro w hSw;(try dsimp only at hSw);go_simp;(try with_reducible rfl)
    (try simp only [p0,p1,p2,p3,p4,p5,p6])
    refine tkT (i:=9) (v:=?_) ?_ hHeld ?_
    rotate_left
    ·intro w hSw;(try dsimp only at hSw);go_simp;(try with_reducible rfl)
    (try simp only [p0,p1,p2,p3,p4,p5,p6])
    refine tkT (i:=10) (v:=?_) ?_ hHeld ?_
    rotate_left
    ·intro w hSw;(try dsimp only at hSw);go_simp;(try with_reducible rfl)
    (try simp only [p0,p1,p2,p3,p4,p5,p6])
    refine tkT (i:=11) (v:=?_) ?_ hHeld ?_
    rotate_left
    ·intro w hSw;(try dsimp only at hSw);go_simp;(try with_reducible rfl)
    (try simp only [p0,p1,p2,p3,p4,p5,p6])
    refine tkT (i:=12) (v:=?_) ?_ hHeld ?_
    rotate_left
    ·intro w hSw;(try dsimp only at hSw);go_simp;(try with_reducible rfl)
    (try simp only [p0,p1,p2,p3,p4,p5,p6])
    refine wpAnyH_ready (rs:=[13]) (by kernel_rfl) (by simp) ?_
    refine AllReadyH.cons rfl (fun K hK=>?_) AllReadyH.nil
    go_simp
    refine (HND.out _ (by repeat (first | assumption | exact Later.refl _ | refine Later.drew ?_ | refine Later.drewN ?_ _ | refine Later.alloc ?_ _ | refine Later.trans ?_ (by assumption)))).mono ?_;rintro e w4 ⟨rfl,hl4⟩
    refine hK.out _ _ ?_ (fun hHeld=>?_)
    ·exact HC.out _ (by repeat (first | assumption | exact Later.refl _ | refine Later.drew ?_ | refine Later.drewN ?_ _ | refine Later.alloc ?_ _ | refine Later.trans ?_ (by assumption)))
    clear hK K
    (try simp only [p0,p1,p2,p3,p4,p5,p6])
    refine wpAnyH_ready (rs:=[14]) (by kernel_rfl) (by simp) ?_
    refine AllReadyH.cons rfl (fun K hK=>?_) AllReadyH.nil
    go_simp
    refine (HIB.out _).mono ?_;rintro e w8 ⟨rfl,hw8⟩;obtain rfl:=hw8.symm
    refine hK.out _ _ ?_ (fun hHeld=>?_)
    ·exact HC.out _ (by repeat (first | assumption | exact Later.refl _ | refine Later.drew ?_ | refine Later.drewN ?_ _ | refine Later.alloc ?_ _ | refine Later.trans ?_ (by assumption)))
    clear hK K
    (try simp only [p0,p1,p2,p3,p4,p5,p6])
    refine tkT (i:=15) (v:=?_) ?_ hHeld ?_
    rotate_left
    ·intro w hSw;(try dsimp only at hSw);go_simp;(try with_reducible rfl)
    (try simp only [p0,p1,p2,p3,p4,p5,p6])
    refine tkT (i:=16) (v:=?_) ?_ hHeld ?_
    rotate_left
    ·intro w hSw;(try dsimp only at hSw);go_simp;(try with_reducible rfl)
    (try simp only [p0,p1,p2,p3,p4,p5,p6])
    refine wpAnyH_done (by kernel_rfl) ?_ _
    go_wp2_with fail
    go_ret
    refine⟨ret_int ?_,(hl1.trans hl3).trans hl4⟩
    unfold chkI Cfg.checkB
    rw [HB.out,HBB.out.1,HBB.out.2]
    rfl
theorem CfgIn.rows7 {w:World} {cs:List Value} {c:Cfg} (h:CfgIn w cs c):∃ vF vP vW vO vV vR vK:Value,cs=[.int .i64 c.levels,vF,vP,vW,vO,vV,.int .i64 c.audit.level,.int .i64 c.audit.first,.int .i64 c.audit.count,.int .i64 c.audit.journal,.int .i64 c.boot,.int .i64 c.sectors,vR,vK,.string c.login,.int .i64 c.recovery,.int .i64 c.bound]∧Rows7 w c vF vP vW vO vV vR vK:=by
 obtain ⟨vF,vP,vW,vO,vV,vR,vK,h0,h1,h2,h3,h4,h5,h6,h7⟩:=h.rows
 exact⟨vF,vP,vW,vO,vV,vR,vK,h0,⟨h1,h2,h3,h4,h5,h6,h7⟩⟩
end Go.Proofs.YtbchkjfnakabkaaGreatDoor
