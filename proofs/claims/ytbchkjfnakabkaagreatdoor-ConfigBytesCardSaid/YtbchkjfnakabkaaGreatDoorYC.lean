/- The walks of Parse's element readers. (Printed by gen_yc.py.) -/
import Derived.Test.YtbchkjfnakabkaaGreatDoorYB
import Derived.Laws.EntriesVeiled
set_option linter.unusedSimpArgs false
set_option linter.unusedVariables false
namespace Go.Proofs.YtbchkjfnakabkaaGreatDoor
open Go.RowKit PX PC
theorem RIn.setOther {w:World} {rb:Nat} {S:ByteArray} {st:RSt} (h:RIn w rb S st) {g:Nat} (hg:¬ g=rb) (j:Nat) (u:Value):RIn (w.setCell ⟨g,j,none⟩ u) rb S st:=by
 obtain ⟨i,f,h1,h2,h3⟩:=h
 exact⟨i,f,(((Only.refl (IsPb g) w).setCell (p:=⟨g,j,none⟩) (.inl (show IsPb g g from rfl)) u).block rb (lt_of_block h1) (show ¬IsPb g rb from fun e=>hg e.symm)).trans h1,h2,h3⟩
theorem RIn.drewW {w:World} {rb:Nat} {S:ByteArray} {st:RSt} (h:RIn w rb S st):RIn w.drew rb S st:=h
def FnAt (w:World) (b:Nat) (f:FuncId) (rc:Nat):Prop:=w.cell? ⟨b,0,none⟩=some (.func (.func f) #[] #[.pointer (some ⟨rc,0,none⟩)])
theorem info_flow:(Tryz.prog.info? 47).map (·.size)=some 2:=by kernel_rfl
set_option maxRecDepth 100000 in
set_option maxHeartbeats 4000000 in
theorem rd_flow (w:World) (rb rc ob:Nat) (S:ByteArray) (st:RSt) (h:RIn w rb S st) (hS:S.size≤9223372036854775807) (hc:w.cell? ⟨rc,0,none⟩=some (.pointer (some ⟨rb,0,none⟩))) (nrc:rc≠rb) (hob:FnAt w ob 49 rc) (nob:ob≠rb) :
 Calls Tryz.prog 56 #[.pointer (some ⟨ob,0,none⟩)] w (RdPost rb S (.agg (flowC (flowG st).1).toArray) (flowG st).2 w):=by
 show Calls Tryz.prog 56 #[.pointer (some ⟨ob,0,none⟩)] w (RdPost rb S (.agg #[.int .i64 (getN 1 st).1,.int .i64 (getN 1 (getN 1 st).2).1]) (getN 1 (getN 1 st).2).2 w)
 have hlt:=h.lt
 have hcl:=World.block_lt_of_cell? w _ hc
 have lob:ob<w.heap.size:=World.block_lt_of_cell? w _ hob
 have HC:=Lib.hid (fun (w1:World) (h1:OnlyP rb w w1)=>(h1.cell (p:=⟨rc,0,none⟩) hcl nrc).trans hc)
 have HF:=Lib.hid (fun (w':World) (h1:OnlyP rb w w')=>show w'.cell? ⟨ob,0,none⟩=some (.func (.func 49) #[] #[.pointer (some ⟨rc,0,none⟩)]) from (h1.cell (p:=⟨ob,0,none⟩) lob nob).trans hob)
 have Hone:=Lib.hid (fun (w1:World) (s:RSt) (h1:OnlyP rb w w1) (h2:RIn w1 rb S s)=>show Calls Tryz.prog 49 #[.pointer (some ⟨rc,0,none⟩)] w1 (RdPost rb S (.int .i64 (getN 1 s).1) (getN 1 s).2 w1) from rd_one w1 rb rc S s h2 hS (HC.out w1 h1))
 have HH:=Lib.hid h
 clear h hS hc nrc hob nob lob hcl
 go_enter Tryz.func56,Tryz.ntmps56
 go_upto_region 1 with fail
 obtain ⟨w1,hw1⟩:∃ w1,w.alloc (.cells #[.int .i64 0,.int .i64 0] 47)=w1:=⟨_,rfl⟩
 obtain ⟨g,hg⟩:∃ g,w.heap.size=g:=⟨_,rfl⟩
 have hb:w1.heap[g]?=some (.cells #[.int .i64 0,.int .i64 0] 47 (0,0)):=by rw [←hw1,←hg];exact alloc_block w _
 have hl:Later w w1:=by rw [←hw1];exact (Later.refl w).alloc _
 rw [hw1,hg]
 have hr1:=HH.out.later hl
 have hr1d:=RIn.drewW hr1
 have ho1:OnlyP rb w w1:=Only.of_below hl
 have hge:w.heap.size≤g:=by omega
 have hgr:¬ g=rb:=by omega
 have HGB:=Lib.hid (fun (w':World) (h1:OnlyP rb w1 w')=>(h1.block g (lt_of_block hb) (show ¬IsPb rb g from hgr)).trans hb)
 obtain f0:=HF.out w1 ho1
 have hoo:OnlyP rb w1 w1:=Only.refl _ _
 clear hw1 hg hb hl hlt
 go_region_held3 (fun w'=>w'.cell? ⟨ob,0,none⟩=some (.func (.func 49) #[] #[.pointer (some ⟨rc,0,none⟩)]))
  (exact HF.out _ (by repeat (first | assumption | refine Only.drew ?_ | refine Only.setCell ?_ (.inr hge) _ | refine Only.thenP ?_ (by assumption))))
  (first
   | (go_at_call 49;(with_reducible refine (Hone.out _ _ (by repeat (first | assumption | refine Only.drew ?_ | refine Only.setCell ?_ (.inr hge) _ | refine Only.thenP ?_ (by assumption))) (by assumption)).mono ?_);rintro e w2 ⟨rfl,hr,ho⟩;have hrd:=RIn.drewW hr;have hgb:=HGB.out w2 (by repeat (first | assumption | refine Only.drew ?_ | refine Only.setCell ?_ (.inr hge) _ | refine Only.thenP ?_ (by assumption)));have c0:=cell_of_block hgb 0;have z0:=free_of_block hgb 0;have c1:=cell_of_block hgb 1;have z1:=free_of_block hgb 1;have hgl:=lt_of_block hgb;have HGB2:=Lib.hid hgb;clear hgb)
   | fail)
 all_goals
  go_wp2_with fail
  refine bodyPost_ret (results_cell_row rfl _ _ g 47 #[.int .i64 (getN 1 st).1,.int .i64 (getN 1 (getN 1 st).2).1] (0,0) _ rfl ((setCell_block (setCell_block HGB2.out 0 _) 1 _).trans rfl) Tryz.underlying47 rfl info_flow) rfl ⟨rfl,?_,?_⟩
  ·exact (RIn.setOther (RIn.setOther hr hgr 0 _) hgr 1 _)
  ·exact (by repeat (first | assumption | refine Only.drew ?_ | refine Only.setCell ?_ (.inr hge) _ | refine Only.thenP ?_ (by assumption)))
theorem info_part:(Tryz.prog.info? 49).map (·.size)=some 2:=by kernel_rfl
set_option maxRecDepth 100000 in
set_option maxHeartbeats 4000000 in
theorem rd_part (w:World) (rb rc ob:Nat) (S:ByteArray) (st:RSt) (h:RIn w rb S st) (hS:S.size≤9223372036854775807) (hc:w.cell? ⟨rc,0,none⟩=some (.pointer (some ⟨rb,0,none⟩))) (nrc:rc≠rb) (hob:FnAt w ob 49 rc) (nob:ob≠rb) :
 Calls Tryz.prog 58 #[.pointer (some ⟨ob,0,none⟩)] w (RdPost rb S (.agg (partC (partG st).1).toArray) (partG st).2 w):=by
 show Calls Tryz.prog 58 #[.pointer (some ⟨ob,0,none⟩)] w (RdPost rb S (.agg #[.int .i64 (getN 1 st).1,.int .i64 (getN 1 (getN 1 st).2).1]) (getN 1 (getN 1 st).2).2 w)
 have hlt:=h.lt
 have hcl:=World.block_lt_of_cell? w _ hc
 have lob:ob<w.heap.size:=World.block_lt_of_cell? w _ hob
 have HC:=Lib.hid (fun (w1:World) (h1:OnlyP rb w w1)=>(h1.cell (p:=⟨rc,0,none⟩) hcl nrc).trans hc)
 have HF:=Lib.hid (fun (w':World) (h1:OnlyP rb w w')=>show w'.cell? ⟨ob,0,none⟩=some (.func (.func 49) #[] #[.pointer (some ⟨rc,0,none⟩)]) from (h1.cell (p:=⟨ob,0,none⟩) lob nob).trans hob)
 have Hone:=Lib.hid (fun (w1:World) (s:RSt) (h1:OnlyP rb w w1) (h2:RIn w1 rb S s)=>show Calls Tryz.prog 49 #[.pointer (some ⟨rc,0,none⟩)] w1 (RdPost rb S (.int .i64 (getN 1 s).1) (getN 1 s).2 w1) from rd_one w1 rb rc S s h2 hS (HC.out w1 h1))
 have HH:=Lib.hid h
 clear h hS hc nrc hob nob lob hcl
 go_enter Tryz.func58,Tryz.ntmps58
 go_upto_region 1 with fail
 obtain ⟨w1,hw1⟩:∃ w1,w.alloc (.cells #[.int .i64 0,.int .i64 0] 49)=w1:=⟨_,rfl⟩
 obtain ⟨g,hg⟩:∃ g,w.heap.size=g:=⟨_,rfl⟩
 have hb:w1.heap[g]?=some (.cells #[.int .i64 0,.int .i64 0] 49 (0,0)):=by rw [←hw1,←hg];exact alloc_block w _
 have hl:Later w w1:=by rw [←hw1];exact (Later.refl w).alloc _
 rw [hw1,hg]
 have hr1:=HH.out.later hl
 have hr1d:=RIn.drewW hr1
 have ho1:OnlyP rb w w1:=Only.of_below hl
 have hge:w.heap.size≤g:=by omega
 have hgr:¬ g=rb:=by omega
 have HGB:=Lib.hid (fun (w':World) (h1:OnlyP rb w1 w')=>(h1.block g (lt_of_block hb) (show ¬IsPb rb g from hgr)).trans hb)
 obtain f0:=HF.out w1 ho1
 have hoo:OnlyP rb w1 w1:=Only.refl _ _
 clear hw1 hg hb hl hlt
 go_region_held3 (fun w'=>w'.cell? ⟨ob,0,none⟩=some (.func (.func 49) #[] #[.pointer (some ⟨rc,0,none⟩)]))
  (exact HF.out _ (by repeat (first | assumption | refine Only.drew ?_ | refine Only.setCell ?_ (.inr hge) _ | refine Only.thenP ?_ (by assumption))))
  (first
   | (go_at_call 49;(with_reducible refine (Hone.out _ _ (by repeat (first | assumption | refine Only.drew ?_ | refine Only.setCell ?_ (.inr hge) _ | refine Only.thenP ?_ (by assumption))) (by assumption)).mono ?_);rintro e w2 ⟨rfl,hr,ho⟩;have hrd:=RIn.drewW hr;have hgb:=HGB.out w2 (by repeat (first | assumption | refine Only.drew ?_ | refine Only.setCell ?_ (.inr hge) _ | refine Only.thenP ?_ (by assumption)));have c0:=cell_of_block hgb 0;have z0:=free_of_block hgb 0;have c1:=cell_of_block hgb 1;have z1:=free_of_block hgb 1;have hgl:=lt_of_block hgb;have HGB2:=Lib.hid hgb;clear hgb)
   | fail)
 all_goals
  go_wp2_with fail
  refine bodyPost_ret (results_cell_row rfl _ _ g 49 #[.int .i64 (getN 1 st).1,.int .i64 (getN 1 (getN 1 st).2).1] (0,0) _ rfl ((setCell_block (setCell_block HGB2.out 0 _) 1 _).trans rfl) Tryz.underlying49 rfl info_part) rfl ⟨rfl,?_,?_⟩
  ·exact (RIn.setOther (RIn.setOther hr hgr 0 _) hgr 1 _)
  ·exact (by repeat (first | assumption | refine Only.drew ?_ | refine Only.setCell ?_ (.inr hge) _ | refine Only.thenP ?_ (by assumption)))
theorem info_win:(Tryz.prog.info? 55).map (·.size)=some 3:=by kernel_rfl
set_option maxRecDepth 100000 in
set_option maxHeartbeats 4000000 in
theorem rd_win (w:World) (rb rc ob:Nat) (S:ByteArray) (st:RSt) (h:RIn w rb S st) (hS:S.size≤9223372036854775807) (hc:w.cell? ⟨rc,0,none⟩=some (.pointer (some ⟨rb,0,none⟩))) (nrc:rc≠rb) (hob:FnAt w ob 49 rc) (nob:ob≠rb) :
 Calls Tryz.prog 60 #[.pointer (some ⟨ob,0,none⟩)] w (RdPost rb S (.agg (winC (winG st).1).toArray) (winG st).2 w):=by
 show Calls Tryz.prog 60 #[.pointer (some ⟨ob,0,none⟩)] w (RdPost rb S (.agg #[.int .i64 (getN 1 st).1,.int .i64 (getN 1 (getN 1 st).2).1,.int .i64 (getN 1 (getN 1 (getN 1 st).2).2).1]) (getN 1 (getN 1 (getN 1 st).2).2).2 w)
 have hlt:=h.lt
 have hcl:=World.block_lt_of_cell? w _ hc
 have lob:ob<w.heap.size:=World.block_lt_of_cell? w _ hob
 have HC:=Lib.hid (fun (w1:World) (h1:OnlyP rb w w1)=>(h1.cell (p:=⟨rc,0,none⟩) hcl nrc).trans hc)
 have HF:=Lib.hid (fun (w':World) (h1:OnlyP rb w w')=>show w'.cell? ⟨ob,0,none⟩=some (.func (.func 49) #[] #[.pointer (some ⟨rc,0,none⟩)]) from (h1.cell (p:=⟨ob,0,none⟩) lob nob).trans hob)
 have Hone:=Lib.hid (fun (w1:World) (s:RSt) (h1:OnlyP rb w w1) (h2:RIn w1 rb S s)=>show Calls Tryz.prog 49 #[.pointer (some ⟨rc,0,none⟩)] w1 (RdPost rb S (.int .i64 (getN 1 s).1) (getN 1 s).2 w1) from rd_one w1 rb rc S s h2 hS (HC.out w1 h1))
 have HH:=Lib.hid h
 clear h hS hc nrc hob nob lob hcl
 go_enter Tryz.func60,Tryz.ntmps60
 go_upto_region 1 with fail
 obtain ⟨w1,hw1⟩:∃ w1,w.alloc (.cells #[.int .i64 0,.int .i64 0,.int .i64 0] 55)=w1:=⟨_,rfl⟩
 obtain ⟨g,hg⟩:∃ g,w.heap.size=g:=⟨_,rfl⟩
 have hb:w1.heap[g]?=some (.cells #[.int .i64 0,.int .i64 0,.int .i64 0] 55 (0,0)):=by rw [←hw1,←hg];exact alloc_block w _
 have hl:Later w w1:=by rw [←hw1];exact (Later.refl w).alloc _
 rw [hw1,hg]
 have hr1:=HH.out.later hl
 have hr1d:=RIn.drewW hr1
 have ho1:OnlyP rb w w1:=Only.of_below hl
 have hge:w.heap.size≤g:=by omega
 have hgr:¬ g=rb:=by omega
 have HGB:=Lib.hid (fun (w':World) (h1:OnlyP rb w1 w')=>(h1.block g (lt_of_block hb) (show ¬IsPb rb g from hgr)).trans hb)
 obtain f0:=HF.out w1 ho1
 have hoo:OnlyP rb w1 w1:=Only.refl _ _
 clear hw1 hg hb hl hlt
 go_region_held3 (fun w'=>w'.cell? ⟨ob,0,none⟩=some (.func (.func 49) #[] #[.pointer (some ⟨rc,0,none⟩)]))
  (exact HF.out _ (by repeat (first | assumption | refine Only.drew ?_ | refine Only.setCell ?_ (.inr hge) _ | refine Only.thenP ?_ (by assumption))))
  (first
   | (go_at_call 49;(with_reducible refine (Hone.out _ _ (by repeat (first | assumption | refine Only.drew ?_ | refine Only.setCell ?_ (.inr hge) _ | refine Only.thenP ?_ (by assumption))) (by assumption)).mono ?_);rintro e w2 ⟨rfl,hr,ho⟩;have hrd:=RIn.drewW hr;have hgb:=HGB.out w2 (by repeat (first | assumption | refine Only.drew ?_ | refine Only.setCell ?_ (.inr hge) _ | refine Only.thenP ?_ (by assumption)));have c0:=cell_of_block hgb 0;have z0:=free_of_block hgb 0;have c1:=cell_of_block hgb 1;have z1:=free_of_block hgb 1;have c2:=cell_of_block hgb 2;have z2:=free_of_block hgb 2;have hgl:=lt_of_block hgb;have HGB2:=Lib.hid hgb;clear hgb)
   | fail)
 all_goals
  go_wp2_with fail
  refine bodyPost_ret (results_cell_row rfl _ _ g 55 #[.int .i64 (getN 1 st).1,.int .i64 (getN 1 (getN 1 st).2).1,.int .i64 (getN 1 (getN 1 (getN 1 st).2).2).1] (0,0) _ rfl ((setCell_block (setCell_block (setCell_block HGB2.out 0 _) 1 _) 2 _).trans rfl) Tryz.underlying55 rfl info_win) rfl ⟨rfl,?_,?_⟩
  ·exact (RIn.setOther (RIn.setOther (RIn.setOther hr hgr 0 _) hgr 1 _) hgr 2 _)
  ·exact (by repeat (first | assumption | refine Only.drew ?_ | refine Only.setCell ?_ (.inr hge) _ | refine Only.thenP ?_ (by assumption)))
theorem info_por:(Tryz.prog.info? 51).map (·.size)=some 5:=by kernel_rfl
set_option maxRecDepth 100000 in
set_option maxHeartbeats 4000000 in
theorem rd_por (w:World) (rb rc ob:Nat) (S:ByteArray) (st:RSt) (h:RIn w rb S st) (hS:S.size≤9223372036854775807) (hc:w.cell? ⟨rc,0,none⟩=some (.pointer (some ⟨rb,0,none⟩))) (nrc:rc≠rb) (hob:FnAt w ob 49 rc) (nob:ob≠rb) :
 Calls Tryz.prog 62 #[.pointer (some ⟨ob,0,none⟩)] w (RdPost rb S (.agg (porC (porG st).1).toArray) (porG st).2 w):=by
 show Calls Tryz.prog 62 #[.pointer (some ⟨ob,0,none⟩)] w (RdPost rb S (.agg #[.int .i64 (getN 1 st).1,.int .i64 (getN 1 (getN 1 st).2).1,.int .i64 (getN 1 (getN 1 (getN 1 st).2).2).1,.int .i64 (getN 1 (getN 1 (getN 1 (getN 1 st).2).2).2).1,.int .i64 (getN 1 (getN 1 (getN 1 (getN 1 (getN 1 st).2).2).2).2).1]) (getN 1 (getN 1 (getN 1 (getN 1 (getN 1 st).2).2).2).2).2 w)
 have hlt:=h.lt
 have hcl:=World.block_lt_of_cell? w _ hc
 have lob:ob<w.heap.size:=World.block_lt_of_cell? w _ hob
 have HC:=Lib.hid (fun (w1:World) (h1:OnlyP rb w w1)=>(h1.cell (p:=⟨rc,0,none⟩) hcl nrc).trans hc)
 have HF:=Lib.hid (fun (w':World) (h1:OnlyP rb w w')=>show w'.cell? ⟨ob,0,none⟩=some (.func (.func 49) #[] #[.pointer (some ⟨rc,0,none⟩)]) from (h1.cell (p:=⟨ob,0,none⟩) lob nob).trans hob)
 have Hone:=Lib.hid (fun (w1:World) (s:RSt) (h1:OnlyP rb w w1) (h2:RIn w1 rb S s)=>show Calls Tryz.prog 49 #[.pointer (some ⟨rc,0,none⟩)] w1 (RdPost rb S (.int .i64 (getN 1 s).1) (getN 1 s).2 w1) from rd_one w1 rb rc S s h2 hS (HC.out w1 h1))
 have HH:=Lib.hid h
 clear h hS hc nrc hob nob lob hcl
 go_enter Tryz.func62,Tryz.ntmps62
 go_upto_region 1 with fail
 obtain ⟨w1,hw1⟩:∃ w1,w.alloc (.cells #[.int .i64 0,.int .i64 0,.int .i64 0,.int .i64 0,.int .i64 0] 51)=w1:=⟨_,rfl⟩
 obtain ⟨g,hg⟩:∃ g,w.heap.size=g:=⟨_,rfl⟩
 have hb:w1.heap[g]?=some (.cells #[.int .i64 0,.int .i64 0,.int .i64 0,.int .i64 0,.int .i64 0] 51 (0,0)):=by rw [←hw1,←hg];exact alloc_block w _
 have hl:Later w w1:=by rw [←hw1];exact (Later.refl w).alloc _
 rw [hw1,hg]
 have hr1:=HH.out.later hl
 have hr1d:=RIn.drewW hr1
 have ho1:OnlyP rb w w1:=Only.of_below hl
 have hge:w.heap.size≤g:=by omega
 have hgr:¬ g=rb:=by omega
 have HGB:=Lib.hid (fun (w':World) (h1:OnlyP rb w1 w')=>(h1.block g (lt_of_block hb) (show ¬IsPb rb g from hgr)).trans hb)
 obtain f0:=HF.out w1 ho1
 have hoo:OnlyP rb w1 w1:=Only.refl _ _
 clear hw1 hg hb hl hlt
 go_region_held3 (fun w'=>w'.cell? ⟨ob,0,none⟩=some (.func (.func 49) #[] #[.pointer (some ⟨rc,0,none⟩)]))
  (exact HF.out _ (by repeat (first | assumption | refine Only.drew ?_ | refine Only.setCell ?_ (.inr hge) _ | refine Only.thenP ?_ (by assumption))))
  (first
   | (go_at_call 49;(with_reducible refine (Hone.out _ _ (by repeat (first | assumption | refine Only.drew ?_ | refine Only.setCell ?_ (.inr hge) _ | refine Only.thenP ?_ (by assumption))) (by assumption)).mono ?_);rintro e w2 ⟨rfl,hr,ho⟩;have hrd:=RIn.drewW hr;have hgb:=HGB.out w2 (by repeat (first | assumption | refine Only.drew ?_ | refine Only.setCell ?_ (.inr hge) _ | refine Only.thenP ?_ (by assumption)));have c0:=cell_of_block hgb 0;have z0:=free_of_block hgb 0;have c1:=cell_of_block hgb 1;have z1:=free_of_block hgb 1;have c2:=cell_of_block hgb 2;have z2:=free_of_block hgb 2;have c3:=cell_of_block hgb 3;have z3:=free_of_block hgb 3;have c4:=cell_of_block hgb 4;have z4:=free_of_block hgb 4;have hgl:=lt_of_block hgb;have HGB2:=Lib.hid hgb;clear hgb)
   | fail)
 all_goals
  go_wp2_with fail
  refine bodyPost_ret (results_cell_row rfl _ _ g 51 #[.int .i64 (getN 1 st).1,.int .i64 (getN 1 (getN 1 st).2).1,.int .i64 (getN 1 (getN 1 (getN 1 st).2).2).1,.int .i64 (getN 1 (getN 1 (getN 1 (getN 1 st).2).2).2).1,.int .i64 (getN 1 (getN 1 (getN 1 (getN 1 (getN 1 st).2).2).2).2).1] (0,0) _ rfl ((setCell_block (setCell_block (setCell_block (setCell_block (setCell_block HGB2.out 0 _) 1 _) 2 _) 3 _) 4 _).trans rfl) Tryz.underlying51 rfl info_por) rfl ⟨rfl,?_,?_⟩
  ·exact (RIn.setOther (RIn.setOther (RIn.setOther (RIn.setOther (RIn.setOther hr hgr 0 _) hgr 1 _) hgr 2 _) hgr 3 _) hgr 4 _)
  ·exact (by repeat (first | assumption | refine Only.drew ?_ | refine Only.setCell ?_ (.inr hge) _ | refine Only.thenP ?_ (by assumption)))
theorem info_vol:(Tryz.prog.info? 28).map (·.size)=some 4:=by kernel_rfl
set_option maxRecDepth 100000 in
set_option maxHeartbeats 4000000 in
theorem rd_vol (w:World) (rb rc ob tb:Nat) (S:ByteArray) (st:RSt) (h:RIn w rb S st) (hS:S.size≤9223372036854775807) (hc:w.cell? ⟨rc,0,none⟩=some (.pointer (some ⟨rb,0,none⟩))) (nrc:rc≠rb) (hob:FnAt w ob 49 rc) (nob:ob≠rb) (htb:FnAt w tb 51 rc) (ntb:tb≠rb) :
 Calls Tryz.prog 64 #[.pointer (some ⟨ob,0,none⟩),.pointer (some ⟨tb,0,none⟩)] w (RdPost rb S (.agg (volC (volG st).1).toArray) (volG st).2 w):=by
 show Calls Tryz.prog 64 #[.pointer (some ⟨ob,0,none⟩),.pointer (some ⟨tb,0,none⟩)] w (RdPost rb S (.agg #[.int .i64 (getN 1 st).1,.int .i64 (getN 2 (getN 1 st).2).1,.int .i64 (getN 2 (getN 2 (getN 1 st).2).2).1,.int .i64 (getN 2 (getN 2 (getN 2 (getN 1 st).2).2).2).1]) (getN 2 (getN 2 (getN 2 (getN 1 st).2).2).2).2 w)
 have hlt:=h.lt
 have hcl:=World.block_lt_of_cell? w _ hc
 have lob:ob<w.heap.size:=World.block_lt_of_cell? w _ hob
 have ltb:tb<w.heap.size:=World.block_lt_of_cell? w _ htb
 have HC:=Lib.hid (fun (w1:World) (h1:OnlyP rb w w1)=>(h1.cell (p:=⟨rc,0,none⟩) hcl nrc).trans hc)
 have HF:=Lib.hid (fun (w':World) (h1:OnlyP rb w w')=>show w'.cell? ⟨ob,0,none⟩=some (.func (.func 49) #[] #[.pointer (some ⟨rc,0,none⟩)])∧w'.cell? ⟨tb,0,none⟩=some (.func (.func 51) #[] #[.pointer (some ⟨rc,0,none⟩)]) from ⟨(h1.cell (p:=⟨ob,0,none⟩) lob nob).trans hob,(h1.cell (p:=⟨tb,0,none⟩) ltb ntb).trans htb⟩)
 have Hone:=Lib.hid (fun (w1:World) (s:RSt) (h1:OnlyP rb w w1) (h2:RIn w1 rb S s)=>show Calls Tryz.prog 49 #[.pointer (some ⟨rc,0,none⟩)] w1 (RdPost rb S (.int .i64 (getN 1 s).1) (getN 1 s).2 w1) from rd_one w1 rb rc S s h2 hS (HC.out w1 h1))
 have Htwo:=Lib.hid (fun (w1:World) (s:RSt) (h1:OnlyP rb w w1) (h2:RIn w1 rb S s)=>show Calls Tryz.prog 51 #[.pointer (some ⟨rc,0,none⟩)] w1 (RdPost rb S (.int .i64 (getN 2 s).1) (getN 2 s).2 w1) from rd_two w1 rb rc S s h2 hS (HC.out w1 h1))
 have HH:=Lib.hid h
 clear h hS hc nrc hob nob lob htb ntb ltb hcl
 go_enter Tryz.func64,Tryz.ntmps64
 go_upto_region 1 with fail
 obtain ⟨w1,hw1⟩:∃ w1,w.alloc (.cells #[.int .i64 0,.int .i64 0,.int .i64 0,.int .i64 0] 28)=w1:=⟨_,rfl⟩
 obtain ⟨g,hg⟩:∃ g,w.heap.size=g:=⟨_,rfl⟩
 have hb:w1.heap[g]?=some (.cells #[.int .i64 0,.int .i64 0,.int .i64 0,.int .i64 0] 28 (0,0)):=by rw [←hw1,←hg];exact alloc_block w _
 have hl:Later w w1:=by rw [←hw1];exact (Later.refl w).alloc _
 rw [hw1,hg]
 have hr1:=HH.out.later hl
 have hr1d:=RIn.drewW hr1
 have ho1:OnlyP rb w w1:=Only.of_below hl
 have hge:w.heap.size≤g:=by omega
 have hgr:¬ g=rb:=by omega
 have HGB:=Lib.hid (fun (w':World) (h1:OnlyP rb w1 w')=>(h1.block g (lt_of_block hb) (show ¬IsPb rb g from hgr)).trans hb)
 obtain ⟨f0,f1⟩:=HF.out w1 ho1
 have hoo:OnlyP rb w1 w1:=Only.refl _ _
 clear hw1 hg hb hl hlt
 go_region_held3 (fun w'=>w'.cell? ⟨ob,0,none⟩=some (.func (.func 49) #[] #[.pointer (some ⟨rc,0,none⟩)])∧w'.cell? ⟨tb,0,none⟩=some (.func (.func 51) #[] #[.pointer (some ⟨rc,0,none⟩)]))
  (exact HF.out _ (by repeat (first | assumption | refine Only.drew ?_ | refine Only.setCell ?_ (.inr hge) _ | refine Only.thenP ?_ (by assumption))))
  (first
   | (go_at_call 49;(with_reducible refine (Hone.out _ _ (by repeat (first | assumption | refine Only.drew ?_ | refine Only.setCell ?_ (.inr hge) _ | refine Only.thenP ?_ (by assumption))) (by assumption)).mono ?_);rintro e w2 ⟨rfl,hr,ho⟩;have hrd:=RIn.drewW hr;have hgb:=HGB.out w2 (by repeat (first | assumption | refine Only.drew ?_ | refine Only.setCell ?_ (.inr hge) _ | refine Only.thenP ?_ (by assumption)));have c0:=cell_of_block hgb 0;have z0:=free_of_block hgb 0;have c1:=cell_of_block hgb 1;have z1:=free_of_block hgb 1;have c2:=cell_of_block hgb 2;have z2:=free_of_block hgb 2;have c3:=cell_of_block hgb 3;have z3:=free_of_block hgb 3;have hgl:=lt_of_block hgb;have HGB2:=Lib.hid hgb;clear hgb)
   | (go_at_call 51;(with_reducible refine (Htwo.out _ _ (by repeat (first | assumption | refine Only.drew ?_ | refine Only.setCell ?_ (.inr hge) _ | refine Only.thenP ?_ (by assumption))) (by assumption)).mono ?_);rintro e w2 ⟨rfl,hr,ho⟩;have hrd:=RIn.drewW hr;have hgb:=HGB.out w2 (by repeat (first | assumption | refine Only.drew ?_ | refine Only.setCell ?_ (.inr hge) _ | refine Only.thenP ?_ (by assumption)));have c0:=cell_of_block hgb 0;have z0:=free_of_block hgb 0;have c1:=cell_of_block hgb 1;have z1:=free_of_block hgb 1;have c2:=cell_of_block hgb 2;have z2:=free_of_block hgb 2;have c3:=cell_of_block hgb 3;have z3:=free_of_block hgb 3;have hgl:=lt_of_block hgb;have HGB2:=Lib.hid hgb;clear hgb)
   | fail)
 all_goals
  go_wp2_with fail
  refine bodyPost_ret (results_cell_row rfl _ _ g 28 #[.int .i64 (getN 1 st).1,.int .i64 (getN 2 (getN 1 st).2).1,.int .i64 (getN 2 (getN 2 (getN 1 st).2).2).1,.int .i64 (getN 2 (getN 2 (getN 2 (getN 1 st).2).2).2).1] (0,0) _ rfl ((setCell_block (setCell_block (setCell_block (setCell_block HGB2.out 0 _) 1 _) 2 _) 3 _).trans rfl) Tryz.underlying28 rfl info_vol) rfl ⟨rfl,?_,?_⟩
  ·exact (RIn.setOther (RIn.setOther (RIn.setOther (RIn.setOther hr hgr 0 _) hgr 1 _) hgr 2 _) hgr 3 _)
  ·exact (by repeat (first | assumption | refine Only.drew ?_ | refine Only.setCell ?_ (.inr hge) _ | refine Only.thenP ?_ (by assumption)))
theorem info_ru:(Tryz.prog.info? 53).map (·.size)=some 5:=by kernel_rfl
set_option maxRecDepth 100000 in
set_option maxHeartbeats 4000000 in
theorem rd_ru (w:World) (rb rc ob xb:Nat) (S:ByteArray) (st:RSt) (h:RIn w rb S st) (hS:S.size≤9223372036854775807) (hc:w.cell? ⟨rc,0,none⟩=some (.pointer (some ⟨rb,0,none⟩))) (nrc:rc≠rb) (hob:FnAt w ob 49 rc) (nob:ob≠rb) (hxb:FnAt w xb 52 rc) (nxb:xb≠rb) :
 Calls Tryz.prog 66 #[.pointer (some ⟨ob,0,none⟩),.pointer (some ⟨xb,0,none⟩)] w (RdPost rb S (.agg (ruC (ruG st).1).toArray) (ruG st).2 w):=by
 show Calls Tryz.prog 66 #[.pointer (some ⟨ob,0,none⟩),.pointer (some ⟨xb,0,none⟩)] w (RdPost rb S (.agg #[.int .i64 (getN 1 st).1,.int .i64 (getN 1 (getN 1 st).2).1,.int .i64 (getN 1 (getN 1 (getN 1 st).2).2).1,.string (getT (getN 1 (getN 1 (getN 1 st).2).2).2).1,.string (getT (getT (getN 1 (getN 1 (getN 1 st).2).2).2).2).1]) (getT (getT (getN 1 (getN 1 (getN 1 st).2).2).2).2).2 w)
 have hlt:=h.lt
 have hcl:=World.block_lt_of_cell? w _ hc
 have lob:ob<w.heap.size:=World.block_lt_of_cell? w _ hob
 have lxb:xb<w.heap.size:=World.block_lt_of_cell? w _ hxb
 have HC:=Lib.hid (fun (w1:World) (h1:OnlyP rb w w1)=>(h1.cell (p:=⟨rc,0,none⟩) hcl nrc).trans hc)
 have HF:=Lib.hid (fun (w':World) (h1:OnlyP rb w w')=>show w'.cell? ⟨ob,0,none⟩=some (.func (.func 49) #[] #[.pointer (some ⟨rc,0,none⟩)])∧w'.cell? ⟨xb,0,none⟩=some (.func (.func 52) #[] #[.pointer (some ⟨rc,0,none⟩)]) from ⟨(h1.cell (p:=⟨ob,0,none⟩) lob nob).trans hob,(h1.cell (p:=⟨xb,0,none⟩) lxb nxb).trans hxb⟩)
 have Hone:=Lib.hid (fun (w1:World) (s:RSt) (h1:OnlyP rb w w1) (h2:RIn w1 rb S s)=>show Calls Tryz.prog 49 #[.pointer (some ⟨rc,0,none⟩)] w1 (RdPost rb S (.int .i64 (getN 1 s).1) (getN 1 s).2 w1) from rd_one w1 rb rc S s h2 hS (HC.out w1 h1))
 have Htxt:=Lib.hid (fun (w1:World) (s:RSt) (h1:OnlyP rb w w1) (h2:RIn w1 rb S s)=>show Calls Tryz.prog 52 #[.pointer (some ⟨rc,0,none⟩)] w1 (RdPost rb S (.string (getT s).1) (getT s).2 w1) from rd_txt w1 rb rc S s h2 hS (HC.out w1 h1))
 have HH:=Lib.hid h
 clear h hS hc nrc hob nob lob hxb nxb lxb hcl
 go_enter Tryz.func66,Tryz.ntmps66
 go_upto_region 1 with fail
 obtain ⟨w1,hw1⟩:∃ w1,w.alloc (.cells #[.int .i64 0,.int .i64 0,.int .i64 0,.string ⟨#[]⟩,.string ⟨#[]⟩] 53)=w1:=⟨_,rfl⟩
 obtain ⟨g,hg⟩:∃ g,w.heap.size=g:=⟨_,rfl⟩
 have hb:w1.heap[g]?=some (.cells #[.int .i64 0,.int .i64 0,.int .i64 0,.string ⟨#[]⟩,.string ⟨#[]⟩] 53 (0,0)):=by rw [←hw1,←hg];exact alloc_block w _
 have hl:Later w w1:=by rw [←hw1];exact (Later.refl w).alloc _
 rw [hw1,hg]
 have hr1:=HH.out.later hl
 have hr1d:=RIn.drewW hr1
 have ho1:OnlyP rb w w1:=Only.of_below hl
 have hge:w.heap.size≤g:=by omega
 have hgr:¬ g=rb:=by omega
 have HGB:=Lib.hid (fun (w':World) (h1:OnlyP rb w1 w')=>(h1.block g (lt_of_block hb) (show ¬IsPb rb g from hgr)).trans hb)
 obtain ⟨f0,f1⟩:=HF.out w1 ho1
 have hoo:OnlyP rb w1 w1:=Only.refl _ _
 clear hw1 hg hb hl hlt
 go_region_held3 (fun w'=>w'.cell? ⟨ob,0,none⟩=some (.func (.func 49) #[] #[.pointer (some ⟨rc,0,none⟩)])∧w'.cell? ⟨xb,0,none⟩=some (.func (.func 52) #[] #[.pointer (some ⟨rc,0,none⟩)]))
  (exact HF.out _ (by repeat (first | assumption | refine Only.drew ?_ | refine Only.setCell ?_ (.inr hge) _ | refine Only.thenP ?_ (by assumption))))
  (first
   | (go_at_call 49;(with_reducible refine (Hone.out _ _ (by repeat (first | assumption | refine Only.drew ?_ | refine Only.setCell ?_ (.inr hge) _ | refine Only.thenP ?_ (by assumption))) (by assumption)).mono ?_);rintro e w2 ⟨rfl,hr,ho⟩;have hrd:=RIn.drewW hr;have hgb:=HGB.out w2 (by repeat (first | assumption | refine Only.drew ?_ | refine Only.setCell ?_ (.inr hge) _ | refine Only.thenP ?_ (by assumption)));have c0:=cell_of_block hgb 0;have z0:=free_of_block hgb 0;have c1:=cell_of_block hgb 1;have z1:=free_of_block hgb 1;have c2:=cell_of_block hgb 2;have z2:=free_of_block hgb 2;have c3:=cell_of_block hgb 3;have z3:=free_of_block hgb 3;have c4:=cell_of_block hgb 4;have z4:=free_of_block hgb 4;have hgl:=lt_of_block hgb;have HGB2:=Lib.hid hgb;clear hgb)
   | (go_at_call 52;(with_reducible refine (Htxt.out _ _ (by repeat (first | assumption | refine Only.drew ?_ | refine Only.setCell ?_ (.inr hge) _ | refine Only.thenP ?_ (by assumption))) (by assumption)).mono ?_);rintro e w2 ⟨rfl,hr,ho⟩;have hrd:=RIn.drewW hr;have hgb:=HGB.out w2 (by repeat (first | assumption | refine Only.drew ?_ | refine Only.setCell ?_ (.inr hge) _ | refine Only.thenP ?_ (by assumption)));have c0:=cell_of_block hgb 0;have z0:=free_of_block hgb 0;have c1:=cell_of_block hgb 1;have z1:=free_of_block hgb 1;have c2:=cell_of_block hgb 2;have z2:=free_of_block hgb 2;have c3:=cell_of_block hgb 3;have z3:=free_of_block hgb 3;have c4:=cell_of_block hgb 4;have z4:=free_of_block hgb 4;have hgl:=lt_of_block hgb;have HGB2:=Lib.hid hgb;clear hgb)
   | fail)
 all_goals
  go_wp2_with fail
  refine bodyPost_ret (results_cell_row rfl _ _ g 53 #[.int .i64 (getN 1 st).1,.int .i64 (getN 1 (getN 1 st).2).1,.int .i64 (getN 1 (getN 1 (getN 1 st).2).2).1,.string (getT (getN 1 (getN 1 (getN 1 st).2).2).2).1,.string (getT (getT (getN 1 (getN 1 (getN 1 st).2).2).2).2).1] (0,0) _ rfl ((setCell_block (setCell_block (setCell_block (setCell_block (setCell_block HGB2.out 0 _) 1 _) 2 _) 3 _) 4 _).trans rfl) Tryz.underlying53 rfl info_ru) rfl ⟨rfl,?_,?_⟩
  ·exact (RIn.setOther (RIn.setOther (RIn.setOther (RIn.setOther (RIn.setOther hr hgr 0 _) hgr 1 _) hgr 2 _) hgr 3 _) hgr 4 _)
  ·exact (by repeat (first | assumption | refine Only.drew ?_ | refine Only.setCell ?_ (.inr hge) _ | refine Only.thenP ?_ (by assumption)))
end Go.Proofs.YtbchkjfnakabkaaGreatDoor
