import Derived.Test.YtbchkjfnakabkaaGreatDoorYAB
import Derived.Laws.EntriesVeiled
set_option linter.unusedSimpArgs false
set_option linter.unusedVariables false
set_option maxHeartbeats 4000000
set_option maxRecDepth 100000
namespace Go.Proofs.YtbchkjfnakabkaaGreatDoor
open Go.RowKit PX PC
theorem RIn.setOther{w:World}{rb:Nat}{S:ByteArray}{st:RSt}(h:RIn w rb S st){g:Nat}(hg:¬ g=rb)(j:Nat)(u:Value):RIn (w.setCell ⟨g,j,none⟩ u) rb S st:=by
 obtain⟨i,f,h1,h2,h3⟩:=h;exact⟨i,f,(((Only.refl (IsPb g) w).setCell (p:=⟨g,j,none⟩) (.inl (show IsPb g g from rfl)) u).block rb (Za h1) (show ¬IsPb g rb from fun e=>hg e.symm)).trans h1,h2,h3⟩
theorem RIn.drewW{w:World}{rb:Nat}{S:ByteArray}{st:RSt}(h:RIn w rb S st):RIn w.drew rb S st:=h
def FnAt(w:World)(b:Nat)(f:FuncId)(rc:Nat):Prop:=w.cell? ⟨b,0,none⟩=some (.func (.func f) #[] #[.pointer (some ⟨rc,0,none⟩)])
theorem Zdx:(Tryz.prog.info? 47).map (·.size)=some 2:=by kernel_rfl
theorem ZgA(w:World)(rb rc ob:Nat)(S:ByteArray)(st:RSt)(h:RIn w rb S st)(hS:S.size≤9223372036854775807)(hc:w.cell? ⟨rc,0,none⟩=some (.pointer (some ⟨rb,0,none⟩)))(nrc:rc≠rb)(hob:FnAt w ob 49 rc)(nob:ob≠rb) :
 Calls Tryz.prog 56 #[.pointer (some ⟨ob,0,none⟩)] w (ZY rb S (.agg (Yl (YD st).1).toArray) (YD st).2 w):=by
 show Calls Tryz.prog 56 #[.pointer (some ⟨ob,0,none⟩)] w (ZY rb S (.agg #[.int .i64 (getN 1 st).1,.int .i64 (getN 1 (getN 1 st).2).1]) (getN 1 (getN 1 st).2).2 w);have hlt:=h.lt;have hcl:=World.block_lt_of_cell? w _ hc;have lob:ob<w.heap.size:=World.block_lt_of_cell? w _ hob;have HC:=Hd (fun(w1:World) (h1:Zo rb w w1)=>(h1.cell (p:=⟨rc,0,none⟩) hcl nrc).trans hc);have HF:=Hd (fun(w':World) (h1:Zo rb w w')=>show w'.cell? ⟨ob,0,none⟩=some (.func (.func 49) #[] #[.pointer (some ⟨rc,0,none⟩)]) from(h1.cell (p:=⟨ob,0,none⟩) lob nob).trans hob);have Hone:=Hd (fun(w1:World) (s:RSt) (h1:Zo rb w w1) (h2:RIn w1 rb S s)=>show Calls Tryz.prog 49 #[.pointer (some ⟨rc,0,none⟩)] w1 (ZY rb S (.int .i64 (getN 1 s).1) (getN 1 s).2 w1) from EM w1 rb rc S s h2 hS (HC.out w1 h1));have HH:=Hd h;clear h hS hc nrc hob nob lob hcl
 go_enter Tryz.func56,Tryz.ntmps56
 go_upto_region 1 with fail
 obtain⟨w1,hw1⟩:∃ w1,w.alloc (.cells #[.int .i64 0,.int .i64 0] 47)=w1:=⟨_,rfl⟩
 obtain⟨g,hg⟩:∃ g,w.heap.size=g:=⟨_,rfl⟩
 have hb:w1.heap[g]?=some (.cells #[.int .i64 0,.int .i64 0] 47 (0,0)):=by rw[←hw1,←hg];exact Ze w _
 have hl:Later w w1:=by rw[←hw1];exact(Later.refl w).alloc _
 rw[hw1,hg];have hr1:=HH.out.later hl;have hr1d:=RIn.drewW hr1;have ho1:Zo rb w w1:=Only.of_below hl;have hge:w.heap.size≤g:=by omega
 have hgr:¬ g=rb:=by omega
 have HGB:=Hd (fun(w':World) (h1:Zo rb w1 w')=>(h1.block g (Za hb) (show ¬IsPb rb g from hgr)).trans hb);obtain f0:=HF.out w1 ho1;have hoo:Zo rb w1 w1:=Only.refl _ _;clear hw1 hg hb hl hlt
 go_region_held3 (fun w'=>w'.cell? ⟨ob,0,none⟩=some (.func (.func 49) #[] #[.pointer (some ⟨rc,0,none⟩)]))
  (exact HF.out _ (by repeat(first|assumption|refine Only.drew ?_|refine Only.setCell ?_ (.inr hge) _|refine Only.thenP ?_ (by assumption))))
  (first
   |(go_at_call 49;(with_reducible refine(Hone.out _ _ (by repeat(first|assumption|refine Only.drew ?_|refine Only.setCell ?_ (.inr hge) _|refine Only.thenP ?_ (by assumption))) (by assumption)).mono ?_);rintro e w2 ⟨rfl,hr,ho⟩;have hrd:=RIn.drewW hr;have hgb:=HGB.out w2 (by repeat(first|assumption|refine Only.drew ?_|refine Only.setCell ?_ (.inr hge) _|refine Only.thenP ?_ (by assumption)));have c0:=Zb hgb 0;have z0:=Zc hgb 0;have c1:=Zb hgb 1;have z1:=Zc hgb 1;have hgl:=Za hgb;have HGB2:=Hd hgb;clear hgb)
   |fail)
 all_goals
  go_wp2_with fail
  refine bodyPost_ret (results_cell_row rfl _ _ g 47 #[.int .i64 (getN 1 st).1,.int .i64 (getN 1 (getN 1 st).2).1] (0,0) _ rfl ((Zf (Zf HGB2.out 0 _) 1 _).trans rfl) Tryz.underlying47 rfl Zdx) rfl ⟨rfl,?_,?_⟩
  ·exact(RIn.setOther (RIn.setOther hr hgr 0 _) hgr 1 _)
  ·exact(by repeat(first|assumption|refine Only.drew ?_|refine Only.setCell ?_ (.inr hge) _|refine Only.thenP ?_ (by assumption)))
theorem Zdv:(Tryz.prog.info? 49).map (·.size)=some 2:=by kernel_rfl
theorem Zgz(w:World)(rb rc ob:Nat)(S:ByteArray)(st:RSt)(h:RIn w rb S st)(hS:S.size≤9223372036854775807)(hc:w.cell? ⟨rc,0,none⟩=some (.pointer (some ⟨rb,0,none⟩)))(nrc:rc≠rb)(hob:FnAt w ob 49 rc)(nob:ob≠rb) :
 Calls Tryz.prog 58 #[.pointer (some ⟨ob,0,none⟩)] w (ZY rb S (.agg (X9 (YC st).1).toArray) (YC st).2 w):=by
 show Calls Tryz.prog 58 #[.pointer (some ⟨ob,0,none⟩)] w (ZY rb S (.agg #[.int .i64 (getN 1 st).1,.int .i64 (getN 1 (getN 1 st).2).1]) (getN 1 (getN 1 st).2).2 w);have hlt:=h.lt;have hcl:=World.block_lt_of_cell? w _ hc;have lob:ob<w.heap.size:=World.block_lt_of_cell? w _ hob;have HC:=Hd (fun(w1:World) (h1:Zo rb w w1)=>(h1.cell (p:=⟨rc,0,none⟩) hcl nrc).trans hc);have HF:=Hd (fun(w':World) (h1:Zo rb w w')=>show w'.cell? ⟨ob,0,none⟩=some (.func (.func 49) #[] #[.pointer (some ⟨rc,0,none⟩)]) from(h1.cell (p:=⟨ob,0,none⟩) lob nob).trans hob);have Hone:=Hd (fun(w1:World) (s:RSt) (h1:Zo rb w w1) (h2:RIn w1 rb S s)=>show Calls Tryz.prog 49 #[.pointer (some ⟨rc,0,none⟩)] w1 (ZY rb S (.int .i64 (getN 1 s).1) (getN 1 s).2 w1) from EM w1 rb rc S s h2 hS (HC.out w1 h1));have HH:=Hd h;clear h hS hc nrc hob nob lob hcl
 go_enter Tryz.func58,Tryz.ntmps58
 go_upto_region 1 with fail
 obtain⟨w1,hw1⟩:∃ w1,w.alloc (.cells #[.int .i64 0,.int .i64 0] 49)=w1:=⟨_,rfl⟩
 obtain⟨g,hg⟩:∃ g,w.heap.size=g:=⟨_,rfl⟩
 have hb:w1.heap[g]?=some (.cells #[.int .i64 0,.int .i64 0] 49 (0,0)):=by rw[←hw1,←hg];exact Ze w _
 have hl:Later w w1:=by rw[←hw1];exact(Later.refl w).alloc _
 rw[hw1,hg];have hr1:=HH.out.later hl;have hr1d:=RIn.drewW hr1;have ho1:Zo rb w w1:=Only.of_below hl;have hge:w.heap.size≤g:=by omega
 have hgr:¬ g=rb:=by omega
 have HGB:=Hd (fun(w':World) (h1:Zo rb w1 w')=>(h1.block g (Za hb) (show ¬IsPb rb g from hgr)).trans hb);obtain f0:=HF.out w1 ho1;have hoo:Zo rb w1 w1:=Only.refl _ _;clear hw1 hg hb hl hlt
 go_region_held3 (fun w'=>w'.cell? ⟨ob,0,none⟩=some (.func (.func 49) #[] #[.pointer (some ⟨rc,0,none⟩)]))
  (exact HF.out _ (by repeat(first|assumption|refine Only.drew ?_|refine Only.setCell ?_ (.inr hge) _|refine Only.thenP ?_ (by assumption))))
  (first
   |(go_at_call 49;(with_reducible refine(Hone.out _ _ (by repeat(first|assumption|refine Only.drew ?_|refine Only.setCell ?_ (.inr hge) _|refine Only.thenP ?_ (by assumption))) (by assumption)).mono ?_);rintro e w2 ⟨rfl,hr,ho⟩;have hrd:=RIn.drewW hr;have hgb:=HGB.out w2 (by repeat(first|assumption|refine Only.drew ?_|refine Only.setCell ?_ (.inr hge) _|refine Only.thenP ?_ (by assumption)));have c0:=Zb hgb 0;have z0:=Zc hgb 0;have c1:=Zb hgb 1;have z1:=Zc hgb 1;have hgl:=Za hgb;have HGB2:=Hd hgb;clear hgb)
   |fail)
 all_goals
  go_wp2_with fail
  refine bodyPost_ret (results_cell_row rfl _ _ g 49 #[.int .i64 (getN 1 st).1,.int .i64 (getN 1 (getN 1 st).2).1] (0,0) _ rfl ((Zf (Zf HGB2.out 0 _) 1 _).trans rfl) Tryz.underlying49 rfl Zdv) rfl ⟨rfl,?_,?_⟩
  ·exact(RIn.setOther (RIn.setOther hr hgr 0 _) hgr 1 _)
  ·exact(by repeat(first|assumption|refine Only.drew ?_|refine Only.setCell ?_ (.inr hge) _|refine Only.thenP ?_ (by assumption)))
theorem Zfd:(Tryz.prog.info? 55).map (·.size)=some 3:=by kernel_rfl
theorem ZhO(w:World)(rb rc ob:Nat)(S:ByteArray)(st:RSt)(h:RIn w rb S st)(hS:S.size≤9223372036854775807)(hc:w.cell? ⟨rc,0,none⟩=some (.pointer (some ⟨rb,0,none⟩)))(nrc:rc≠rb)(hob:FnAt w ob 49 rc)(nob:ob≠rb) :
 Calls Tryz.prog 60 #[.pointer (some ⟨ob,0,none⟩)] w (ZY rb S (.agg (winC (winG st).1).toArray) (winG st).2 w):=by
 show Calls Tryz.prog 60 #[.pointer (some ⟨ob,0,none⟩)] w (ZY rb S (.agg #[.int .i64 (getN 1 st).1,.int .i64 (getN 1 (getN 1 st).2).1,.int .i64 (getN 1 (getN 1 (getN 1 st).2).2).1]) (getN 1 (getN 1 (getN 1 st).2).2).2 w);have hlt:=h.lt;have hcl:=World.block_lt_of_cell? w _ hc;have lob:ob<w.heap.size:=World.block_lt_of_cell? w _ hob;have HC:=Hd (fun(w1:World) (h1:Zo rb w w1)=>(h1.cell (p:=⟨rc,0,none⟩) hcl nrc).trans hc);have HF:=Hd (fun(w':World) (h1:Zo rb w w')=>show w'.cell? ⟨ob,0,none⟩=some (.func (.func 49) #[] #[.pointer (some ⟨rc,0,none⟩)]) from(h1.cell (p:=⟨ob,0,none⟩) lob nob).trans hob);have Hone:=Hd (fun(w1:World) (s:RSt) (h1:Zo rb w w1) (h2:RIn w1 rb S s)=>show Calls Tryz.prog 49 #[.pointer (some ⟨rc,0,none⟩)] w1 (ZY rb S (.int .i64 (getN 1 s).1) (getN 1 s).2 w1) from EM w1 rb rc S s h2 hS (HC.out w1 h1));have HH:=Hd h;clear h hS hc nrc hob nob lob hcl
 go_enter Tryz.func60,Tryz.ntmps60
 go_upto_region 1 with fail
 obtain⟨w1,hw1⟩:∃ w1,w.alloc (.cells #[.int .i64 0,.int .i64 0,.int .i64 0] 55)=w1:=⟨_,rfl⟩
 obtain⟨g,hg⟩:∃ g,w.heap.size=g:=⟨_,rfl⟩
 have hb:w1.heap[g]?=some (.cells #[.int .i64 0,.int .i64 0,.int .i64 0] 55 (0,0)):=by rw[←hw1,←hg];exact Ze w _
 have hl:Later w w1:=by rw[←hw1];exact(Later.refl w).alloc _
 rw[hw1,hg];have hr1:=HH.out.later hl;have hr1d:=RIn.drewW hr1;have ho1:Zo rb w w1:=Only.of_below hl;have hge:w.heap.size≤g:=by omega
 have hgr:¬ g=rb:=by omega
 have HGB:=Hd (fun(w':World) (h1:Zo rb w1 w')=>(h1.block g (Za hb) (show ¬IsPb rb g from hgr)).trans hb);obtain f0:=HF.out w1 ho1;have hoo:Zo rb w1 w1:=Only.refl _ _;clear hw1 hg hb hl hlt
 go_region_held3 (fun w'=>w'.cell? ⟨ob,0,none⟩=some (.func (.func 49) #[] #[.pointer (some ⟨rc,0,none⟩)]))
  (exact HF.out _ (by repeat(first|assumption|refine Only.drew ?_|refine Only.setCell ?_ (.inr hge) _|refine Only.thenP ?_ (by assumption))))
  (first
   |(go_at_call 49;(with_reducible refine(Hone.out _ _ (by repeat(first|assumption|refine Only.drew ?_|refine Only.setCell ?_ (.inr hge) _|refine Only.thenP ?_ (by assumption))) (by assumption)).mono ?_);rintro e w2 ⟨rfl,hr,ho⟩;have hrd:=RIn.drewW hr;have hgb:=HGB.out w2 (by repeat(first|assumption|refine Only.drew ?_|refine Only.setCell ?_ (.inr hge) _|refine Only.thenP ?_ (by assumption)));have c0:=Zb hgb 0;have z0:=Zc hgb 0;have c1:=Zb hgb 1;have z1:=Zc hgb 1;have c2:=Zb hgb 2;have z2:=Zc hgb 2;have hgl:=Za hgb;have HGB2:=Hd hgb;clear hgb)
   |fail)
 all_goals
  go_wp2_with fail
  refine bodyPost_ret (results_cell_row rfl _ _ g 55 #[.int .i64 (getN 1 st).1,.int .i64 (getN 1 (getN 1 st).2).1,.int .i64 (getN 1 (getN 1 (getN 1 st).2).2).1] (0,0) _ rfl ((Zf (Zf (Zf HGB2.out 0 _) 1 _) 2 _).trans rfl) Tryz.underlying55 rfl Zfd) rfl ⟨rfl,?_,?_⟩
  ·exact(RIn.setOther (RIn.setOther (RIn.setOther hr hgr 0 _) hgr 1 _) hgr 2 _)
  ·exact(by repeat(first|assumption|refine Only.drew ?_|refine Only.setCell ?_ (.inr hge) _|refine Only.thenP ?_ (by assumption)))
theorem Zfg:(Tryz.prog.info? 51).map (·.size)=some 5:=by kernel_rfl
theorem ZhQ(w:World)(rb rc ob:Nat)(S:ByteArray)(st:RSt)(h:RIn w rb S st)(hS:S.size≤9223372036854775807)(hc:w.cell? ⟨rc,0,none⟩=some (.pointer (some ⟨rb,0,none⟩)))(nrc:rc≠rb)(hob:FnAt w ob 49 rc)(nob:ob≠rb) :
 Calls Tryz.prog 62 #[.pointer (some ⟨ob,0,none⟩)] w (ZY rb S (.agg (porC (porG st).1).toArray) (porG st).2 w):=by
 show Calls Tryz.prog 62 #[.pointer (some ⟨ob,0,none⟩)] w (ZY rb S (.agg #[.int .i64 (getN 1 st).1,.int .i64 (getN 1 (getN 1 st).2).1,.int .i64 (getN 1 (getN 1 (getN 1 st).2).2).1,.int .i64 (getN 1 (getN 1 (getN 1 (getN 1 st).2).2).2).1,.int .i64 (getN 1 (getN 1 (getN 1 (getN 1 (getN 1 st).2).2).2).2).1]) (getN 1 (getN 1 (getN 1 (getN 1 (getN 1 st).2).2).2).2).2 w);have hlt:=h.lt;have hcl:=World.block_lt_of_cell? w _ hc;have lob:ob<w.heap.size:=World.block_lt_of_cell? w _ hob;have HC:=Hd (fun(w1:World) (h1:Zo rb w w1)=>(h1.cell (p:=⟨rc,0,none⟩) hcl nrc).trans hc);have HF:=Hd (fun(w':World) (h1:Zo rb w w')=>show w'.cell? ⟨ob,0,none⟩=some (.func (.func 49) #[] #[.pointer (some ⟨rc,0,none⟩)]) from(h1.cell (p:=⟨ob,0,none⟩) lob nob).trans hob);have Hone:=Hd (fun(w1:World) (s:RSt) (h1:Zo rb w w1) (h2:RIn w1 rb S s)=>show Calls Tryz.prog 49 #[.pointer (some ⟨rc,0,none⟩)] w1 (ZY rb S (.int .i64 (getN 1 s).1) (getN 1 s).2 w1) from EM w1 rb rc S s h2 hS (HC.out w1 h1));have HH:=Hd h;clear h hS hc nrc hob nob lob hcl
 go_enter Tryz.func62,Tryz.ntmps62
 go_upto_region 1 with fail
 obtain⟨w1,hw1⟩:∃ w1,w.alloc (.cells #[.int .i64 0,.int .i64 0,.int .i64 0,.int .i64 0,.int .i64 0] 51)=w1:=⟨_,rfl⟩
 obtain⟨g,hg⟩:∃ g,w.heap.size=g:=⟨_,rfl⟩
 have hb:w1.heap[g]?=some (.cells #[.int .i64 0,.int .i64 0,.int .i64 0,.int .i64 0,.int .i64 0] 51 (0,0)):=by rw[←hw1,←hg];exact Ze w _
 have hl:Later w w1:=by rw[←hw1];exact(Later.refl w).alloc _
 rw[hw1,hg];have hr1:=HH.out.later hl;have hr1d:=RIn.drewW hr1;have ho1:Zo rb w w1:=Only.of_below hl;have hge:w.heap.size≤g:=by omega
 have hgr:¬ g=rb:=by omega
 have HGB:=Hd (fun(w':World) (h1:Zo rb w1 w')=>(h1.block g (Za hb) (show ¬IsPb rb g from hgr)).trans hb);obtain f0:=HF.out w1 ho1;have hoo:Zo rb w1 w1:=Only.refl _ _;clear hw1 hg hb hl hlt
 go_region_held3 (fun w'=>w'.cell? ⟨ob,0,none⟩=some (.func (.func 49) #[] #[.pointer (some ⟨rc,0,none⟩)]))
  (exact HF.out _ (by repeat(first|assumption|refine Only.drew ?_|refine Only.setCell ?_ (.inr hge) _|refine Only.thenP ?_ (by assumption))))
  (first
   |(go_at_call 49;(with_reducible refine(Hone.out _ _ (by repeat(first|assumption|refine Only.drew ?_|refine Only.setCell ?_ (.inr hge) _|refine Only.thenP ?_ (by assumption))) (by assumption)).mono ?_);rintro e w2 ⟨rfl,hr,ho⟩;have hrd:=RIn.drewW hr;have hgb:=HGB.out w2 (by repeat(first|assumption|refine Only.drew ?_|refine Only.setCell ?_ (.inr hge) _|refine Only.thenP ?_ (by assumption)));have c0:=Zb hgb 0;have z0:=Zc hgb 0;have c1:=Zb hgb 1;have z1:=Zc hgb 1;have c2:=Zb hgb 2;have z2:=Zc hgb 2;have c3:=Zb hgb 3;have z3:=Zc hgb 3;have c4:=Zb hgb 4;have z4:=Zc hgb 4;have hgl:=Za hgb;have HGB2:=Hd hgb;clear hgb)
   |fail)
 all_goals
  go_wp2_with fail
  refine bodyPost_ret (results_cell_row rfl _ _ g 51 #[.int .i64 (getN 1 st).1,.int .i64 (getN 1 (getN 1 st).2).1,.int .i64 (getN 1 (getN 1 (getN 1 st).2).2).1,.int .i64 (getN 1 (getN 1 (getN 1 (getN 1 st).2).2).2).1,.int .i64 (getN 1 (getN 1 (getN 1 (getN 1 (getN 1 st).2).2).2).2).1] (0,0) _ rfl ((Zf (Zf (Zf (Zf (Zf HGB2.out 0 _) 1 _) 2 _) 3 _) 4 _).trans rfl) Tryz.underlying51 rfl Zfg) rfl ⟨rfl,?_,?_⟩
  ·exact(RIn.setOther (RIn.setOther (RIn.setOther (RIn.setOther (RIn.setOther hr hgr 0 _) hgr 1 _) hgr 2 _) hgr 3 _) hgr 4 _)
  ·exact(by repeat(first|assumption|refine Only.drew ?_|refine Only.setCell ?_ (.inr hge) _|refine Only.thenP ?_ (by assumption)))
theorem Zfe:(Tryz.prog.info? 28).map (·.size)=some 4:=by kernel_rfl
theorem ZhP(w:World)(rb rc ob tb:Nat)(S:ByteArray)(st:RSt)(h:RIn w rb S st)(hS:S.size≤9223372036854775807)(hc:w.cell? ⟨rc,0,none⟩=some (.pointer (some ⟨rb,0,none⟩)))(nrc:rc≠rb)(hob:FnAt w ob 49 rc)(nob:ob≠rb)(htb:FnAt w tb 51 rc)(ntb:tb≠rb) :
 Calls Tryz.prog 64 #[.pointer (some ⟨ob,0,none⟩),.pointer (some ⟨tb,0,none⟩)] w (ZY rb S (.agg (volC (volG st).1).toArray) (volG st).2 w):=by
 show Calls Tryz.prog 64 #[.pointer (some ⟨ob,0,none⟩),.pointer (some ⟨tb,0,none⟩)] w (ZY rb S (.agg #[.int .i64 (getN 1 st).1,.int .i64 (getN 2 (getN 1 st).2).1,.int .i64 (getN 2 (getN 2 (getN 1 st).2).2).1,.int .i64 (getN 2 (getN 2 (getN 2 (getN 1 st).2).2).2).1]) (getN 2 (getN 2 (getN 2 (getN 1 st).2).2).2).2 w);have hlt:=h.lt;have hcl:=World.block_lt_of_cell? w _ hc;have lob:ob<w.heap.size:=World.block_lt_of_cell? w _ hob;have ltb:tb<w.heap.size:=World.block_lt_of_cell? w _ htb;have HC:=Hd (fun(w1:World) (h1:Zo rb w w1)=>(h1.cell (p:=⟨rc,0,none⟩) hcl nrc).trans hc);have HF:=Hd (fun(w':World) (h1:Zo rb w w')=>show w'.cell? ⟨ob,0,none⟩=some (.func (.func 49) #[] #[.pointer (some ⟨rc,0,none⟩)])∧w'.cell? ⟨tb,0,none⟩=some (.func (.func 51) #[] #[.pointer (some ⟨rc,0,none⟩)]) from⟨(h1.cell (p:=⟨ob,0,none⟩) lob nob).trans hob,(h1.cell (p:=⟨tb,0,none⟩) ltb ntb).trans htb⟩);have Hone:=Hd (fun(w1:World) (s:RSt) (h1:Zo rb w w1) (h2:RIn w1 rb S s)=>show Calls Tryz.prog 49 #[.pointer (some ⟨rc,0,none⟩)] w1 (ZY rb S (.int .i64 (getN 1 s).1) (getN 1 s).2 w1) from EM w1 rb rc S s h2 hS (HC.out w1 h1));have Htwo:=Hd (fun(w1:World) (s:RSt) (h1:Zo rb w w1) (h2:RIn w1 rb S s)=>show Calls Tryz.prog 51 #[.pointer (some ⟨rc,0,none⟩)] w1 (ZY rb S (.int .i64 (getN 2 s).1) (getN 2 s).2 w1) from By w1 rb rc S s h2 hS (HC.out w1 h1));have HH:=Hd h;clear h hS hc nrc hob nob lob htb ntb ltb hcl
 go_enter Tryz.func64,Tryz.ntmps64
 go_upto_region 1 with fail
 obtain⟨w1,hw1⟩:∃ w1,w.alloc (.cells #[.int .i64 0,.int .i64 0,.int .i64 0,.int .i64 0] 28)=w1:=⟨_,rfl⟩
 obtain⟨g,hg⟩:∃ g,w.heap.size=g:=⟨_,rfl⟩
 have hb:w1.heap[g]?=some (.cells #[.int .i64 0,.int .i64 0,.int .i64 0,.int .i64 0] 28 (0,0)):=by rw[←hw1,←hg];exact Ze w _
 have hl:Later w w1:=by rw[←hw1];exact(Later.refl w).alloc _
 rw[hw1,hg];have hr1:=HH.out.later hl;have hr1d:=RIn.drewW hr1;have ho1:Zo rb w w1:=Only.of_below hl;have hge:w.heap.size≤g:=by omega
 have hgr:¬ g=rb:=by omega
 have HGB:=Hd (fun(w':World) (h1:Zo rb w1 w')=>(h1.block g (Za hb) (show ¬IsPb rb g from hgr)).trans hb);obtain⟨f0,f1⟩:=HF.out w1 ho1;have hoo:Zo rb w1 w1:=Only.refl _ _;clear hw1 hg hb hl hlt
 go_region_held3 (fun w'=>w'.cell? ⟨ob,0,none⟩=some (.func (.func 49) #[] #[.pointer (some ⟨rc,0,none⟩)])∧w'.cell? ⟨tb,0,none⟩=some (.func (.func 51) #[] #[.pointer (some ⟨rc,0,none⟩)]))
  (exact HF.out _ (by repeat(first|assumption|refine Only.drew ?_|refine Only.setCell ?_ (.inr hge) _|refine Only.thenP ?_ (by assumption))))
  (first
   |(go_at_call 49;(with_reducible refine(Hone.out _ _ (by repeat(first|assumption|refine Only.drew ?_|refine Only.setCell ?_ (.inr hge) _|refine Only.thenP ?_ (by assumption))) (by assumption)).mono ?_);rintro e w2 ⟨rfl,hr,ho⟩;have hrd:=RIn.drewW hr;have hgb:=HGB.out w2 (by repeat(first|assumption|refine Only.drew ?_|refine Only.setCell ?_ (.inr hge) _|refine Only.thenP ?_ (by assumption)));have c0:=Zb hgb 0;have z0:=Zc hgb 0;have c1:=Zb hgb 1;have z1:=Zc hgb 1;have c2:=Zb hgb 2;have z2:=Zc hgb 2;have c3:=Zb hgb 3;have z3:=Zc hgb 3;have hgl:=Za hgb;have HGB2:=Hd hgb;clear hgb)
   |(go_at_call 51;(with_reducible refine(Htwo.out _ _ (by repeat(first|assumption|refine Only.drew ?_|refine Only.setCell ?_ (.inr hge) _|refine Only.thenP ?_ (by assumption))) (by assumption)).mono ?_);rintro e w2 ⟨rfl,hr,ho⟩;have hrd:=RIn.drewW hr;have hgb:=HGB.out w2 (by repeat(first|assumption|refine Only.drew ?_|refine Only.setCell ?_ (.inr hge) _|refine Only.thenP ?_ (by assumption)));have c0:=Zb hgb 0;have z0:=Zc hgb 0;have c1:=Zb hgb 1;have z1:=Zc hgb 1;have c2:=Zb hgb 2;have z2:=Zc hgb 2;have c3:=Zb hgb 3;have z3:=Zc hgb 3;have hgl:=Za hgb;have HGB2:=Hd hgb;clear hgb)
   |fail)
 all_goals
  go_wp2_with fail
  refine bodyPost_ret (results_cell_row rfl _ _ g 28 #[.int .i64 (getN 1 st).1,.int .i64 (getN 2 (getN 1 st).2).1,.int .i64 (getN 2 (getN 2 (getN 1 st).2).2).1,.int .i64 (getN 2 (getN 2 (getN 2 (getN 1 st).2).2).2).1] (0,0) _ rfl ((Zf (Zf (Zf (Zf HGB2.out 0 _) 1 _) 2 _) 3 _).trans rfl) Tryz.underlying28 rfl Zfe) rfl ⟨rfl,?_,?_⟩
  ·exact(RIn.setOther (RIn.setOther (RIn.setOther (RIn.setOther hr hgr 0 _) hgr 1 _) hgr 2 _) hgr 3 _)
  ·exact(by repeat(first|assumption|refine Only.drew ?_|refine Only.setCell ?_ (.inr hge) _|refine Only.thenP ?_ (by assumption)))
theorem ZgW:(Tryz.prog.info? 53).map (·.size)=some 5:=by kernel_rfl
theorem rd_ru(w:World)(rb rc ob xb:Nat)(S:ByteArray)(st:RSt)(h:RIn w rb S st)(hS:S.size≤9223372036854775807)(hc:w.cell? ⟨rc,0,none⟩=some (.pointer (some ⟨rb,0,none⟩)))(nrc:rc≠rb)(hob:FnAt w ob 49 rc)(nob:ob≠rb)(hxb:FnAt w xb 52 rc)(nxb:xb≠rb) :
 Calls Tryz.prog 66 #[.pointer (some ⟨ob,0,none⟩),.pointer (some ⟨xb,0,none⟩)] w (ZY rb S (.agg (ruC (ruG st).1).toArray) (ruG st).2 w):=by
 show Calls Tryz.prog 66 #[.pointer (some ⟨ob,0,none⟩),.pointer (some ⟨xb,0,none⟩)] w (ZY rb S (.agg #[.int .i64 (getN 1 st).1,.int .i64 (getN 1 (getN 1 st).2).1,.int .i64 (getN 1 (getN 1 (getN 1 st).2).2).1,.string (getT (getN 1 (getN 1 (getN 1 st).2).2).2).1,.string (getT (getT (getN 1 (getN 1 (getN 1 st).2).2).2).2).1]) (getT (getT (getN 1 (getN 1 (getN 1 st).2).2).2).2).2 w);have hlt:=h.lt;have hcl:=World.block_lt_of_cell? w _ hc;have lob:ob<w.heap.size:=World.block_lt_of_cell? w _ hob;have lxb:xb<w.heap.size:=World.block_lt_of_cell? w _ hxb;have HC:=Hd (fun(w1:World) (h1:Zo rb w w1)=>(h1.cell (p:=⟨rc,0,none⟩) hcl nrc).trans hc);have HF:=Hd (fun(w':World) (h1:Zo rb w w')=>show w'.cell? ⟨ob,0,none⟩=some (.func (.func 49) #[] #[.pointer (some ⟨rc,0,none⟩)])∧w'.cell? ⟨xb,0,none⟩=some (.func (.func 52) #[] #[.pointer (some ⟨rc,0,none⟩)]) from⟨(h1.cell (p:=⟨ob,0,none⟩) lob nob).trans hob,(h1.cell (p:=⟨xb,0,none⟩) lxb nxb).trans hxb⟩);have Hone:=Hd (fun(w1:World) (s:RSt) (h1:Zo rb w w1) (h2:RIn w1 rb S s)=>show Calls Tryz.prog 49 #[.pointer (some ⟨rc,0,none⟩)] w1 (ZY rb S (.int .i64 (getN 1 s).1) (getN 1 s).2 w1) from EM w1 rb rc S s h2 hS (HC.out w1 h1));have Htxt:=Hd (fun(w1:World) (s:RSt) (h1:Zo rb w w1) (h2:RIn w1 rb S s)=>show Calls Tryz.prog 52 #[.pointer (some ⟨rc,0,none⟩)] w1 (ZY rb S (.string (getT s).1) (getT s).2 w1) from Zcy w1 rb rc S s h2 hS (HC.out w1 h1));have HH:=Hd h;clear h hS hc nrc hob nob lob hxb nxb lxb hcl
 go_enter Tryz.func66,Tryz.ntmps66
 go_upto_region 1 with fail
 obtain⟨w1,hw1⟩:∃ w1,w.alloc (.cells #[.int .i64 0,.int .i64 0,.int .i64 0,.string ⟨#[]⟩,.string ⟨#[]⟩] 53)=w1:=⟨_,rfl⟩
 obtain⟨g,hg⟩:∃ g,w.heap.size=g:=⟨_,rfl⟩
 have hb:w1.heap[g]?=some (.cells #[.int .i64 0,.int .i64 0,.int .i64 0,.string ⟨#[]⟩,.string ⟨#[]⟩] 53 (0,0)):=by rw[←hw1,←hg];exact Ze w _
 have hl:Later w w1:=by rw[←hw1];exact(Later.refl w).alloc _
 rw[hw1,hg];have hr1:=HH.out.later hl;have hr1d:=RIn.drewW hr1;have ho1:Zo rb w w1:=Only.of_below hl;have hge:w.heap.size≤g:=by omega
 have hgr:¬ g=rb:=by omega
 have HGB:=Hd (fun(w':World) (h1:Zo rb w1 w')=>(h1.block g (Za hb) (show ¬IsPb rb g from hgr)).trans hb);obtain⟨f0,f1⟩:=HF.out w1 ho1;have hoo:Zo rb w1 w1:=Only.refl _ _;clear hw1 hg hb hl hlt
 go_region_held3 (fun w'=>w'.cell? ⟨ob,0,none⟩=some (.func (.func 49) #[] #[.pointer (some ⟨rc,0,none⟩)])∧w'.cell? ⟨xb,0,none⟩=some (.func (.func 52) #[] #[.pointer (some ⟨rc,0,none⟩)]))
  (exact HF.out _ (by repeat(first|assumption|refine Only.drew ?_|refine Only.setCell ?_ (.inr hge) _|refine Only.thenP ?_ (by assumption))))
  (first
   |(go_at_call 49;(with_reducible refine(Hone.out _ _ (by repeat(first|assumption|refine Only.drew ?_|refine Only.setCell ?_ (.inr hge) _|refine Only.thenP ?_ (by assumption))) (by assumption)).mono ?_);rintro e w2 ⟨rfl,hr,ho⟩;have hrd:=RIn.drewW hr;have hgb:=HGB.out w2 (by repeat(first|assumption|refine Only.drew ?_|refine Only.setCell ?_ (.inr hge) _|refine Only.thenP ?_ (by assumption)));have c0:=Zb hgb 0;have z0:=Zc hgb 0;have c1:=Zb hgb 1;have z1:=Zc hgb 1;have c2:=Zb hgb 2;have z2:=Zc hgb 2;have c3:=Zb hgb 3;have z3:=Zc hgb 3;have c4:=Zb hgb 4;have z4:=Zc hgb 4;have hgl:=Za hgb;have HGB2:=Hd hgb;clear hgb)
   |(go_at_call 52;(with_reducible refine(Htxt.out _ _ (by repeat(first|assumption|refine Only.drew ?_|refine Only.setCell ?_ (.inr hge) _|refine Only.thenP ?_ (by assumption))) (by assumption)).mono ?_);rintro e w2 ⟨rfl,hr,ho⟩;have hrd:=RIn.drewW hr;have hgb:=HGB.out w2 (by repeat(first|assumption|refine Only.drew ?_|refine Only.setCell ?_ (.inr hge) _|refine Only.thenP ?_ (by assumption)));have c0:=Zb hgb 0;have z0:=Zc hgb 0;have c1:=Zb hgb 1;have z1:=Zc hgb 1;have c2:=Zb hgb 2;have z2:=Zc hgb 2;have c3:=Zb hgb 3;have z3:=Zc hgb 3;have c4:=Zb hgb 4;have z4:=Zc hgb 4;have hgl:=Za hgb;have HGB2:=Hd hgb;clear hgb)
   |fail)
 all_goals
  go_wp2_with fail
  refine bodyPost_ret (results_cell_row rfl _ _ g 53 #[.int .i64 (getN 1 st).1,.int .i64 (getN 1 (getN 1 st).2).1,.int .i64 (getN 1 (getN 1 (getN 1 st).2).2).1,.string (getT (getN 1 (getN 1 (getN 1 st).2).2).2).1,.string (getT (getT (getN 1 (getN 1 (getN 1 st).2).2).2).2).1] (0,0) _ rfl ((Zf (Zf (Zf (Zf (Zf HGB2.out 0 _) 1 _) 2 _) 3 _) 4 _).trans rfl) Tryz.underlying53 rfl ZgW) rfl ⟨rfl,?_,?_⟩
  ·exact(RIn.setOther (RIn.setOther (RIn.setOther (RIn.setOther (RIn.setOther hr hgr 0 _) hgr 1 _) hgr 2 _) hgr 3 _) hgr 4 _)
  ·exact(by repeat(first|assumption|refine Only.drew ?_|refine Only.setCell ?_ (.inr hge) _|refine Only.thenP ?_ (by assumption)))
end Go.Proofs.YtbchkjfnakabkaaGreatDoor
namespace Go.Proofs.YtbchkjfnakabkaaGreatDoor
open Go.RowKit PX PC
theorem Yz{α:Type}(g:RSt→α × RSt):∀ (n:Nat) (s:RSt),many g (n+1) s=((many g n s).1++[(g (many g n s).2).1],(g (many g n s).2).2)
 |0,s=>rfl
 |n+1,s=>by
  have ih:=Yz g n (g s).2;rw[many,ih];simp only[many,List.cons_append]
theorem Y0{α:Type}(g:RSt→α × RSt):∀ (n:Nat) (s:RSt),(many g n s).1.length=n
 |0,_=>rfl
 |n+1,s=>by simp[many,Y0 g n]
def ZE{α:Type}(f:α→List Value):List α→List Value
 |[]=>[]
 |x::l=>f x++ZE f l
theorem XQ{α:Type}(f:α→List Value):∀ (l:List α) (x:α),ZE f (l++[x])=ZE f l++f x
 |[],x=>by simp[ZE]
 |y::l,x=>by simp[ZE,XQ f l x]
theorem YQ{α:Type}(f:α→List Value)(k:Nat)(hf:∀ x,(f x).length=k):∀ (l:List α) (i:Nat) (h:i<l.length) (j:Nat),j<k→(ZE f l)[i*k+j]?=(f l[i])[j]?
 |[],i,h,_,_=>by simp at h
 |y::l,0,_,j,hj=>by simp[ZE,List.getElem?_append_left (show j<(f y).length by rw[hf];exact hj)]
 |y::l,i+1,h,j,hj=>by
  have e:(i+1)*k+j=(f y).length+(i*k+j):=by rw[hf,Nat.add_mul];omega
  rw[ZE,e,List.getElem?_append_right (Nat.le_add_right _ _),Nat.add_sub_cancel_left];exact YQ f k hf l i (by simpa using h) j hj
def RowHi(B:Nat)(w:World)(k:Nat)(v:Value)(css:List (List Value)):Prop:=
 ∃ (a:Option Addr) (cap:Nat),v=.slice a css.length cap∧css.length≤cap∧cap≤9223372036854775807∧css.length*k≤140737488355328 ∧
  (css=[]∨∃ b o,a=some ⟨b,o,none⟩∧B≤b∧b<w.heap.size∧∀ i (h:i<css.length) j,j<k→w.cell? ⟨b,o+i*k+j,none⟩=css[i][j]?)
theorem RowHi.row{B:Nat}{w:World}{k:Nat}{v:Value}{css:List (List Value)}(h:RowHi B w k v css):RowAt w k v css:=by
 obtain⟨a,cap,h1,h2,h3,h4,h5⟩:=h;refine⟨a,cap,h1,h2,h3,h4,?_⟩;rcases h5 with h|⟨b,o,h6,-, h7,h8⟩
 ·exact .inl h
 ·exact .inr ⟨b,o,h6,h7,h8⟩
theorem RowHi.only{B:Nat}{r:Nat→Prop}{w w':World}{k:Nat}{v:Value}{css:List (List Value)}(h:RowHi B w k v css)(ho:Only r w w')(hr:∀ b,B≤b→b<w.heap.size→¬ r b):RowHi B w' k v css:=by
 obtain⟨a,cap,h1,h2,h3,h4,h5⟩:=h;refine⟨a,cap,h1,h2,h3,h4,?_⟩;rcases h5 with h|⟨b,o,h6,h9,h7,h8⟩
 ·exact .inl h
 ·exact .inr ⟨b,o,h6,h9,Nat.lt_of_lt_of_le h7 ho.size,fun i hi j hj=>(ho.cell (p:=⟨b,o+i*k+j,none⟩) h7 (hr b h9 h7)).trans (h8 i hi j hj)⟩
theorem JF{α:Type}{w:World}{B k:Nat}{e:TypeId}{v:Value}{f:α→List Value}{l:List α}(hk:1≤k)(hk5:k≤5)(hf:∀ x,(f x).length=k)(hn:l.length≤255)(h:w.ownsRow B e k v l.length (ZE f l)):RowHi B w k v (l.map f):=by
 have hlt:=h.lt
 have hfl:∀ l:List α,(ZE f l).length=l.length*k:=fun l=>by
  induction l with
  |nil=>simp[ZE]
  |cons y l ih=>simp[ZE,ih,hf,Nat.add_mul];omega
 rcases h.2 with⟨rfl,h0⟩|⟨g,cap,cur,rfl,hg,hb,hc1,hc2,-⟩
 ·have hl:l=[]:=List.eq_nil_of_length_eq_zero h0;subst hl;exact⟨none,0,rfl,Nat.le_refl _,by omega,by simp,.inl rfl⟩
 ·have hcell:=fun j hj=>h.cellAt j hj
  refine⟨some ⟨g,0,none⟩,cap,by rw[List.length_map],by rw[List.length_map];exact hc1,hc2,by rw[List.length_map];have:l.length*k≤255*5:=Nat.mul_le_mul hn hk5;omega,.inr ⟨g,0,rfl,hg,(hlt g rfl).2,fun i hi j hj=>?_⟩⟩;rw[List.length_map]at hi
  have hij:i*k+j<l.length*k:=by
   have:(i+1)*k≤l.length*k:=Nat.mul_le_mul_right _ hi;rw[Nat.add_mul]at this;omega
  rw[Nat.zero_add,hcell _ hij,YQ f k hf l i hi j hj,List.getElem_map]
theorem VL(w:Nat)(s:RSt):0≤(getN w s).1∧(getN w s).1<256 ^ w:=by
 have hp:(0:Int)<256 ^ w:=Int.pow_pos (by decide)
 cases s with
 |none=>exact⟨Int.le_refl _,hp⟩
 |some r=>
  simp only[getN];split
  ·exact⟨Int.le_refl _,hp⟩
  ·have h1:=Qm (r.take w);have h2:(r.take w).length=w:=by rw[List.length_take];omega
   rw[h2]at h1;have e3:(256:Int) ^ w=((256 ^ w:Nat):Int):=by rw[Int.natCast_pow];rfl
   rw[e3];exact⟨by omega,by omega⟩
def XL{α:Type}(rb:Nat)(S:ByteArray)(k:Nat)(f:α→List Value)(l:List α)(st:RSt)(w:World)(e:Ending)(w':World):Prop:=∃ v,e=.returned v∧RowHi w.heap.size w' k v (l.map f)∧RIn w' rb S st∧Zo rb w w'
theorem Zdz:(Tryz.prog.info? 47).map (fun i=>(i.zero,i.size,i.bytes))=some (some (.agg #[.int .i64 0,.int .i64 0]),2,16):=by kernel_rfl
theorem DR(w:World)(rb rc ob:Nat)(S:ByteArray)(st:RSt)(h:RIn w rb S st)(hS:S.size≤9223372036854775807)(hc:w.cell? ⟨rc,0,none⟩=some (.pointer (some ⟨rb,0,none⟩)))(nrc:rc≠rb)(hob:FnAt w ob 49 rc)(nob:ob≠rb) :
 Calls Tryz.prog 55 #[.pointer (some ⟨rb,0,none⟩),.func (.func 56) #[] #[.pointer (some ⟨ob,0,none⟩)]] w (XL rb S 2 Yl (getL YD st).1 (getL YD st).2 w):=by
 obtain⟨iE,hiE,hz0,hz1,hz2⟩:=info_parts Zdz;have hlt:=h.lt;have hcl:=World.block_lt_of_cell? w _ hc;have lob:ob<w.heap.size:=World.block_lt_of_cell? w _ hob;have HE:=Hd (fun(w1:World) (s:RSt) (h1:Zo rb w w1) (h2:RIn w1 rb S s)=>ZgA w1 rb rc ob S s h2 hS ((h1.cell (p:=⟨rc,0,none⟩) hcl nrc).trans hc) nrc ((h1.cell (p:=⟨ob,0,none⟩) lob nob).trans hob) nob);have HN:=Hd (YH w rb S st h hS 1 1 rfl (by omega) (by omega));obtain⟨hb0,hb1⟩:=VL 1 st;have hgl:getL YD st=many YD (getN 1 st).1.toNat (getN 1 st).2:=rfl;rw[hgl]
 obtain⟨N,hN⟩:∃ N:Nat,(getN 1 st).1=N:=⟨(getN 1 st).1.toNat,by omega⟩
 obtain⟨s1,hs1⟩:∃ s1,(getN 1 st).2=s1:=⟨_,rfl⟩
 rw[hN]at hb0 hb1 HN ⊢;rw[hs1]at HN ⊢;rw[Int.toNat_natCast];have hN2:N≤255:=by have:(256:Int) ^ 1=256:=rfl;omega
 obtain⟨PT,hPT⟩:∃ PT,XL rb S 2 Yl (many YD N s1).1 (many YD N s1).2 w=PT:=⟨_,rfl⟩
 rw[hPT];have HPT:=Hd hPT;clear h hS hc nrc hob nob lob hgl hN hs1 hb0 hb1 hPT hcl
 go_enter Tryz.func55,Tryz.ntmps55
 go_wp2_with (first
  |(go_at_call 50;(with_reducible refine HN.out.mono ?_);rintro e w1 ⟨rfl,hr1,ho1⟩;have HR1:=Hd hr1;have HO1:=Hd ho1;clear hr1 ho1)
  |fail)
 go_loopw [5,8] (fun vv vi wr=>∃ j:Nat,j≤N∧vi=.int .i64 j∧wr.ownsRow w.heap.size 47 2 vv j (ZE Yl (many YD j s1).1)∧RIn wr rb S (many YD j s1).2∧Zo rb w wr) (fun _ vi _=>N - (intOf vi).toNat)
 case atStart=>exact⟨0,by omega,by simp,⟨rfl,Or.inl ⟨rfl,rfl⟩⟩,HR1.out,HO1.out⟩
 case round=>
  obtain⟨j,hj,rfl,hown,hr,ho⟩:=hrel;by_cases hlt2:j<N
  ·have hms:=Yz YD j s1
   obtain⟨s,hs⟩:∃ s,(many YD j s1).2=s:=⟨_,rfl⟩
   obtain⟨L,hL⟩:∃ L,(many YD j s1).1=L:=⟨_,rfl⟩
   have hE:=HE.out wr s ho (by rw[←hs];exact hr);rw[hs,hL]at hms;rw[hL]at hown
   obtain⟨s',hs'⟩:∃ s',(YD s).2=s':=⟨_,rfl⟩
   obtain⟨x,hx⟩:∃ x,(YD s).1=x:=⟨_,rfl⟩
   rw[hs',hx]at hE hms;clear hr hs hL hs' hx;obtain⟨x1,x2⟩:=x;have HEE:=Hd (show Calls Tryz.prog 56 #[.pointer (some ⟨ob,0,none⟩)] wr (ZY rb S (.agg #[.int .i64 x1,.int .i64 x2]) s' wr) from hE);have HMS:=Hd hms;have HOW:=Hd hown;have HON:=Hd ho;have hgs:=ho.size;clear hE hms hown ho;have hj255:j≤255:=by omega
   go_wp2_with (first
    |(go_at_call 56;(with_reducible refine HEE.out.mono ?_);rintro e w2 ⟨rfl,hr2,ho2⟩;have HR2:=Hd hr2;have HO2:=Hd (Only.ownsRow ho2 HOW.out (fun q hq hrq=>by have h9:=(HOW.out.lt q hq).1;have h8:q=rb:=hrq;omega));have HON2:=Hd (HON.out.thenP ho2);have hgs2:=HON2.out.size;clear hr2 ho2)
    |(at_builtin;refine wpList_append_own _ rfl (.tmp 10) (.tmp 13) 22 rfl w.heap.size 47 iE (.agg #[.int .i64 0,.int .i64 0]) 2 16 Tryz.underlying22 hiE hz0 hz1 hz2 rfl (by decide) _ _ _ rfl (HO2.out.alloc _) ⟨w2.heap.size,0,none⟩ 1 1 [.int .i64 x1,.int .i64 x2] rfl rfl (XC w2 [.int .i64 x1,.int .i64 x2] 47) (by intro u hu;simp only[List.mem_cons,List.not_mem_nil,or_false]at hu;(repeat' (rcases hu with hu|hu))<;>(subst_vars;rfl)) (by unfold maxLen;omega) (by omega) (by simp;omega) ?_;intro v' w3 hown1 hgrow1 _)
    |fail)
   have hon3:Zo rb w w3:=(HON2.out.alloc (.cells #[.int .i64 x1,.int .i64 x2] 47)).grown hgrow1 (fun q hq=>.inr ((HO2.out.alloc (.cells #[.int .i64 x1,.int .i64 x2] 47)).lt q hq).1)
   have hr3:RIn w3 rb S s':=by
    obtain⟨i,f,g1,g2,g3⟩:=HR2.out;refine⟨i,f,?_,g2,g3⟩;have hk:rb<w2.heap.size:=Za g1;exact(hgrow1.block rb (by simp;omega) (fun e=>by have h9:=((HO2.out.alloc (.cells #[.int .i64 x1,.int .i64 x2] 47)).lt rb e.symm).1;omega)).trans (Zd g1 _)
   refine⟨⟨j+1,by omega,by simp,?_,?_,hon3⟩,by simp only[intOf];omega⟩
   ·rw[HMS.out,XQ];exact hown1
   ·rw[HMS.out];exact hr3
  ·obtain rfl:j=N:=by omega
   have hlen:=Y0 YD j s1;have hown':wr.ownsRow w.heap.size 47 2 u5 (many YD j s1).1.length (ZE Yl (many YD j s1).1):=by rw[hlen];exact hown
   have HRW:=Hd (JF (k:=2) (by omega) (by omega) (fun x=>rfl) (by rw[hlen];exact hN2) hown');have HRR:=Hd hr;have HOO:=Hd ho;clear hr ho hown hown' hlen
   go_wp2_with fail
   rw[←HPT.out];exact⟨_,rfl,HRW.out,HRR.out,HOO.out⟩
theorem Zdy:(Tryz.prog.info? 49).map (fun i=>(i.zero,i.size,i.bytes))=some (some (.agg #[.int .i64 0,.int .i64 0]),2,16):=by kernel_rfl
theorem DQ(w:World)(rb rc ob:Nat)(S:ByteArray)(st:RSt)(h:RIn w rb S st)(hS:S.size≤9223372036854775807)(hc:w.cell? ⟨rc,0,none⟩=some (.pointer (some ⟨rb,0,none⟩)))(nrc:rc≠rb)(hob:FnAt w ob 49 rc)(nob:ob≠rb) :
 Calls Tryz.prog 57 #[.pointer (some ⟨rb,0,none⟩),.func (.func 58) #[] #[.pointer (some ⟨ob,0,none⟩)]] w (XL rb S 2 X9 (getL YC st).1 (getL YC st).2 w):=by
 obtain⟨iE,hiE,hz0,hz1,hz2⟩:=info_parts Zdy;have hlt:=h.lt;have hcl:=World.block_lt_of_cell? w _ hc;have lob:ob<w.heap.size:=World.block_lt_of_cell? w _ hob;have HE:=Hd (fun(w1:World) (s:RSt) (h1:Zo rb w w1) (h2:RIn w1 rb S s)=>Zgz w1 rb rc ob S s h2 hS ((h1.cell (p:=⟨rc,0,none⟩) hcl nrc).trans hc) nrc ((h1.cell (p:=⟨ob,0,none⟩) lob nob).trans hob) nob);have HN:=Hd (YH w rb S st h hS 1 1 rfl (by omega) (by omega));obtain⟨hb0,hb1⟩:=VL 1 st;have hgl:getL YC st=many YC (getN 1 st).1.toNat (getN 1 st).2:=rfl;rw[hgl]
 obtain⟨N,hN⟩:∃ N:Nat,(getN 1 st).1=N:=⟨(getN 1 st).1.toNat,by omega⟩
 obtain⟨s1,hs1⟩:∃ s1,(getN 1 st).2=s1:=⟨_,rfl⟩
 rw[hN]at hb0 hb1 HN ⊢;rw[hs1]at HN ⊢;rw[Int.toNat_natCast];have hN2:N≤255:=by have:(256:Int) ^ 1=256:=rfl;omega
 obtain⟨PT,hPT⟩:∃ PT,XL rb S 2 X9 (many YC N s1).1 (many YC N s1).2 w=PT:=⟨_,rfl⟩
 rw[hPT];have HPT:=Hd hPT;clear h hS hc nrc hob nob lob hgl hN hs1 hb0 hb1 hPT hcl
 go_enter Tryz.func57,Tryz.ntmps57
 go_wp2_with (first
  |(go_at_call 50;(with_reducible refine HN.out.mono ?_);rintro e w1 ⟨rfl,hr1,ho1⟩;have HR1:=Hd hr1;have HO1:=Hd ho1;clear hr1 ho1)
  |fail)
 go_loopw [5,8] (fun vv vi wr=>∃ j:Nat,j≤N∧vi=.int .i64 j∧wr.ownsRow w.heap.size 49 2 vv j (ZE X9 (many YC j s1).1)∧RIn wr rb S (many YC j s1).2∧Zo rb w wr) (fun _ vi _=>N - (intOf vi).toNat)
 case atStart=>exact⟨0,by omega,by simp,⟨rfl,Or.inl ⟨rfl,rfl⟩⟩,HR1.out,HO1.out⟩
 case round=>
  obtain⟨j,hj,rfl,hown,hr,ho⟩:=hrel;by_cases hlt2:j<N
  ·have hms:=Yz YC j s1
   obtain⟨s,hs⟩:∃ s,(many YC j s1).2=s:=⟨_,rfl⟩
   obtain⟨L,hL⟩:∃ L,(many YC j s1).1=L:=⟨_,rfl⟩
   have hE:=HE.out wr s ho (by rw[←hs];exact hr);rw[hs,hL]at hms;rw[hL]at hown
   obtain⟨s',hs'⟩:∃ s',(YC s).2=s':=⟨_,rfl⟩
   obtain⟨x,hx⟩:∃ x,(YC s).1=x:=⟨_,rfl⟩
   rw[hs',hx]at hE hms;clear hr hs hL hs' hx;obtain⟨x1,x2⟩:=x;have HEE:=Hd (show Calls Tryz.prog 58 #[.pointer (some ⟨ob,0,none⟩)] wr (ZY rb S (.agg #[.int .i64 x1,.int .i64 x2]) s' wr) from hE);have HMS:=Hd hms;have HOW:=Hd hown;have HON:=Hd ho;have hgs:=ho.size;clear hE hms hown ho;have hj255:j≤255:=by omega
   go_wp2_with (first
    |(go_at_call 58;(with_reducible refine HEE.out.mono ?_);rintro e w2 ⟨rfl,hr2,ho2⟩;have HR2:=Hd hr2;have HO2:=Hd (Only.ownsRow ho2 HOW.out (fun q hq hrq=>by have h9:=(HOW.out.lt q hq).1;have h8:q=rb:=hrq;omega));have HON2:=Hd (HON.out.thenP ho2);have hgs2:=HON2.out.size;clear hr2 ho2)
    |(at_builtin;refine wpList_append_own _ rfl (.tmp 10) (.tmp 13) 23 rfl w.heap.size 49 iE (.agg #[.int .i64 0,.int .i64 0]) 2 16 Tryz.underlying23 hiE hz0 hz1 hz2 rfl (by decide) _ _ _ rfl (HO2.out.alloc _) ⟨w2.heap.size,0,none⟩ 1 1 [.int .i64 x1,.int .i64 x2] rfl rfl (XC w2 [.int .i64 x1,.int .i64 x2] 49) (by intro u hu;simp only[List.mem_cons,List.not_mem_nil,or_false]at hu;(repeat' (rcases hu with hu|hu))<;>(subst_vars;rfl)) (by unfold maxLen;omega) (by omega) (by simp;omega) ?_;intro v' w3 hown1 hgrow1 _)
    |fail)
   have hon3:Zo rb w w3:=(HON2.out.alloc (.cells #[.int .i64 x1,.int .i64 x2] 49)).grown hgrow1 (fun q hq=>.inr ((HO2.out.alloc (.cells #[.int .i64 x1,.int .i64 x2] 49)).lt q hq).1)
   have hr3:RIn w3 rb S s':=by
    obtain⟨i,f,g1,g2,g3⟩:=HR2.out;refine⟨i,f,?_,g2,g3⟩;have hk:rb<w2.heap.size:=Za g1;exact(hgrow1.block rb (by simp;omega) (fun e=>by have h9:=((HO2.out.alloc (.cells #[.int .i64 x1,.int .i64 x2] 49)).lt rb e.symm).1;omega)).trans (Zd g1 _)
   refine⟨⟨j+1,by omega,by simp,?_,?_,hon3⟩,by simp only[intOf];omega⟩
   ·rw[HMS.out,XQ];exact hown1
   ·rw[HMS.out];exact hr3
  ·obtain rfl:j=N:=by omega
   have hlen:=Y0 YC j s1;have hown':wr.ownsRow w.heap.size 49 2 u5 (many YC j s1).1.length (ZE X9 (many YC j s1).1):=by rw[hlen];exact hown
   have HRW:=Hd (JF (k:=2) (by omega) (by omega) (fun x=>rfl) (by rw[hlen];exact hN2) hown');have HRR:=Hd hr;have HOO:=Hd ho;clear hr ho hown hown' hlen
   go_wp2_with fail
   rw[←HPT.out];exact⟨_,rfl,HRW.out,HRR.out,HOO.out⟩
theorem Zfh:(Tryz.prog.info? 55).map (fun i=>(i.zero,i.size,i.bytes))=some (some (.agg #[.int .i64 0,.int .i64 0,.int .i64 0]),3,24):=by kernel_rfl
theorem Zbf(w:World)(rb rc ob:Nat)(S:ByteArray)(st:RSt)(h:RIn w rb S st)(hS:S.size≤9223372036854775807)(hc:w.cell? ⟨rc,0,none⟩=some (.pointer (some ⟨rb,0,none⟩)))(nrc:rc≠rb)(hob:FnAt w ob 49 rc)(nob:ob≠rb) :
 Calls Tryz.prog 59 #[.pointer (some ⟨rb,0,none⟩),.func (.func 60) #[] #[.pointer (some ⟨ob,0,none⟩)]] w (XL rb S 3 winC (getL winG st).1 (getL winG st).2 w):=by
 obtain⟨iE,hiE,hz0,hz1,hz2⟩:=info_parts Zfh;have hlt:=h.lt;have hcl:=World.block_lt_of_cell? w _ hc;have lob:ob<w.heap.size:=World.block_lt_of_cell? w _ hob;have HE:=Hd (fun(w1:World) (s:RSt) (h1:Zo rb w w1) (h2:RIn w1 rb S s)=>ZhO w1 rb rc ob S s h2 hS ((h1.cell (p:=⟨rc,0,none⟩) hcl nrc).trans hc) nrc ((h1.cell (p:=⟨ob,0,none⟩) lob nob).trans hob) nob);have HN:=Hd (YH w rb S st h hS 1 1 rfl (by omega) (by omega));obtain⟨hb0,hb1⟩:=VL 1 st;have hgl:getL winG st=many winG (getN 1 st).1.toNat (getN 1 st).2:=rfl;rw[hgl]
 obtain⟨N,hN⟩:∃ N:Nat,(getN 1 st).1=N:=⟨(getN 1 st).1.toNat,by omega⟩
 obtain⟨s1,hs1⟩:∃ s1,(getN 1 st).2=s1:=⟨_,rfl⟩
 rw[hN]at hb0 hb1 HN ⊢;rw[hs1]at HN ⊢;rw[Int.toNat_natCast];have hN2:N≤255:=by have:(256:Int) ^ 1=256:=rfl;omega
 obtain⟨PT,hPT⟩:∃ PT,XL rb S 3 winC (many winG N s1).1 (many winG N s1).2 w=PT:=⟨_,rfl⟩
 rw[hPT];have HPT:=Hd hPT;clear h hS hc nrc hob nob lob hgl hN hs1 hb0 hb1 hPT hcl
 go_enter Tryz.func59,Tryz.ntmps59
 go_wp2_with (first
  |(go_at_call 50;(with_reducible refine HN.out.mono ?_);rintro e w1 ⟨rfl,hr1,ho1⟩;have HR1:=Hd hr1;have HO1:=Hd ho1;clear hr1 ho1)
  |fail)
 go_loopw [5,8] (fun vv vi wr=>∃ j:Nat,j≤N∧vi=.int .i64 j∧wr.ownsRow w.heap.size 55 3 vv j (ZE winC (many winG j s1).1)∧RIn wr rb S (many winG j s1).2∧Zo rb w wr) (fun _ vi _=>N - (intOf vi).toNat)
 case atStart=>exact⟨0,by omega,by simp,⟨rfl,Or.inl ⟨rfl,rfl⟩⟩,HR1.out,HO1.out⟩
 case round=>
  obtain⟨j,hj,rfl,hown,hr,ho⟩:=hrel;by_cases hlt2:j<N
  ·have hms:=Yz winG j s1
   obtain⟨s,hs⟩:∃ s,(many winG j s1).2=s:=⟨_,rfl⟩
   obtain⟨L,hL⟩:∃ L,(many winG j s1).1=L:=⟨_,rfl⟩
   have hE:=HE.out wr s ho (by rw[←hs];exact hr);rw[hs,hL]at hms;rw[hL]at hown
   obtain⟨s',hs'⟩:∃ s',(winG s).2=s':=⟨_,rfl⟩
   obtain⟨x,hx⟩:∃ x,(winG s).1=x:=⟨_,rfl⟩
   rw[hs',hx]at hE hms;clear hr hs hL hs' hx;obtain⟨x1,x2,x3⟩:=x;have HEE:=Hd (show Calls Tryz.prog 60 #[.pointer (some ⟨ob,0,none⟩)] wr (ZY rb S (.agg #[.int .i64 x1,.int .i64 x2,.int .i64 x3]) s' wr) from hE);have HMS:=Hd hms;have HOW:=Hd hown;have HON:=Hd ho;have hgs:=ho.size;clear hE hms hown ho;have hj255:j≤255:=by omega
   go_wp2_with (first
    |(go_at_call 60;(with_reducible refine HEE.out.mono ?_);rintro e w2 ⟨rfl,hr2,ho2⟩;have HR2:=Hd hr2;have HO2:=Hd (Only.ownsRow ho2 HOW.out (fun q hq hrq=>by have h9:=(HOW.out.lt q hq).1;have h8:q=rb:=hrq;omega));have HON2:=Hd (HON.out.thenP ho2);have hgs2:=HON2.out.size;clear hr2 ho2)
    |(at_builtin;refine wpList_append_own _ rfl (.tmp 10) (.tmp 13) 24 rfl w.heap.size 55 iE (.agg #[.int .i64 0,.int .i64 0,.int .i64 0]) 3 24 Tryz.underlying24 hiE hz0 hz1 hz2 rfl (by decide) _ _ _ rfl (HO2.out.alloc _) ⟨w2.heap.size,0,none⟩ 1 1 [.int .i64 x1,.int .i64 x2,.int .i64 x3] rfl rfl (XC w2 [.int .i64 x1,.int .i64 x2,.int .i64 x3] 55) (by intro u hu;simp only[List.mem_cons,List.not_mem_nil,or_false]at hu;(repeat' (rcases hu with hu|hu))<;>(subst_vars;rfl)) (by unfold maxLen;omega) (by omega) (by simp;omega) ?_;intro v' w3 hown1 hgrow1 _)
    |fail)
   have hon3:Zo rb w w3:=(HON2.out.alloc (.cells #[.int .i64 x1,.int .i64 x2,.int .i64 x3] 55)).grown hgrow1 (fun q hq=>.inr ((HO2.out.alloc (.cells #[.int .i64 x1,.int .i64 x2,.int .i64 x3] 55)).lt q hq).1)
   have hr3:RIn w3 rb S s':=by
    obtain⟨i,f,g1,g2,g3⟩:=HR2.out;refine⟨i,f,?_,g2,g3⟩;have hk:rb<w2.heap.size:=Za g1;exact(hgrow1.block rb (by simp;omega) (fun e=>by have h9:=((HO2.out.alloc (.cells #[.int .i64 x1,.int .i64 x2,.int .i64 x3] 55)).lt rb e.symm).1;omega)).trans (Zd g1 _)
   refine⟨⟨j+1,by omega,by simp,?_,?_,hon3⟩,by simp only[intOf];omega⟩
   ·rw[HMS.out,XQ];exact hown1
   ·rw[HMS.out];exact hr3
  ·obtain rfl:j=N:=by omega
   have hlen:=Y0 winG j s1;have hown':wr.ownsRow w.heap.size 55 3 u5 (many winG j s1).1.length (ZE winC (many winG j s1).1):=by rw[hlen];exact hown
   have HRW:=Hd (JF (k:=3) (by omega) (by omega) (fun x=>rfl) (by rw[hlen];exact hN2) hown');have HRR:=Hd hr;have HOO:=Hd ho;clear hr ho hown hown' hlen
   go_wp2_with fail
   rw[←HPT.out];exact⟨_,rfl,HRW.out,HRR.out,HOO.out⟩
theorem Zfj:(Tryz.prog.info? 51).map (fun i=>(i.zero,i.size,i.bytes))=some (some (.agg #[.int .i64 0,.int .i64 0,.int .i64 0,.int .i64 0,.int .i64 0]),5,40):=by kernel_rfl
theorem Zbh(w:World)(rb rc ob:Nat)(S:ByteArray)(st:RSt)(h:RIn w rb S st)(hS:S.size≤9223372036854775807)(hc:w.cell? ⟨rc,0,none⟩=some (.pointer (some ⟨rb,0,none⟩)))(nrc:rc≠rb)(hob:FnAt w ob 49 rc)(nob:ob≠rb) :
 Calls Tryz.prog 61 #[.pointer (some ⟨rb,0,none⟩),.func (.func 62) #[] #[.pointer (some ⟨ob,0,none⟩)]] w (XL rb S 5 porC (getL porG st).1 (getL porG st).2 w):=by
 obtain⟨iE,hiE,hz0,hz1,hz2⟩:=info_parts Zfj;have hlt:=h.lt;have hcl:=World.block_lt_of_cell? w _ hc;have lob:ob<w.heap.size:=World.block_lt_of_cell? w _ hob;have HE:=Hd (fun(w1:World) (s:RSt) (h1:Zo rb w w1) (h2:RIn w1 rb S s)=>ZhQ w1 rb rc ob S s h2 hS ((h1.cell (p:=⟨rc,0,none⟩) hcl nrc).trans hc) nrc ((h1.cell (p:=⟨ob,0,none⟩) lob nob).trans hob) nob);have HN:=Hd (YH w rb S st h hS 1 1 rfl (by omega) (by omega));obtain⟨hb0,hb1⟩:=VL 1 st;have hgl:getL porG st=many porG (getN 1 st).1.toNat (getN 1 st).2:=rfl;rw[hgl]
 obtain⟨N,hN⟩:∃ N:Nat,(getN 1 st).1=N:=⟨(getN 1 st).1.toNat,by omega⟩
 obtain⟨s1,hs1⟩:∃ s1,(getN 1 st).2=s1:=⟨_,rfl⟩
 rw[hN]at hb0 hb1 HN ⊢;rw[hs1]at HN ⊢;rw[Int.toNat_natCast];have hN2:N≤255:=by have:(256:Int) ^ 1=256:=rfl;omega
 obtain⟨PT,hPT⟩:∃ PT,XL rb S 5 porC (many porG N s1).1 (many porG N s1).2 w=PT:=⟨_,rfl⟩
 rw[hPT];have HPT:=Hd hPT;clear h hS hc nrc hob nob lob hgl hN hs1 hb0 hb1 hPT hcl
 go_enter Tryz.func61,Tryz.ntmps61
 go_wp2_with (first
  |(go_at_call 50;(with_reducible refine HN.out.mono ?_);rintro e w1 ⟨rfl,hr1,ho1⟩;have HR1:=Hd hr1;have HO1:=Hd ho1;clear hr1 ho1)
  |fail)
 go_loopw [5,8] (fun vv vi wr=>∃ j:Nat,j≤N∧vi=.int .i64 j∧wr.ownsRow w.heap.size 51 5 vv j (ZE porC (many porG j s1).1)∧RIn wr rb S (many porG j s1).2∧Zo rb w wr) (fun _ vi _=>N - (intOf vi).toNat)
 case atStart=>exact⟨0,by omega,by simp,⟨rfl,Or.inl ⟨rfl,rfl⟩⟩,HR1.out,HO1.out⟩
 case round=>
  obtain⟨j,hj,rfl,hown,hr,ho⟩:=hrel;by_cases hlt2:j<N
  ·have hms:=Yz porG j s1
   obtain⟨s,hs⟩:∃ s,(many porG j s1).2=s:=⟨_,rfl⟩
   obtain⟨L,hL⟩:∃ L,(many porG j s1).1=L:=⟨_,rfl⟩
   have hE:=HE.out wr s ho (by rw[←hs];exact hr);rw[hs,hL]at hms;rw[hL]at hown
   obtain⟨s',hs'⟩:∃ s',(porG s).2=s':=⟨_,rfl⟩
   obtain⟨x,hx⟩:∃ x,(porG s).1=x:=⟨_,rfl⟩
   rw[hs',hx]at hE hms;clear hr hs hL hs' hx;obtain⟨x1,x2,x3,x4,x5⟩:=x;have HEE:=Hd (show Calls Tryz.prog 62 #[.pointer (some ⟨ob,0,none⟩)] wr (ZY rb S (.agg #[.int .i64 x1,.int .i64 x2,.int .i64 x3,.int .i64 x4,.int .i64 x5]) s' wr) from hE);have HMS:=Hd hms;have HOW:=Hd hown;have HON:=Hd ho;have hgs:=ho.size;clear hE hms hown ho;have hj255:j≤255:=by omega
   go_wp2_with (first
    |(go_at_call 62;(with_reducible refine HEE.out.mono ?_);rintro e w2 ⟨rfl,hr2,ho2⟩;have HR2:=Hd hr2;have HO2:=Hd (Only.ownsRow ho2 HOW.out (fun q hq hrq=>by have h9:=(HOW.out.lt q hq).1;have h8:q=rb:=hrq;omega));have HON2:=Hd (HON.out.thenP ho2);have hgs2:=HON2.out.size;clear hr2 ho2)
    |(at_builtin;refine wpList_append_own _ rfl (.tmp 10) (.tmp 13) 25 rfl w.heap.size 51 iE (.agg #[.int .i64 0,.int .i64 0,.int .i64 0,.int .i64 0,.int .i64 0]) 5 40 Tryz.underlying25 hiE hz0 hz1 hz2 rfl (by decide) _ _ _ rfl (HO2.out.alloc _) ⟨w2.heap.size,0,none⟩ 1 1 [.int .i64 x1,.int .i64 x2,.int .i64 x3,.int .i64 x4,.int .i64 x5] rfl rfl (XC w2 [.int .i64 x1,.int .i64 x2,.int .i64 x3,.int .i64 x4,.int .i64 x5] 51) (by intro u hu;simp only[List.mem_cons,List.not_mem_nil,or_false]at hu;(repeat' (rcases hu with hu|hu))<;>(subst_vars;rfl)) (by unfold maxLen;omega) (by omega) (by simp;omega) ?_;intro v' w3 hown1 hgrow1 _)
    |fail)
   have hon3:Zo rb w w3:=(HON2.out.alloc (.cells #[.int .i64 x1,.int .i64 x2,.int .i64 x3,.int .i64 x4,.int .i64 x5] 51)).grown hgrow1 (fun q hq=>.inr ((HO2.out.alloc (.cells #[.int .i64 x1,.int .i64 x2,.int .i64 x3,.int .i64 x4,.int .i64 x5] 51)).lt q hq).1)
   have hr3:RIn w3 rb S s':=by
    obtain⟨i,f,g1,g2,g3⟩:=HR2.out;refine⟨i,f,?_,g2,g3⟩;have hk:rb<w2.heap.size:=Za g1;exact(hgrow1.block rb (by simp;omega) (fun e=>by have h9:=((HO2.out.alloc (.cells #[.int .i64 x1,.int .i64 x2,.int .i64 x3,.int .i64 x4,.int .i64 x5] 51)).lt rb e.symm).1;omega)).trans (Zd g1 _)
   refine⟨⟨j+1,by omega,by simp,?_,?_,hon3⟩,by simp only[intOf];omega⟩
   ·rw[HMS.out,XQ];exact hown1
   ·rw[HMS.out];exact hr3
  ·obtain rfl:j=N:=by omega
   have hlen:=Y0 porG j s1;have hown':wr.ownsRow w.heap.size 51 5 u5 (many porG j s1).1.length (ZE porC (many porG j s1).1):=by rw[hlen];exact hown
   have HRW:=Hd (JF (k:=5) (by omega) (by omega) (fun x=>rfl) (by rw[hlen];exact hN2) hown');have HRR:=Hd hr;have HOO:=Hd ho;clear hr ho hown hown' hlen
   go_wp2_with fail
   rw[←HPT.out];exact⟨_,rfl,HRW.out,HRR.out,HOO.out⟩
theorem Zfi:(Tryz.prog.info? 28).map (fun i=>(i.zero,i.size,i.bytes))=some (some (.agg #[.int .i64 0,.int .i64 0,.int .i64 0,.int .i64 0]),4,32):=by kernel_rfl
theorem Zbg(w:World)(rb rc ob tb:Nat)(S:ByteArray)(st:RSt)(h:RIn w rb S st)(hS:S.size≤9223372036854775807)(hc:w.cell? ⟨rc,0,none⟩=some (.pointer (some ⟨rb,0,none⟩)))(nrc:rc≠rb)(hob:FnAt w ob 49 rc)(nob:ob≠rb)(htb:FnAt w tb 51 rc)(ntb:tb≠rb) :
 Calls Tryz.prog 63 #[.pointer (some ⟨rb,0,none⟩),.func (.func 64) #[] #[.pointer (some ⟨ob,0,none⟩),.pointer (some ⟨tb,0,none⟩)]] w (XL rb S 4 volC (getL volG st).1 (getL volG st).2 w):=by
 obtain⟨iE,hiE,hz0,hz1,hz2⟩:=info_parts Zfi;have hlt:=h.lt;have hcl:=World.block_lt_of_cell? w _ hc;have lob:ob<w.heap.size:=World.block_lt_of_cell? w _ hob;have ltb:tb<w.heap.size:=World.block_lt_of_cell? w _ htb;have HE:=Hd (fun(w1:World) (s:RSt) (h1:Zo rb w w1) (h2:RIn w1 rb S s)=>ZhP w1 rb rc ob tb S s h2 hS ((h1.cell (p:=⟨rc,0,none⟩) hcl nrc).trans hc) nrc ((h1.cell (p:=⟨ob,0,none⟩) lob nob).trans hob) nob ((h1.cell (p:=⟨tb,0,none⟩) ltb ntb).trans htb) ntb);have HN:=Hd (YH w rb S st h hS 1 1 rfl (by omega) (by omega));obtain⟨hb0,hb1⟩:=VL 1 st;have hgl:getL volG st=many volG (getN 1 st).1.toNat (getN 1 st).2:=rfl;rw[hgl]
 obtain⟨N,hN⟩:∃ N:Nat,(getN 1 st).1=N:=⟨(getN 1 st).1.toNat,by omega⟩
 obtain⟨s1,hs1⟩:∃ s1,(getN 1 st).2=s1:=⟨_,rfl⟩
 rw[hN]at hb0 hb1 HN ⊢;rw[hs1]at HN ⊢;rw[Int.toNat_natCast];have hN2:N≤255:=by have:(256:Int) ^ 1=256:=rfl;omega
 obtain⟨PT,hPT⟩:∃ PT,XL rb S 4 volC (many volG N s1).1 (many volG N s1).2 w=PT:=⟨_,rfl⟩
 rw[hPT];have HPT:=Hd hPT;clear h hS hc nrc hob nob lob htb ntb ltb hgl hN hs1 hb0 hb1 hPT hcl
 go_enter Tryz.func63,Tryz.ntmps63
 go_wp2_with (first
  |(go_at_call 50;(with_reducible refine HN.out.mono ?_);rintro e w1 ⟨rfl,hr1,ho1⟩;have HR1:=Hd hr1;have HO1:=Hd ho1;clear hr1 ho1)
  |fail)
 go_loopw [5,8] (fun vv vi wr=>∃ j:Nat,j≤N∧vi=.int .i64 j∧wr.ownsRow w.heap.size 28 4 vv j (ZE volC (many volG j s1).1)∧RIn wr rb S (many volG j s1).2∧Zo rb w wr) (fun _ vi _=>N - (intOf vi).toNat)
 case atStart=>exact⟨0,by omega,by simp,⟨rfl,Or.inl ⟨rfl,rfl⟩⟩,HR1.out,HO1.out⟩
 case round=>
  obtain⟨j,hj,rfl,hown,hr,ho⟩:=hrel;by_cases hlt2:j<N
  ·have hms:=Yz volG j s1
   obtain⟨s,hs⟩:∃ s,(many volG j s1).2=s:=⟨_,rfl⟩
   obtain⟨L,hL⟩:∃ L,(many volG j s1).1=L:=⟨_,rfl⟩
   have hE:=HE.out wr s ho (by rw[←hs];exact hr);rw[hs,hL]at hms;rw[hL]at hown
   obtain⟨s',hs'⟩:∃ s',(volG s).2=s':=⟨_,rfl⟩
   obtain⟨x,hx⟩:∃ x,(volG s).1=x:=⟨_,rfl⟩
   rw[hs',hx]at hE hms;clear hr hs hL hs' hx;obtain⟨x1,x2,x3,x4⟩:=x;have HEE:=Hd (show Calls Tryz.prog 64 #[.pointer (some ⟨ob,0,none⟩),.pointer (some ⟨tb,0,none⟩)] wr (ZY rb S (.agg #[.int .i64 x1,.int .i64 x2,.int .i64 x3,.int .i64 x4]) s' wr) from hE);have HMS:=Hd hms;have HOW:=Hd hown;have HON:=Hd ho;have hgs:=ho.size;clear hE hms hown ho;have hj255:j≤255:=by omega
   go_wp2_with (first
    |(go_at_call 64;(with_reducible refine HEE.out.mono ?_);rintro e w2 ⟨rfl,hr2,ho2⟩;have HR2:=Hd hr2;have HO2:=Hd (Only.ownsRow ho2 HOW.out (fun q hq hrq=>by have h9:=(HOW.out.lt q hq).1;have h8:q=rb:=hrq;omega));have HON2:=Hd (HON.out.thenP ho2);have hgs2:=HON2.out.size;clear hr2 ho2)
    |(at_builtin;refine wpList_append_own _ rfl (.tmp 10) (.tmp 13) 26 rfl w.heap.size 28 iE (.agg #[.int .i64 0,.int .i64 0,.int .i64 0,.int .i64 0]) 4 32 Tryz.underlying26 hiE hz0 hz1 hz2 rfl (by decide) _ _ _ rfl (HO2.out.alloc _) ⟨w2.heap.size,0,none⟩ 1 1 [.int .i64 x1,.int .i64 x2,.int .i64 x3,.int .i64 x4] rfl rfl (XC w2 [.int .i64 x1,.int .i64 x2,.int .i64 x3,.int .i64 x4] 28) (by intro u hu;simp only[List.mem_cons,List.not_mem_nil,or_false]at hu;(repeat' (rcases hu with hu|hu))<;>(subst_vars;rfl)) (by unfold maxLen;omega) (by omega) (by simp;omega) ?_;intro v' w3 hown1 hgrow1 _)
    |fail)
   have hon3:Zo rb w w3:=(HON2.out.alloc (.cells #[.int .i64 x1,.int .i64 x2,.int .i64 x3,.int .i64 x4] 28)).grown hgrow1 (fun q hq=>.inr ((HO2.out.alloc (.cells #[.int .i64 x1,.int .i64 x2,.int .i64 x3,.int .i64 x4] 28)).lt q hq).1)
   have hr3:RIn w3 rb S s':=by
    obtain⟨i,f,g1,g2,g3⟩:=HR2.out;refine⟨i,f,?_,g2,g3⟩;have hk:rb<w2.heap.size:=Za g1;exact(hgrow1.block rb (by simp;omega) (fun e=>by have h9:=((HO2.out.alloc (.cells #[.int .i64 x1,.int .i64 x2,.int .i64 x3,.int .i64 x4] 28)).lt rb e.symm).1;omega)).trans (Zd g1 _)
   refine⟨⟨j+1,by omega,by simp,?_,?_,hon3⟩,by simp only[intOf];omega⟩
   ·rw[HMS.out,XQ];exact hown1
   ·rw[HMS.out];exact hr3
  ·obtain rfl:j=N:=by omega
   have hlen:=Y0 volG j s1;have hown':wr.ownsRow w.heap.size 28 4 u5 (many volG j s1).1.length (ZE volC (many volG j s1).1):=by rw[hlen];exact hown
   have HRW:=Hd (JF (k:=4) (by omega) (by omega) (fun x=>rfl) (by rw[hlen];exact hN2) hown');have HRR:=Hd hr;have HOO:=Hd ho;clear hr ho hown hown' hlen
   go_wp2_with fail
   rw[←HPT.out];exact⟨_,rfl,HRW.out,HRR.out,HOO.out⟩
theorem ZgX:(Tryz.prog.info? 53).map (fun i=>(i.zero,i.size,i.bytes))=some (some (.agg #[.int .i64 0,.int .i64 0,.int .i64 0,.string ⟨#[]⟩,.string ⟨#[]⟩]),5,56):=by kernel_rfl
theorem Zdh(w:World)(rb rc ob xb:Nat)(S:ByteArray)(st:RSt)(h:RIn w rb S st)(hS:S.size≤9223372036854775807)(hc:w.cell? ⟨rc,0,none⟩=some (.pointer (some ⟨rb,0,none⟩)))(nrc:rc≠rb)(hob:FnAt w ob 49 rc)(nob:ob≠rb)(hxb:FnAt w xb 52 rc)(nxb:xb≠rb) :
 Calls Tryz.prog 65 #[.pointer (some ⟨rb,0,none⟩),.func (.func 66) #[] #[.pointer (some ⟨ob,0,none⟩),.pointer (some ⟨xb,0,none⟩)]] w (XL rb S 5 ruC (getL ruG st).1 (getL ruG st).2 w):=by
 obtain⟨iE,hiE,hz0,hz1,hz2⟩:=info_parts ZgX;have hlt:=h.lt;have hcl:=World.block_lt_of_cell? w _ hc;have lob:ob<w.heap.size:=World.block_lt_of_cell? w _ hob;have lxb:xb<w.heap.size:=World.block_lt_of_cell? w _ hxb;have HE:=Hd (fun(w1:World) (s:RSt) (h1:Zo rb w w1) (h2:RIn w1 rb S s)=>rd_ru w1 rb rc ob xb S s h2 hS ((h1.cell (p:=⟨rc,0,none⟩) hcl nrc).trans hc) nrc ((h1.cell (p:=⟨ob,0,none⟩) lob nob).trans hob) nob ((h1.cell (p:=⟨xb,0,none⟩) lxb nxb).trans hxb) nxb);have HN:=Hd (YH w rb S st h hS 1 1 rfl (by omega) (by omega));obtain⟨hb0,hb1⟩:=VL 1 st;have hgl:getL ruG st=many ruG (getN 1 st).1.toNat (getN 1 st).2:=rfl;rw[hgl]
 obtain⟨N,hN⟩:∃ N:Nat,(getN 1 st).1=N:=⟨(getN 1 st).1.toNat,by omega⟩
 obtain⟨s1,hs1⟩:∃ s1,(getN 1 st).2=s1:=⟨_,rfl⟩
 rw[hN]at hb0 hb1 HN ⊢;rw[hs1]at HN ⊢;rw[Int.toNat_natCast];have hN2:N≤255:=by have:(256:Int) ^ 1=256:=rfl;omega
 obtain⟨PT,hPT⟩:∃ PT,XL rb S 5 ruC (many ruG N s1).1 (many ruG N s1).2 w=PT:=⟨_,rfl⟩
 rw[hPT];have HPT:=Hd hPT;clear h hS hc nrc hob nob lob hxb nxb lxb hgl hN hs1 hb0 hb1 hPT hcl
 go_enter Tryz.func65,Tryz.ntmps65
 go_wp2_with (first
  |(go_at_call 50;(with_reducible refine HN.out.mono ?_);rintro e w1 ⟨rfl,hr1,ho1⟩;have HR1:=Hd hr1;have HO1:=Hd ho1;clear hr1 ho1)
  |fail)
 go_loopw [5,8] (fun vv vi wr=>∃ j:Nat,j≤N∧vi=.int .i64 j∧wr.ownsRow w.heap.size 53 5 vv j (ZE ruC (many ruG j s1).1)∧RIn wr rb S (many ruG j s1).2∧Zo rb w wr) (fun _ vi _=>N - (intOf vi).toNat)
 case atStart=>exact⟨0,by omega,by simp,⟨rfl,Or.inl ⟨rfl,rfl⟩⟩,HR1.out,HO1.out⟩
 case round=>
  obtain⟨j,hj,rfl,hown,hr,ho⟩:=hrel;by_cases hlt2:j<N
  ·have hms:=Yz ruG j s1
   obtain⟨s,hs⟩:∃ s,(many ruG j s1).2=s:=⟨_,rfl⟩
   obtain⟨L,hL⟩:∃ L,(many ruG j s1).1=L:=⟨_,rfl⟩
   have hE:=HE.out wr s ho (by rw[←hs];exact hr);rw[hs,hL]at hms;rw[hL]at hown
   obtain⟨s',hs'⟩:∃ s',(ruG s).2=s':=⟨_,rfl⟩
   obtain⟨x,hx⟩:∃ x,(ruG s).1=x:=⟨_,rfl⟩
   rw[hs',hx]at hE hms;clear hr hs hL hs' hx;obtain⟨x1,x2,x3,x4,x5⟩:=x;have HEE:=Hd (show Calls Tryz.prog 66 #[.pointer (some ⟨ob,0,none⟩),.pointer (some ⟨xb,0,none⟩)] wr (ZY rb S (.agg #[.int .i64 x1,.int .i64 x2,.int .i64 x3,.string x4,.string x5]) s' wr) from hE);have HMS:=Hd hms;have HOW:=Hd hown;have HON:=Hd ho;have hgs:=ho.size;clear hE hms hown ho;have hj255:j≤255:=by omega
   go_wp2_with (first
    |(go_at_call 66;(with_reducible refine HEE.out.mono ?_);rintro e w2 ⟨rfl,hr2,ho2⟩;have HR2:=Hd hr2;have HO2:=Hd (Only.ownsRow ho2 HOW.out (fun q hq hrq=>by have h9:=(HOW.out.lt q hq).1;have h8:q=rb:=hrq;omega));have HON2:=Hd (HON.out.thenP ho2);have hgs2:=HON2.out.size;clear hr2 ho2)
    |(at_builtin;refine wpList_append_own _ rfl (.tmp 10) (.tmp 13) 29 rfl w.heap.size 53 iE (.agg #[.int .i64 0,.int .i64 0,.int .i64 0,.string ⟨#[]⟩,.string ⟨#[]⟩]) 5 56 Tryz.underlying29 hiE hz0 hz1 hz2 rfl (by decide) _ _ _ rfl (HO2.out.alloc _) ⟨w2.heap.size,0,none⟩ 1 1 [.int .i64 x1,.int .i64 x2,.int .i64 x3,.string x4,.string x5] rfl rfl (XC w2 [.int .i64 x1,.int .i64 x2,.int .i64 x3,.string x4,.string x5] 53) (by intro u hu;simp only[List.mem_cons,List.not_mem_nil,or_false]at hu;(repeat' (rcases hu with hu|hu))<;>(subst_vars;rfl)) (by unfold maxLen;omega) (by omega) (by simp;omega) ?_;intro v' w3 hown1 hgrow1 _)
    |fail)
   have hon3:Zo rb w w3:=(HON2.out.alloc (.cells #[.int .i64 x1,.int .i64 x2,.int .i64 x3,.string x4,.string x5] 53)).grown hgrow1 (fun q hq=>.inr ((HO2.out.alloc (.cells #[.int .i64 x1,.int .i64 x2,.int .i64 x3,.string x4,.string x5] 53)).lt q hq).1)
   have hr3:RIn w3 rb S s':=by
    obtain⟨i,f,g1,g2,g3⟩:=HR2.out;refine⟨i,f,?_,g2,g3⟩;have hk:rb<w2.heap.size:=Za g1;exact(hgrow1.block rb (by simp;omega) (fun e=>by have h9:=((HO2.out.alloc (.cells #[.int .i64 x1,.int .i64 x2,.int .i64 x3,.string x4,.string x5] 53)).lt rb e.symm).1;omega)).trans (Zd g1 _)
   refine⟨⟨j+1,by omega,by simp,?_,?_,hon3⟩,by simp only[intOf];omega⟩
   ·rw[HMS.out,XQ];exact hown1
   ·rw[HMS.out];exact hr3
  ·obtain rfl:j=N:=by omega
   have hlen:=Y0 ruG j s1;have hown':wr.ownsRow w.heap.size 53 5 u5 (many ruG j s1).1.length (ZE ruC (many ruG j s1).1):=by rw[hlen];exact hown
   have HRW:=Hd (JF (k:=5) (by omega) (by omega) (fun x=>rfl) (by rw[hlen];exact hN2) hown');have HRR:=Hd hr;have HOO:=Hd ho;clear hr ho hown hown' hlen
   go_wp2_with fail
   rw[←HPT.out];exact⟨_,rfl,HRW.out,HRR.out,HOO.out⟩
theorem Zfk:(Tryz.prog.info? 9).map (fun i=>(i.zero,i.size,i.bytes))=some (some (.string ⟨#[]⟩),1,16):=by kernel_rfl
theorem Zbi(w:World)(rb rc  : Nat)(S:ByteArray)(st:RSt)(h:RIn w rb S st)(hS:S.size≤9223372036854775807)(hc:w.cell? ⟨rc,0,none⟩=some (.pointer (some ⟨rb,0,none⟩)))(nrc:rc≠rb)  :
 Calls Tryz.prog 67 #[.pointer (some ⟨rb,0,none⟩),.func (.func 52) #[] #[.pointer (some ⟨rc,0,none⟩)]] w (XL rb S 1 keyC (getL getT st).1 (getL getT st).2 w):=by
 obtain⟨iE,hiE,hz0,hz1,hz2⟩:=info_parts Zfk;have hlt:=h.lt;have hcl:=World.block_lt_of_cell? w _ hc;have HE:=Hd (fun(w1:World) (s:RSt) (h1:Zo rb w w1) (h2:RIn w1 rb S s)=>Zcy w1 rb rc S s h2 hS ((h1.cell (p:=⟨rc,0,none⟩) hcl nrc).trans hc));have HN:=Hd (YH w rb S st h hS 1 1 rfl (by omega) (by omega));obtain⟨hb0,hb1⟩:=VL 1 st;have hgl:getL getT st=many getT (getN 1 st).1.toNat (getN 1 st).2:=rfl;rw[hgl]
 obtain⟨N,hN⟩:∃ N:Nat,(getN 1 st).1=N:=⟨(getN 1 st).1.toNat,by omega⟩
 obtain⟨s1,hs1⟩:∃ s1,(getN 1 st).2=s1:=⟨_,rfl⟩
 rw[hN]at hb0 hb1 HN ⊢;rw[hs1]at HN ⊢;rw[Int.toNat_natCast];have hN2:N≤255:=by have:(256:Int) ^ 1=256:=rfl;omega
 obtain⟨PT,hPT⟩:∃ PT,XL rb S 1 keyC (many getT N s1).1 (many getT N s1).2 w=PT:=⟨_,rfl⟩
 rw[hPT];have HPT:=Hd hPT;clear h hS hc nrc  hgl hN hs1 hb0 hb1 hPT hcl
 go_enter Tryz.func67,Tryz.ntmps67
 go_wp2_with (first
  |(go_at_call 50;(with_reducible refine HN.out.mono ?_);rintro e w1 ⟨rfl,hr1,ho1⟩;have HR1:=Hd hr1;have HO1:=Hd ho1;clear hr1 ho1)
  |fail)
 go_loopw [5,8] (fun vv vi wr=>∃ j:Nat,j≤N∧vi=.int .i64 j∧wr.ownsRow w.heap.size 9 1 vv j (ZE keyC (many getT j s1).1)∧RIn wr rb S (many getT j s1).2∧Zo rb w wr) (fun _ vi _=>N - (intOf vi).toNat)
 case atStart=>exact⟨0,by omega,by simp,⟨rfl,Or.inl ⟨rfl,rfl⟩⟩,HR1.out,HO1.out⟩
 case round=>
  obtain⟨j,hj,rfl,hown,hr,ho⟩:=hrel;by_cases hlt2:j<N
  ·have hms:=Yz getT j s1
   obtain⟨s,hs⟩:∃ s,(many getT j s1).2=s:=⟨_,rfl⟩
   obtain⟨L,hL⟩:∃ L,(many getT j s1).1=L:=⟨_,rfl⟩
   have hE:=HE.out wr s ho (by rw[←hs];exact hr);rw[hs,hL]at hms;rw[hL]at hown
   obtain⟨s',hs'⟩:∃ s',(getT s).2=s':=⟨_,rfl⟩
   obtain⟨x,hx⟩:∃ x,(getT s).1=x:=⟨_,rfl⟩
   rw[hs',hx]at hE hms;clear hr hs hL hs' hx;have HEE:=Hd (show Calls Tryz.prog 52 #[.pointer (some ⟨rc,0,none⟩)] wr (ZY rb S (.string x) s' wr) from hE);have HMS:=Hd hms;have HOW:=Hd hown;have HON:=Hd ho;have hgs:=ho.size;clear hE hms hown ho;have hj255:j≤255:=by omega
   go_wp2_with (first
    |(go_at_call 52;(with_reducible refine HEE.out.mono ?_);rintro e w2 ⟨rfl,hr2,ho2⟩;have HR2:=Hd hr2;have HO2:=Hd (Only.ownsRow ho2 HOW.out (fun q hq hrq=>by have h9:=(HOW.out.lt q hq).1;have h8:q=rb:=hrq;omega));have HON2:=Hd (HON.out.thenP ho2);have hgs2:=HON2.out.size;clear hr2 ho2)
    |(at_builtin;refine wpList_append_own _ rfl (.tmp 10) (.tmp 13) 30 rfl w.heap.size 9 iE (.string ⟨#[]⟩) 1 16 Tryz.underlying30 hiE hz0 hz1 hz2 rfl (by decide) _ _ _ rfl (HO2.out.alloc _) ⟨w2.heap.size,0,none⟩ 1 1 [.string x] rfl rfl (XC w2 [.string x] 9) (by intro u hu;simp only[List.mem_cons,List.not_mem_nil,or_false]at hu;(repeat' (rcases hu with hu|hu))<;>(subst_vars;rfl)) (by unfold maxLen;omega) (by omega) (by simp;omega) ?_;intro v' w3 hown1 hgrow1 _)
    |fail)
   have hon3:Zo rb w w3:=(HON2.out.alloc (.cells #[.string x] 9)).grown hgrow1 (fun q hq=>.inr ((HO2.out.alloc (.cells #[.string x] 9)).lt q hq).1)
   have hr3:RIn w3 rb S s':=by
    obtain⟨i,f,g1,g2,g3⟩:=HR2.out;refine⟨i,f,?_,g2,g3⟩;have hk:rb<w2.heap.size:=Za g1;exact(hgrow1.block rb (by simp;omega) (fun e=>by have h9:=((HO2.out.alloc (.cells #[.string x] 9)).lt rb e.symm).1;omega)).trans (Zd g1 _)
   refine⟨⟨j+1,by omega,by simp,?_,?_,hon3⟩,by simp only[intOf];omega⟩
   ·rw[HMS.out,XQ];exact hown1
   ·rw[HMS.out];exact hr3
  ·obtain rfl:j=N:=by omega
   have hlen:=Y0 getT j s1;have hown':wr.ownsRow w.heap.size 9 1 u5 (many getT j s1).1.length (ZE keyC (many getT j s1).1):=by rw[hlen];exact hown
   have HRW:=Hd (JF (k:=1) (by omega) (by omega) (fun x=>rfl) (by rw[hlen];exact hN2) hown');have HRR:=Hd hr;have HOO:=Hd ho;clear hr ho hown hown' hlen
   go_wp2_with fail
   rw[←HPT.out];exact⟨_,rfl,HRW.out,HRR.out,HOO.out⟩
end Go.Proofs.YtbchkjfnakabkaaGreatDoor
