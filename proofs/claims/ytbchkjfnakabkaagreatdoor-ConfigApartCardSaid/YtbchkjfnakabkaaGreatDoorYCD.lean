import Derived.Test.YtbchkjfnakabkaaGreatDoorYAB
import Derived.Laws.EntriesVeiled
set_option linter.unusedSimpArgs false
set_option linter.unusedVariables false
set_option maxHeartbeats 4000000
set_option maxRecDepth 100000
namespace Go.Proofs.YtbchkjfnakabkaaGreatDoor
open Go.RowKit PX PC
theorem RIn.setOther{w:World}{rb:Nat}{S:ByteArray}{st:RSt}(h:RIn w rb S st){g:Nat}(hg:¬ g=rb)(j:Nat)(u:Value):RIn (w.setCell ⟨g,j,none⟩ u) rb S st:=by
 obtain⟨i,f,h1,h2,h3⟩:=h;exact⟨i,f,(((Only.refl (IsPb g) w).setCell (p:=⟨g,j,none⟩) (.inl (show IsPb g g from rfl)) u).block rb (Zb h1) (show ¬IsPb g rb from λe=>hg e.symm)).trans h1,h2,h3⟩
theorem RIn.drewW{w:World}{rb:Nat}{S:ByteArray}{st:RSt}(h:RIn w rb S st):RIn w.drew rb S st:=h
def FnAt(w:World)(b:Nat)(f:FuncId)(rc:Nat):Prop:=w.cell? ⟨b,0,none⟩=some (.func (.func f) #[] #[.pointer (some ⟨rc,0,none⟩)])
theorem Zed:(Tryz.prog.info? 47).map (·.size)=some 2:=by kernel_rfl
theorem Zhk(w:World)(rb rc ob:Nat)(S:ByteArray)(st:RSt)(h:RIn w rb S st)(hS:S.size<=9223372036854775807)(hc:w.cell? ⟨rc,0,none⟩=some (.pointer (some ⟨rb,0,none⟩)))(nrc:rc≠rb)(hob:FnAt w ob 49 rc)(nob:ob≠rb) :
 Calls Tryz.prog 56 #[.pointer (some ⟨ob,0,none⟩)] w (ZZ rb S (.agg (Xx (YJ st).1).toArray) (YJ st).2 w):=by
 show Calls Tryz.prog 56 #[.pointer (some ⟨ob,0,none⟩)] w (ZZ rb S (.agg #[.int .i64 (getN 1 st).1,.int .i64 (getN 1 (getN 1 st).2).1]) (getN 1 (getN 1 st).2).2 w);have y0:=h.lt;have g0:=World.block_lt_of_cell? w _ hc;have lob:ob<w.heap.size:=World.block_lt_of_cell? w _ hob;have HC:=Hd (λ(w1:World) (h1:Zp rb w w1)=>(h1.cell (p:=⟨rc,0,none⟩) g0 nrc).trans hc);have HF:=Hd (λ(w':World) (h1:Zp rb w w')=>show w'.cell? ⟨ob,0,none⟩=some (.func (.func 49) #[] #[.pointer (some ⟨rc,0,none⟩)]) from(h1.cell (p:=⟨ob,0,none⟩) lob nob).trans hob);have r0:=Hd (λ(w1:World) (s:RSt) (h1:Zp rb w w1) (h2:RIn w1 rb S s)=>show Calls Tryz.prog 49 #[.pointer (some ⟨rc,0,none⟩)] w1 (ZZ rb S (.int .i64 (getN 1 s).1) (getN 1 s).2 w1) from EX w1 rb rc S s h2 hS (HC.out w1 h1));have HH:=Hd h;clear h hS hc nrc hob nob lob g0
 go_enter Tryz.func56,Tryz.ntmps56
 go_upto_region 1 with fail
 obtain⟨w1,hw1⟩:∃ w1,w.alloc (.cells #[.int .i64 0,.int .i64 0] 47)=w1:=⟨_,rfl⟩
 obtain⟨g,hg⟩:∃ g,w.heap.size=g:=⟨_,rfl⟩
 have hb:w1.heap[g]?=some (.cells #[.int .i64 0,.int .i64 0] 47 (0,0)):=by rw[<-hw1,<-hg];exact Zd w _
 have hl:Later w w1:=by rw[<-hw1];exact(Later.refl w).alloc _
 rw[hw1,hg];have k0:=HH.out.later hl;have T0:=RIn.drewW k0;have l0:Zp rb w w1:=Only.of_below hl;have j0:w.heap.size<=g:=by omega
 have m0:¬ g=rb:=by omega
 have R0:=Hd (λ(w':World) (h1:Zp rb w1 w')=>(h1.block g (Zb hb) (show ¬IsPb rb g from m0)).trans hb);obtain f0:=HF.out w1 l0;have d1:Zp rb w1 w1:=Only.refl _ _;clear hw1 hg hb hl y0
 go_region_held3 (fun w'=>w'.cell? ⟨ob,0,none⟩=some (.func (.func 49) #[] #[.pointer (some ⟨rc,0,none⟩)]))
  (exact HF.out _ (by repeat(first|assumption|refine Only.drew ?_|refine Only.setCell ?_ (.inr j0) _|refine Only.thenP ?_ (by assumption))))
  (first
   |(go_at_call 49;(with_reducible refine(r0.out _ _ (by repeat(first|assumption|refine Only.drew ?_|refine Only.setCell ?_ (.inr j0) _|refine Only.thenP ?_ (by assumption))) (by assumption)).mono ?_);rintro e w2 ⟨rfl,hr,ho⟩;have W0:=RIn.drewW hr;have a0:=R0.out w2 (by repeat(first|assumption|refine Only.drew ?_|refine Only.setCell ?_ (.inr j0) _|refine Only.thenP ?_ (by assumption)));have c0:=Za a0 0;have z0:=Zc a0 0;have c1:=Za a0 1;have z1:=Zc a0 1;have n0:=Zb a0;have q0:=Hd a0;clear a0)
   |fail)
 all_goals
  go_wp2_with fail
  refine bodyPost_ret (results_cell_row rfl _ _ g 47 #[.int .i64 (getN 1 st).1,.int .i64 (getN 1 (getN 1 st).2).1] (0,0) _ rfl ((Zf (Zf q0.out 0 _) 1 _).trans rfl) Tryz.underlying47 rfl Zed) rfl ⟨rfl,?_,?_⟩
  ·exact(RIn.setOther (RIn.setOther hr m0 0 _) m0 1 _)
  ·exact(by repeat(first|assumption|refine Only.drew ?_|refine Only.setCell ?_ (.inr j0) _|refine Only.thenP ?_ (by assumption)))
theorem Zeb:(Tryz.prog.info? 49).map (·.size)=some 2:=by kernel_rfl
theorem Zhj(w:World)(rb rc ob:Nat)(S:ByteArray)(st:RSt)(h:RIn w rb S st)(hS:S.size<=9223372036854775807)(hc:w.cell? ⟨rc,0,none⟩=some (.pointer (some ⟨rb,0,none⟩)))(nrc:rc≠rb)(hob:FnAt w ob 49 rc)(nob:ob≠rb) :
 Calls Tryz.prog 58 #[.pointer (some ⟨ob,0,none⟩)] w (ZZ rb S (.agg (XQ (YI st).1).toArray) (YI st).2 w):=by
 show Calls Tryz.prog 58 #[.pointer (some ⟨ob,0,none⟩)] w (ZZ rb S (.agg #[.int .i64 (getN 1 st).1,.int .i64 (getN 1 (getN 1 st).2).1]) (getN 1 (getN 1 st).2).2 w);have y0:=h.lt;have g0:=World.block_lt_of_cell? w _ hc;have lob:ob<w.heap.size:=World.block_lt_of_cell? w _ hob;have HC:=Hd (λ(w1:World) (h1:Zp rb w w1)=>(h1.cell (p:=⟨rc,0,none⟩) g0 nrc).trans hc);have HF:=Hd (λ(w':World) (h1:Zp rb w w')=>show w'.cell? ⟨ob,0,none⟩=some (.func (.func 49) #[] #[.pointer (some ⟨rc,0,none⟩)]) from(h1.cell (p:=⟨ob,0,none⟩) lob nob).trans hob);have r0:=Hd (λ(w1:World) (s:RSt) (h1:Zp rb w w1) (h2:RIn w1 rb S s)=>show Calls Tryz.prog 49 #[.pointer (some ⟨rc,0,none⟩)] w1 (ZZ rb S (.int .i64 (getN 1 s).1) (getN 1 s).2 w1) from EX w1 rb rc S s h2 hS (HC.out w1 h1));have HH:=Hd h;clear h hS hc nrc hob nob lob g0
 go_enter Tryz.func58,Tryz.ntmps58
 go_upto_region 1 with fail
 obtain⟨w1,hw1⟩:∃ w1,w.alloc (.cells #[.int .i64 0,.int .i64 0] 49)=w1:=⟨_,rfl⟩
 obtain⟨g,hg⟩:∃ g,w.heap.size=g:=⟨_,rfl⟩
 have hb:w1.heap[g]?=some (.cells #[.int .i64 0,.int .i64 0] 49 (0,0)):=by rw[<-hw1,<-hg];exact Zd w _
 have hl:Later w w1:=by rw[<-hw1];exact(Later.refl w).alloc _
 rw[hw1,hg];have k0:=HH.out.later hl;have T0:=RIn.drewW k0;have l0:Zp rb w w1:=Only.of_below hl;have j0:w.heap.size<=g:=by omega
 have m0:¬ g=rb:=by omega
 have R0:=Hd (λ(w':World) (h1:Zp rb w1 w')=>(h1.block g (Zb hb) (show ¬IsPb rb g from m0)).trans hb);obtain f0:=HF.out w1 l0;have d1:Zp rb w1 w1:=Only.refl _ _;clear hw1 hg hb hl y0
 go_region_held3 (fun w'=>w'.cell? ⟨ob,0,none⟩=some (.func (.func 49) #[] #[.pointer (some ⟨rc,0,none⟩)]))
  (exact HF.out _ (by repeat(first|assumption|refine Only.drew ?_|refine Only.setCell ?_ (.inr j0) _|refine Only.thenP ?_ (by assumption))))
  (first
   |(go_at_call 49;(with_reducible refine(r0.out _ _ (by repeat(first|assumption|refine Only.drew ?_|refine Only.setCell ?_ (.inr j0) _|refine Only.thenP ?_ (by assumption))) (by assumption)).mono ?_);rintro e w2 ⟨rfl,hr,ho⟩;have W0:=RIn.drewW hr;have a0:=R0.out w2 (by repeat(first|assumption|refine Only.drew ?_|refine Only.setCell ?_ (.inr j0) _|refine Only.thenP ?_ (by assumption)));have c0:=Za a0 0;have z0:=Zc a0 0;have c1:=Za a0 1;have z1:=Zc a0 1;have n0:=Zb a0;have q0:=Hd a0;clear a0)
   |fail)
 all_goals
  go_wp2_with fail
  refine bodyPost_ret (results_cell_row rfl _ _ g 49 #[.int .i64 (getN 1 st).1,.int .i64 (getN 1 (getN 1 st).2).1] (0,0) _ rfl ((Zf (Zf q0.out 0 _) 1 _).trans rfl) Tryz.underlying49 rfl Zeb) rfl ⟨rfl,?_,?_⟩
  ·exact(RIn.setOther (RIn.setOther hr m0 0 _) m0 1 _)
  ·exact(by repeat(first|assumption|refine Only.drew ?_|refine Only.setCell ?_ (.inr j0) _|refine Only.thenP ?_ (by assumption)))
theorem ZfZ:(Tryz.prog.info? 55).map (·.size)=some 3:=by kernel_rfl
theorem Ziz(w:World)(rb rc ob:Nat)(S:ByteArray)(st:RSt)(h:RIn w rb S st)(hS:S.size<=9223372036854775807)(hc:w.cell? ⟨rc,0,none⟩=some (.pointer (some ⟨rb,0,none⟩)))(nrc:rc≠rb)(hob:FnAt w ob 49 rc)(nob:ob≠rb) :
 Calls Tryz.prog 60 #[.pointer (some ⟨ob,0,none⟩)] w (ZZ rb S (.agg (winC (winG st).1).toArray) (winG st).2 w):=by
 show Calls Tryz.prog 60 #[.pointer (some ⟨ob,0,none⟩)] w (ZZ rb S (.agg #[.int .i64 (getN 1 st).1,.int .i64 (getN 1 (getN 1 st).2).1,.int .i64 (getN 1 (getN 1 (getN 1 st).2).2).1]) (getN 1 (getN 1 (getN 1 st).2).2).2 w);have y0:=h.lt;have g0:=World.block_lt_of_cell? w _ hc;have lob:ob<w.heap.size:=World.block_lt_of_cell? w _ hob;have HC:=Hd (λ(w1:World) (h1:Zp rb w w1)=>(h1.cell (p:=⟨rc,0,none⟩) g0 nrc).trans hc);have HF:=Hd (λ(w':World) (h1:Zp rb w w')=>show w'.cell? ⟨ob,0,none⟩=some (.func (.func 49) #[] #[.pointer (some ⟨rc,0,none⟩)]) from(h1.cell (p:=⟨ob,0,none⟩) lob nob).trans hob);have r0:=Hd (λ(w1:World) (s:RSt) (h1:Zp rb w w1) (h2:RIn w1 rb S s)=>show Calls Tryz.prog 49 #[.pointer (some ⟨rc,0,none⟩)] w1 (ZZ rb S (.int .i64 (getN 1 s).1) (getN 1 s).2 w1) from EX w1 rb rc S s h2 hS (HC.out w1 h1));have HH:=Hd h;clear h hS hc nrc hob nob lob g0
 go_enter Tryz.func60,Tryz.ntmps60
 go_upto_region 1 with fail
 obtain⟨w1,hw1⟩:∃ w1,w.alloc (.cells #[.int .i64 0,.int .i64 0,.int .i64 0] 55)=w1:=⟨_,rfl⟩
 obtain⟨g,hg⟩:∃ g,w.heap.size=g:=⟨_,rfl⟩
 have hb:w1.heap[g]?=some (.cells #[.int .i64 0,.int .i64 0,.int .i64 0] 55 (0,0)):=by rw[<-hw1,<-hg];exact Zd w _
 have hl:Later w w1:=by rw[<-hw1];exact(Later.refl w).alloc _
 rw[hw1,hg];have k0:=HH.out.later hl;have T0:=RIn.drewW k0;have l0:Zp rb w w1:=Only.of_below hl;have j0:w.heap.size<=g:=by omega
 have m0:¬ g=rb:=by omega
 have R0:=Hd (λ(w':World) (h1:Zp rb w1 w')=>(h1.block g (Zb hb) (show ¬IsPb rb g from m0)).trans hb);obtain f0:=HF.out w1 l0;have d1:Zp rb w1 w1:=Only.refl _ _;clear hw1 hg hb hl y0
 go_region_held3 (fun w'=>w'.cell? ⟨ob,0,none⟩=some (.func (.func 49) #[] #[.pointer (some ⟨rc,0,none⟩)]))
  (exact HF.out _ (by repeat(first|assumption|refine Only.drew ?_|refine Only.setCell ?_ (.inr j0) _|refine Only.thenP ?_ (by assumption))))
  (first
   |(go_at_call 49;(with_reducible refine(r0.out _ _ (by repeat(first|assumption|refine Only.drew ?_|refine Only.setCell ?_ (.inr j0) _|refine Only.thenP ?_ (by assumption))) (by assumption)).mono ?_);rintro e w2 ⟨rfl,hr,ho⟩;have W0:=RIn.drewW hr;have a0:=R0.out w2 (by repeat(first|assumption|refine Only.drew ?_|refine Only.setCell ?_ (.inr j0) _|refine Only.thenP ?_ (by assumption)));have c0:=Za a0 0;have z0:=Zc a0 0;have c1:=Za a0 1;have z1:=Zc a0 1;have c2:=Za a0 2;have z2:=Zc a0 2;have n0:=Zb a0;have q0:=Hd a0;clear a0)
   |fail)
 all_goals
  go_wp2_with fail
  refine bodyPost_ret (results_cell_row rfl _ _ g 55 #[.int .i64 (getN 1 st).1,.int .i64 (getN 1 (getN 1 st).2).1,.int .i64 (getN 1 (getN 1 (getN 1 st).2).2).1] (0,0) _ rfl ((Zf (Zf (Zf q0.out 0 _) 1 _) 2 _).trans rfl) Tryz.underlying55 rfl ZfZ) rfl ⟨rfl,?_,?_⟩
  ·exact(RIn.setOther (RIn.setOther (RIn.setOther hr m0 0 _) m0 1 _) m0 2 _)
  ·exact(by repeat(first|assumption|refine Only.drew ?_|refine Only.setCell ?_ (.inr j0) _|refine Only.thenP ?_ (by assumption)))
theorem Zf2:(Tryz.prog.info? 51).map (·.size)=some 5:=by kernel_rfl
theorem ZiB(w:World)(rb rc ob:Nat)(S:ByteArray)(st:RSt)(h:RIn w rb S st)(hS:S.size<=9223372036854775807)(hc:w.cell? ⟨rc,0,none⟩=some (.pointer (some ⟨rb,0,none⟩)))(nrc:rc≠rb)(hob:FnAt w ob 49 rc)(nob:ob≠rb) :
 Calls Tryz.prog 62 #[.pointer (some ⟨ob,0,none⟩)] w (ZZ rb S (.agg (porC (porG st).1).toArray) (porG st).2 w):=by
 show Calls Tryz.prog 62 #[.pointer (some ⟨ob,0,none⟩)] w (ZZ rb S (.agg #[.int .i64 (getN 1 st).1,.int .i64 (getN 1 (getN 1 st).2).1,.int .i64 (getN 1 (getN 1 (getN 1 st).2).2).1,.int .i64 (getN 1 (getN 1 (getN 1 (getN 1 st).2).2).2).1,.int .i64 (getN 1 (getN 1 (getN 1 (getN 1 (getN 1 st).2).2).2).2).1]) (getN 1 (getN 1 (getN 1 (getN 1 (getN 1 st).2).2).2).2).2 w);have y0:=h.lt;have g0:=World.block_lt_of_cell? w _ hc;have lob:ob<w.heap.size:=World.block_lt_of_cell? w _ hob;have HC:=Hd (λ(w1:World) (h1:Zp rb w w1)=>(h1.cell (p:=⟨rc,0,none⟩) g0 nrc).trans hc);have HF:=Hd (λ(w':World) (h1:Zp rb w w')=>show w'.cell? ⟨ob,0,none⟩=some (.func (.func 49) #[] #[.pointer (some ⟨rc,0,none⟩)]) from(h1.cell (p:=⟨ob,0,none⟩) lob nob).trans hob);have r0:=Hd (λ(w1:World) (s:RSt) (h1:Zp rb w w1) (h2:RIn w1 rb S s)=>show Calls Tryz.prog 49 #[.pointer (some ⟨rc,0,none⟩)] w1 (ZZ rb S (.int .i64 (getN 1 s).1) (getN 1 s).2 w1) from EX w1 rb rc S s h2 hS (HC.out w1 h1));have HH:=Hd h;clear h hS hc nrc hob nob lob g0
 go_enter Tryz.func62,Tryz.ntmps62
 go_upto_region 1 with fail
 obtain⟨w1,hw1⟩:∃ w1,w.alloc (.cells #[.int .i64 0,.int .i64 0,.int .i64 0,.int .i64 0,.int .i64 0] 51)=w1:=⟨_,rfl⟩
 obtain⟨g,hg⟩:∃ g,w.heap.size=g:=⟨_,rfl⟩
 have hb:w1.heap[g]?=some (.cells #[.int .i64 0,.int .i64 0,.int .i64 0,.int .i64 0,.int .i64 0] 51 (0,0)):=by rw[<-hw1,<-hg];exact Zd w _
 have hl:Later w w1:=by rw[<-hw1];exact(Later.refl w).alloc _
 rw[hw1,hg];have k0:=HH.out.later hl;have T0:=RIn.drewW k0;have l0:Zp rb w w1:=Only.of_below hl;have j0:w.heap.size<=g:=by omega
 have m0:¬ g=rb:=by omega
 have R0:=Hd (λ(w':World) (h1:Zp rb w1 w')=>(h1.block g (Zb hb) (show ¬IsPb rb g from m0)).trans hb);obtain f0:=HF.out w1 l0;have d1:Zp rb w1 w1:=Only.refl _ _;clear hw1 hg hb hl y0
 go_region_held3 (fun w'=>w'.cell? ⟨ob,0,none⟩=some (.func (.func 49) #[] #[.pointer (some ⟨rc,0,none⟩)]))
  (exact HF.out _ (by repeat(first|assumption|refine Only.drew ?_|refine Only.setCell ?_ (.inr j0) _|refine Only.thenP ?_ (by assumption))))
  (first
   |(go_at_call 49;(with_reducible refine(r0.out _ _ (by repeat(first|assumption|refine Only.drew ?_|refine Only.setCell ?_ (.inr j0) _|refine Only.thenP ?_ (by assumption))) (by assumption)).mono ?_);rintro e w2 ⟨rfl,hr,ho⟩;have W0:=RIn.drewW hr;have a0:=R0.out w2 (by repeat(first|assumption|refine Only.drew ?_|refine Only.setCell ?_ (.inr j0) _|refine Only.thenP ?_ (by assumption)));have c0:=Za a0 0;have z0:=Zc a0 0;have c1:=Za a0 1;have z1:=Zc a0 1;have c2:=Za a0 2;have z2:=Zc a0 2;have c3:=Za a0 3;have z3:=Zc a0 3;have c4:=Za a0 4;have z4:=Zc a0 4;have n0:=Zb a0;have q0:=Hd a0;clear a0)
   |fail)
 all_goals
  go_wp2_with fail
  refine bodyPost_ret (results_cell_row rfl _ _ g 51 #[.int .i64 (getN 1 st).1,.int .i64 (getN 1 (getN 1 st).2).1,.int .i64 (getN 1 (getN 1 (getN 1 st).2).2).1,.int .i64 (getN 1 (getN 1 (getN 1 (getN 1 st).2).2).2).1,.int .i64 (getN 1 (getN 1 (getN 1 (getN 1 (getN 1 st).2).2).2).2).1] (0,0) _ rfl ((Zf (Zf (Zf (Zf (Zf q0.out 0 _) 1 _) 2 _) 3 _) 4 _).trans rfl) Tryz.underlying51 rfl Zf2) rfl ⟨rfl,?_,?_⟩
  ·exact(RIn.setOther (RIn.setOther (RIn.setOther (RIn.setOther (RIn.setOther hr m0 0 _) m0 1 _) m0 2 _) m0 3 _) m0 4 _)
  ·exact(by repeat(first|assumption|refine Only.drew ?_|refine Only.setCell ?_ (.inr j0) _|refine Only.thenP ?_ (by assumption)))
theorem Zf0:(Tryz.prog.info? 28).map (·.size)=some 4:=by kernel_rfl
theorem ZiA(w:World)(rb rc ob tb:Nat)(S:ByteArray)(st:RSt)(h:RIn w rb S st)(hS:S.size<=9223372036854775807)(hc:w.cell? ⟨rc,0,none⟩=some (.pointer (some ⟨rb,0,none⟩)))(nrc:rc≠rb)(hob:FnAt w ob 49 rc)(nob:ob≠rb)(htb:FnAt w tb 51 rc)(ntb:tb≠rb) :
 Calls Tryz.prog 64 #[.pointer (some ⟨ob,0,none⟩),.pointer (some ⟨tb,0,none⟩)] w (ZZ rb S (.agg (volC (volG st).1).toArray) (volG st).2 w):=by
 show Calls Tryz.prog 64 #[.pointer (some ⟨ob,0,none⟩),.pointer (some ⟨tb,0,none⟩)] w (ZZ rb S (.agg #[.int .i64 (getN 1 st).1,.int .i64 (getN 2 (getN 1 st).2).1,.int .i64 (getN 2 (getN 2 (getN 1 st).2).2).1,.int .i64 (getN 2 (getN 2 (getN 2 (getN 1 st).2).2).2).1]) (getN 2 (getN 2 (getN 2 (getN 1 st).2).2).2).2 w);have y0:=h.lt;have g0:=World.block_lt_of_cell? w _ hc;have lob:ob<w.heap.size:=World.block_lt_of_cell? w _ hob;have ltb:tb<w.heap.size:=World.block_lt_of_cell? w _ htb;have HC:=Hd (λ(w1:World) (h1:Zp rb w w1)=>(h1.cell (p:=⟨rc,0,none⟩) g0 nrc).trans hc);have HF:=Hd (λ(w':World) (h1:Zp rb w w')=>show w'.cell? ⟨ob,0,none⟩=some (.func (.func 49) #[] #[.pointer (some ⟨rc,0,none⟩)])/\w'.cell? ⟨tb,0,none⟩=some (.func (.func 51) #[] #[.pointer (some ⟨rc,0,none⟩)]) from⟨(h1.cell (p:=⟨ob,0,none⟩) lob nob).trans hob,(h1.cell (p:=⟨tb,0,none⟩) ltb ntb).trans htb⟩);have r0:=Hd (λ(w1:World) (s:RSt) (h1:Zp rb w w1) (h2:RIn w1 rb S s)=>show Calls Tryz.prog 49 #[.pointer (some ⟨rc,0,none⟩)] w1 (ZZ rb S (.int .i64 (getN 1 s).1) (getN 1 s).2 w1) from EX w1 rb rc S s h2 hS (HC.out w1 h1));have e1:=Hd (λ(w1:World) (s:RSt) (h1:Zp rb w w1) (h2:RIn w1 rb S s)=>show Calls Tryz.prog 51 #[.pointer (some ⟨rc,0,none⟩)] w1 (ZZ rb S (.int .i64 (getN 2 s).1) (getN 2 s).2 w1) from B5 w1 rb rc S s h2 hS (HC.out w1 h1));have HH:=Hd h;clear h hS hc nrc hob nob lob htb ntb ltb g0
 go_enter Tryz.func64,Tryz.ntmps64
 go_upto_region 1 with fail
 obtain⟨w1,hw1⟩:∃ w1,w.alloc (.cells #[.int .i64 0,.int .i64 0,.int .i64 0,.int .i64 0] 28)=w1:=⟨_,rfl⟩
 obtain⟨g,hg⟩:∃ g,w.heap.size=g:=⟨_,rfl⟩
 have hb:w1.heap[g]?=some (.cells #[.int .i64 0,.int .i64 0,.int .i64 0,.int .i64 0] 28 (0,0)):=by rw[<-hw1,<-hg];exact Zd w _
 have hl:Later w w1:=by rw[<-hw1];exact(Later.refl w).alloc _
 rw[hw1,hg];have k0:=HH.out.later hl;have T0:=RIn.drewW k0;have l0:Zp rb w w1:=Only.of_below hl;have j0:w.heap.size<=g:=by omega
 have m0:¬ g=rb:=by omega
 have R0:=Hd (λ(w':World) (h1:Zp rb w1 w')=>(h1.block g (Zb hb) (show ¬IsPb rb g from m0)).trans hb);obtain⟨f0,f1⟩:=HF.out w1 l0;have d1:Zp rb w1 w1:=Only.refl _ _;clear hw1 hg hb hl y0
 go_region_held3 (fun w'=>w'.cell? ⟨ob,0,none⟩=some (.func (.func 49) #[] #[.pointer (some ⟨rc,0,none⟩)])∧w'.cell? ⟨tb,0,none⟩=some (.func (.func 51) #[] #[.pointer (some ⟨rc,0,none⟩)]))
  (exact HF.out _ (by repeat(first|assumption|refine Only.drew ?_|refine Only.setCell ?_ (.inr j0) _|refine Only.thenP ?_ (by assumption))))
  (first
   |(go_at_call 49;(with_reducible refine(r0.out _ _ (by repeat(first|assumption|refine Only.drew ?_|refine Only.setCell ?_ (.inr j0) _|refine Only.thenP ?_ (by assumption))) (by assumption)).mono ?_);rintro e w2 ⟨rfl,hr,ho⟩;have W0:=RIn.drewW hr;have a0:=R0.out w2 (by repeat(first|assumption|refine Only.drew ?_|refine Only.setCell ?_ (.inr j0) _|refine Only.thenP ?_ (by assumption)));have c0:=Za a0 0;have z0:=Zc a0 0;have c1:=Za a0 1;have z1:=Zc a0 1;have c2:=Za a0 2;have z2:=Zc a0 2;have c3:=Za a0 3;have z3:=Zc a0 3;have n0:=Zb a0;have q0:=Hd a0;clear a0)
   |(go_at_call 51;(with_reducible refine(e1.out _ _ (by repeat(first|assumption|refine Only.drew ?_|refine Only.setCell ?_ (.inr j0) _|refine Only.thenP ?_ (by assumption))) (by assumption)).mono ?_);rintro e w2 ⟨rfl,hr,ho⟩;have W0:=RIn.drewW hr;have a0:=R0.out w2 (by repeat(first|assumption|refine Only.drew ?_|refine Only.setCell ?_ (.inr j0) _|refine Only.thenP ?_ (by assumption)));have c0:=Za a0 0;have z0:=Zc a0 0;have c1:=Za a0 1;have z1:=Zc a0 1;have c2:=Za a0 2;have z2:=Zc a0 2;have c3:=Za a0 3;have z3:=Zc a0 3;have n0:=Zb a0;have q0:=Hd a0;clear a0)
   |fail)
 all_goals
  go_wp2_with fail
  refine bodyPost_ret (results_cell_row rfl _ _ g 28 #[.int .i64 (getN 1 st).1,.int .i64 (getN 2 (getN 1 st).2).1,.int .i64 (getN 2 (getN 2 (getN 1 st).2).2).1,.int .i64 (getN 2 (getN 2 (getN 2 (getN 1 st).2).2).2).1] (0,0) _ rfl ((Zf (Zf (Zf (Zf q0.out 0 _) 1 _) 2 _) 3 _).trans rfl) Tryz.underlying28 rfl Zf0) rfl ⟨rfl,?_,?_⟩
  ·exact(RIn.setOther (RIn.setOther (RIn.setOther (RIn.setOther hr m0 0 _) m0 1 _) m0 2 _) m0 3 _)
  ·exact(by repeat(first|assumption|refine Only.drew ?_|refine Only.setCell ?_ (.inr j0) _|refine Only.thenP ?_ (by assumption)))
theorem ZhG:(Tryz.prog.info? 53).map (·.size)=some 5:=by kernel_rfl
theorem rd_ru(w:World)(rb rc ob xb:Nat)(S:ByteArray)(st:RSt)(h:RIn w rb S st)(hS:S.size<=9223372036854775807)(hc:w.cell? ⟨rc,0,none⟩=some (.pointer (some ⟨rb,0,none⟩)))(nrc:rc≠rb)(hob:FnAt w ob 49 rc)(nob:ob≠rb)(hxb:FnAt w xb 52 rc)(nxb:xb≠rb) :
 Calls Tryz.prog 66 #[.pointer (some ⟨ob,0,none⟩),.pointer (some ⟨xb,0,none⟩)] w (ZZ rb S (.agg (ruC (ruG st).1).toArray) (ruG st).2 w):=by
 show Calls Tryz.prog 66 #[.pointer (some ⟨ob,0,none⟩),.pointer (some ⟨xb,0,none⟩)] w (ZZ rb S (.agg #[.int .i64 (getN 1 st).1,.int .i64 (getN 1 (getN 1 st).2).1,.int .i64 (getN 1 (getN 1 (getN 1 st).2).2).1,.string (getT (getN 1 (getN 1 (getN 1 st).2).2).2).1,.string (getT (getT (getN 1 (getN 1 (getN 1 st).2).2).2).2).1]) (getT (getT (getN 1 (getN 1 (getN 1 st).2).2).2).2).2 w);have y0:=h.lt;have g0:=World.block_lt_of_cell? w _ hc;have lob:ob<w.heap.size:=World.block_lt_of_cell? w _ hob;have lxb:xb<w.heap.size:=World.block_lt_of_cell? w _ hxb;have HC:=Hd (λ(w1:World) (h1:Zp rb w w1)=>(h1.cell (p:=⟨rc,0,none⟩) g0 nrc).trans hc);have HF:=Hd (λ(w':World) (h1:Zp rb w w')=>show w'.cell? ⟨ob,0,none⟩=some (.func (.func 49) #[] #[.pointer (some ⟨rc,0,none⟩)])/\w'.cell? ⟨xb,0,none⟩=some (.func (.func 52) #[] #[.pointer (some ⟨rc,0,none⟩)]) from⟨(h1.cell (p:=⟨ob,0,none⟩) lob nob).trans hob,(h1.cell (p:=⟨xb,0,none⟩) lxb nxb).trans hxb⟩);have r0:=Hd (λ(w1:World) (s:RSt) (h1:Zp rb w w1) (h2:RIn w1 rb S s)=>show Calls Tryz.prog 49 #[.pointer (some ⟨rc,0,none⟩)] w1 (ZZ rb S (.int .i64 (getN 1 s).1) (getN 1 s).2 w1) from EX w1 rb rc S s h2 hS (HC.out w1 h1));have i1:=Hd (λ(w1:World) (s:RSt) (h1:Zp rb w w1) (h2:RIn w1 rb S s)=>show Calls Tryz.prog 52 #[.pointer (some ⟨rc,0,none⟩)] w1 (ZZ rb S (.string (getT s).1) (getT s).2 w1) from Zdg w1 rb rc S s h2 hS (HC.out w1 h1));have HH:=Hd h;clear h hS hc nrc hob nob lob hxb nxb lxb g0
 go_enter Tryz.func66,Tryz.ntmps66
 go_upto_region 1 with fail
 obtain⟨w1,hw1⟩:∃ w1,w.alloc (.cells #[.int .i64 0,.int .i64 0,.int .i64 0,.string ⟨#[]⟩,.string ⟨#[]⟩] 53)=w1:=⟨_,rfl⟩
 obtain⟨g,hg⟩:∃ g,w.heap.size=g:=⟨_,rfl⟩
 have hb:w1.heap[g]?=some (.cells #[.int .i64 0,.int .i64 0,.int .i64 0,.string ⟨#[]⟩,.string ⟨#[]⟩] 53 (0,0)):=by rw[<-hw1,<-hg];exact Zd w _
 have hl:Later w w1:=by rw[<-hw1];exact(Later.refl w).alloc _
 rw[hw1,hg];have k0:=HH.out.later hl;have T0:=RIn.drewW k0;have l0:Zp rb w w1:=Only.of_below hl;have j0:w.heap.size<=g:=by omega
 have m0:¬ g=rb:=by omega
 have R0:=Hd (λ(w':World) (h1:Zp rb w1 w')=>(h1.block g (Zb hb) (show ¬IsPb rb g from m0)).trans hb);obtain⟨f0,f1⟩:=HF.out w1 l0;have d1:Zp rb w1 w1:=Only.refl _ _;clear hw1 hg hb hl y0
 go_region_held3 (fun w'=>w'.cell? ⟨ob,0,none⟩=some (.func (.func 49) #[] #[.pointer (some ⟨rc,0,none⟩)])∧w'.cell? ⟨xb,0,none⟩=some (.func (.func 52) #[] #[.pointer (some ⟨rc,0,none⟩)]))
  (exact HF.out _ (by repeat(first|assumption|refine Only.drew ?_|refine Only.setCell ?_ (.inr j0) _|refine Only.thenP ?_ (by assumption))))
  (first
   |(go_at_call 49;(with_reducible refine(r0.out _ _ (by repeat(first|assumption|refine Only.drew ?_|refine Only.setCell ?_ (.inr j0) _|refine Only.thenP ?_ (by assumption))) (by assumption)).mono ?_);rintro e w2 ⟨rfl,hr,ho⟩;have W0:=RIn.drewW hr;have a0:=R0.out w2 (by repeat(first|assumption|refine Only.drew ?_|refine Only.setCell ?_ (.inr j0) _|refine Only.thenP ?_ (by assumption)));have c0:=Za a0 0;have z0:=Zc a0 0;have c1:=Za a0 1;have z1:=Zc a0 1;have c2:=Za a0 2;have z2:=Zc a0 2;have c3:=Za a0 3;have z3:=Zc a0 3;have c4:=Za a0 4;have z4:=Zc a0 4;have n0:=Zb a0;have q0:=Hd a0;clear a0)
   |(go_at_call 52;(with_reducible refine(i1.out _ _ (by repeat(first|assumption|refine Only.drew ?_|refine Only.setCell ?_ (.inr j0) _|refine Only.thenP ?_ (by assumption))) (by assumption)).mono ?_);rintro e w2 ⟨rfl,hr,ho⟩;have W0:=RIn.drewW hr;have a0:=R0.out w2 (by repeat(first|assumption|refine Only.drew ?_|refine Only.setCell ?_ (.inr j0) _|refine Only.thenP ?_ (by assumption)));have c0:=Za a0 0;have z0:=Zc a0 0;have c1:=Za a0 1;have z1:=Zc a0 1;have c2:=Za a0 2;have z2:=Zc a0 2;have c3:=Za a0 3;have z3:=Zc a0 3;have c4:=Za a0 4;have z4:=Zc a0 4;have n0:=Zb a0;have q0:=Hd a0;clear a0)
   |fail)
 all_goals
  go_wp2_with fail
  refine bodyPost_ret (results_cell_row rfl _ _ g 53 #[.int .i64 (getN 1 st).1,.int .i64 (getN 1 (getN 1 st).2).1,.int .i64 (getN 1 (getN 1 (getN 1 st).2).2).1,.string (getT (getN 1 (getN 1 (getN 1 st).2).2).2).1,.string (getT (getT (getN 1 (getN 1 (getN 1 st).2).2).2).2).1] (0,0) _ rfl ((Zf (Zf (Zf (Zf (Zf q0.out 0 _) 1 _) 2 _) 3 _) 4 _).trans rfl) Tryz.underlying53 rfl ZhG) rfl ⟨rfl,?_,?_⟩
  ·exact(RIn.setOther (RIn.setOther (RIn.setOther (RIn.setOther (RIn.setOther hr m0 0 _) m0 1 _) m0 2 _) m0 3 _) m0 4 _)
  ·exact(by repeat(first|assumption|refine Only.drew ?_|refine Only.setCell ?_ (.inr j0) _|refine Only.thenP ?_ (by assumption)))
end Go.Proofs.YtbchkjfnakabkaaGreatDoor
namespace Go.Proofs.YtbchkjfnakabkaaGreatDoor
open Go.RowKit PX PC
theorem YF{α:Type}(g:RSt->α × RSt):∀ (n:Nat) (s:RSt),many g (n+1) s=((many g n s).1++[(g (many g n s).2).1],(g (many g n s).2).2)
 |0,s=>rfl
 |n+1,s=>by
  have ih:=YF g n (g s).2;rw[many,ih];simp only[many,List.cons_append]
theorem Y6{α:Type}(g:RSt->α × RSt):∀ (n:Nat) (s:RSt),(many g n s).1.length=n
 |0,_=>rfl
 |n+1,s=>by simp[many,Y6 g n]
def ZG{α:Type}(f:α->List Value):List α->List Value
 |[]=>[]
 |x::l=>f x++ZG f l
theorem XV{α:Type}(f:α->List Value):∀ (l:List α) (x:α),ZG f (l++[x])=ZG f l++f x
 |[],x=>by simp[ZG]
 |y::l,x=>by simp[ZG,XV f l x]
theorem YY{α:Type}(f:α->List Value)(k:Nat)(hf:∀ x,(f x).length=k):∀ (l:List α) (i:Nat) (h:i<l.length) (j:Nat),j<k->(ZG f l)[i*k+j]?=(f l[i])[j]?
 |[],i,h,_,_=>by simp at h
 |y::l,0,_,j,hj=>by simp[ZG,List.getElem?_append_left (show j<(f y).length by rw[hf];exact hj)]
 |y::l,i+1,h,j,hj=>by
  have e:(i+1)*k+j=(f y).length+(i*k+j):=by rw[hf,Nat.add_mul];omega
  rw[ZG,e,List.getElem?_append_right (Nat.le_add_right _ _),Nat.add_sub_cancel_left];exact YY f k hf l i (by simpa using h) j hj
def RowHi(B:Nat)(w:World)(k:Nat)(v:Value)(css:List (List Value)):Prop:=
 ∃ (a:Option Addr) (cap:Nat),v=.slice a css.length cap∧css.length≤cap∧cap≤9223372036854775807∧css.length*k≤140737488355328 ∧
  (css=[]\/∃ b o,a=some ⟨b,o,none⟩/\B<=b/\b<w.heap.size/\∀ i (h:i<css.length) j,j<k->w.cell? ⟨b,o+i*k+j,none⟩=css[i][j]?)
theorem RowHi.row{B:Nat}{w:World}{k:Nat}{v:Value}{css:List (List Value)}(h:RowHi B w k v css):RowAt w k v css:=by
 obtain⟨a,cap,h1,h2,h3,h4,h5⟩:=h;refine⟨a,cap,h1,h2,h3,h4,?_⟩;rcases h5 with h|⟨b,o,h6,-, h7,h8⟩
 ·exact .inl h
 ·exact .inr ⟨b,o,h6,h7,h8⟩
theorem RowHi.only{B:Nat}{r:Nat->Prop}{w w':World}{k:Nat}{v:Value}{css:List (List Value)}(h:RowHi B w k v css)(ho:Only r w w')(hr:∀ b,B<=b->b<w.heap.size->¬ r b):RowHi B w' k v css:=by
 obtain⟨a,cap,h1,h2,h3,h4,h5⟩:=h;refine⟨a,cap,h1,h2,h3,h4,?_⟩;rcases h5 with h|⟨b,o,h6,h9,h7,h8⟩
 ·exact .inl h
 ·exact .inr ⟨b,o,h6,h9,Nat.lt_of_lt_of_le h7 ho.size,λi hi j hj=>(ho.cell (p:=⟨b,o+i*k+j,none⟩) h7 (hr b h9 h7)).trans (h8 i hi j hj)⟩
theorem JV{α:Type}{w:World}{B k:Nat}{e:TypeId}{v:Value}{f:α->List Value}{l:List α}(hk:1<=k)(hk5:k<=5)(hf:∀ x,(f x).length=k)(hn:l.length<=255)(h:w.ownsRow B e k v l.length (ZG f l)):RowHi B w k v (l.map f):=by
 have y0:=h.lt
 have hfl:∀ l:List α,(ZG f l).length=l.length*k:=λl=>by
  induction l with
  |nil=>simp[ZG]
  |cons y l ih=>simp[ZG,ih,hf,Nat.add_mul];omega
 rcases h.2 with⟨rfl,h0⟩|⟨g,cap,cur,rfl,hg,hb,hc1,hc2,-⟩
 ·have hl:l=[]:=List.eq_nil_of_length_eq_zero h0;subst hl;exact⟨none,0,rfl,Nat.le_refl _,by omega,by simp,.inl rfl⟩
 ·have b1:=λj hj=>h.cellAt j hj
  refine⟨some ⟨g,0,none⟩,cap,by rw[List.length_map],by rw[List.length_map];exact hc1,hc2,by rw[List.length_map];have:l.length*k<=255*5:=Nat.mul_le_mul hn hk5;omega,.inr ⟨g,0,rfl,hg,(y0 g rfl).2,λi hi j hj=>?_⟩⟩;rw[List.length_map]at hi
  have j1:i*k+j<l.length*k:=by
   have:(i+1)*k<=l.length*k:=Nat.mul_le_mul_right _ hi;rw[Nat.add_mul]at this;omega
  rw[Nat.zero_add,b1 _ j1,YY f k hf l i hi j hj,List.getElem_map]
theorem V2(w:Nat)(s:RSt):0<=(getN w s).1/\(getN w s).1<256 ^ w:=by
 have hp:(0:Int)<256 ^ w:=Int.pow_pos (by decide)
 cases s with
 |none=>exact⟨Int.le_refl _,hp⟩
 |some r=>
  simp only[getN];split
  ·exact⟨Int.le_refl _,hp⟩
  ·have h1:=QH (r.take w);have h2:(r.take w).length=w:=by rw[List.length_take];omega
   rw[h2]at h1;have e3:(256:Int) ^ w=((256 ^ w:Nat):Int):=by rw[Int.natCast_pow];rfl
   rw[e3];exact⟨by omega,by omega⟩
def XO{α:Type}(rb:Nat)(S:ByteArray)(k:Nat)(f:α->List Value)(l:List α)(st:RSt)(w:World)(e:Ending)(w':World):Prop:=∃ v,e=.returned v/\RowHi w.heap.size w' k v (l.map f)/\RIn w' rb S st/\Zp rb w w'
theorem Zef:(Tryz.prog.info? 47).map (λi=>(i.zero,i.size,i.bytes))=some (some (.agg #[.int .i64 0,.int .i64 0]),2,16):=by kernel_rfl
theorem Bk(w:World)(rb rc ob:Nat)(S:ByteArray)(st:RSt)(h:RIn w rb S st)(hS:S.size<=9223372036854775807)(hc:w.cell? ⟨rc,0,none⟩=some (.pointer (some ⟨rb,0,none⟩)))(nrc:rc≠rb)(hob:FnAt w ob 49 rc)(nob:ob≠rb) :
 Calls Tryz.prog 55 #[.pointer (some ⟨rb,0,none⟩),.func (.func 56) #[] #[.pointer (some ⟨ob,0,none⟩)]] w (XO rb S 2 Xx (getL YJ st).1 (getL YJ st).2 w):=by
 obtain⟨iE,hiE,hz0,hz1,hz2⟩:=info_parts Zef;have y0:=h.lt;have g0:=World.block_lt_of_cell? w _ hc;have lob:ob<w.heap.size:=World.block_lt_of_cell? w _ hob;have HE:=Hd (λ(w1:World) (s:RSt) (h1:Zp rb w w1) (h2:RIn w1 rb S s)=>Zhk w1 rb rc ob S s h2 hS ((h1.cell (p:=⟨rc,0,none⟩) g0 nrc).trans hc) nrc ((h1.cell (p:=⟨ob,0,none⟩) lob nob).trans hob) nob);have HN:=Hd (YN w rb S st h hS 1 1 rfl (by omega) (by omega));obtain⟨hb0,hb1⟩:=V2 1 st;have n0:getL YJ st=many YJ (getN 1 st).1.toNat (getN 1 st).2:=rfl;rw[n0]
 obtain⟨N,hN⟩:∃ N:Nat,(getN 1 st).1=N:=⟨(getN 1 st).1.toNat,by omega⟩
 obtain⟨s1,hs1⟩:∃ s1,(getN 1 st).2=s1:=⟨_,rfl⟩
 rw[hN]at hb0 hb1 HN ⊢;rw[hs1]at HN ⊢;rw[Int.toNat_natCast];have F0:N<=255:=by have:(256:Int) ^ 1=256:=rfl;omega
 obtain⟨PT,hPT⟩:∃ PT,XO rb S 2 Xx (many YJ N s1).1 (many YJ N s1).2 w=PT:=⟨_,rfl⟩
 rw[hPT];have N0:=Hd hPT;clear h hS hc nrc hob nob lob n0 hN hs1 hb0 hb1 hPT g0
 go_enter Tryz.func55,Tryz.ntmps55
 go_wp2_with (first
  |(go_at_call 50;(with_reducible refine HN.out.mono ?_);rintro e w1 ⟨rfl,k0,l0⟩;have P0:=Hd k0;have I0:=Hd l0;clear k0 l0)
  |fail)
 go_loopw [5,8] (λvv vi wr=>∃ j:Nat,j<=N/\vi=.int .i64 j/\wr.ownsRow w.heap.size 47 2 vv j (ZG Xx (many YJ j s1).1)/\RIn wr rb S (many YJ j s1).2/\Zp rb w wr) (λ_ vi _=>N - (intOf vi).toNat)
 case atStart=>exact⟨0,by omega,by simp,⟨rfl,Or.inl ⟨rfl,rfl⟩⟩,P0.out,I0.out⟩
 case round=>
  obtain⟨j,hj,rfl,hown,hr,ho⟩:=hrel;by_cases hlt2:j<N
  ·have i0:=YF YJ j s1
   obtain⟨s,hs⟩:∃ s,(many YJ j s1).2=s:=⟨_,rfl⟩
   obtain⟨L,hL⟩:∃ L,(many YJ j s1).1=L:=⟨_,rfl⟩
   have hE:=HE.out wr s ho (by rw[<-hs];exact hr);rw[hs,hL]at i0;rw[hL]at hown
   obtain⟨s',hs'⟩:∃ s',(YJ s).2=s':=⟨_,rfl⟩
   obtain⟨x,hx⟩:∃ x,(YJ s).1=x:=⟨_,rfl⟩
   rw[hs',hx]at hE i0;clear hr hs hL hs' hx;obtain⟨x1,x2⟩:=x;have A0:=Hd (show Calls Tryz.prog 56 #[.pointer (some ⟨ob,0,none⟩)] wr (ZZ rb S (.agg #[.int .i64 x1,.int .i64 x2]) s' wr) from hE);have t0:=Hd i0;have s0:=Hd hown;have C0:=Hd ho;have a1:=ho.size;clear hE i0 hown ho;have v0:j<=255:=by omega
   go_wp2_with (first
    |(go_at_call 56;(with_reducible refine A0.out.mono ?_);rintro e w2 ⟨rfl,hr2,ho2⟩;have H0:=Hd hr2;have o0:=Hd (Only.ownsRow ho2 s0.out (λq hq hrq=>by have h9:=(s0.out.lt q hq).1;have h8:q=rb:=hrq;omega));have e0:=Hd (C0.out.thenP ho2);have K0:=e0.out.size;clear hr2 ho2)
    |(at_builtin;refine wpList_append_own _ rfl (.tmp 10) (.tmp 13) 22 rfl w.heap.size 47 iE (.agg #[.int .i64 0,.int .i64 0]) 2 16 Tryz.underlying22 hiE hz0 hz1 hz2 rfl (by decide) _ _ _ rfl (o0.out.alloc _) ⟨w2.heap.size,0,none⟩ 1 1 [.int .i64 x1,.int .i64 x2] rfl rfl (XF w2 [.int .i64 x1,.int .i64 x2] 47) (by intro u hu;simp only[List.mem_cons,List.not_mem_nil,or_false]at hu;(repeat' (rcases hu with hu|hu))<;>(subst_vars;rfl)) (by unfold maxLen;omega) (by omega) (by simp;omega) ?_;intro v' w3 hown1 hgrow1 _)
    |fail)
   have p0:Zp rb w w3:=(e0.out.alloc (.cells #[.int .i64 x1,.int .i64 x2] 47)).grown hgrow1 (λq hq=>.inr ((o0.out.alloc (.cells #[.int .i64 x1,.int .i64 x2] 47)).lt q hq).1)
   have L0:RIn w3 rb S s':=by
    obtain⟨i,f,g1,g2,g3⟩:=H0.out;refine⟨i,f,?_,g2,g3⟩;have hk:rb<w2.heap.size:=Zb g1;exact(hgrow1.block rb (by simp;omega) (λe=>by have h9:=((o0.out.alloc (.cells #[.int .i64 x1,.int .i64 x2] 47)).lt rb e.symm).1;omega)).trans (Ze g1 _)
   refine⟨⟨j+1,by omega,by simp,?_,?_,p0⟩,by simp only[intOf];omega⟩
   ·rw[t0.out,XV];exact hown1
   ·rw[t0.out];exact L0
  ·obtain rfl:j=N:=by omega
   have d0:=Y6 YJ j s1;have b0:wr.ownsRow w.heap.size 47 2 u5 (many YJ j s1).1.length (ZG Xx (many YJ j s1).1):=by rw[d0];exact hown
   have M0:=Hd (JV (k:=2) (by omega) (by omega) (λx=>rfl) (by rw[d0];exact F0) b0);have S0:=Hd hr;have O0:=Hd ho;clear hr ho hown b0 d0
   go_wp2_with fail
   rw[<-N0.out];exact⟨_,rfl,M0.out,S0.out,O0.out⟩
theorem Zee:(Tryz.prog.info? 49).map (λi=>(i.zero,i.size,i.bytes))=some (some (.agg #[.int .i64 0,.int .i64 0]),2,16):=by kernel_rfl
theorem Bj(w:World)(rb rc ob:Nat)(S:ByteArray)(st:RSt)(h:RIn w rb S st)(hS:S.size<=9223372036854775807)(hc:w.cell? ⟨rc,0,none⟩=some (.pointer (some ⟨rb,0,none⟩)))(nrc:rc≠rb)(hob:FnAt w ob 49 rc)(nob:ob≠rb) :
 Calls Tryz.prog 57 #[.pointer (some ⟨rb,0,none⟩),.func (.func 58) #[] #[.pointer (some ⟨ob,0,none⟩)]] w (XO rb S 2 XQ (getL YI st).1 (getL YI st).2 w):=by
 obtain⟨iE,hiE,hz0,hz1,hz2⟩:=info_parts Zee;have y0:=h.lt;have g0:=World.block_lt_of_cell? w _ hc;have lob:ob<w.heap.size:=World.block_lt_of_cell? w _ hob;have HE:=Hd (λ(w1:World) (s:RSt) (h1:Zp rb w w1) (h2:RIn w1 rb S s)=>Zhj w1 rb rc ob S s h2 hS ((h1.cell (p:=⟨rc,0,none⟩) g0 nrc).trans hc) nrc ((h1.cell (p:=⟨ob,0,none⟩) lob nob).trans hob) nob);have HN:=Hd (YN w rb S st h hS 1 1 rfl (by omega) (by omega));obtain⟨hb0,hb1⟩:=V2 1 st;have n0:getL YI st=many YI (getN 1 st).1.toNat (getN 1 st).2:=rfl;rw[n0]
 obtain⟨N,hN⟩:∃ N:Nat,(getN 1 st).1=N:=⟨(getN 1 st).1.toNat,by omega⟩
 obtain⟨s1,hs1⟩:∃ s1,(getN 1 st).2=s1:=⟨_,rfl⟩
 rw[hN]at hb0 hb1 HN ⊢;rw[hs1]at HN ⊢;rw[Int.toNat_natCast];have F0:N<=255:=by have:(256:Int) ^ 1=256:=rfl;omega
 obtain⟨PT,hPT⟩:∃ PT,XO rb S 2 XQ (many YI N s1).1 (many YI N s1).2 w=PT:=⟨_,rfl⟩
 rw[hPT];have N0:=Hd hPT;clear h hS hc nrc hob nob lob n0 hN hs1 hb0 hb1 hPT g0
 go_enter Tryz.func57,Tryz.ntmps57
 go_wp2_with (first
  |(go_at_call 50;(with_reducible refine HN.out.mono ?_);rintro e w1 ⟨rfl,k0,l0⟩;have P0:=Hd k0;have I0:=Hd l0;clear k0 l0)
  |fail)
 go_loopw [5,8] (λvv vi wr=>∃ j:Nat,j<=N/\vi=.int .i64 j/\wr.ownsRow w.heap.size 49 2 vv j (ZG XQ (many YI j s1).1)/\RIn wr rb S (many YI j s1).2/\Zp rb w wr) (λ_ vi _=>N - (intOf vi).toNat)
 case atStart=>exact⟨0,by omega,by simp,⟨rfl,Or.inl ⟨rfl,rfl⟩⟩,P0.out,I0.out⟩
 case round=>
  obtain⟨j,hj,rfl,hown,hr,ho⟩:=hrel;by_cases hlt2:j<N
  ·have i0:=YF YI j s1
   obtain⟨s,hs⟩:∃ s,(many YI j s1).2=s:=⟨_,rfl⟩
   obtain⟨L,hL⟩:∃ L,(many YI j s1).1=L:=⟨_,rfl⟩
   have hE:=HE.out wr s ho (by rw[<-hs];exact hr);rw[hs,hL]at i0;rw[hL]at hown
   obtain⟨s',hs'⟩:∃ s',(YI s).2=s':=⟨_,rfl⟩
   obtain⟨x,hx⟩:∃ x,(YI s).1=x:=⟨_,rfl⟩
   rw[hs',hx]at hE i0;clear hr hs hL hs' hx;obtain⟨x1,x2⟩:=x;have A0:=Hd (show Calls Tryz.prog 58 #[.pointer (some ⟨ob,0,none⟩)] wr (ZZ rb S (.agg #[.int .i64 x1,.int .i64 x2]) s' wr) from hE);have t0:=Hd i0;have s0:=Hd hown;have C0:=Hd ho;have a1:=ho.size;clear hE i0 hown ho;have v0:j<=255:=by omega
   go_wp2_with (first
    |(go_at_call 58;(with_reducible refine A0.out.mono ?_);rintro e w2 ⟨rfl,hr2,ho2⟩;have H0:=Hd hr2;have o0:=Hd (Only.ownsRow ho2 s0.out (λq hq hrq=>by have h9:=(s0.out.lt q hq).1;have h8:q=rb:=hrq;omega));have e0:=Hd (C0.out.thenP ho2);have K0:=e0.out.size;clear hr2 ho2)
    |(at_builtin;refine wpList_append_own _ rfl (.tmp 10) (.tmp 13) 23 rfl w.heap.size 49 iE (.agg #[.int .i64 0,.int .i64 0]) 2 16 Tryz.underlying23 hiE hz0 hz1 hz2 rfl (by decide) _ _ _ rfl (o0.out.alloc _) ⟨w2.heap.size,0,none⟩ 1 1 [.int .i64 x1,.int .i64 x2] rfl rfl (XF w2 [.int .i64 x1,.int .i64 x2] 49) (by intro u hu;simp only[List.mem_cons,List.not_mem_nil,or_false]at hu;(repeat' (rcases hu with hu|hu))<;>(subst_vars;rfl)) (by unfold maxLen;omega) (by omega) (by simp;omega) ?_;intro v' w3 hown1 hgrow1 _)
    |fail)
   have p0:Zp rb w w3:=(e0.out.alloc (.cells #[.int .i64 x1,.int .i64 x2] 49)).grown hgrow1 (λq hq=>.inr ((o0.out.alloc (.cells #[.int .i64 x1,.int .i64 x2] 49)).lt q hq).1)
   have L0:RIn w3 rb S s':=by
    obtain⟨i,f,g1,g2,g3⟩:=H0.out;refine⟨i,f,?_,g2,g3⟩;have hk:rb<w2.heap.size:=Zb g1;exact(hgrow1.block rb (by simp;omega) (λe=>by have h9:=((o0.out.alloc (.cells #[.int .i64 x1,.int .i64 x2] 49)).lt rb e.symm).1;omega)).trans (Ze g1 _)
   refine⟨⟨j+1,by omega,by simp,?_,?_,p0⟩,by simp only[intOf];omega⟩
   ·rw[t0.out,XV];exact hown1
   ·rw[t0.out];exact L0
  ·obtain rfl:j=N:=by omega
   have d0:=Y6 YI j s1;have b0:wr.ownsRow w.heap.size 49 2 u5 (many YI j s1).1.length (ZG XQ (many YI j s1).1):=by rw[d0];exact hown
   have M0:=Hd (JV (k:=2) (by omega) (by omega) (λx=>rfl) (by rw[d0];exact F0) b0);have S0:=Hd hr;have O0:=Hd ho;clear hr ho hown b0 d0
   go_wp2_with fail
   rw[<-N0.out];exact⟨_,rfl,M0.out,S0.out,O0.out⟩
theorem Zf3:(Tryz.prog.info? 55).map (λi=>(i.zero,i.size,i.bytes))=some (some (.agg #[.int .i64 0,.int .i64 0,.int .i64 0]),3,24):=by kernel_rfl
theorem ZbP(w:World)(rb rc ob:Nat)(S:ByteArray)(st:RSt)(h:RIn w rb S st)(hS:S.size<=9223372036854775807)(hc:w.cell? ⟨rc,0,none⟩=some (.pointer (some ⟨rb,0,none⟩)))(nrc:rc≠rb)(hob:FnAt w ob 49 rc)(nob:ob≠rb) :
 Calls Tryz.prog 59 #[.pointer (some ⟨rb,0,none⟩),.func (.func 60) #[] #[.pointer (some ⟨ob,0,none⟩)]] w (XO rb S 3 winC (getL winG st).1 (getL winG st).2 w):=by
 obtain⟨iE,hiE,hz0,hz1,hz2⟩:=info_parts Zf3;have y0:=h.lt;have g0:=World.block_lt_of_cell? w _ hc;have lob:ob<w.heap.size:=World.block_lt_of_cell? w _ hob;have HE:=Hd (λ(w1:World) (s:RSt) (h1:Zp rb w w1) (h2:RIn w1 rb S s)=>Ziz w1 rb rc ob S s h2 hS ((h1.cell (p:=⟨rc,0,none⟩) g0 nrc).trans hc) nrc ((h1.cell (p:=⟨ob,0,none⟩) lob nob).trans hob) nob);have HN:=Hd (YN w rb S st h hS 1 1 rfl (by omega) (by omega));obtain⟨hb0,hb1⟩:=V2 1 st;have n0:getL winG st=many winG (getN 1 st).1.toNat (getN 1 st).2:=rfl;rw[n0]
 obtain⟨N,hN⟩:∃ N:Nat,(getN 1 st).1=N:=⟨(getN 1 st).1.toNat,by omega⟩
 obtain⟨s1,hs1⟩:∃ s1,(getN 1 st).2=s1:=⟨_,rfl⟩
 rw[hN]at hb0 hb1 HN ⊢;rw[hs1]at HN ⊢;rw[Int.toNat_natCast];have F0:N<=255:=by have:(256:Int) ^ 1=256:=rfl;omega
 obtain⟨PT,hPT⟩:∃ PT,XO rb S 3 winC (many winG N s1).1 (many winG N s1).2 w=PT:=⟨_,rfl⟩
 rw[hPT];have N0:=Hd hPT;clear h hS hc nrc hob nob lob n0 hN hs1 hb0 hb1 hPT g0
 go_enter Tryz.func59,Tryz.ntmps59
 go_wp2_with (first
  |(go_at_call 50;(with_reducible refine HN.out.mono ?_);rintro e w1 ⟨rfl,k0,l0⟩;have P0:=Hd k0;have I0:=Hd l0;clear k0 l0)
  |fail)
 go_loopw [5,8] (λvv vi wr=>∃ j:Nat,j<=N/\vi=.int .i64 j/\wr.ownsRow w.heap.size 55 3 vv j (ZG winC (many winG j s1).1)/\RIn wr rb S (many winG j s1).2/\Zp rb w wr) (λ_ vi _=>N - (intOf vi).toNat)
 case atStart=>exact⟨0,by omega,by simp,⟨rfl,Or.inl ⟨rfl,rfl⟩⟩,P0.out,I0.out⟩
 case round=>
  obtain⟨j,hj,rfl,hown,hr,ho⟩:=hrel;by_cases hlt2:j<N
  ·have i0:=YF winG j s1
   obtain⟨s,hs⟩:∃ s,(many winG j s1).2=s:=⟨_,rfl⟩
   obtain⟨L,hL⟩:∃ L,(many winG j s1).1=L:=⟨_,rfl⟩
   have hE:=HE.out wr s ho (by rw[<-hs];exact hr);rw[hs,hL]at i0;rw[hL]at hown
   obtain⟨s',hs'⟩:∃ s',(winG s).2=s':=⟨_,rfl⟩
   obtain⟨x,hx⟩:∃ x,(winG s).1=x:=⟨_,rfl⟩
   rw[hs',hx]at hE i0;clear hr hs hL hs' hx;obtain⟨x1,x2,x3⟩:=x;have A0:=Hd (show Calls Tryz.prog 60 #[.pointer (some ⟨ob,0,none⟩)] wr (ZZ rb S (.agg #[.int .i64 x1,.int .i64 x2,.int .i64 x3]) s' wr) from hE);have t0:=Hd i0;have s0:=Hd hown;have C0:=Hd ho;have a1:=ho.size;clear hE i0 hown ho;have v0:j<=255:=by omega
   go_wp2_with (first
    |(go_at_call 60;(with_reducible refine A0.out.mono ?_);rintro e w2 ⟨rfl,hr2,ho2⟩;have H0:=Hd hr2;have o0:=Hd (Only.ownsRow ho2 s0.out (λq hq hrq=>by have h9:=(s0.out.lt q hq).1;have h8:q=rb:=hrq;omega));have e0:=Hd (C0.out.thenP ho2);have K0:=e0.out.size;clear hr2 ho2)
    |(at_builtin;refine wpList_append_own _ rfl (.tmp 10) (.tmp 13) 24 rfl w.heap.size 55 iE (.agg #[.int .i64 0,.int .i64 0,.int .i64 0]) 3 24 Tryz.underlying24 hiE hz0 hz1 hz2 rfl (by decide) _ _ _ rfl (o0.out.alloc _) ⟨w2.heap.size,0,none⟩ 1 1 [.int .i64 x1,.int .i64 x2,.int .i64 x3] rfl rfl (XF w2 [.int .i64 x1,.int .i64 x2,.int .i64 x3] 55) (by intro u hu;simp only[List.mem_cons,List.not_mem_nil,or_false]at hu;(repeat' (rcases hu with hu|hu))<;>(subst_vars;rfl)) (by unfold maxLen;omega) (by omega) (by simp;omega) ?_;intro v' w3 hown1 hgrow1 _)
    |fail)
   have p0:Zp rb w w3:=(e0.out.alloc (.cells #[.int .i64 x1,.int .i64 x2,.int .i64 x3] 55)).grown hgrow1 (λq hq=>.inr ((o0.out.alloc (.cells #[.int .i64 x1,.int .i64 x2,.int .i64 x3] 55)).lt q hq).1)
   have L0:RIn w3 rb S s':=by
    obtain⟨i,f,g1,g2,g3⟩:=H0.out;refine⟨i,f,?_,g2,g3⟩;have hk:rb<w2.heap.size:=Zb g1;exact(hgrow1.block rb (by simp;omega) (λe=>by have h9:=((o0.out.alloc (.cells #[.int .i64 x1,.int .i64 x2,.int .i64 x3] 55)).lt rb e.symm).1;omega)).trans (Ze g1 _)
   refine⟨⟨j+1,by omega,by simp,?_,?_,p0⟩,by simp only[intOf];omega⟩
   ·rw[t0.out,XV];exact hown1
   ·rw[t0.out];exact L0
  ·obtain rfl:j=N:=by omega
   have d0:=Y6 winG j s1;have b0:wr.ownsRow w.heap.size 55 3 u5 (many winG j s1).1.length (ZG winC (many winG j s1).1):=by rw[d0];exact hown
   have M0:=Hd (JV (k:=3) (by omega) (by omega) (λx=>rfl) (by rw[d0];exact F0) b0);have S0:=Hd hr;have O0:=Hd ho;clear hr ho hown b0 d0
   go_wp2_with fail
   rw[<-N0.out];exact⟨_,rfl,M0.out,S0.out,O0.out⟩
theorem Zf5:(Tryz.prog.info? 51).map (λi=>(i.zero,i.size,i.bytes))=some (some (.agg #[.int .i64 0,.int .i64 0,.int .i64 0,.int .i64 0,.int .i64 0]),5,40):=by kernel_rfl
theorem ZbR(w:World)(rb rc ob:Nat)(S:ByteArray)(st:RSt)(h:RIn w rb S st)(hS:S.size<=9223372036854775807)(hc:w.cell? ⟨rc,0,none⟩=some (.pointer (some ⟨rb,0,none⟩)))(nrc:rc≠rb)(hob:FnAt w ob 49 rc)(nob:ob≠rb) :
 Calls Tryz.prog 61 #[.pointer (some ⟨rb,0,none⟩),.func (.func 62) #[] #[.pointer (some ⟨ob,0,none⟩)]] w (XO rb S 5 porC (getL porG st).1 (getL porG st).2 w):=by
 obtain⟨iE,hiE,hz0,hz1,hz2⟩:=info_parts Zf5;have y0:=h.lt;have g0:=World.block_lt_of_cell? w _ hc;have lob:ob<w.heap.size:=World.block_lt_of_cell? w _ hob;have HE:=Hd (λ(w1:World) (s:RSt) (h1:Zp rb w w1) (h2:RIn w1 rb S s)=>ZiB w1 rb rc ob S s h2 hS ((h1.cell (p:=⟨rc,0,none⟩) g0 nrc).trans hc) nrc ((h1.cell (p:=⟨ob,0,none⟩) lob nob).trans hob) nob);have HN:=Hd (YN w rb S st h hS 1 1 rfl (by omega) (by omega));obtain⟨hb0,hb1⟩:=V2 1 st;have n0:getL porG st=many porG (getN 1 st).1.toNat (getN 1 st).2:=rfl;rw[n0]
 obtain⟨N,hN⟩:∃ N:Nat,(getN 1 st).1=N:=⟨(getN 1 st).1.toNat,by omega⟩
 obtain⟨s1,hs1⟩:∃ s1,(getN 1 st).2=s1:=⟨_,rfl⟩
 rw[hN]at hb0 hb1 HN ⊢;rw[hs1]at HN ⊢;rw[Int.toNat_natCast];have F0:N<=255:=by have:(256:Int) ^ 1=256:=rfl;omega
 obtain⟨PT,hPT⟩:∃ PT,XO rb S 5 porC (many porG N s1).1 (many porG N s1).2 w=PT:=⟨_,rfl⟩
 rw[hPT];have N0:=Hd hPT;clear h hS hc nrc hob nob lob n0 hN hs1 hb0 hb1 hPT g0
 go_enter Tryz.func61,Tryz.ntmps61
 go_wp2_with (first
  |(go_at_call 50;(with_reducible refine HN.out.mono ?_);rintro e w1 ⟨rfl,k0,l0⟩;have P0:=Hd k0;have I0:=Hd l0;clear k0 l0)
  |fail)
 go_loopw [5,8] (λvv vi wr=>∃ j:Nat,j<=N/\vi=.int .i64 j/\wr.ownsRow w.heap.size 51 5 vv j (ZG porC (many porG j s1).1)/\RIn wr rb S (many porG j s1).2/\Zp rb w wr) (λ_ vi _=>N - (intOf vi).toNat)
 case atStart=>exact⟨0,by omega,by simp,⟨rfl,Or.inl ⟨rfl,rfl⟩⟩,P0.out,I0.out⟩
 case round=>
  obtain⟨j,hj,rfl,hown,hr,ho⟩:=hrel;by_cases hlt2:j<N
  ·have i0:=YF porG j s1
   obtain⟨s,hs⟩:∃ s,(many porG j s1).2=s:=⟨_,rfl⟩
   obtain⟨L,hL⟩:∃ L,(many porG j s1).1=L:=⟨_,rfl⟩
   have hE:=HE.out wr s ho (by rw[<-hs];exact hr);rw[hs,hL]at i0;rw[hL]at hown
   obtain⟨s',hs'⟩:∃ s',(porG s).2=s':=⟨_,rfl⟩
   obtain⟨x,hx⟩:∃ x,(porG s).1=x:=⟨_,rfl⟩
   rw[hs',hx]at hE i0;clear hr hs hL hs' hx;obtain⟨x1,x2,x3,x4,x5⟩:=x;have A0:=Hd (show Calls Tryz.prog 62 #[.pointer (some ⟨ob,0,none⟩)] wr (ZZ rb S (.agg #[.int .i64 x1,.int .i64 x2,.int .i64 x3,.int .i64 x4,.int .i64 x5]) s' wr) from hE);have t0:=Hd i0;have s0:=Hd hown;have C0:=Hd ho;have a1:=ho.size;clear hE i0 hown ho;have v0:j<=255:=by omega
   go_wp2_with (first
    |(go_at_call 62;(with_reducible refine A0.out.mono ?_);rintro e w2 ⟨rfl,hr2,ho2⟩;have H0:=Hd hr2;have o0:=Hd (Only.ownsRow ho2 s0.out (λq hq hrq=>by have h9:=(s0.out.lt q hq).1;have h8:q=rb:=hrq;omega));have e0:=Hd (C0.out.thenP ho2);have K0:=e0.out.size;clear hr2 ho2)
    |(at_builtin;refine wpList_append_own _ rfl (.tmp 10) (.tmp 13) 25 rfl w.heap.size 51 iE (.agg #[.int .i64 0,.int .i64 0,.int .i64 0,.int .i64 0,.int .i64 0]) 5 40 Tryz.underlying25 hiE hz0 hz1 hz2 rfl (by decide) _ _ _ rfl (o0.out.alloc _) ⟨w2.heap.size,0,none⟩ 1 1 [.int .i64 x1,.int .i64 x2,.int .i64 x3,.int .i64 x4,.int .i64 x5] rfl rfl (XF w2 [.int .i64 x1,.int .i64 x2,.int .i64 x3,.int .i64 x4,.int .i64 x5] 51) (by intro u hu;simp only[List.mem_cons,List.not_mem_nil,or_false]at hu;(repeat' (rcases hu with hu|hu))<;>(subst_vars;rfl)) (by unfold maxLen;omega) (by omega) (by simp;omega) ?_;intro v' w3 hown1 hgrow1 _)
    |fail)
   have p0:Zp rb w w3:=(e0.out.alloc (.cells #[.int .i64 x1,.int .i64 x2,.int .i64 x3,.int .i64 x4,.int .i64 x5] 51)).grown hgrow1 (λq hq=>.inr ((o0.out.alloc (.cells #[.int .i64 x1,.int .i64 x2,.int .i64 x3,.int .i64 x4,.int .i64 x5] 51)).lt q hq).1)
   have L0:RIn w3 rb S s':=by
    obtain⟨i,f,g1,g2,g3⟩:=H0.out;refine⟨i,f,?_,g2,g3⟩;have hk:rb<w2.heap.size:=Zb g1;exact(hgrow1.block rb (by simp;omega) (λe=>by have h9:=((o0.out.alloc (.cells #[.int .i64 x1,.int .i64 x2,.int .i64 x3,.int .i64 x4,.int .i64 x5] 51)).lt rb e.symm).1;omega)).trans (Ze g1 _)
   refine⟨⟨j+1,by omega,by simp,?_,?_,p0⟩,by simp only[intOf];omega⟩
   ·rw[t0.out,XV];exact hown1
   ·rw[t0.out];exact L0
  ·obtain rfl:j=N:=by omega
   have d0:=Y6 porG j s1;have b0:wr.ownsRow w.heap.size 51 5 u5 (many porG j s1).1.length (ZG porC (many porG j s1).1):=by rw[d0];exact hown
   have M0:=Hd (JV (k:=5) (by omega) (by omega) (λx=>rfl) (by rw[d0];exact F0) b0);have S0:=Hd hr;have O0:=Hd ho;clear hr ho hown b0 d0
   go_wp2_with fail
   rw[<-N0.out];exact⟨_,rfl,M0.out,S0.out,O0.out⟩
theorem Zf4:(Tryz.prog.info? 28).map (λi=>(i.zero,i.size,i.bytes))=some (some (.agg #[.int .i64 0,.int .i64 0,.int .i64 0,.int .i64 0]),4,32):=by kernel_rfl
theorem ZbQ(w:World)(rb rc ob tb:Nat)(S:ByteArray)(st:RSt)(h:RIn w rb S st)(hS:S.size<=9223372036854775807)(hc:w.cell? ⟨rc,0,none⟩=some (.pointer (some ⟨rb,0,none⟩)))(nrc:rc≠rb)(hob:FnAt w ob 49 rc)(nob:ob≠rb)(htb:FnAt w tb 51 rc)(ntb:tb≠rb) :
 Calls Tryz.prog 63 #[.pointer (some ⟨rb,0,none⟩),.func (.func 64) #[] #[.pointer (some ⟨ob,0,none⟩),.pointer (some ⟨tb,0,none⟩)]] w (XO rb S 4 volC (getL volG st).1 (getL volG st).2 w):=by
 obtain⟨iE,hiE,hz0,hz1,hz2⟩:=info_parts Zf4;have y0:=h.lt;have g0:=World.block_lt_of_cell? w _ hc;have lob:ob<w.heap.size:=World.block_lt_of_cell? w _ hob;have ltb:tb<w.heap.size:=World.block_lt_of_cell? w _ htb;have HE:=Hd (λ(w1:World) (s:RSt) (h1:Zp rb w w1) (h2:RIn w1 rb S s)=>ZiA w1 rb rc ob tb S s h2 hS ((h1.cell (p:=⟨rc,0,none⟩) g0 nrc).trans hc) nrc ((h1.cell (p:=⟨ob,0,none⟩) lob nob).trans hob) nob ((h1.cell (p:=⟨tb,0,none⟩) ltb ntb).trans htb) ntb);have HN:=Hd (YN w rb S st h hS 1 1 rfl (by omega) (by omega));obtain⟨hb0,hb1⟩:=V2 1 st;have n0:getL volG st=many volG (getN 1 st).1.toNat (getN 1 st).2:=rfl;rw[n0]
 obtain⟨N,hN⟩:∃ N:Nat,(getN 1 st).1=N:=⟨(getN 1 st).1.toNat,by omega⟩
 obtain⟨s1,hs1⟩:∃ s1,(getN 1 st).2=s1:=⟨_,rfl⟩
 rw[hN]at hb0 hb1 HN ⊢;rw[hs1]at HN ⊢;rw[Int.toNat_natCast];have F0:N<=255:=by have:(256:Int) ^ 1=256:=rfl;omega
 obtain⟨PT,hPT⟩:∃ PT,XO rb S 4 volC (many volG N s1).1 (many volG N s1).2 w=PT:=⟨_,rfl⟩
 rw[hPT];have N0:=Hd hPT;clear h hS hc nrc hob nob lob htb ntb ltb n0 hN hs1 hb0 hb1 hPT g0
 go_enter Tryz.func63,Tryz.ntmps63
 go_wp2_with (first
  |(go_at_call 50;(with_reducible refine HN.out.mono ?_);rintro e w1 ⟨rfl,k0,l0⟩;have P0:=Hd k0;have I0:=Hd l0;clear k0 l0)
  |fail)
 go_loopw [5,8] (λvv vi wr=>∃ j:Nat,j<=N/\vi=.int .i64 j/\wr.ownsRow w.heap.size 28 4 vv j (ZG volC (many volG j s1).1)/\RIn wr rb S (many volG j s1).2/\Zp rb w wr) (λ_ vi _=>N - (intOf vi).toNat)
 case atStart=>exact⟨0,by omega,by simp,⟨rfl,Or.inl ⟨rfl,rfl⟩⟩,P0.out,I0.out⟩
 case round=>
  obtain⟨j,hj,rfl,hown,hr,ho⟩:=hrel;by_cases hlt2:j<N
  ·have i0:=YF volG j s1
   obtain⟨s,hs⟩:∃ s,(many volG j s1).2=s:=⟨_,rfl⟩
   obtain⟨L,hL⟩:∃ L,(many volG j s1).1=L:=⟨_,rfl⟩
   have hE:=HE.out wr s ho (by rw[<-hs];exact hr);rw[hs,hL]at i0;rw[hL]at hown
   obtain⟨s',hs'⟩:∃ s',(volG s).2=s':=⟨_,rfl⟩
   obtain⟨x,hx⟩:∃ x,(volG s).1=x:=⟨_,rfl⟩
   rw[hs',hx]at hE i0;clear hr hs hL hs' hx;obtain⟨x1,x2,x3,x4⟩:=x;have A0:=Hd (show Calls Tryz.prog 64 #[.pointer (some ⟨ob,0,none⟩),.pointer (some ⟨tb,0,none⟩)] wr (ZZ rb S (.agg #[.int .i64 x1,.int .i64 x2,.int .i64 x3,.int .i64 x4]) s' wr) from hE);have t0:=Hd i0;have s0:=Hd hown;have C0:=Hd ho;have a1:=ho.size;clear hE i0 hown ho;have v0:j<=255:=by omega
   go_wp2_with (first
    |(go_at_call 64;(with_reducible refine A0.out.mono ?_);rintro e w2 ⟨rfl,hr2,ho2⟩;have H0:=Hd hr2;have o0:=Hd (Only.ownsRow ho2 s0.out (λq hq hrq=>by have h9:=(s0.out.lt q hq).1;have h8:q=rb:=hrq;omega));have e0:=Hd (C0.out.thenP ho2);have K0:=e0.out.size;clear hr2 ho2)
    |(at_builtin;refine wpList_append_own _ rfl (.tmp 10) (.tmp 13) 26 rfl w.heap.size 28 iE (.agg #[.int .i64 0,.int .i64 0,.int .i64 0,.int .i64 0]) 4 32 Tryz.underlying26 hiE hz0 hz1 hz2 rfl (by decide) _ _ _ rfl (o0.out.alloc _) ⟨w2.heap.size,0,none⟩ 1 1 [.int .i64 x1,.int .i64 x2,.int .i64 x3,.int .i64 x4] rfl rfl (XF w2 [.int .i64 x1,.int .i64 x2,.int .i64 x3,.int .i64 x4] 28) (by intro u hu;simp only[List.mem_cons,List.not_mem_nil,or_false]at hu;(repeat' (rcases hu with hu|hu))<;>(subst_vars;rfl)) (by unfold maxLen;omega) (by omega) (by simp;omega) ?_;intro v' w3 hown1 hgrow1 _)
    |fail)
   have p0:Zp rb w w3:=(e0.out.alloc (.cells #[.int .i64 x1,.int .i64 x2,.int .i64 x3,.int .i64 x4] 28)).grown hgrow1 (λq hq=>.inr ((o0.out.alloc (.cells #[.int .i64 x1,.int .i64 x2,.int .i64 x3,.int .i64 x4] 28)).lt q hq).1)
   have L0:RIn w3 rb S s':=by
    obtain⟨i,f,g1,g2,g3⟩:=H0.out;refine⟨i,f,?_,g2,g3⟩;have hk:rb<w2.heap.size:=Zb g1;exact(hgrow1.block rb (by simp;omega) (λe=>by have h9:=((o0.out.alloc (.cells #[.int .i64 x1,.int .i64 x2,.int .i64 x3,.int .i64 x4] 28)).lt rb e.symm).1;omega)).trans (Ze g1 _)
   refine⟨⟨j+1,by omega,by simp,?_,?_,p0⟩,by simp only[intOf];omega⟩
   ·rw[t0.out,XV];exact hown1
   ·rw[t0.out];exact L0
  ·obtain rfl:j=N:=by omega
   have d0:=Y6 volG j s1;have b0:wr.ownsRow w.heap.size 28 4 u5 (many volG j s1).1.length (ZG volC (many volG j s1).1):=by rw[d0];exact hown
   have M0:=Hd (JV (k:=4) (by omega) (by omega) (λx=>rfl) (by rw[d0];exact F0) b0);have S0:=Hd hr;have O0:=Hd ho;clear hr ho hown b0 d0
   go_wp2_with fail
   rw[<-N0.out];exact⟨_,rfl,M0.out,S0.out,O0.out⟩
theorem ZhH:(Tryz.prog.info? 53).map (λi=>(i.zero,i.size,i.bytes))=some (some (.agg #[.int .i64 0,.int .i64 0,.int .i64 0,.string ⟨#[]⟩,.string ⟨#[]⟩]),5,56):=by kernel_rfl
theorem ZdW(w:World)(rb rc ob xb:Nat)(S:ByteArray)(st:RSt)(h:RIn w rb S st)(hS:S.size<=9223372036854775807)(hc:w.cell? ⟨rc,0,none⟩=some (.pointer (some ⟨rb,0,none⟩)))(nrc:rc≠rb)(hob:FnAt w ob 49 rc)(nob:ob≠rb)(hxb:FnAt w xb 52 rc)(nxb:xb≠rb) :
 Calls Tryz.prog 65 #[.pointer (some ⟨rb,0,none⟩),.func (.func 66) #[] #[.pointer (some ⟨ob,0,none⟩),.pointer (some ⟨xb,0,none⟩)]] w (XO rb S 5 ruC (getL ruG st).1 (getL ruG st).2 w):=by
 obtain⟨iE,hiE,hz0,hz1,hz2⟩:=info_parts ZhH;have y0:=h.lt;have g0:=World.block_lt_of_cell? w _ hc;have lob:ob<w.heap.size:=World.block_lt_of_cell? w _ hob;have lxb:xb<w.heap.size:=World.block_lt_of_cell? w _ hxb;have HE:=Hd (λ(w1:World) (s:RSt) (h1:Zp rb w w1) (h2:RIn w1 rb S s)=>rd_ru w1 rb rc ob xb S s h2 hS ((h1.cell (p:=⟨rc,0,none⟩) g0 nrc).trans hc) nrc ((h1.cell (p:=⟨ob,0,none⟩) lob nob).trans hob) nob ((h1.cell (p:=⟨xb,0,none⟩) lxb nxb).trans hxb) nxb);have HN:=Hd (YN w rb S st h hS 1 1 rfl (by omega) (by omega));obtain⟨hb0,hb1⟩:=V2 1 st;have n0:getL ruG st=many ruG (getN 1 st).1.toNat (getN 1 st).2:=rfl;rw[n0]
 obtain⟨N,hN⟩:∃ N:Nat,(getN 1 st).1=N:=⟨(getN 1 st).1.toNat,by omega⟩
 obtain⟨s1,hs1⟩:∃ s1,(getN 1 st).2=s1:=⟨_,rfl⟩
 rw[hN]at hb0 hb1 HN ⊢;rw[hs1]at HN ⊢;rw[Int.toNat_natCast];have F0:N<=255:=by have:(256:Int) ^ 1=256:=rfl;omega
 obtain⟨PT,hPT⟩:∃ PT,XO rb S 5 ruC (many ruG N s1).1 (many ruG N s1).2 w=PT:=⟨_,rfl⟩
 rw[hPT];have N0:=Hd hPT;clear h hS hc nrc hob nob lob hxb nxb lxb n0 hN hs1 hb0 hb1 hPT g0
 go_enter Tryz.func65,Tryz.ntmps65
 go_wp2_with (first
  |(go_at_call 50;(with_reducible refine HN.out.mono ?_);rintro e w1 ⟨rfl,k0,l0⟩;have P0:=Hd k0;have I0:=Hd l0;clear k0 l0)
  |fail)
 go_loopw [5,8] (λvv vi wr=>∃ j:Nat,j<=N/\vi=.int .i64 j/\wr.ownsRow w.heap.size 53 5 vv j (ZG ruC (many ruG j s1).1)/\RIn wr rb S (many ruG j s1).2/\Zp rb w wr) (λ_ vi _=>N - (intOf vi).toNat)
 case atStart=>exact⟨0,by omega,by simp,⟨rfl,Or.inl ⟨rfl,rfl⟩⟩,P0.out,I0.out⟩
 case round=>
  obtain⟨j,hj,rfl,hown,hr,ho⟩:=hrel;by_cases hlt2:j<N
  ·have i0:=YF ruG j s1
   obtain⟨s,hs⟩:∃ s,(many ruG j s1).2=s:=⟨_,rfl⟩
   obtain⟨L,hL⟩:∃ L,(many ruG j s1).1=L:=⟨_,rfl⟩
   have hE:=HE.out wr s ho (by rw[<-hs];exact hr);rw[hs,hL]at i0;rw[hL]at hown
   obtain⟨s',hs'⟩:∃ s',(ruG s).2=s':=⟨_,rfl⟩
   obtain⟨x,hx⟩:∃ x,(ruG s).1=x:=⟨_,rfl⟩
   rw[hs',hx]at hE i0;clear hr hs hL hs' hx;obtain⟨x1,x2,x3,x4,x5⟩:=x;have A0:=Hd (show Calls Tryz.prog 66 #[.pointer (some ⟨ob,0,none⟩),.pointer (some ⟨xb,0,none⟩)] wr (ZZ rb S (.agg #[.int .i64 x1,.int .i64 x2,.int .i64 x3,.string x4,.string x5]) s' wr) from hE);have t0:=Hd i0;have s0:=Hd hown;have C0:=Hd ho;have a1:=ho.size;clear hE i0 hown ho;have v0:j<=255:=by omega
   go_wp2_with (first
    |(go_at_call 66;(with_reducible refine A0.out.mono ?_);rintro e w2 ⟨rfl,hr2,ho2⟩;have H0:=Hd hr2;have o0:=Hd (Only.ownsRow ho2 s0.out (λq hq hrq=>by have h9:=(s0.out.lt q hq).1;have h8:q=rb:=hrq;omega));have e0:=Hd (C0.out.thenP ho2);have K0:=e0.out.size;clear hr2 ho2)
    |(at_builtin;refine wpList_append_own _ rfl (.tmp 10) (.tmp 13) 29 rfl w.heap.size 53 iE (.agg #[.int .i64 0,.int .i64 0,.int .i64 0,.string ⟨#[]⟩,.string ⟨#[]⟩]) 5 56 Tryz.underlying29 hiE hz0 hz1 hz2 rfl (by decide) _ _ _ rfl (o0.out.alloc _) ⟨w2.heap.size,0,none⟩ 1 1 [.int .i64 x1,.int .i64 x2,.int .i64 x3,.string x4,.string x5] rfl rfl (XF w2 [.int .i64 x1,.int .i64 x2,.int .i64 x3,.string x4,.string x5] 53) (by intro u hu;simp only[List.mem_cons,List.not_mem_nil,or_false]at hu;(repeat' (rcases hu with hu|hu))<;>(subst_vars;rfl)) (by unfold maxLen;omega) (by omega) (by simp;omega) ?_;intro v' w3 hown1 hgrow1 _)
    |fail)
   have p0:Zp rb w w3:=(e0.out.alloc (.cells #[.int .i64 x1,.int .i64 x2,.int .i64 x3,.string x4,.string x5] 53)).grown hgrow1 (λq hq=>.inr ((o0.out.alloc (.cells #[.int .i64 x1,.int .i64 x2,.int .i64 x3,.string x4,.string x5] 53)).lt q hq).1)
   have L0:RIn w3 rb S s':=by
    obtain⟨i,f,g1,g2,g3⟩:=H0.out;refine⟨i,f,?_,g2,g3⟩;have hk:rb<w2.heap.size:=Zb g1;exact(hgrow1.block rb (by simp;omega) (λe=>by have h9:=((o0.out.alloc (.cells #[.int .i64 x1,.int .i64 x2,.int .i64 x3,.string x4,.string x5] 53)).lt rb e.symm).1;omega)).trans (Ze g1 _)
   refine⟨⟨j+1,by omega,by simp,?_,?_,p0⟩,by simp only[intOf];omega⟩
   ·rw[t0.out,XV];exact hown1
   ·rw[t0.out];exact L0
  ·obtain rfl:j=N:=by omega
   have d0:=Y6 ruG j s1;have b0:wr.ownsRow w.heap.size 53 5 u5 (many ruG j s1).1.length (ZG ruC (many ruG j s1).1):=by rw[d0];exact hown
   have M0:=Hd (JV (k:=5) (by omega) (by omega) (λx=>rfl) (by rw[d0];exact F0) b0);have S0:=Hd hr;have O0:=Hd ho;clear hr ho hown b0 d0
   go_wp2_with fail
   rw[<-N0.out];exact⟨_,rfl,M0.out,S0.out,O0.out⟩
theorem Zf6:(Tryz.prog.info? 9).map (λi=>(i.zero,i.size,i.bytes))=some (some (.string ⟨#[]⟩),1,16):=by kernel_rfl
theorem ZbS(w:World)(rb rc  : Nat)(S:ByteArray)(st:RSt)(h:RIn w rb S st)(hS:S.size<=9223372036854775807)(hc:w.cell? ⟨rc,0,none⟩=some (.pointer (some ⟨rb,0,none⟩)))(nrc:rc≠rb)  :
 Calls Tryz.prog 67 #[.pointer (some ⟨rb,0,none⟩),.func (.func 52) #[] #[.pointer (some ⟨rc,0,none⟩)]] w (XO rb S 1 keyC (getL getT st).1 (getL getT st).2 w):=by
 obtain⟨iE,hiE,hz0,hz1,hz2⟩:=info_parts Zf6;have y0:=h.lt;have g0:=World.block_lt_of_cell? w _ hc;have HE:=Hd (λ(w1:World) (s:RSt) (h1:Zp rb w w1) (h2:RIn w1 rb S s)=>Zdg w1 rb rc S s h2 hS ((h1.cell (p:=⟨rc,0,none⟩) g0 nrc).trans hc));have HN:=Hd (YN w rb S st h hS 1 1 rfl (by omega) (by omega));obtain⟨hb0,hb1⟩:=V2 1 st;have n0:getL getT st=many getT (getN 1 st).1.toNat (getN 1 st).2:=rfl;rw[n0]
 obtain⟨N,hN⟩:∃ N:Nat,(getN 1 st).1=N:=⟨(getN 1 st).1.toNat,by omega⟩
 obtain⟨s1,hs1⟩:∃ s1,(getN 1 st).2=s1:=⟨_,rfl⟩
 rw[hN]at hb0 hb1 HN ⊢;rw[hs1]at HN ⊢;rw[Int.toNat_natCast];have F0:N<=255:=by have:(256:Int) ^ 1=256:=rfl;omega
 obtain⟨PT,hPT⟩:∃ PT,XO rb S 1 keyC (many getT N s1).1 (many getT N s1).2 w=PT:=⟨_,rfl⟩
 rw[hPT];have N0:=Hd hPT;clear h hS hc nrc  n0 hN hs1 hb0 hb1 hPT g0
 go_enter Tryz.func67,Tryz.ntmps67
 go_wp2_with (first
  |(go_at_call 50;(with_reducible refine HN.out.mono ?_);rintro e w1 ⟨rfl,k0,l0⟩;have P0:=Hd k0;have I0:=Hd l0;clear k0 l0)
  |fail)
 go_loopw [5,8] (λvv vi wr=>∃ j:Nat,j<=N/\vi=.int .i64 j/\wr.ownsRow w.heap.size 9 1 vv j (ZG keyC (many getT j s1).1)/\RIn wr rb S (many getT j s1).2/\Zp rb w wr) (λ_ vi _=>N - (intOf vi).toNat)
 case atStart=>exact⟨0,by omega,by simp,⟨rfl,Or.inl ⟨rfl,rfl⟩⟩,P0.out,I0.out⟩
 case round=>
  obtain⟨j,hj,rfl,hown,hr,ho⟩:=hrel;by_cases hlt2:j<N
  ·have i0:=YF getT j s1
   obtain⟨s,hs⟩:∃ s,(many getT j s1).2=s:=⟨_,rfl⟩
   obtain⟨L,hL⟩:∃ L,(many getT j s1).1=L:=⟨_,rfl⟩
   have hE:=HE.out wr s ho (by rw[<-hs];exact hr);rw[hs,hL]at i0;rw[hL]at hown
   obtain⟨s',hs'⟩:∃ s',(getT s).2=s':=⟨_,rfl⟩
   obtain⟨x,hx⟩:∃ x,(getT s).1=x:=⟨_,rfl⟩
   rw[hs',hx]at hE i0;clear hr hs hL hs' hx;have A0:=Hd (show Calls Tryz.prog 52 #[.pointer (some ⟨rc,0,none⟩)] wr (ZZ rb S (.string x) s' wr) from hE);have t0:=Hd i0;have s0:=Hd hown;have C0:=Hd ho;have a1:=ho.size;clear hE i0 hown ho;have v0:j<=255:=by omega
   go_wp2_with (first
    |(go_at_call 52;(with_reducible refine A0.out.mono ?_);rintro e w2 ⟨rfl,hr2,ho2⟩;have H0:=Hd hr2;have o0:=Hd (Only.ownsRow ho2 s0.out (λq hq hrq=>by have h9:=(s0.out.lt q hq).1;have h8:q=rb:=hrq;omega));have e0:=Hd (C0.out.thenP ho2);have K0:=e0.out.size;clear hr2 ho2)
    |(at_builtin;refine wpList_append_own _ rfl (.tmp 10) (.tmp 13) 30 rfl w.heap.size 9 iE (.string ⟨#[]⟩) 1 16 Tryz.underlying30 hiE hz0 hz1 hz2 rfl (by decide) _ _ _ rfl (o0.out.alloc _) ⟨w2.heap.size,0,none⟩ 1 1 [.string x] rfl rfl (XF w2 [.string x] 9) (by intro u hu;simp only[List.mem_cons,List.not_mem_nil,or_false]at hu;(repeat' (rcases hu with hu|hu))<;>(subst_vars;rfl)) (by unfold maxLen;omega) (by omega) (by simp;omega) ?_;intro v' w3 hown1 hgrow1 _)
    |fail)
   have p0:Zp rb w w3:=(e0.out.alloc (.cells #[.string x] 9)).grown hgrow1 (λq hq=>.inr ((o0.out.alloc (.cells #[.string x] 9)).lt q hq).1)
   have L0:RIn w3 rb S s':=by
    obtain⟨i,f,g1,g2,g3⟩:=H0.out;refine⟨i,f,?_,g2,g3⟩;have hk:rb<w2.heap.size:=Zb g1;exact(hgrow1.block rb (by simp;omega) (λe=>by have h9:=((o0.out.alloc (.cells #[.string x] 9)).lt rb e.symm).1;omega)).trans (Ze g1 _)
   refine⟨⟨j+1,by omega,by simp,?_,?_,p0⟩,by simp only[intOf];omega⟩
   ·rw[t0.out,XV];exact hown1
   ·rw[t0.out];exact L0
  ·obtain rfl:j=N:=by omega
   have d0:=Y6 getT j s1;have b0:wr.ownsRow w.heap.size 9 1 u5 (many getT j s1).1.length (ZG keyC (many getT j s1).1):=by rw[d0];exact hown
   have M0:=Hd (JV (k:=1) (by omega) (by omega) (λx=>rfl) (by rw[d0];exact F0) b0);have S0:=Hd hr;have O0:=Hd ho;clear hr ho hown b0 d0
   go_wp2_with fail
   rw[<-N0.out];exact⟨_,rfl,M0.out,S0.out,O0.out⟩
