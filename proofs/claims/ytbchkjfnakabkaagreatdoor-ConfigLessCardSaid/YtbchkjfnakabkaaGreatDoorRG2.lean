import Derived.Test.YtbchkjfnakabkaaGreatDoorRNx
set_option linter.unusedSimpArgs false
set_option linter.unusedVariables false
set_option maxHeartbeats 16000000
set_option maxRecDepth 100000
namespace Go.Proofs.YtbchkjfnakabkaaGreatDoor
open Go.RowKit PX PC
theorem ED:ElemT porC 5 40 51 25 (.agg #[.int .i64 0,.int .i64 0,.int .i64 0,.int .i64 0,.int .i64 0]):=
 ⟨by kernel_rfl,Tryz.underlying25,rfl,by decide,by decide,λ_=>rfl,by intro x u hu;simp only[porC,List.mem_cons,List.not_mem_nil,or_false]at hu;rcases hu with rfl|rfl|rfl|rfl|rfl<;>rfl⟩
theorem QG{α:Type}{w:World}{k n cap r b o:Nat}{f:α->List Value}{l:List α}(h:RowAt w k (.slice (some ⟨b,o,none⟩) n cap) (l.map f))(hr:r<=l.length):RowAt w k (.slice (some ⟨b,o+r*k,none⟩) (n - r) (cap - r)) ((l.drop r).map f):=by
 obtain⟨a',cap',hv,h1,h2,h3,h4⟩:=h;injection hv with e1 e2 e3;subst e1 e2 e3;rw[List.length_map]at *;have M0:((l.drop r).map f).length=l.length - r:=by rw[List.length_map,List.length_drop]
 refine⟨some ⟨b,o+r*k,none⟩,cap - r,by rw[M0],by rw[M0];omega,by omega,by rw[M0];exact Nat.le_trans (Nat.mul_le_mul_right _ (Nat.sub_le ..)) h3,?_⟩;rcases h4 with h4|⟨b',o',e,hb,hc⟩
 ·have:=List.map_eq_nil_iff.1 h4;subst this;exact .inl (by simp)
 ·injection e with e;injection e with e1 e2 _;subst e1 e2;refine .inr ⟨b,o+r*k,rfl,hb,λi hi j hj=>?_⟩;rw[M0]at hi;have:=hc (r+i) (by rw[List.length_map];omega) j hj;rw[List.getElem_map]at this ⊢;rw[List.getElem_drop,<-this,Nat.add_mul,Nat.add_assoc o]
theorem QF{α:Type}(w:World)(k:Nat)(a:Option Addr)(c:Nat)(hc:c<=9223372036854775807)(f:α->List Value):RowAt w k (.slice a 0 c) (([]:List α).map f):=⟨a,c,rfl,Nat.zero_le _,hc,by simp,.inl rfl⟩
theorem U0{α:Type}(l:List α)(k:Nat):(l.take k++l.drop (k+1)).Sublist l:=by
 conv=>rhs;rw[<-List.take_append_drop k l]
 exact List.Sublist.append (List.Sublist.refl _) (by rw[<-List.drop_drop];exact List.drop_sublist _ _)
theorem V6{c:Cfg}(h:c.checkB=true):chkI c=0:=by unfold chkI;rw[h];rfl
theorem Zi7{c:Cfg}(h:c.checkB=false):chkI c=111:=by unfold chkI;rw[h];rfl
theorem ZeR(w:World)(c:Cfg)(v:V7)(which:Int)(h0:RowsOf w c v)(hI:CfgI c)(hW:CfgW c) :
 Calls Tryz.prog 8 #[.agg (cfgA c v),.int .i64 which] w λe w'=>e=.returned (.bool true)/\Later w w':=by
 have P1:=Hd Gy;obtain⟨aV,cV,eqV,pV1,pV2,pV3⟩:=Zk h0.rV
 obtain⟨nV,hnV⟩:∃ n,c.volumes.length=n:=⟨_,rfl⟩
 rw[hnV]at eqV pV1 pV3;obtain⟨aO,cO,eqO,pO1,pO2,pO3⟩:=Zk h0.rO
 obtain⟨nO,hnO⟩:∃ n,c.ports.length=n:=⟨_,rfl⟩
 rw[hnO]at eqO pO1 pO3;obtain⟨aR,cR,eqR,pR1,pR2,pR3⟩:=Zk h0.rR
 obtain⟨nR,hnR⟩:∃ n,c.rules.length=n:=⟨_,rfl⟩
 rw[hnR]at eqR pR1 pR3;have H1:nV*32<=140737488351232:=by rw[<-hnV];exact hW.1
 have F1:nO*40<=140737488351232:=by rw[<-hnO];exact hW.2.1
 have I1:nR*56<=140737488351232:=by rw[<-hnR];exact hW.2.2
 obtain⟨p,hp⟩:∃ p,w.heap.size=p:=⟨_,rfl⟩
 obtain⟨w1,hw1⟩:∃ w1,w.alloc (.cells (cfgA c v) 32)=w1:=⟨_,rfl⟩
 have i1:Later w w1:=by rw[<-hw1];exact(Later.refl w).alloc _
 have j1:VarAt w1 p c v:=by unfold VarAt;rw[<-hw1,<-hp];exact Zd w _
 have p1:=Hd (λ(w':World) (k:Later w1 w')=>j1.later k);have E1:=Hd (λ(w':World) (k:Later w1 w')=>(show w'.cell? ⟨p,5,none⟩=some (.slice aV nV cV) by rw[Zb (j1.later k) 5,<-eqV];rfl));have C1:=Hd (λ(w':World) (k:Later w1 w')=>(show RowAt w' 4 (.slice aV nV cV) (c.volumes.map volC) by rw[<-eqV];exact h0.rV.later (i1.trans k)));have g1:=Hd hnV;have r1:=Hd (λ(w':World) (k:Later w1 w')=>(show w'.cell? ⟨p,4,none⟩=some (.slice aO nO cO) by rw[Zb (j1.later k) 4,<-eqO];rfl));have A1:=Hd (λ(w':World) (k:Later w1 w')=>(show RowAt w' 5 (.slice aO nO cO) (c.ports.map porC) by rw[<-eqO];exact h0.rO.later (i1.trans k)));have f1:=Hd hnO;have s1:=Hd (λ(w':World) (k:Later w1 w')=>(show w'.cell? ⟨p,12,none⟩=some (.slice aR nR cR) by rw[Zb (j1.later k) 12,<-eqR];rfl));have t1:=Hd (λ(w':World) (k:Later w1 w')=>(show RowAt w' 5 (.slice aR nR cR) (c.rules.map ruC) by rw[<-eqR];exact h0.rR.later (i1.trans k)));have b1:=Hd hnR;have J1:=Hd (λ(w':World) (k:Later w1 w')=>Ya w' c v (Rows7.later h0 (i1.trans k)) hI hW);have T1:=Hd (λ(w':World) (k:Later w1 w')=>Ql w' c v (Rows7.later h0 (i1.trans k)) hI);have o0:=Hd (And.intro hI hW);have H0:=Hd h0;have c1:=Hd h0.one;have T0:=Hd i1;have O1:=Hd hw1;have HP:=Hd hp;have hpw:p<w1.heap.size:=j1.lt
 obtain⟨cb,hcb⟩:∃ b,c.checkB=b:=⟨_,rfl⟩
 have O0:=Hd hcb
 obtain⟨ck,L0⟩:∃ n,chkI c=n:=⟨_,rfl⟩
 rw[L0]at J1 T1;have q1:=Hd L0;clear hp hw1 h0 hI hW j1 i1 hcb L0 hnV eqV hnO eqO hnR eqR;cases cb
 ·have L0:=q1.out;rw[Zi7 O0.out]at L0;subst L0
  go_enter Tryz.func8,Tryz.ntmps8
  go_upto_region 1 with fail
  rw[HP.out,O1.out]
  go_wp2_with (first
   |((with_reducible refine ZT (p:=p) (c:=c) (v:=v) 2 ?_ ?_ ?_ ?_ ?_);rfl;rfl;exact p1.out _ La;rfl)
   |(go_at_call 10;(with_reducible refine(J1.out _ La).mono ?_);rintro e w2 ⟨rfl,hl2⟩)
   |(go_at_call 11;(with_reducible refine(T1.out _ La).mono ?_);rintro e w3 ⟨rfl,hl3⟩)
   |(go_at_call 14;(with_reducible refine(P1.out _).mono ?_);rintro e w4 ⟨rfl,p0⟩)
   |fail)
  (try go_ret)
  exact⟨rfl,T0.out.trans La⟩
 ·have L0:=q1.out;rw[V6 O0.out]at L0;subst L0
  go_enter Tryz.func8,Tryz.ntmps8
  go_upto_region 1 with fail
  rw[HP.out,O1.out]
  go_upto_region 3 with(first
   |((with_reducible refine ZT (p:=p) (c:=c) (v:=v) 2 ?_ ?_ ?_ ?_ ?_);rfl;rfl;exact p1.out _ La;rfl)
   |(go_at_call 10;(with_reducible refine(J1.out _ La).mono ?_);rintro e w2 ⟨rfl,hl2⟩)
   |fail)
  have r0:=Hd hl2;have k5:=E1.out w2 hl2
  go_upto_if 23 with fail
  go_cut [5,6] from 23 to 45 (λvx vy wx=>Later w1 wx)
  case first=>
   by_cases hn:0<nV
   ·have d1:decide ((0:Int)<(nV:Int))=true:=decide_eq_true (by omega);have d2:decide (0<nV)=true:=decide_eq_true hn;obtain⟨b,o,hao,-, -⟩:=Zz (C1.out w1 (Later.refl _)) (show 0<c.volumes.length by rw[g1.out];exact hn);subst hao
    go_upto_region 5 with(first
     |((with_reducible refine ZT (p:=p) (c:=c) (v:=v) 2 ?_ ?_ ?_ ?_ ?_);rfl;rfl;exact p1.out _ (r0.out.trans La);rfl)
     |refine wpList_store_row rfl 32 (.tmp 5) (.tmp 24) rfl w2.heap.size (cfgA c v) rfl rfl 32 _ (Zd _ _) (Xr _ _) rfl c1.out ?_
     |fail)
    generalize hW4:World.setRow _ _ _=w4
    obtain⟨q,hq⟩:∃ q,w2.heap.size=q:=⟨_,rfl⟩
    have I0:VarAt w4 q c v:=by rw[<-hW4,<-hq];exact(YV _ _ _ _).1
    have p0:Later w1 w4:=by rw[<-hW4];exact r0.out.trans (YV _ _ _ _).2
    have N1:w1.heap.size<=q:=by rw[<-hq];exact r0.out.size
    rw[hq];have W1:q<w4.heap.size:=I0.lt;have L1:p<w4.heap.size:=by have:=p0.size;omega
    have k5:=E1.out w4 p0;have f0:=Hd I0;have g0:=Hd p0;clear hW4 hq I0 p0;have m1:=Hd (E5 w4 which nV (by omega) (by omega))
    go_upto_region 6 with(first
     |(go_at_call 20;(with_reducible refine m1.out.mono ?_);rintro e w9 ⟨⟨kk,rfl,hk⟩,C0⟩;have C0:=C0.symm;subst C0)
     |fail)
    have K1:IntKind.i64.wrap ((kk:Int)+1)=(kk:Int)+1:=by rw[IntKind.wrap_i64];omega
    have N0:kk<=c.volumes.length:=by rw[g1.out];omega
    have P0:=Hd N0;have n0:=Hd (show(c.volumes.take kk).length=kk by rw[List.length_take];omega);have q0:=Hd (show(c.volumes.drop (kk+1)).length=nV - (kk+1) by rw[List.length_drop,g1.out]);have S0:=Hd (show(([]:List Vol).length+kk)*32<=140737488355328 by simp;omega);have R0:=Hd (show((c.volumes.take kk).length+(c.volumes.drop (kk+1)).length)*32<=140737488355328 by rw[n0.out,q0.out];omega);have s0:=Hd (show(c.volumes.take kk++c.volumes.drop (kk+1)).length*4<=140737488355328 by rw[List.length_append,n0.out,q0.out];omega);have o1:kk+1<=nV:=hk;have l1:kk<=cV:=by omega
    have k1:kk+1<=cV:=by omega
    obtain⟨nl,hnl⟩:∃ n,(c.volumes.take kk++c.volumes.drop (kk+1)).length=n:=⟨_,rfl⟩
    have a1:=Hd hnl;have R1:(0:Int)<=(kk:Int)+1:=by omega
    have M1:(kk:Int)+1<=(nV:Int):=by omega
    have S1:(kk:Int)<=(kk:Int)+1:=by omega
    clear N0 hnl;by_cases hpk:cV=kk+1
    ·have n1:nV=kk+1:=by omega
     subst hpk n1;have z0:=Hd (λ(w':World) (k':Later w1 w')=>(show RowAt w' 4 (.slice (some ⟨b,o,none⟩) 0 0) ((c.volumes.drop (kk+1)).map volC) from by rw[show c.volumes.drop (kk+1)=[] from List.drop_of_length_le (by rw[g1.out];exact Nat.le_refl _)];exact QF _ _ _ _ (by omega) _))
     go_region_law (first
      | (refine Zv X9 rfl (.tmp 30) (.tmp 34) rfl (W0:=w4) La _ [] (c.volumes.take kk) (by rfl) (Xy volC (by first | exact Zd _ _ | exact Zo (by simp) | exact Ze (Zd _ _) _) (by simp)) (some ⟨b,o,none⟩) kk (kk+1) n0.out (by rfl) (Vm (C1.out _ (g0.out.trans La)) P0.out) (by rw [n0.out];exact S0.out) ?_
         intro v1 w5 hown1 hl5 hk1;have k5:=E1.out w5 (g0.out.trans hl5);have y1:=Zb (hl5.block f0.out) 5;have F0:=Hd hown1
         clear hown1 hk1)
      | (refine Zv X9 rfl (.tmp 35) (.tmp 40) rfl (W0:=w4) La _ (c.volumes.take kk) (c.volumes.drop (kk+1)) (by rfl) F0.out _ 0 0 (by rw [q0.out];omega) (by rfl) (z0.out _ (g0.out.trans La)) R0.out ?_
         intro v2 w6 hown2 hl6 hk2
         obtain⟨a2,c2,e2⟩:∃ a2 c2,v2=.slice a2 nl c2:=by
          obtain⟨a2,c2,e2,-⟩:=Zk (Z5 (l:=c.volumes.take kk++c.volumes.drop (kk+1)) (k:=4) (f:=volC) (λ_=>rfl) s0.out hown2);exact⟨a2,c2,by rw[e2,a1.out]⟩
         subst e2;have z1:w6.cell? ⟨q,5,none⟩=some v.V:=Zb (hl6.block f0.out) 5;have z2:=Zc (hl6.block f0.out) 5;have z3:=Za (hl6.block f0.out);have v0:=Hd hown2
         clear hown2 hk2)
      |fail)
     all_goals
      generalize hW7:World.setCell _ _ _=w7
      obtain⟨X,hX⟩:∃ X,Value.slice a2 nl c2=X:=⟨_,rfl⟩
      have e0:=v0.out;rw[hX]at e0 hW7
      obtain⟨L,hL⟩:∃ L,c.volumes.take kk++c.volumes.drop (kk+1)=L:=⟨_,rfl⟩
      have b0:L.Sublist c.volumes:=by rw[<-hL];exact U0 _ _
      have l0:=s0.out;rw[hL]at e0 l0;have i0:Later w1 w7:=by rw[<-hW7];exact Later.setC (g0.out.trans hl6) (by omega) _ _
      have k0:VarAt w7 q { c with volumes:=L } { v with V:=X }:=by rw[<-hW7];exact VarAt.set (f0.out.later hl6) 5 _ rfl
      have c0:RowAt w7 4 X (L.map volC):=by
       rw[<-hW7];exact RowAt.far (Z5 (λ_=>rfl) l0 e0) (λg' e=>by have:=(e0.lt g' e).1;omega)
      have a0:RowsOf w7 { c with volumes:=L } { v with V:=X }:=by
       have hh:=Rows7.later H0.out (T0.out.trans i0);exact⟨hh.rF,hh.rP,hh.rW,hh.rO,c0,hh.rR,hh.rK⟩
      have hd:CfgI { c with volumes:=L }:=by
       have i:=o0.out.1;have d0:∀ {P:_->Prop},(∀x∈c.volumes,P x)->∀ x∈L,P x:=λh' x hx=>h' x (b0.subset hx)
       exact⟨i.levels,i.flows,i.parts,i.windows,i.ports,d0 i.volumes,i.audit,i.boot,i.sectors,i.rules,i.keys,i.login,i.recovery,i.bound⟩
      have j0:CfgW { c with volumes:=L }:=by
       have K0:L.length*32<=140737488351232:=by have:=b0.length_le;rw[g1.out]at this;omega
       exact⟨K0,o0.out.2.2.1,o0.out.2.2.2⟩
      have m0:=V6 (Eb b0 O0.out)
      obtain⟨d,hdd⟩:∃ x:Cfg,{ c with volumes:=L }=x:=⟨_,rfl⟩
      obtain⟨vd,hvd⟩:∃ x:V7,{ v with V:=X }=x:=⟨_,rfl⟩
      rw[hdd,hvd]at k0 a0;rw[hdd]at hd j0 m0;have y0:=Hd (λ(w':World) (k:Later w7 w')=>m0▸Ya w' d vd (Rows7.later a0 k) hd j0);have A0:=Hd (λ(w':World) (k:Later w7 w')=>k0.later k);have t0:=Hd i0;clear hW7 hX e0 hL b0 l0 i0 k0 c0 a0 hd j0 m0 hdd hvd z1 z2 z3 k5
      go_wp2_with (first
       |((with_reducible refine ZT (p:=q) (c:=d) (v:=vd) 5 ?_ ?_ ?_ ?_ ?_);rfl;rfl;exact A0.out _ La;rfl)
       |(go_at_call 10;(with_reducible refine(y0.out _ La).mono ?_);rintro e w8 ⟨rfl,hl8⟩)
       |fail)
      go_meet
      case rel=>exact t0.out.trans hl8
    ·have z0:=Hd (λ(w':World) (k':Later w1 w')=>(show RowAt w' 4 (.slice (some ⟨b,o+(kk+1)*4,none⟩) (nV - (kk+1)) (cV - (kk+1))) ((c.volumes.drop (kk+1)).map volC) from QG (C1.out _ k') (by rw[g1.out];omega)))
     go_region_law (first
      | (refine Zv X9 rfl (.tmp 30) (.tmp 34) rfl (W0:=w4) La _ [] (c.volumes.take kk) (by rfl) (Xy volC (by first | exact Zd _ _ | exact Zo (by simp) | exact Ze (Zd _ _) _) (by simp)) (some ⟨b,o,none⟩) kk cV n0.out (by rfl) (Vm (C1.out _ (g0.out.trans La)) P0.out) (by rw [n0.out];exact S0.out) ?_
         intro v1 w5 hown1 hl5 hk1;have k5:=E1.out w5 (g0.out.trans hl5);have y1:=Zb (hl5.block f0.out) 5;have F0:=Hd hown1
         clear hown1 hk1)
      | (refine Zv X9 rfl (.tmp 35) (.tmp 40) rfl (W0:=w4) La _ (c.volumes.take kk) (c.volumes.drop (kk+1)) (by rfl) F0.out _ (nV - (kk+1)) (cV - (kk+1)) q0.out (by rfl) (z0.out _ (g0.out.trans La)) R0.out ?_
         intro v2 w6 hown2 hl6 hk2
         obtain⟨a2,c2,e2⟩:∃ a2 c2,v2=.slice a2 nl c2:=by
          obtain⟨a2,c2,e2,-⟩:=Zk (Z5 (l:=c.volumes.take kk++c.volumes.drop (kk+1)) (k:=4) (f:=volC) (λ_=>rfl) s0.out hown2);exact⟨a2,c2,by rw[e2,a1.out]⟩
         subst e2;have z1:w6.cell? ⟨q,5,none⟩=some v.V:=Zb (hl6.block f0.out) 5;have z2:=Zc (hl6.block f0.out) 5;have z3:=Za (hl6.block f0.out);have v0:=Hd hown2
         clear hown2 hk2)
      |fail)
     all_goals
      generalize hW7:World.setCell _ _ _=w7
      obtain⟨X,hX⟩:∃ X,Value.slice a2 nl c2=X:=⟨_,rfl⟩
      have e0:=v0.out;rw[hX]at e0 hW7
      obtain⟨L,hL⟩:∃ L,c.volumes.take kk++c.volumes.drop (kk+1)=L:=⟨_,rfl⟩
      have b0:L.Sublist c.volumes:=by rw[<-hL];exact U0 _ _
      have l0:=s0.out;rw[hL]at e0 l0;have i0:Later w1 w7:=by rw[<-hW7];exact Later.setC (g0.out.trans hl6) (by omega) _ _
      have k0:VarAt w7 q { c with volumes:=L } { v with V:=X }:=by rw[<-hW7];exact VarAt.set (f0.out.later hl6) 5 _ rfl
      have c0:RowAt w7 4 X (L.map volC):=by
       rw[<-hW7];exact RowAt.far (Z5 (λ_=>rfl) l0 e0) (λg' e=>by have:=(e0.lt g' e).1;omega)
      have a0:RowsOf w7 { c with volumes:=L } { v with V:=X }:=by
       have hh:=Rows7.later H0.out (T0.out.trans i0);exact⟨hh.rF,hh.rP,hh.rW,hh.rO,c0,hh.rR,hh.rK⟩
      have hd:CfgI { c with volumes:=L }:=by
       have i:=o0.out.1;have d0:∀ {P:_->Prop},(∀x∈c.volumes,P x)->∀ x∈L,P x:=λh' x hx=>h' x (b0.subset hx)
       exact⟨i.levels,i.flows,i.parts,i.windows,i.ports,d0 i.volumes,i.audit,i.boot,i.sectors,i.rules,i.keys,i.login,i.recovery,i.bound⟩
      have j0:CfgW { c with volumes:=L }:=by
       have K0:L.length*32<=140737488351232:=by have:=b0.length_le;rw[g1.out]at this;omega
       exact⟨K0,o0.out.2.2.1,o0.out.2.2.2⟩
      have m0:=V6 (Eb b0 O0.out)
      obtain⟨d,hdd⟩:∃ x:Cfg,{ c with volumes:=L }=x:=⟨_,rfl⟩
      obtain⟨vd,hvd⟩:∃ x:V7,{ v with V:=X }=x:=⟨_,rfl⟩
      rw[hdd,hvd]at k0 a0;rw[hdd]at hd j0 m0;have y0:=Hd (λ(w':World) (k:Later w7 w')=>m0▸Ya w' d vd (Rows7.later a0 k) hd j0);have A0:=Hd (λ(w':World) (k:Later w7 w')=>k0.later k);have t0:=Hd i0;clear hW7 hX e0 hL b0 l0 i0 k0 c0 a0 hd j0 m0 hdd hvd z1 z2 z3 k5
      go_wp2_with (first
       |((with_reducible refine ZT (p:=q) (c:=d) (v:=vd) 5 ?_ ?_ ?_ ?_ ?_);rfl;rfl;exact A0.out _ La;rfl)
       |(go_at_call 10;(with_reducible refine(y0.out _ La).mono ?_);rintro e w8 ⟨rfl,hl8⟩)
       |fail)
      go_meet
      case rel=>exact t0.out.trans hl8
   ·have d1:decide ((0:Int)<(nV:Int))=false:=decide_eq_false (by omega);have d2:decide (0<nV)=false:=decide_eq_false hn
    go_wp2_with fail
    go_meet
    case rel=>exact r0.out
  case rest=>
   obtain⟨wV,H1⟩:∃ y,wc=y:=⟨_,rfl⟩
   rw[H1]at hcut ⊢;clear H1 k5;have r0:=Hd hcut;have k5:=r1.out wV hcut
   go_upto_if 49 with fail
   go_cut [7,8] from 49 to 71 (λvx vy wx=>Later w1 wx)
   case first=>
    by_cases hn:0<nO
    ·have d1:decide ((0:Int)<(nO:Int))=true:=decide_eq_true (by omega);have d2:decide (0<nO)=true:=decide_eq_true hn;obtain⟨b,o,hao,-, -⟩:=Zz (A1.out w1 (Later.refl _)) (show 0<c.ports.length by rw[f1.out];exact hn);subst hao
     go_upto_region 11 with(first
      |((with_reducible refine ZT (p:=p) (c:=c) (v:=v) 2 ?_ ?_ ?_ ?_ ?_);rfl;rfl;exact p1.out _ (r0.out.trans La);rfl)
      |refine wpList_store_row rfl 32 (.tmp 7) (.tmp 50) rfl wV.heap.size (cfgA c v) rfl rfl 32 _ (Zd _ _) (Xr _ _) rfl c1.out ?_
      |fail)
     generalize hW4:World.setRow _ _ _=w4
     obtain⟨q,hq⟩:∃ q,wV.heap.size=q:=⟨_,rfl⟩
     have I0:VarAt w4 q c v:=by rw[<-hW4,<-hq];exact(YV _ _ _ _).1
     have p0:Later w1 w4:=by rw[<-hW4];exact r0.out.trans (YV _ _ _ _).2
     have N1:w1.heap.size<=q:=by rw[<-hq];exact r0.out.size
     rw[hq];have W1:q<w4.heap.size:=I0.lt;have L1:p<w4.heap.size:=by have:=p0.size;omega
     have k5:=r1.out w4 p0;have f0:=Hd I0;have g0:=Hd p0;clear hW4 hq I0 p0;have m1:=Hd (E5 w4 which nO (by omega) (by omega))
     go_upto_region 12 with(first
      |(go_at_call 20;(with_reducible refine m1.out.mono ?_);rintro e w9 ⟨⟨kk,rfl,hk⟩,C0⟩;have C0:=C0.symm;subst C0)
      |fail)
     have K1:IntKind.i64.wrap ((kk:Int)+1)=(kk:Int)+1:=by rw[IntKind.wrap_i64];omega
     have N0:kk<=c.ports.length:=by rw[f1.out];omega
     have P0:=Hd N0;have n0:=Hd (show(c.ports.take kk).length=kk by rw[List.length_take];omega);have q0:=Hd (show(c.ports.drop (kk+1)).length=nO - (kk+1) by rw[List.length_drop,f1.out]);have S0:=Hd (show(([]:List Por).length+kk)*40<=140737488355328 by simp;omega);have R0:=Hd (show((c.ports.take kk).length+(c.ports.drop (kk+1)).length)*40<=140737488355328 by rw[n0.out,q0.out];omega);have s0:=Hd (show(c.ports.take kk++c.ports.drop (kk+1)).length*5<=140737488355328 by rw[List.length_append,n0.out,q0.out];omega);have o1:kk+1<=nO:=hk;have l1:kk<=cO:=by omega
     have k1:kk+1<=cO:=by omega
     obtain⟨nl,hnl⟩:∃ n,(c.ports.take kk++c.ports.drop (kk+1)).length=n:=⟨_,rfl⟩
     have a1:=Hd hnl;have R1:(0:Int)<=(kk:Int)+1:=by omega
     have M1:(kk:Int)+1<=(nO:Int):=by omega
     have S1:(kk:Int)<=(kk:Int)+1:=by omega
     clear N0 hnl;by_cases hpk:cO=kk+1
     ·have n1:nO=kk+1:=by omega
      subst hpk n1;have z0:=Hd (λ(w':World) (k':Later w1 w')=>(show RowAt w' 5 (.slice (some ⟨b,o,none⟩) 0 0) ((c.ports.drop (kk+1)).map porC) from by rw[show c.ports.drop (kk+1)=[] from List.drop_of_length_le (by rw[f1.out];exact Nat.le_refl _)];exact QF _ _ _ _ (by omega) _))
      go_region_law (first
       | (refine Zv ED rfl (.tmp 56) (.tmp 60) rfl (W0:=w4) La _ [] (c.ports.take kk) (by rfl) (Xy porC (by first | exact Zd _ _ | exact Zo (by simp) | exact Ze (Zd _ _) _) (by simp)) (some ⟨b,o,none⟩) kk (kk+1) n0.out (by rfl) (Vm (A1.out _ (g0.out.trans La)) P0.out) (by rw [n0.out];exact S0.out) ?_
          intro v1 w5 hown1 hl5 hk1;have k5:=r1.out w5 (g0.out.trans hl5);have y1:=Zb (hl5.block f0.out) 4;have F0:=Hd hown1
          clear hown1 hk1)
       | (refine Zv ED rfl (.tmp 61) (.tmp 66) rfl (W0:=w4) La _ (c.ports.take kk) (c.ports.drop (kk+1)) (by rfl) F0.out _ 0 0 (by rw [q0.out];omega) (by rfl) (z0.out _ (g0.out.trans La)) R0.out ?_
          intro v2 w6 hown2 hl6 hk2
          obtain⟨a2,c2,e2⟩:∃ a2 c2,v2=.slice a2 nl c2:=by
           obtain⟨a2,c2,e2,-⟩:=Zk (Z5 (l:=c.ports.take kk++c.ports.drop (kk+1)) (k:=5) (f:=porC) (λ_=>rfl) s0.out hown2);exact⟨a2,c2,by rw[e2,a1.out]⟩
          subst e2;have z1:w6.cell? ⟨q,4,none⟩=some v.O:=Zb (hl6.block f0.out) 4;have z2:=Zc (hl6.block f0.out) 4;have z3:=Za (hl6.block f0.out);have v0:=Hd hown2
          clear hown2 hk2)
       |fail)
      all_goals
       generalize hW7:World.setCell _ _ _=w7
       obtain⟨X,hX⟩:∃ X,Value.slice a2 nl c2=X:=⟨_,rfl⟩
       have e0:=v0.out;rw[hX]at e0 hW7
       obtain⟨L,hL⟩:∃ L,c.ports.take kk++c.ports.drop (kk+1)=L:=⟨_,rfl⟩
       have b0:L.Sublist c.ports:=by rw[<-hL];exact U0 _ _
       have l0:=s0.out;rw[hL]at e0 l0;have i0:Later w1 w7:=by rw[<-hW7];exact Later.setC (g0.out.trans hl6) (by omega) _ _
       have k0:VarAt w7 q { c with ports:=L } { v with O:=X }:=by rw[<-hW7];exact VarAt.set (f0.out.later hl6) 4 _ rfl
       have c0:RowAt w7 5 X (L.map porC):=by
        rw[<-hW7];exact RowAt.far (Z5 (λ_=>rfl) l0 e0) (λg' e=>by have:=(e0.lt g' e).1;omega)
       have a0:RowsOf w7 { c with ports:=L } { v with O:=X }:=by
        have hh:=Rows7.later H0.out (T0.out.trans i0);exact⟨hh.rF,hh.rP,hh.rW,c0,hh.rV,hh.rR,hh.rK⟩
       have hd:CfgI { c with ports:=L }:=by
        have i:=o0.out.1;have d0:∀ {P:_->Prop},(∀x∈c.ports,P x)->∀ x∈L,P x:=λh' x hx=>h' x (b0.subset hx)
        exact⟨i.levels,i.flows,i.parts,i.windows,d0 i.ports,i.volumes,i.audit,i.boot,i.sectors,i.rules,i.keys,i.login,i.recovery,i.bound⟩
       have j0:CfgW { c with ports:=L }:=by
        have K0:L.length*40<=140737488351232:=by have:=b0.length_le;rw[f1.out]at this;omega
        exact⟨o0.out.2.1,K0,o0.out.2.2.2⟩
       have m0:=V6 (G6 b0 O0.out)
       obtain⟨d,hdd⟩:∃ x:Cfg,{ c with ports:=L }=x:=⟨_,rfl⟩
       obtain⟨vd,hvd⟩:∃ x:V7,{ v with O:=X }=x:=⟨_,rfl⟩
       rw[hdd,hvd]at k0 a0;rw[hdd]at hd j0 m0;have y0:=Hd (λ(w':World) (k:Later w7 w')=>m0▸Ya w' d vd (Rows7.later a0 k) hd j0);have A0:=Hd (λ(w':World) (k:Later w7 w')=>k0.later k);have t0:=Hd i0;clear hW7 hX e0 hL b0 l0 i0 k0 c0 a0 hd j0 m0 hdd hvd z1 z2 z3 k5
       go_wp2_with (first
        |((with_reducible refine ZT (p:=q) (c:=d) (v:=vd) 7 ?_ ?_ ?_ ?_ ?_);rfl;rfl;exact A0.out _ La;rfl)
        |(go_at_call 10;(with_reducible refine(y0.out _ La).mono ?_);rintro e w8 ⟨rfl,hl8⟩)
        |fail)
       go_meet
       case rel=>exact t0.out.trans hl8
     ·have z0:=Hd (λ(w':World) (k':Later w1 w')=>(show RowAt w' 5 (.slice (some ⟨b,o+(kk+1)*5,none⟩) (nO - (kk+1)) (cO - (kk+1))) ((c.ports.drop (kk+1)).map porC) from QG (A1.out _ k') (by rw[f1.out];omega)))
      go_region_law (first
       | (refine Zv ED rfl (.tmp 56) (.tmp 60) rfl (W0:=w4) La _ [] (c.ports.take kk) (by rfl) (Xy porC (by first | exact Zd _ _ | exact Zo (by simp) | exact Ze (Zd _ _) _) (by simp)) (some ⟨b,o,none⟩) kk cO n0.out (by rfl) (Vm (A1.out _ (g0.out.trans La)) P0.out) (by rw [n0.out];exact S0.out) ?_
          intro v1 w5 hown1 hl5 hk1;have k5:=r1.out w5 (g0.out.trans hl5);have y1:=Zb (hl5.block f0.out) 4;have F0:=Hd hown1
          clear hown1 hk1)
       | (refine Zv ED rfl (.tmp 61) (.tmp 66) rfl (W0:=w4) La _ (c.ports.take kk) (c.ports.drop (kk+1)) (by rfl) F0.out _ (nO - (kk+1)) (cO - (kk+1)) q0.out (by rfl) (z0.out _ (g0.out.trans La)) R0.out ?_
          intro v2 w6 hown2 hl6 hk2
          obtain⟨a2,c2,e2⟩:∃ a2 c2,v2=.slice a2 nl c2:=by
           obtain⟨a2,c2,e2,-⟩:=Zk (Z5 (l:=c.ports.take kk++c.ports.drop (kk+1)) (k:=5) (f:=porC) (λ_=>rfl) s0.out hown2);exact⟨a2,c2,by rw[e2,a1.out]⟩
          subst e2;have z1:w6.cell? ⟨q,4,none⟩=some v.O:=Zb (hl6.block f0.out) 4;have z2:=Zc (hl6.block f0.out) 4;have z3:=Za (hl6.block f0.out);have v0:=Hd hown2
          clear hown2 hk2)
       |fail)
      all_goals
       generalize hW7:World.setCell _ _ _=w7
       obtain⟨X,hX⟩:∃ X,Value.slice a2 nl c2=X:=⟨_,rfl⟩
       have e0:=v0.out;rw[hX]at e0 hW7
       obtain⟨L,hL⟩:∃ L,c.ports.take kk++c.ports.drop (kk+1)=L:=⟨_,rfl⟩
       have b0:L.Sublist c.ports:=by rw[<-hL];exact U0 _ _
       have l0:=s0.out;rw[hL]at e0 l0;have i0:Later w1 w7:=by rw[<-hW7];exact Later.setC (g0.out.trans hl6) (by omega) _ _
       have k0:VarAt w7 q { c with ports:=L } { v with O:=X }:=by rw[<-hW7];exact VarAt.set (f0.out.later hl6) 4 _ rfl
       have c0:RowAt w7 5 X (L.map porC):=by
        rw[<-hW7];exact RowAt.far (Z5 (λ_=>rfl) l0 e0) (λg' e=>by have:=(e0.lt g' e).1;omega)
       have a0:RowsOf w7 { c with ports:=L } { v with O:=X }:=by
        have hh:=Rows7.later H0.out (T0.out.trans i0);exact⟨hh.rF,hh.rP,hh.rW,c0,hh.rV,hh.rR,hh.rK⟩
       have hd:CfgI { c with ports:=L }:=by
        have i:=o0.out.1;have d0:∀ {P:_->Prop},(∀x∈c.ports,P x)->∀ x∈L,P x:=λh' x hx=>h' x (b0.subset hx)
        exact⟨i.levels,i.flows,i.parts,i.windows,d0 i.ports,i.volumes,i.audit,i.boot,i.sectors,i.rules,i.keys,i.login,i.recovery,i.bound⟩
       have j0:CfgW { c with ports:=L }:=by
        have K0:L.length*40<=140737488351232:=by have:=b0.length_le;rw[f1.out]at this;omega
        exact⟨o0.out.2.1,K0,o0.out.2.2.2⟩
       have m0:=V6 (G6 b0 O0.out)
       obtain⟨d,hdd⟩:∃ x:Cfg,{ c with ports:=L }=x:=⟨_,rfl⟩
       obtain⟨vd,hvd⟩:∃ x:V7,{ v with O:=X }=x:=⟨_,rfl⟩
       rw[hdd,hvd]at k0 a0;rw[hdd]at hd j0 m0;have y0:=Hd (λ(w':World) (k:Later w7 w')=>m0▸Ya w' d vd (Rows7.later a0 k) hd j0);have A0:=Hd (λ(w':World) (k:Later w7 w')=>k0.later k);have t0:=Hd i0;clear hW7 hX e0 hL b0 l0 i0 k0 c0 a0 hd j0 m0 hdd hvd z1 z2 z3 k5
       go_wp2_with (first
        |((with_reducible refine ZT (p:=q) (c:=d) (v:=vd) 7 ?_ ?_ ?_ ?_ ?_);rfl;rfl;exact A0.out _ La;rfl)
        |(go_at_call 10;(with_reducible refine(y0.out _ La).mono ?_);rintro e w8 ⟨rfl,hl8⟩)
        |fail)
       go_meet
       case rel=>exact t0.out.trans hl8
    ·have d1:decide ((0:Int)<(nO:Int))=false:=decide_eq_false (by omega);have d2:decide (0<nO)=false:=decide_eq_false hn
     go_wp2_with fail
     go_meet
     case rel=>exact r0.out
   case rest=>
    obtain⟨wO,F1⟩:∃ y,wc=y:=⟨_,rfl⟩
    rw[F1]at hcut ⊢;clear F1 k5;have r0:=Hd hcut;have k5:=s1.out wO hcut
    go_upto_if 75 with fail
    go_cut [9,10] from 75 to 97 (λvx vy wx=>Later w1 wx)
    case first=>
     by_cases hn:0<nR
     ·have d1:decide ((0:Int)<(nR:Int))=true:=decide_eq_true (by omega);have d2:decide (0<nR)=true:=decide_eq_true hn;obtain⟨b,o,hao,-, -⟩:=Zz (t1.out w1 (Later.refl _)) (show 0<c.rules.length by rw[b1.out];exact hn);subst hao
      go_upto_region 17 with(first
       |((with_reducible refine ZT (p:=p) (c:=c) (v:=v) 2 ?_ ?_ ?_ ?_ ?_);rfl;rfl;exact p1.out _ (r0.out.trans La);rfl)
       |refine wpList_store_row rfl 32 (.tmp 9) (.tmp 76) rfl wO.heap.size (cfgA c v) rfl rfl 32 _ (Zd _ _) (Xr _ _) rfl c1.out ?_
       |fail)
      generalize hW4:World.setRow _ _ _=w4
      obtain⟨q,hq⟩:∃ q,wO.heap.size=q:=⟨_,rfl⟩
      have I0:VarAt w4 q c v:=by rw[<-hW4,<-hq];exact(YV _ _ _ _).1
      have p0:Later w1 w4:=by rw[<-hW4];exact r0.out.trans (YV _ _ _ _).2
      have N1:w1.heap.size<=q:=by rw[<-hq];exact r0.out.size
      rw[hq];have W1:q<w4.heap.size:=I0.lt;have L1:p<w4.heap.size:=by have:=p0.size;omega
      have k5:=s1.out w4 p0;have f0:=Hd I0;have g0:=Hd p0;clear hW4 hq I0 p0;have m1:=Hd (E5 w4 which nR (by omega) (by omega))
      go_upto_region 18 with(first
       |(go_at_call 20;(with_reducible refine m1.out.mono ?_);rintro e w9 ⟨⟨kk,rfl,hk⟩,C0⟩;have C0:=C0.symm;subst C0)
       |fail)
      have K1:IntKind.i64.wrap ((kk:Int)+1)=(kk:Int)+1:=by rw[IntKind.wrap_i64];omega
      have N0:kk<=c.rules.length:=by rw[b1.out];omega
      have P0:=Hd N0;have n0:=Hd (show(c.rules.take kk).length=kk by rw[List.length_take];omega);have q0:=Hd (show(c.rules.drop (kk+1)).length=nR - (kk+1) by rw[List.length_drop,b1.out]);have S0:=Hd (show(([]:List Ru).length+kk)*56<=140737488355328 by simp;omega);have R0:=Hd (show((c.rules.take kk).length+(c.rules.drop (kk+1)).length)*56<=140737488355328 by rw[n0.out,q0.out];omega);have s0:=Hd (show(c.rules.take kk++c.rules.drop (kk+1)).length*5<=140737488355328 by rw[List.length_append,n0.out,q0.out];omega);have o1:kk+1<=nR:=hk;have l1:kk<=cR:=by omega
      have k1:kk+1<=cR:=by omega
      obtain⟨nl,hnl⟩:∃ n,(c.rules.take kk++c.rules.drop (kk+1)).length=n:=⟨_,rfl⟩
      have a1:=Hd hnl;have R1:(0:Int)<=(kk:Int)+1:=by omega
      have M1:(kk:Int)+1<=(nR:Int):=by omega
      have S1:(kk:Int)<=(kk:Int)+1:=by omega
      clear N0 hnl;by_cases hpk:cR=kk+1
      ·have n1:nR=kk+1:=by omega
       subst hpk n1;have z0:=Hd (λ(w':World) (k':Later w1 w')=>(show RowAt w' 5 (.slice (some ⟨b,o,none⟩) 0 0) ((c.rules.drop (kk+1)).map ruC) from by rw[show c.rules.drop (kk+1)=[] from List.drop_of_length_le (by rw[b1.out];exact Nat.le_refl _)];exact QF _ _ _ _ (by omega) _))
       go_region_law (first
        | (refine Zv Q2 rfl (.tmp 82) (.tmp 86) rfl (W0:=w4) La _ [] (c.rules.take kk) (by rfl) (Xy ruC (by first | exact Zd _ _ | exact Zo (by simp) | exact Ze (Zd _ _) _) (by simp)) (some ⟨b,o,none⟩) kk (kk+1) n0.out (by rfl) (Vm (t1.out _ (g0.out.trans La)) P0.out) (by rw [n0.out];exact S0.out) ?_
           intro v1 w5 hown1 hl5 hk1;have k5:=s1.out w5 (g0.out.trans hl5);have y1:=Zb (hl5.block f0.out) 12;have F0:=Hd hown1
           clear hown1 hk1)
        | (refine Zv Q2 rfl (.tmp 87) (.tmp 92) rfl (W0:=w4) La _ (c.rules.take kk) (c.rules.drop (kk+1)) (by rfl) F0.out _ 0 0 (by rw [q0.out];omega) (by rfl) (z0.out _ (g0.out.trans La)) R0.out ?_
           intro v2 w6 hown2 hl6 hk2
           obtain⟨a2,c2,e2⟩:∃ a2 c2,v2=.slice a2 nl c2:=by
            obtain⟨a2,c2,e2,-⟩:=Zk (Z5 (l:=c.rules.take kk++c.rules.drop (kk+1)) (k:=5) (f:=ruC) (λ_=>rfl) s0.out hown2);exact⟨a2,c2,by rw[e2,a1.out]⟩
           subst e2;have z1:w6.cell? ⟨q,12,none⟩=some v.R:=Zb (hl6.block f0.out) 12;have z2:=Zc (hl6.block f0.out) 12;have z3:=Za (hl6.block f0.out);have v0:=Hd hown2
           clear hown2 hk2)
        |fail)
       all_goals
        generalize hW7:World.setCell _ _ _=w7
        obtain⟨X,hX⟩:∃ X,Value.slice a2 nl c2=X:=⟨_,rfl⟩
        have e0:=v0.out;rw[hX]at e0 hW7
        obtain⟨L,hL⟩:∃ L,c.rules.take kk++c.rules.drop (kk+1)=L:=⟨_,rfl⟩
        have b0:L.Sublist c.rules:=by rw[<-hL];exact U0 _ _
        have l0:=s0.out;rw[hL]at e0 l0;have i0:Later w1 w7:=by rw[<-hW7];exact Later.setC (g0.out.trans hl6) (by omega) _ _
        have k0:VarAt w7 q { c with rules:=L } { v with R:=X }:=by rw[<-hW7];exact VarAt.set (f0.out.later hl6) 12 _ rfl
        have c0:RowAt w7 5 X (L.map ruC):=by
         rw[<-hW7];exact RowAt.far (Z5 (λ_=>rfl) l0 e0) (λg' e=>by have:=(e0.lt g' e).1;omega)
        have a0:RowsOf w7 { c with rules:=L } { v with R:=X }:=by
         have hh:=Rows7.later H0.out (T0.out.trans i0);exact⟨hh.rF,hh.rP,hh.rW,hh.rO,hh.rV,c0,hh.rK⟩
        have hd:CfgI { c with rules:=L }:=by
         have i:=o0.out.1;have d0:∀ {P:_->Prop},(∀x∈c.rules,P x)->∀ x∈L,P x:=λh' x hx=>h' x (b0.subset hx)
         exact⟨i.levels,i.flows,i.parts,i.windows,i.ports,i.volumes,i.audit,i.boot,i.sectors,d0 i.rules,i.keys,i.login,i.recovery,i.bound⟩
        have j0:CfgW { c with rules:=L }:=by
         have K0:L.length*56<=140737488351232:=by have:=b0.length_le;rw[b1.out]at this;omega
         exact⟨o0.out.2.1,o0.out.2.2.1,K0⟩
        have m0:=V6 (G2 b0 O0.out)
        obtain⟨d,hdd⟩:∃ x:Cfg,{ c with rules:=L }=x:=⟨_,rfl⟩
        obtain⟨vd,hvd⟩:∃ x:V7,{ v with R:=X }=x:=⟨_,rfl⟩
        rw[hdd,hvd]at k0 a0;rw[hdd]at hd j0 m0;have y0:=Hd (λ(w':World) (k:Later w7 w')=>m0▸Ya w' d vd (Rows7.later a0 k) hd j0);have A0:=Hd (λ(w':World) (k:Later w7 w')=>k0.later k);have t0:=Hd i0;clear hW7 hX e0 hL b0 l0 i0 k0 c0 a0 hd j0 m0 hdd hvd z1 z2 z3 k5
        go_wp2_with (first
         |((with_reducible refine ZT (p:=q) (c:=d) (v:=vd) 9 ?_ ?_ ?_ ?_ ?_);rfl;rfl;exact A0.out _ La;rfl)
         |(go_at_call 10;(with_reducible refine(y0.out _ La).mono ?_);rintro e w8 ⟨rfl,hl8⟩)
         |fail)
        go_meet
        case rel=>exact t0.out.trans hl8
      ·have z0:=Hd (λ(w':World) (k':Later w1 w')=>(show RowAt w' 5 (.slice (some ⟨b,o+(kk+1)*5,none⟩) (nR - (kk+1)) (cR - (kk+1))) ((c.rules.drop (kk+1)).map ruC) from QG (t1.out _ k') (by rw[b1.out];omega)))
       go_region_law (first
        | (refine Zv Q2 rfl (.tmp 82) (.tmp 86) rfl (W0:=w4) La _ [] (c.rules.take kk) (by rfl) (Xy ruC (by first | exact Zd _ _ | exact Zo (by simp) | exact Ze (Zd _ _) _) (by simp)) (some ⟨b,o,none⟩) kk cR n0.out (by rfl) (Vm (t1.out _ (g0.out.trans La)) P0.out) (by rw [n0.out];exact S0.out) ?_
           intro v1 w5 hown1 hl5 hk1;have k5:=s1.out w5 (g0.out.trans hl5);have y1:=Zb (hl5.block f0.out) 12;have F0:=Hd hown1
           clear hown1 hk1)
        | (refine Zv Q2 rfl (.tmp 87) (.tmp 92) rfl (W0:=w4) La _ (c.rules.take kk) (c.rules.drop (kk+1)) (by rfl) F0.out _ (nR - (kk+1)) (cR - (kk+1)) q0.out (by rfl) (z0.out _ (g0.out.trans La)) R0.out ?_
           intro v2 w6 hown2 hl6 hk2
           obtain⟨a2,c2,e2⟩:∃ a2 c2,v2=.slice a2 nl c2:=by
            obtain⟨a2,c2,e2,-⟩:=Zk (Z5 (l:=c.rules.take kk++c.rules.drop (kk+1)) (k:=5) (f:=ruC) (λ_=>rfl) s0.out hown2);exact⟨a2,c2,by rw[e2,a1.out]⟩
           subst e2;have z1:w6.cell? ⟨q,12,none⟩=some v.R:=Zb (hl6.block f0.out) 12;have z2:=Zc (hl6.block f0.out) 12;have z3:=Za (hl6.block f0.out);have v0:=Hd hown2
           clear hown2 hk2)
        |fail)
       all_goals
        generalize hW7:World.setCell _ _ _=w7
        obtain⟨X,hX⟩:∃ X,Value.slice a2 nl c2=X:=⟨_,rfl⟩
        have e0:=v0.out;rw[hX]at e0 hW7
        obtain⟨L,hL⟩:∃ L,c.rules.take kk++c.rules.drop (kk+1)=L:=⟨_,rfl⟩
        have b0:L.Sublist c.rules:=by rw[<-hL];exact U0 _ _
        have l0:=s0.out;rw[hL]at e0 l0;have i0:Later w1 w7:=by rw[<-hW7];exact Later.setC (g0.out.trans hl6) (by omega) _ _
        have k0:VarAt w7 q { c with rules:=L } { v with R:=X }:=by rw[<-hW7];exact VarAt.set (f0.out.later hl6) 12 _ rfl
        have c0:RowAt w7 5 X (L.map ruC):=by
         rw[<-hW7];exact RowAt.far (Z5 (λ_=>rfl) l0 e0) (λg' e=>by have:=(e0.lt g' e).1;omega)
        have a0:RowsOf w7 { c with rules:=L } { v with R:=X }:=by
         have hh:=Rows7.later H0.out (T0.out.trans i0);exact⟨hh.rF,hh.rP,hh.rW,hh.rO,hh.rV,c0,hh.rK⟩
        have hd:CfgI { c with rules:=L }:=by
         have i:=o0.out.1;have d0:∀ {P:_->Prop},(∀x∈c.rules,P x)->∀ x∈L,P x:=λh' x hx=>h' x (b0.subset hx)
         exact⟨i.levels,i.flows,i.parts,i.windows,i.ports,i.volumes,i.audit,i.boot,i.sectors,d0 i.rules,i.keys,i.login,i.recovery,i.bound⟩
        have j0:CfgW { c with rules:=L }:=by
         have K0:L.length*56<=140737488351232:=by have:=b0.length_le;rw[b1.out]at this;omega
         exact⟨o0.out.2.1,o0.out.2.2.1,K0⟩
        have m0:=V6 (G2 b0 O0.out)
        obtain⟨d,hdd⟩:∃ x:Cfg,{ c with rules:=L }=x:=⟨_,rfl⟩
        obtain⟨vd,hvd⟩:∃ x:V7,{ v with R:=X }=x:=⟨_,rfl⟩
        rw[hdd,hvd]at k0 a0;rw[hdd]at hd j0 m0;have y0:=Hd (λ(w':World) (k:Later w7 w')=>m0▸Ya w' d vd (Rows7.later a0 k) hd j0);have A0:=Hd (λ(w':World) (k:Later w7 w')=>k0.later k);have t0:=Hd i0;clear hW7 hX e0 hL b0 l0 i0 k0 c0 a0 hd j0 m0 hdd hvd z1 z2 z3 k5
        go_wp2_with (first
         |((with_reducible refine ZT (p:=q) (c:=d) (v:=vd) 9 ?_ ?_ ?_ ?_ ?_);rfl;rfl;exact A0.out _ La;rfl)
         |(go_at_call 10;(with_reducible refine(y0.out _ La).mono ?_);rintro e w8 ⟨rfl,hl8⟩)
         |fail)
        go_meet
        case rel=>exact t0.out.trans hl8
     ·have d1:decide ((0:Int)<(nR:Int))=false:=decide_eq_false (by omega);have d2:decide (0<nR)=false:=decide_eq_false hn
      go_wp2_with fail
      go_meet
      case rel=>exact r0.out
    case rest=>
     obtain⟨wR,I1⟩:∃ y,wc=y:=⟨_,rfl⟩
     rw[I1]at hcut ⊢;clear I1 k5
     go_wp2_with (first
      |(go_at_call 14;(with_reducible refine(P1.out _).mono ?_);rintro e w9 ⟨rfl,hl9⟩)
      |fail)
     (try go_ret)
     exact⟨rfl,T0.out.trans (hcut.trans hl9)⟩
theorem ZeQ(w:World)(cs:List Value)(c:Cfg)(which:Int)(h:CfgIn w cs c)(hI:CfgI c)(hW:CfgW c) :
 Calls Tryz.prog 8 #[.agg cs.toArray,.int .i64 which] w λe w'=>e=.returned (.bool true)/\Below w.heap.size w w':=by
 obtain⟨v,hv,hr⟩:=h.asA;rw[hv]
 exact(ZeR w c v which hr hI hW).mono λe w' ⟨he,hl⟩=>⟨he,hl.out⟩
end Go.Proofs.YtbchkjfnakabkaaGreatDoor
