import Derived.Test.YtbchkjfnakabkaaGreatDoorRNx
set_option linter.unusedSimpArgs false
set_option linter.unusedVariables false
set_option maxHeartbeats 16000000
set_option maxRecDepth 100000
namespace Go.Proofs.YtbchkjfnakabkaaGreatDoor
open Go.RowKit PX PC
open Go.Act renaming put -> p0
open List renaming getElem_toArray -> p1, getElem_cons_succ -> p2, getElem_cons_zero -> p3, setIfInBounds_toArray -> p4, set_cons_zero -> p5, set_cons_succ -> p6
theorem Zci(w:World)(c:Cfg)(v:V7)(h:RowsOf w c v)(hI:CfgI c)(hW:CfgW c) :
 Calls Tryz.prog 6 #[.agg (cfgA c v)] w λe w'=>e=.returned (.bool true)/\Later w w':=by
 have k3:=Hd Bt;obtain⟨aF,cF,eqF,gF1,gF2,gF3⟩:=Zl h.rF
 obtain⟨nF,hnF⟩:∃ n,c.flows.length=n:=⟨_,rfl⟩
 rw[hnF]at eqF gF1 gF3;obtain⟨aP,cP,eqP,gP1,gP2,gP3⟩:=Zl h.rP
 obtain⟨nP,hnP⟩:∃ n,c.parts.length=n:=⟨_,rfl⟩
 rw[hnP]at eqP gP1 gP3;obtain⟨aW,cW,eqW,gW1,gW2,gW3⟩:=Zl h.rW
 obtain⟨nW,hnW⟩:∃ n,c.windows.length=n:=⟨_,rfl⟩
 rw[hnW]at eqW gW1 gW3;obtain⟨aO,cO,eqO,gO1,gO2,gO3⟩:=Zl h.rO
 obtain⟨nO,hnO⟩:∃ n,c.ports.length=n:=⟨_,rfl⟩
 rw[hnO]at eqO gO1 gO3;obtain⟨aV,cV,eqV,gV1,gV2,gV3⟩:=Zl h.rV
 obtain⟨nV,hnV⟩:∃ n,c.volumes.length=n:=⟨_,rfl⟩
 rw[hnV]at eqV gV1 gV3;obtain⟨aR,cR,eqR,gR1,gR2,gR3⟩:=Zl h.rR
 obtain⟨nR,hnR⟩:∃ n,c.rules.length=n:=⟨_,rfl⟩
 rw[hnR]at eqR gR1 gR3
 obtain⟨p,hp⟩:∃ p,w.heap.size=p:=⟨_,rfl⟩
 obtain⟨w1,hw1⟩:∃ w1,w.alloc (.cells (cfgA c v) 32)=w1:=⟨_,rfl⟩
 have t0:Later w w1:=by rw[<-hw1];exact(Later.refl w).alloc _
 have o0:VarAt w1 p c v:=by unfold VarAt;rw[<-hw1,<-hp];exact Zd w _
 have h0:=Hd (λ(w':World) (k:Later w1 w')=>o0.later k);have R3:=Hd (λ(w':World) (k:Later w1 w')=>(show w'.cell? ⟨p,1,none⟩=some (.slice aF nF cF) by rw[Za (o0.later k) 1,<-eqF];rfl));have R4:=Hd (λ(w':World) (k:Later w1 w')=>(show RowAt w' 2 (.slice aF nF cF) (c.flows.map Xx) by rw[<-eqF];exact h.rF.later (t0.trans k)));have L2:=Hd hnF;have P1:=Hd (λ(w':World) (k:Later w1 w')=>(show w'.cell? ⟨p,2,none⟩=some (.slice aP nP cP) by rw[Za (o0.later k) 2,<-eqP];rfl));have k2:=Hd (λ(w':World) (k:Later w1 w')=>(show RowAt w' 2 (.slice aP nP cP) (c.parts.map XQ) by rw[<-eqP];exact h.rP.later (t0.trans k)));have Z2:=Hd hnP;have N4:=Hd (λ(w':World) (k:Later w1 w')=>(show w'.cell? ⟨p,3,none⟩=some (.slice aW nW cW) by rw[Za (o0.later k) 3,<-eqW];rfl));have l4:=Hd (λ(w':World) (k:Later w1 w')=>(show RowAt w' 3 (.slice aW nW cW) (c.windows.map winC) by rw[<-eqW];exact h.rW.later (t0.trans k)));have l3:=Hd hnW;have s4:=Hd (λ(w':World) (k:Later w1 w')=>(show w'.cell? ⟨p,4,none⟩=some (.slice aO nO cO) by rw[Za (o0.later k) 4,<-eqO];rfl));have Z3:=Hd (λ(w':World) (k:Later w1 w')=>(show RowAt w' 5 (.slice aO nO cO) (c.ports.map porC) by rw[<-eqO];exact h.rO.later (t0.trans k)));have M4:=Hd hnO;have O4:=Hd (λ(w':World) (k:Later w1 w')=>(show w'.cell? ⟨p,5,none⟩=some (.slice aV nV cV) by rw[Za (o0.later k) 5,<-eqV];rfl));have H2:=Hd (λ(w':World) (k:Later w1 w')=>(show RowAt w' 4 (.slice aV nV cV) (c.volumes.map volC) by rw[<-eqV];exact h.rV.later (t0.trans k)));have N0:=Hd hnV;have J3:=Hd (λ(w':World) (k:Later w1 w')=>(show w'.cell? ⟨p,12,none⟩=some (.slice aR nR cR) by rw[Za (o0.later k) 12,<-eqR];rfl));have q4:=Hd (λ(w':World) (k:Later w1 w')=>(show RowAt w' 5 (.slice aR nR cR) (c.rules.map ruC) by rw[<-eqR];exact h.rR.later (t0.trans k)));have a4:=Hd hnR;have I2:=Hd (λ(w':World) (k:Later w1 w')=>Uz w' c v (Rows7.later h (t0.trans k)) hI hW);have A2:=Hd (λ(w':World) (k:Later w1 w')=>Zcb w' c v (Rows7.later h (t0.trans k)) hI);have S2:=Hd (λ(w':World) (k:Later w1 w')=>Be w' c v (Rows7.later h (t0.trans k)) hI hW);have HII:=Hd hI;have b4:=Hd hW;have d3:=Hd t0;have C3:=Hd hw1;have HP:=Hd hp;have hpw:p<w1.heap.size:=o0.lt;have HVV:=Hd o0
 obtain⟨cb,l1⟩:∃ b,c.checkB=b:=⟨_,rfl⟩
 have l2:=Hd l1
 obtain⟨ck,F0⟩:∃ n,chkI c=n:=⟨_,rfl⟩
 rw[F0]at I2 A2;have O1:=Hd F0
 obtain⟨nb,hnb⟩:∃ n,c.needB=n:=⟨_,rfl⟩
 rw[hnb]at S2;have j4:=Hd hnb;clear hp hw1 h hI hW o0 t0 l1 F0 hnb hnF eqF hnP eqP hnW eqW hnO eqO hnV eqV hnR eqR;cases cb
 ·have F0:=O1.out;rw[show chkI c=111 by unfold chkI;rw[l2.out];rfl]at F0;subst F0
  go_enter Tryz.func6,Tryz.ntmps6
  go_upto_region 1 with fail
  rw[HP.out,C3.out]
  go_wp2_with (first
   |((with_reducible refine Xt (p:=p) (c:=c) (v:=v) 1 ?_ ?_ ?_ ?_ ?_);rfl;rfl;exact h0.out _ La;rfl)
   |(go_at_call 10;(with_reducible refine(I2.out _ La).mono ?_);rintro e w2 ⟨rfl,hl2⟩)
   |(go_at_call 11;(with_reducible refine(A2.out _ La).mono ?_);rintro e w3 ⟨rfl,hl3⟩)
   |(go_at_call 14;(with_reducible refine(k3.out _).mono ?_);rintro e w4 ⟨rfl,R1⟩)
   |fail)
  (try go_ret)
  exact⟨rfl,d3.out.trans La⟩
 ·have F0:=O1.out;rw[show chkI c=0 by unfold chkI;rw[l2.out];rfl]at F0;subst F0;have l1:=l2.out;unfold Cfg.checkB at l1;rw[Bool.and_eq_true,Bool.and_eq_true]at l1;obtain⟨hfine,-, hbound⟩:=l1;have v0:nb=c.need:=by rw[<-j4.out];unfold Cfg.needB;rw[if_pos hfine]
  rw[<-v0,ZI]at hbound;have s0:3<=nb:=by rw[v0];exact ZbI hfine
  obtain⟨hlat,hparts,hwins,hports,hdisk,hrules,htexts⟩:=Jq hfine;have A1:=YA.1 hlat;obtain⟨N,hN⟩:=Int.eq_ofNat_of_zero_le (show 0<=c.levels by have:=A1.lo;omega);have c3:1<=N/\N<=8:=by have h1:=A1.lo;have h2:=A1.hi;omega
  have j3:∀ q∈c.flows,lev N q.1/\lev N q.2:=λq hq=>by have:=A1.pairs q hq;rw[hN]at this;exact this
  rw[JE]at hdisk;rw[Bool.and_eq_true,Bool.and_eq_true,Bool.and_eq_true]at hdisk;obtain⟨hhead,hexts,hapart,-⟩:=hdisk;have hh:=Gj.1 hhead;obtain⟨S,hS⟩:=Int.eq_ofNat_of_zero_le (show 0<=c.sectors by omega);obtain⟨bo,hbo⟩:=Int.eq_ofNat_of_zero_le hh.2.2.2.2.1;have d4:1<=S/\S<=4096/\bo+2<=S:=by omega
  have J1:∀ x∈c.exts,0<=x.first/\1<=x.count/\x.first+x.count<=S:=λx hx=>by
   unfold Cfg.exts at hx;rw[List.mem_append,List.mem_cons,List.mem_singleton]at hx;rcases hx with hx|rfl|rfl
   ·have:=Jr.1 (List.all_eq_true.1 hexts x hx);rw[hS]at this;exact⟨this.1,this.2.1,this.2.2.1⟩
   ·have:=Jr.1 hh.2.2.1;rw[hS]at this;exact⟨this.1,this.2.1,this.2.2.1⟩
   ·refine⟨hh.2.2.2.2.1,by show(1:Int)<=2;omega,by show c.boot+2<=(S:Int);omega⟩
  have hK:=λ(w':World) (k:VarAt w' p c v)=>And.intro (show w'.cell? ⟨p,0,none⟩=some (.int .i64 (N:Int)) by rw[Za k 0,<-hN];rfl) (And.intro (show w'.cell? ⟨p,11,none⟩=some (.int .i64 (S:Int)) by rw[Za k 11,<-hS];rfl) (show w'.cell? ⟨p,10,none⟩=some (.int .i64 (bo:Int)) by rw[Za k 10,<-hbo];rfl))
  have HK:=Hd hK;have HFN:=Hd hfine;have t4:=Hd (And.intro hbound s0);have M3:=Hd J1;have c4:=Hd hapart;have o3:=Hd j3;have F2:=Hd (And.intro hN (And.intro hS hbo));have T3:=Hd hparts;have P3:=Hd hwins;have L4:=Hd hports;have H4:=Hd hrules;clear hfine hbound s0 hlat hparts hwins hports hexts hapart hrules htexts A1 j3 hhead hh J1 hK v0
  go_enter Tryz.func6,Tryz.ntmps6
  go_upto_region 1 with fail
  rw[HP.out,C3.out];have L1:∀ W:World,(Instr.makeSlice 44 (.int .i64 (S:Int)) (.int .i64 (S:Int))).run Tryz.prog W=.ok (.slice (some ⟨W.heap.size,0,none⟩) S S) (W.alloc (.cells (rowI S λ_=>0) 3)):=λW=>WP W S d4.2.1
  go_upto_region 5 with(first
   |((with_reducible refine Xt (p:=p) (c:=c) (v:=v) 1 ?_ ?_ ?_ ?_ ?_);rfl;rfl;exact h0.out _ La;rfl)
   |(go_at_call 10;(with_reducible refine(I2.out _ La).mono ?_);rintro e w2 ⟨rfl,hl2⟩)
   |(go_at_call 11;(with_reducible refine(A2.out _ La).mono ?_);rintro e w3 ⟨rfl,hl3⟩)
   |fail)
  have H0:Later w1 w2:=hl3.trans hl2;obtain⟨k0,k11,k10⟩:=HK.out w2 (h0.out w2 H0)
  go_upto_region 6 with fail
  clear L1 k0 k11 k10
  obtain⟨ub,hub⟩:∃ g,w2.heap.size=g:=⟨_,rfl⟩
  obtain⟨w4,hw4⟩:∃ y,w2.alloc (.cells (rowI S λ_=>0) 3)=y:=⟨_,rfl⟩
  rw[hub,hw4];have R2:UsedAt w4 ub S λ_=>0:=by unfold UsedAt;rw[<-hw4];exact Zq hub
  have R1:Later w1 w4:=by rw[<-hw4];exact H0.alloc _
  have P4:w1.heap.size<=ub:=by rw[<-hub];exact H0.size
  have O3:ub<w4.heap.size:=Zb R2;have hp4:p<w4.heap.size:=by omega
  have I3:=Hd R2;have r0:=Hd R1
  obtain⟨al,haL⟩:∃ x,c.audit.level=x:=⟨_,rfl⟩
  obtain⟨af,haF⟩:∃ x,c.audit.first=x:=⟨_,rfl⟩
  obtain⟨ac,haC⟩:∃ x,c.audit.count=x:=⟨_,rfl⟩
  obtain⟨aj,haJ⟩:∃ x,c.audit.journal=x:=⟨_,rfl⟩
  have A3:c.audit=⟨al,af,ac,aj⟩:=by rw[<-haL,<-haF,<-haC,<-haJ]
  have g3:=Hd (λ(w':World) (k:Later w1 w')=>And.intro (O4.out w' k) (And.intro (show w'.cell? ⟨p,6,none⟩=some (.int .i64 al) by rw[Za (h0.out w' k) 6,<-haL];rfl) (And.intro (show w'.cell? ⟨p,7,none⟩=some (.int .i64 af) by rw[Za (h0.out w' k) 7,<-haF];rfl) (And.intro (show w'.cell? ⟨p,8,none⟩=some (.int .i64 ac) by rw[Za (h0.out w' k) 8,<-haC];rfl) (And.intro (show w'.cell? ⟨p,9,none⟩=some (.int .i64 aj) by rw[Za (h0.out w' k) 9,<-haJ];rfl) (HK.out w' (h0.out w' k)).2.2)))))
  obtain⟨E,hE⟩:∃ E,c.volumes++[(⟨al,af,ac,aj⟩:Vol),⟨0,(bo:Int),2,0⟩]=E:=⟨_,rfl⟩
  have F3:c.exts=E:=by rw[<-hE];unfold Cfg.exts;rw[A3,F2.out.2.2]
  have h3:E.length=nV+2:=by rw[<-hE,List.length_append,N0.out];rfl
  have l0:=Hd h3;have P2:=Hd hE;have m0:=M3.out;have M0:=c4.out;rw[F3]at m0 M0;have C4:=Hd m0;have h4:=Hd M0;have hbV:nV*32<=140737488351232:=by rw[<-N0.out];exact b4.out.1
  have P0:=Hd (show(([]:List Vol).length+c.volumes.length)*32<=140737488355328 by rw[N0.out];simp;omega);have R0:=Hd (show(c.volumes.length+[(⟨al,af,ac,aj⟩:Vol),⟨0,(bo:Int),2,0⟩].length)*32<=140737488355328 by rw[N0.out];simp;omega);obtain⟨k5,k6,k7,k8,k9,k10⟩:=g3.out w4 R1;clear hw4 hub R2 R1 H0 hl2 hl3 haL haF haC haJ A3 hE F3 h3 m0 M0
  go_cut [4] from 37 to 47 (λvc wx=>∃ g cap,vc=.slice (some ⟨g,0,none⟩) (nV+2) cap/\w4.heap.size<=g/\RowAt wx 4 (.slice (some ⟨g,0,none⟩) (nV+2) cap) (E.map volC)/\Later w4 wx)
  case first=>
   have q0:=Hd (λ(w':World) (k:Later w4 w')=>g3.out w' (r0.out.trans k));refine wp_region_held_drew (S:=λw'=>w'.cell? ⟨p,5,none⟩=some (.slice aV nV cV)/\w'.cell? ⟨p,6,none⟩=some (.int .i64 al)/\w'.cell? ⟨p,7,none⟩=some (.int .i64 af)/\w'.cell? ⟨p,8,none⟩=some (.int .i64 ac)/\w'.cell? ⟨p,9,none⟩=some (.int .i64 aj)/\w'.cell? ⟨p,10,none⟩=some (.int .i64 (bo:Int))) (by kernel_rfl) (q0.out _ La) (λa0=>?_);refine tkS 1 a0 ?_;refine tkS 2 a0 ?_;refine tkS 4 a0 ?_;refine tkS 5 a0 ?_;refine tkS 6 a0 ?_;refine tkS 7 a0 ?_;refine tkS 8 a0 ?_;refine wpAnyH_ready (rs:=[0,9]) (by kernel_rfl) (by simp) ?_;refine AllReadyH.cons rfl (λK hK=>?_) (AllReadyH.cons rfl (λK hK=>?_) AllReadyH.nil)
   ·go_simp
    refine hK.out _ _ ?_ (λa0=>?_)
    ·exact q0.out _ La
    clear hK K
    (try simp only[p0,p1,p2,p3,p4,p5,p6])
    refine wpAnyH_ready (rs:=[3,9]) (by kernel_rfl) (by simp) ?_;refine AllReadyH.cons rfl (λK hK=>?_) (AllReadyH.cons rfl (λK hK=>?_) AllReadyH.nil)
    ·refine Xn Y8 rfl (.tmp 37) (.tmp 39) rfl (W0:=w4) La _ [] c.volumes (by rfl) (Jo volC (by first|exact Zd _ _|exact Zq (by simp)|exact Ze (Zd _ _) _) (by simp)) aV nV cV N0.out (by rfl) (H2.out _ (r0.out.trans La)) P0.out ?_;intro v1 w5 hown1 z0 hk1;have K0:=Hd hown1;have K1:=Hd hk1;clear hown1 hk1;refine hK.out _ _ ?_ (λa0=>?_)
     ·exact q0.out _ La
     clear hK K
     (try simp only[p0,p1,p2,p3,p4,p5,p6])
     refine rd1 9 (λK hK=>?_)
     go_simp
     refine hK.out _ _ ?_ (λa0=>?_)
     ·exact q0.out _ La
     clear hK K
     (try simp only[p0,p1,p2,p3,p4,p5,p6])
     refine rd1 10 (λK hK=>?_);refine Xn Y8 rfl (.tmp 40) (.tmp 46) rfl (W0:=w4) La _ c.volumes [(⟨al,af,ac,aj⟩:Vol),⟨0,(bo:Int),2,0⟩] (by rfl) (by first|exact K0.out|exact K0.out.alloc _) _ 2 2 rfl (by rfl) (UM (λ_=>rfl) (x:=(⟨al,af,ac,aj⟩:Vol)) (y:=⟨0,(bo:Int),2,0⟩) (f:=volC) (by first|exact Zd _ _|exact Zq (by simp)|(exact K1.out _ _ (by first|exact Zd _ _|exact Zq (by simp)|exact Ze (Zd _ _) _) (by simp[Value.ownBlock]))) rfl (by decide)) R0.out ?_;intro v2 w6 hown2 hl6 hk2;have C0:=Hd hown2;clear hown2 hk2;refine hK.out _ _ ?_ (λa0=>?_)
     ·exact q0.out _ La
     clear hK K
     (try simp only[p0,p1,p2,p3,p4,p5,p6])
     refine tkS 11 a0 ?_;refine wpAnyH_done (by kernel_rfl) ?_ _
     go_wp2_with fail
     go_meet
     case rel=>
      have g0:=C0.out;rw[P2.out]at g0;obtain⟨g,cap,rfl,hc1,hc2⟩:=Xz g0 (by rw[l0.out];omega);have hg:=(g0.lt g rfl).1;rw[l0.out]at g0 ⊢;exact⟨g,cap,rfl,hg,by rw[<-l0.out];exact Jh (λ_=>rfl) (by rw[l0.out];omega) (by rw[l0.out];exact g0),hl6⟩
    ·go_simp
     refine hK.out _ _ ?_ (λa0=>?_)
     ·exact q0.out _ La
     clear hK K
     (try simp only[p0,p1,p2,p3,p4,p5,p6])
     refine rd1 3 (λK hK=>?_);refine Xn Y8 rfl (.tmp 37) (.tmp 39) rfl (W0:=w4) La _ [] c.volumes (by rfl) (Jo volC (by first|exact Zd _ _|exact Zq (by simp)|exact Ze (Zd _ _) _) (by simp)) aV nV cV N0.out (by rfl) (H2.out _ (r0.out.trans La)) P0.out ?_;intro v1 w5 hown1 z0 hk1;have K0:=Hd hown1;have K1:=Hd hk1;clear hown1 hk1;refine hK.out _ _ ?_ (λa0=>?_)
     ·exact q0.out _ La
     clear hK K
     (try simp only[p0,p1,p2,p3,p4,p5,p6])
     refine rd1 10 (λK hK=>?_);refine Xn Y8 rfl (.tmp 40) (.tmp 46) rfl (W0:=w4) La _ c.volumes [(⟨al,af,ac,aj⟩:Vol),⟨0,(bo:Int),2,0⟩] (by rfl) (by first|exact K0.out|exact K0.out.alloc _) _ 2 2 rfl (by rfl) (UM (λ_=>rfl) (x:=(⟨al,af,ac,aj⟩:Vol)) (y:=⟨0,(bo:Int),2,0⟩) (f:=volC) (by first|exact Zd _ _|exact Zq (by simp)|(exact K1.out _ _ (by first|exact Zd _ _|exact Zq (by simp)|exact Ze (Zd _ _) _) (by simp[Value.ownBlock]))) rfl (by decide)) R0.out ?_;intro v2 w6 hown2 hl6 hk2;have C0:=Hd hown2;clear hown2 hk2;refine hK.out _ _ ?_ (λa0=>?_)
     ·exact q0.out _ La
     clear hK K
     (try simp only[p0,p1,p2,p3,p4,p5,p6])
     refine tkS 11 a0 ?_;refine wpAnyH_done (by kernel_rfl) ?_ _
     go_wp2_with fail
     go_meet
     case rel=>
      have g0:=C0.out;rw[P2.out]at g0;obtain⟨g,cap,rfl,hc1,hc2⟩:=Xz g0 (by rw[l0.out];omega);have hg:=(g0.lt g rfl).1;rw[l0.out]at g0 ⊢;exact⟨g,cap,rfl,hg,by rw[<-l0.out];exact Jh (λ_=>rfl) (by rw[l0.out];omega) (by rw[l0.out];exact g0),hl6⟩
   ·go_simp
    refine hK.out _ _ ?_ (λa0=>?_)
    ·exact q0.out _ La
    clear hK K
    (try simp only[p0,p1,p2,p3,p4,p5,p6])
    refine rd1 0 (λK hK=>?_)
    go_simp
    refine hK.out _ _ ?_ (λa0=>?_)
    ·exact q0.out _ La
    clear hK K
    (try simp only[p0,p1,p2,p3,p4,p5,p6])
    refine rd1 3 (λK hK=>?_);refine Xn Y8 rfl (.tmp 37) (.tmp 39) rfl (W0:=w4) La _ [] c.volumes (by rfl) (Jo volC (by first|exact Zd _ _|exact Zq (by simp)|exact Ze (Zd _ _) _) (by simp)) aV nV cV N0.out (by rfl) (H2.out _ (r0.out.trans La)) P0.out ?_;intro v1 w5 hown1 z0 hk1;have K0:=Hd hown1;have K1:=Hd hk1;clear hown1 hk1;refine hK.out _ _ ?_ (λa0=>?_)
    ·exact q0.out _ La
    clear hK K
    (try simp only[p0,p1,p2,p3,p4,p5,p6])
    refine rd1 10 (λK hK=>?_);refine Xn Y8 rfl (.tmp 40) (.tmp 46) rfl (W0:=w4) La _ c.volumes [(⟨al,af,ac,aj⟩:Vol),⟨0,(bo:Int),2,0⟩] (by rfl) (by first|exact K0.out|exact K0.out.alloc _) _ 2 2 rfl (by rfl) (UM (λ_=>rfl) (x:=(⟨al,af,ac,aj⟩:Vol)) (y:=⟨0,(bo:Int),2,0⟩) (f:=volC) (by first|exact Zd _ _|exact Zq (by simp)|(exact K1.out _ _ (by first|exact Zd _ _|exact Zq (by simp)|exact Ze (Zd _ _) _) (by simp[Value.ownBlock]))) rfl (by decide)) R0.out ?_;intro v2 w6 hown2 hl6 hk2;have C0:=Hd hown2;clear hown2 hk2;refine hK.out _ _ ?_ (λa0=>?_)
    ·exact q0.out _ La
    clear hK K
    (try simp only[p0,p1,p2,p3,p4,p5,p6])
    refine tkS 11 a0 ?_;refine wpAnyH_done (by kernel_rfl) ?_ _
    go_wp2_with fail
    go_meet
    case rel=>
     have g0:=C0.out;rw[P2.out]at g0;obtain⟨g,cap,rfl,hc1,hc2⟩:=Xz g0 (by rw[l0.out];omega);have hg:=(g0.lt g rfl).1;rw[l0.out]at g0 ⊢;exact⟨g,cap,rfl,hg,by rw[<-l0.out];exact Jh (λ_=>rfl) (by rw[l0.out];omega) (by rw[l0.out];exact g0),hl6⟩
  case rest=>
   obtain⟨g,cap,rfl,hg4,hRL,z0⟩:=hcut
   obtain⟨wa,hwa⟩:∃ y,wc=y:=⟨_,rfl⟩
   rw[hwa]at hRL z0 ⊢;clear hwa k5 k6 k7 k8 k9 k10;have s3:=I3.out.later z0;have j2:=r0.out.trans z0;have hgu:ub<g:=Nat.lt_of_lt_of_le O3 hg4;have a3:=Hd (λ(w':World) (k:Only (λq=>q=ub) wa w')=>(show Later w1 w' from Below.trans j2 (k.below (Below.size j2) λq e=>by rw[e];exact P4)))
   have z4:=Hd (λ(w':World) (k:Only (λq=>q=ub) wa w') (j:Nat) (hj:j<E.length) (q:Nat) (hq:q<4)=>(show w'.cell? ⟨g,0+j*4+q,none⟩=(volC E[j])[q]? by
    obtain⟨b',o',he,hb,hc⟩:=Zz hRL hj;injection he with he;injection he with h1' h2' _;subst h1' h2';rw[k.cell (p:=⟨g,0+j*4+q,none⟩) hb (λe=>by have:g=ub:=e;omega)]
    exact hc q hq))
   have S4:=Hd s3;clear hRL s3 j2 z0 hg4 I3
   go_wp2_with fail
   go_loopw [5] (λvi wx=>∃ (i:Nat) (f:Nat->Nat),i<=nV+2/\vi=.int .i64 (i:Int)/\UsedAt wx ub S f/\(∀k,k<S->(∀y∈E.take i,hasS y k=false)->f k=0)/\Only (λq=>q=ub) wa wx) (λvi _=>nV+2 - (intOf vi).toNat)
   case atStart=>exact⟨0,λ_=>0,by omega,rfl,S4.out,λ_ _ _=>rfl,Only.refl _ _⟩
   case round=>
    obtain⟨i,f,hi,rfl,hU,hf,hO⟩:=hrel;by_cases hlt:i<nV+2
    ·as_aux_lemma=>
      have b0:i<E.length:=by rw[l0.out];exact hlt
      have hdi:decide (i<nV+2)=true:=decide_eq_true hlt;have T1:=C4.out _ (List.getElem_mem b0);have H3:=λ(k:Nat) (hk:hasS E[i] k=true)=>Zcm h4.out b0 hk
      have T0:=Zs b0;have i0:=λ(w':World) (k:Only (λq=>q=ub) wa w')=>z4.out w' k i b0
      obtain⟨x,hx⟩:∃ x,E[i]=x:=⟨_,rfl⟩
      rw[hx]at T1 T0;have E1:∀ k,hasS x k=true->∀ y∈E.take i,hasS y k=false:=λk hk=>H3 k (by rw[hx];exact hk)
      have I0:∀ (w':World) (k:Only (λq=>q=ub) wa w'),w'.cell? ⟨g,i*4+1,none⟩=some (.int .i64 x.first)/\w'.cell? ⟨g,i*4+2,none⟩=some (.int .i64 x.count):=λw' k=>by
       have h1:=i0 w' k 1 (by omega);have h2:=i0 w' k 2 (by omega);rw[hx]at h1 h2;simp only[volC,List.getElem?_cons_zero,List.getElem?_cons_succ,Nat.zero_add]at h1 h2;exact⟨h1,h2⟩
      obtain⟨x0,x1,x2,x3⟩:=x;simp only at T1 I0;obtain⟨fN,hfN⟩:=Int.eq_ofNat_of_zero_le T1.1;obtain⟨n,hn⟩:=Int.eq_ofNat_of_zero_le (show 0<=x2 by omega);have hfn:fN+n<=S:=by omega
      have t3:=Hd (λ(k:Nat)=>(show hasS (⟨x0,x1,x2,x3⟩:Vol) k=true↔fN<=k/\k<fN+n by rw[Y7];simp only;omega));subst hfN hn
      obtain⟨en,hen⟩:∃ en:Int,((fN+n:Nat):Int)=en:=⟨_,rfl⟩
      have hws:IntKind.i64.wrap ((fN:Int)+(n:Int))=en:=by rw[IntKind.wrap_i64];omega
      have H1:=Hd hen;have F4:=Hd I0;have d5:=Hd E1;have n0:=Hd T0;have HF:=Hd hf;have HU:=Hd hU;have HO:=Hd hO;obtain⟨e1,e2⟩:=I0 wr hO;clear T1 H3 E1 i0 I0 T0 hx b0 hf hU hO hen
      go_upto_region 11 with fail
      clear e1 e2
      go_loopw [6] (λvk wx=>∃ (m:Nat) (f':Nat->Nat),fN<=m/\m<=fN+n/\vk=.int .i64 (m:Int)/\UsedAt wx ub S f'/\(∀k,k<S->(∀y∈E.take i,hasS y k=false)->(k<fN\/m<=k)->f' k=0)/\Only (λq=>q=ub) wa wx) (λvk _=>fN+n - (intOf vk).toNat)
      case atStart=>exact⟨fN,f,Nat.le_refl _,by omega,rfl,HU.out,λk h1 h2 _=>HF.out k h1 h2,HO.out⟩
      case round=>
       obtain⟨m,f',hm1,hm2,rfl,hU2,hf2,hO2⟩:=hrel;obtain⟨e1,e2⟩:=F4.out wr hO2;by_cases hlm:m<fN+n
       ·have hd:decide ((m:Int)<en)=true:=decide_eq_true (by have:=H1.out;omega);have b3:m<S:=by omega
        have hz:f' m=0:=hf2 m b3 (d5.out m ((t3.out m).2 (by omega))) (.inr (Nat.le_refl _));have N2:=Hd hf2;have E2:=Hd hU2;have C0:=Hd hO2;clear hU2 hO2 hf2
        go_upto_region 11 with fail
        go_quiet (fail)
        generalize hW:World.drewN _ _=W;have A0:Later wr W:=by rw[<-hW];exact Later.drewN (Later.refl _) _
        have C1:=E2.out.later A0;have W2:Only (λq=>q=ub) wa W:=C0.out.then (Only.of_below A0);obtain⟨k0,k11,k10⟩:=HK.out W (h0.out W (a3.out W W2));have N1:=C1.cell b3;rw[hz]at N1;have hfree:=Zc C1 m;have hul:=Zb C1;have hd1:decide ((m:Int)<0)=false:=decide_eq_false (by omega);have hd2:decide ((S:Int)<=(m:Int))=false:=decide_eq_false (by omega);have hd3:decide (S<=m)=false:=decide_eq_false (by omega);have hwi:IntKind.i64.wrap ((i:Int)+1)=((i+1:Nat):Int):=by rw[IntKind.wrap_i64];omega
        have k4:=Hd C1;have L3:=Hd W2;clear hW A0 C1 W2 e1 e2 hz k0 k10
        go_wp2_with fail
        refine⟨⟨m+1,putI f' m (i+1),by omega,by omega,by simp,?_,λk hk hy hk2=>?_,L3.out.setCell (p:=⟨ub,m,none⟩) (.inl rfl) _⟩,by simp only[intOf];omega⟩
        ·exact k4.out.put m (i+1)
        ·unfold putI;rw[if_neg (by omega)];exact N2.out k hk hy (by omega)
       ·have hd:decide ((m:Int)<en)=false:=decide_eq_false (by have:=H1.out;omega);have E2:=Hd hU2;have C0:=Hd hO2;have N2:=Hd hf2;clear hU2 hO2 hf2
        go_upto_region 11 with fail
        go_quiet (fail)
        go_wp2_with fail
        refine⟨⟨i+1,f',by omega,by simp,E2.out.later (Later.drewN (Later.refl _) _),λk hk hy=>?_,C0.out.then (Only.of_below (Later.drewN (Later.refl _) _))⟩,by simp only[intOf];omega⟩;rw[n0.out]at hy;refine N2.out k hk (λy hy'=>hy y (List.mem_append_left _ hy')) ?_;have hx:=hy ⟨x0,fN,n,x3⟩ (by simp);rcases(by omega:k<fN\/m<=k\/(fN<=k/\k<m)) with h1|h1|h1
        ·exact .inl h1
        ·exact .inr h1
        ·rw[(t3.out k).2 (by omega)]at hx;cases hx
    ·have j0:=Hd (a3.out wr hO);clear hU hf hO
     obtain⟨wb,hwb⟩:∃ y,wr=y:=⟨_,rfl⟩
     rw[hwb]at j0 ⊢;clear hwb;obtain⟨k0,k11,k10⟩:=HK.out wb (h0.out wb j0.out);have L1:∀ W:World,(Instr.makeSlice 45 (.int .i64 (N:Int)) (.int .i64 (N:Int))).run Tryz.prog W=.ok (.slice (some ⟨W.heap.size,0,none⟩) N N) (W.alloc (.cells (hdA N 0 λ_=>0) 46)):=λW=>ZfS W N c3.2
     go_upto_region 17 with fail
     clear L1 k0 k11 k10
     obtain⟨fb,hfb⟩:∃ q,wb.heap.size=q:=⟨_,rfl⟩
     obtain⟨wm,hwm⟩:∃ y,wb.alloc (.cells (hdA N 0 λ_=>0) 46)=y:=⟨_,rfl⟩
     rw[hfb,hwm];have a5:=Hd (show MatAt fb fb N 0 (λ_=>0) wm (UX 0) from⟨by rw[<-hwm];exact Zq hfb,λa ha=>absurd ha (by omega),λa ha=>absurd ha (by omega),λa b ha=>absurd ha (by omega),Nat.le_refl _⟩);have K4:=Hd (show Later wb wm by rw[<-hwm];exact(Later.refl _).alloc _);have J2:=Hd hfb;clear hwm hfb
     go_wp2_with fail
     go_loopw [8] (λvi wx=>∃ (i:Nat) (R:Nat->Nat),i<=N/\vi=.int .i64 (i:Int)/\MatAt fb fb N i R wx (UX i)/\Later wb wx) (λvi _=>N - (intOf vi).toNat)
     case atStart=>exact⟨0,λ_=>0,by omega,rfl,a5.out,K4.out⟩
     case round=>
      obtain⟨i,R,hi,rfl,hM,hl⟩:=hrel;obtain⟨k0,k11,k10⟩:=HK.out wr (h0.out wr (j0.out.trans hl));by_cases hlt:i<N
      ·as_aux_lemma=>
        have L1:∀ W:World,(Instr.makeSlice 46 (.int .i64 (N:Int)) (.int .i64 (N:Int))).run Tryz.prog W=.ok (.slice (some ⟨W.heap.size,0,none⟩) N N) (W.alloc (.cells (rowM N λ_=>false) 4)):=λW=>WO W N c3.2
        have z1:wr.cell? ⟨fb,i,none⟩=some (.slice none 0 0):=by rw[Za hM.blk i,Gk _ hlt,if_neg (Nat.lt_irrefl i)]
        have z2:=Zc hM.blk i;have z3:=Zb hM.blk
        obtain⟨g5,hg5⟩:∃ q,wr.heap.size=q:=⟨_,rfl⟩
        have i4:fb<=wr.heap.size:=by omega
        have n3:=Hd (hM.make2 hlt hg5 i4 (λy=>ZeA i y));have HL:=Hd hl;have Q4:=Hd hg5;clear hM hl hg5 k11 k10
        go_upto_region 21 with fail
        clear L1 z1 z2 z3 k0;generalize hW:World.alloc (World.setCell _ _ _) _=w5
        have t1:MatAt fb fb N (i+1) (λa=>if a=i then g5 else R a) w5 (UX i):=by
         rw[<-hW]
         first|exact n3.out|(rw[Q4.out];exact n3.out)
        have z0:Later wb w5:=by rw[<-hW];exact(Later.setC HL.out (by rw[J2.out];exact Nat.le_refl _) _ _).alloc _
        obtain⟨R',hR'⟩:∃ R',(λa=>if a=i then g5 else R a)=R':=⟨_,rfl⟩
        rw[hR']at t1;obtain⟨y1,y2,y3,y4⟩:=t1.read (a:=i) (b:=i) (by omega) (by omega) hlt;have T2:=(t1.ne i (by omega)).2;have o4:=Hd t1;have o1:=Hd z0;clear hW t1 z0 hR'
        go_wp2_with fail
        refine⟨⟨i+1,R',by omega,by simp,?_,Later.setC o1.out (by rw[J2.out];exact T2) _ _⟩,by simp only[intOf];omega⟩;rw[<-ZeB];exact o4.out.put (by omega) true
      ·have m0:N=i:=by omega
       subst m0;have N3:=Hd hM;have b5:=Hd hl;clear hM hl k11 k10
       go_wp2_with fail
       clear k0
       go_loopw [9] (λvt wx=>∃ (t:Nat) (R:Nat->Nat) (M:Mat),t<=N/\vt=.int .i64 (t:Int)/\MatAt fb fb N N R wx M/\Turned N c.flows t M/\JM N c.flows M/\Later wb wx) (λvt _=>N - (intOf vt).toNat)
       case atStart=>exact⟨0,_,UX N,by omega,rfl,N3.out,Bx _ _,By _ _ _,b5.out⟩
       case round=>
        obtain⟨t,R,M,ht,rfl,hM,hT,hSd,hl⟩:=hrel;obtain⟨k0,k11,k10⟩:=HK.out wr (h0.out wr (j0.out.trans hl));by_cases hlt:t<N
        ·as_aux_lemma=>
          have HM:=Hd hM;have HT:=Hd hT;have I4:=Hd hSd;have HL:=Hd hl;clear hM hT hSd hl k0 k11 k10;obtain⟨k0,k11,k10⟩:=HK.out wr (h0.out wr (j0.out.trans HL.out))
          go_wp2_with fail
          clear k0 k11 k10
          go_loopw [10] (λvj wx=>∃ (j:Nat) (R':Nat->Nat) (M':Mat),j<=nF/\vj=.int .i64 (j:Int)/\MatAt fb fb N N R' wx M'/\ZeX N c.flows j M M'/\JM N c.flows M'/\Later wb wx) (λvj _=>nF - (intOf vj).toNat)
          case atStart=>exact⟨0,R,M,by omega,rfl,HM.out,Za3 _ _ _,I4.out,HL.out⟩
          case round=>
           obtain⟨j,R',M',hj,rfl,hM,hP,hSd,hl⟩:=hrel;have kF:=R3.out wr (j0.out.trans hl);by_cases hlt2:j<nF
           ·have b0:j<c.flows.length:=by rw[L2.out];exact hlt2
            obtain⟨b,o,hao,hbx,i0⟩:=Zz (R4.out wr (j0.out.trans hl)) b0;have F1:=o3.out _ (List.getElem_mem b0);have m0:=List.getElem_mem b0
            obtain⟨x,hx⟩:∃ x,c.flows[j]=x:=⟨_,rfl⟩
            rw[hx]at i0 F1 m0;obtain⟨x1,x2⟩:=x;obtain⟨⟨m1,m2⟩,m3,m4⟩:=F1;simp only at m1 m2 m3 m4;obtain⟨a1,ha1⟩:=Int.eq_ofNat_of_zero_le m1;obtain⟨a2,ha2⟩:=Int.eq_ofNat_of_zero_le m3;subst ha1 ha2;have n1:a1<N:=by omega
            have n2:a2<N:=by omega
            have e0:=i0 0 (by omega);have e1:=i0 1 (by omega);simp only[Xx,List.getElem?_cons_zero,List.getElem?_cons_succ,Nat.add_zero]at e0 e1;have HX:=Hd hx;have O2:=Hd m0;have b1:=Hd hM;have K2:=Hd hP;have S0:=Hd hSd;have O0:=Hd hl;subst hao;clear hbx i0 m0 hx hM hP hSd hl m1 m2 m3 m4
            go_upto_region 28 with fail
            go_quiet (fail)
            generalize hW:World.drewN _ _=W;have A0:Later wr W:=by rw[<-hW];exact Later.drewN (Later.refl _) _
            have C2:=Hd (b1.out.later A0);have M1:=Hd (O0.out.trans A0);clear hW A0 e0 e1 kF
            go_wp2_with fail
            go_loopw [13] (λvk wx=>∃ m:Nat,m<=N/\vk=.int .i64 (m:Int)/\MatAt fb fb N N R' wx (YX M' a1 a2 m)/\Later wb wx) (λvk _=>N - (intOf vk).toNat)
            case atStart=>exact⟨0,by omega,rfl,by rw[Zb0];exact C2.out,M1.out⟩
            case round=>
             obtain⟨m,hm,rfl,hMm,hlm⟩:=hrel;obtain⟨k0,k11,k10⟩:=HK.out wr (h0.out wr (j0.out.trans hlm));clear k11 k10;by_cases hlt3:m<N
             ·obtain⟨r1,r2,r3,r4⟩:=hMm.read (a:=m) (b:=a2) hlt3 (Nat.le_refl _) n2;obtain⟨-, s2,-, -⟩:=hMm.read (a:=m) (b:=a1) hlt3 (Nat.le_refl _) n1;have i3:=(hMm.ne m hlt3).2;have S1:=Zb1 M' a1 a2 m
              obtain⟨v2,hv2⟩:∃ v,YX M' a1 a2 m m a2=v:=⟨_,rfl⟩
              obtain⟨v1,o0⟩:∃ v,YX M' a1 a2 m m a1=v:=⟨_,rfl⟩
              rw[hv2]at r2 S1;rw[o0]at s2 S1;have s1:Later wr wr.drew:=(Later.refl wr).drew;have f1:=s1.cell r1;have f2:=s1.cell r2;have f3:wr.drew.frozen? ⟨R' m,a2,none⟩=false:=r3;have f4:R' m<wr.drew.heap.size:=r4;have f5:=s1.cell s2;have k1:=Hd (show MatAt fb fb N N R' (wr.drew.setCell ⟨R' m,a2,none⟩ (.bool (v2 || v1))) (YX M' a1 a2 (m+1)) by rw[<-S1];exact(hMm.later s1).put hlt3 _);have i2:=Hd (show Later wb (wr.drew.setCell ⟨R' m,a2,none⟩ (.bool (v2 || v1))) from Later.setC (hlm.trans s1) (by rw[J2.out];exact i3) _ _);clear hMm hlm S1 o0 hv2 s1 i3;cases v2
              ·rw[Bool.false_or]at k1 i2
               go_upto_region 32 with fail
               refine wp_region_held_drew (S:=λw'=>w'.cell? ⟨fb,m,none⟩=some (.slice (some ⟨R' m,0,none⟩) N N)) (by kernel_rfl) f1 (λa0=>?_);refine tkS 0 a0 ?_;refine tkS 1 a0 ?_;refine tkS 2 a0 ?_;refine tkS 4 a0 ?_;refine tkS 5 a0 ?_;refine tkS 6 a0 ?_;refine tkS 7 a0 ?_;refine tkS 9 a0 ?_;refine tkR 3 a0 ?_;refine tkR 8 a0 ?_;refine tkS 10 a0 ?_;refine rd1 11 (λK hK=>?_)
               go_simp
               refine hK.out _ _ ?_ (λa0=>?_)
               ·exact f1
               clear hK K
               (try simp only[p0,p1,p2,p3,p4,p5,p6])
               refine tkS 12 a0 ?_;refine tkS 13 a0 ?_;refine tkS 14 a0 ?_;refine tkS 15 a0 ?_;refine tkS 17 a0 ?_;refine tkR 16 a0 ?_;refine tkS 18 a0 ?_;refine rd1 19 (λK hK=>?_)
               go_simp
               refine hK.out _ _ ?_ (λa0=>?_)
               ·exact f1
               clear hK K
               (try simp only[p0,p1,p2,p3,p4,p5,p6])
               refine tkS 20 a0 ?_;refine tkS 21 a0 ?_;refine rd1 22 (λK hK=>?_)
               go_simp
               refine hK.out _ _ ?_ (λa0=>?_)
               ·exact(k1.out.read (a:=m) (b:=a2) hlt3 (Nat.le_refl _) n2).1
               clear hK K
               (try simp only[p0,p1,p2,p3,p4,p5,p6])
               refine wpAnyH_done (by kernel_rfl) ?_ _
               go_wp2_with fail
               exact⟨⟨m+1,by omega,by simp,k1.out,i2.out⟩,by simp only[intOf];omega⟩
              ·rw[Bool.true_or]at k1 i2;clear f5
               go_upto_region 32 with fail
               refine wp_region_held_drew (S:=λw'=>w'.cell? ⟨fb,m,none⟩=some (.slice (some ⟨R' m,0,none⟩) N N)) (by kernel_rfl) f1 (λa0=>?_);refine tkS 0 a0 ?_;refine tkS 1 a0 ?_;refine tkS 2 a0 ?_;refine tkS 4 a0 ?_;refine tkS 5 a0 ?_;refine tkS 6 a0 ?_;refine tkS 7 a0 ?_;refine tkS 9 a0 ?_;refine tkR 3 a0 ?_;refine tkR 8 a0 ?_;refine tkS 10 a0 ?_;refine rd1 11 (λK hK=>?_)
               go_simp
               refine hK.out _ _ ?_ (λa0=>?_)
               ·exact f1
               clear hK K
               (try simp only[p0,p1,p2,p3,p4,p5,p6])
               refine tkS 12 a0 ?_;refine tkV 13 a0 ?_;refine tkV 14 a0 ?_;refine tkV 15 a0 ?_;refine tkV 17 a0 ?_;refine tkW 16 a0 ?_;refine tkV 18 a0 ?_;refine tkW 19 a0 ?_;refine tkS 20 a0 ?_;refine tkS 21 a0 ?_;refine rd1 22 (λK hK=>?_)
               go_simp
               refine hK.out _ _ ?_ (λa0=>?_)
               ·exact(k1.out.read (a:=m) (b:=a2) hlt3 (Nat.le_refl _) n2).1
               clear hK K
               (try simp only[p0,p1,p2,p3,p4,p5,p6])
               refine wpAnyH_done (by kernel_rfl) ?_ _
               go_wp2_with fail
               exact⟨⟨m+1,by omega,by simp,k1.out,i2.out⟩,by simp only[intOf];omega⟩
             ·have S3:N=m:=by omega
              subst S3;have n4:=Hd hMm;have o2:=Hd hlm;clear hMm hlm
              go_wp2_with fail
              exact⟨⟨j+1,R',YX M' a1 a2 N,by omega,by simp,n4.out,Za4 K2.out (by rw[L2.out];exact hlt2) HX.out,Bo S0.out n1 O2.out,o2.out⟩,by simp only[intOf];omega⟩
           ·have c5:nF=j:=by omega
            subst c5;rw[<-L2.out]at hP;have K2:=Hd (Turned.step HT.out (ZcK hP));have b1:=Hd hM;have S0:=Hd hSd;have O0:=Hd hl;clear hM hP hSd hl
            go_wp2_with fail
            exact⟨⟨t+1,R',M',by omega,by simp,b1.out,K2.out,S0.out,O0.out⟩,by simp only[intOf];omega⟩
        ·have K3:N=t:=by omega
         subst K3;have J4:=Hd (λ(a b:Nat) (ha:a<N) (hr:Rch c.flows a b)=>Za2 o3.out hT ha hr);have g4:=Hd hSd;have HM:=Hd hM;have HL:=Hd hl;clear hM hT hSd hl k11 k10
         go_wp2_with fail
         clear k0
         go_loopw [14] (λvi wx=>∃ i:Nat,i<=nO/\vi=.int .i64 (i:Int)/\MatAt fb fb N N R wx M/\Later wb wx) (λvi _=>nO - (intOf vi).toNat)
         case atStart=>exact⟨0,by omega,rfl,HM.out,HL.out⟩
         case round=>
          obtain⟨i,hi,rfl,hM,hl⟩:=hrel;have kO:=s4.out wr (j0.out.trans hl);by_cases hlt:i<nO
          ·as_aux_lemma=>
            have b0:i<c.ports.length:=by rw[M4.out];exact hlt
            obtain⟨b,o,hao,hbx,i0⟩:=Zz (Z3.out wr (j0.out.trans hl)) b0;obtain⟨a1,a2,la,lb,ea,eb,ha,hb,ela,elb,hla,hlb,hr⟩:=Zfy F2.out.1 T3.out L4.out (List.getElem_mem b0);have e1:=i0 1 (by omega);have e2:=i0 2 (by omega);simp only[porC,List.getElem?_cons_zero,List.getElem?_cons_succ]at e1 e2;rw[ea]at e1;rw[eb]at e2;obtain⟨bp,op,M0,hbp,hcp⟩:=Zz (k2.out wr (j0.out.trans hl)) ha;obtain⟨bq,oq,haq,hbq,hcq⟩:=Zz (k2.out wr (j0.out.trans hl)) hb;rw[M0]at haq;injection haq with haq;injection haq with q1 q2 _;subst q1 q2;have e3:=hcp 0 (by omega);have e4:=hcq 0 (by omega);simp only[XQ,List.getElem?_cons_zero,Nat.add_zero]at e3 e4;rw[ela ha]at e3;rw[elb hb]at e4;obtain⟨r1,r2,-, -⟩:=hM.read (a:=la) (b:=lb) hla (Nat.le_refl _) hlb;rw[J4.out la lb hla hr]at r2;have kP:=P1.out wr (j0.out.trans hl);have hap1:a1<nP:=by rw[<-Z2.out];exact ha
            have hap2:a2<nP:=by rw[<-Z2.out];exact hb
            have b1:=Hd hM;have O0:=Hd hl;subst hao M0;clear hM hl i0 hcp hcq hbx hbp hbq ha hb ela elb ea eb hr b0
            go_upto_region 36 with fail
            go_quiet (fail)
            clear e1 e2 e3 e4 r1 r2 kP kO
            go_wp2_with fail
            exact⟨⟨i+1,by omega,by simp,b1.out.later (Later.drewN (Later.refl _) _),O0.out.trans (Later.drewN (Later.refl _) _)⟩,by simp only[intOf];omega⟩
          ·have m0:nO=i:=by omega
           subst m0;have b1:=Hd hM;have O0:=Hd hl;clear hM hl
           go_wp2_with fail
           clear kO
           go_loopw [15] (λvi wx=>∃ i:Nat,i<=nR/\vi=.int .i64 (i:Int)/\MatAt fb fb N N R wx M/\Later wb wx) (λvi _=>nR - (intOf vi).toNat)
           case atStart=>exact⟨0,by omega,rfl,b1.out,O0.out⟩
           case round=>
            obtain⟨i,hi,rfl,hM,hl⟩:=hrel;have kR:=J3.out wr (j0.out.trans hl);by_cases hlt:i<nR
            ·as_aux_lemma=>
              have b0:i<c.rules.length:=by rw[a4.out];exact hlt
              obtain⟨b,o,hao,hbx,i0⟩:=Zz (q4.out wr (j0.out.trans hl)) b0;obtain⟨la,lb,ea,eb,hla,hlb,hnr⟩:=Zfn F2.out.1 H4.out (List.getElem_mem b0);have e1:=i0 0 (by omega);have e2:=i0 1 (by omega);simp only[ruC,List.getElem?_cons_zero,List.getElem?_cons_succ,Nat.add_zero]at e1 e2;rw[ea]at e1;rw[eb]at e2;obtain⟨r1,r2,-, -⟩:=hM.read (a:=la) (b:=lb) hla (Nat.le_refl _) hlb
              have q3:M la lb=false:=by
               cases e:M la lb
               ·rfl
               ·exact absurd (g4.out la lb hla hlb e) hnr
              rw[q3]at r2;have C2:=Hd hM;have M1:=Hd hl;subst hao;clear hM hl i0 hbx hnr q3 ea eb b0
              go_upto_region 41 with fail
              go_quiet (fail)
              clear e1 e2 r1 r2 kR
              go_wp2_with fail
              exact⟨⟨i+1,by omega,by simp,C2.out.later (Later.drewN (Later.refl _) _),M1.out.trans (Later.drewN (Later.refl _) _)⟩,by simp only[intOf];omega⟩
            ·have m0:nR=i:=by omega
             subst m0;have M1:=Hd (j0.out.trans hl);clear hM hl
             go_wp2_with fail
             clear kR
             go_loopw [16] (λvi wx=>∃ i:Nat,i<=nP/\vi=.int .i64 (i:Int)/\Later w1 wx) (λvi _=>nP - (intOf vi).toNat)
             case atStart=>exact⟨0,by omega,rfl,M1.out⟩
             case round=>
              obtain⟨i,hi,rfl,hl⟩:=hrel;have kP:=P1.out wr hl;by_cases hlt:i<nP
              ·as_aux_lemma=>
                have b0:i<c.parts.length:=by rw[Z2.out];exact hlt
                obtain⟨z1,z2,z3⟩:=Qq P3.out i b0;obtain⟨bp,op,M0,hbp,hcp⟩:=Zz (k2.out wr hl) b0
                obtain⟨lv,hlv⟩:∃ n,c.parts[i].level=n:=⟨_,rfl⟩
                rw[hlv]at z2 z3;have W1:=hcp 0 (by omega);simp only[XQ,List.getElem?_cons_zero,Nat.add_zero]at W1;rw[hlv]at W1;have t2:=Hd (λ(w':World) (k:Later wr w')=>k.cell W1);have A4:=hl;have r0:=Hd hl;have Z:=Hd (And.intro z1 (And.intro z2 z3));subst M0;clear hcp hbp hlv b0 z1 z2 z3 W1 A4
                go_wp2_with fail
                clear kP hl
                obtain⟨wo,hwo⟩:∃ x,wr=x:=⟨_,rfl⟩
                rw[hwo]at t2 r0 ⊢;clear hwo
                go_loopw [17,18,19,20] (λv1 v2 v3 vk wx=>∃ (k:Nat) (f1 f2 f3:Bool),k<=nW/\vk=.int .i64 (k:Int)/\v1=.bool f1/\v2=.bool f2/\v3=.bool f3/\f1=Vf (c.windows.take k) 1 (i:Int)/\f2=Vf (c.windows.take k) 2 lv/\f3=Vf (c.windows.take k) 3 lv/\Later wo wx) (λ_ _ _ vk _=>nW - (intOf vk).toNat)
                case atStart=>exact⟨0,false,false,false,by omega,rfl,rfl,rfl,rfl,by rw[List.take_zero];rfl,by rw[List.take_zero];rfl,by rw[List.take_zero];rfl,Later.refl _⟩
                case round=>
                 obtain⟨k,f1,f2,f3,hk,rfl,rfl,rfl,rfl,hf1,hf2,hf3,j1⟩:=hrel;have kW:=N4.out wr (r0.out.trans j1);by_cases hlt2:k<nW
                 ·have b0:k<c.windows.length:=by rw[l3.out];exact hlt2
                  obtain⟨bw,ow,haw,hbw,hcw⟩:=Zz (l4.out wr (r0.out.trans j1)) b0;have T0:=Zs b0
                  obtain⟨x,hx⟩:∃ x,c.windows[k]=x:=⟨_,rfl⟩
                  rw[hx]at hcw T0;obtain⟨x0,x1,x2⟩:=x;have e0:=hcw 0 (by omega);have e1:=hcw 1 (by omega);have e2:=hcw 2 (by omega);simp only[winC,List.getElem?_cons_zero,List.getElem?_cons_succ,Nat.add_zero]at e0 e1 e2;have n0:=Hd T0;have HF:=Hd (And.intro hf1 (And.intro hf2 hf3));have v4:=Hd j1;subst haw;clear hcw T0 hx hbw hf1 hf2 hf3 j1 b0
                  go_upto_region 51 with fail
                  generalize hW:World.alloc _ _=W
                  obtain⟨bx,hbx⟩:∃ q,wr.heap.size=q:=⟨_,rfl⟩
                  have i1:W.heap[bx]?=some (.cells #[.int .i64 x0,.int .i64 x1,.int .i64 x2] 55 (0,0)):=by rw[<-hW];exact Zq hbx
                  (try rw[hbx])
                  have A0:Later wo W:=by rw[<-hW];exact v4.out.alloc _
                  have M2:=Hd (λ(w':World) (q:Later W w')=>And.intro (show w'.cell? ⟨bx,0,none⟩=some (.int .i64 x0) from Za (q.block i1) 0) (show w'.cell? ⟨bx,1,none⟩=some (.int .i64 x1) from Za (q.block i1) 1));have L0:=Hd A0;have HBN:=Hd hbx;clear hW hbx i1 A0 e0 e1 e2 kW;have f0:=Hd (Later.refl W)
                  go_cut [17] from 246 to 258 (λv1 wx=>∃ g:Bool,v1=.bool g/\g=Vf (c.windows.take (k+1)) 1 (i:Int)/\Later W wx)
                  case first=>
                   obtain⟨y0,y1⟩:=M2.out _ f0.out;cases f1
                   ·by_cases d0:x0=1
                    ·have c0:(x0==1)=true:=by simp[d0]
                     by_cases d1:x1=(i:Int)
                     ·have c1:(x1==(i:Int))=true:=by simp[d1]
                      have HB:=Hd (show(decide (x0=1)&&decide (x1=(i:Int)))=true by simp[d0,d1]);clear d0 d1
                      go_wp2_with fail
                      go_meet
                      case rel=>exact⟨_,rfl,by rw[n0.out];exact JC HF.out.1 HB.out,f0.out.trans La⟩
                     ·have c1:(x1==(i:Int))=false:=by simp[d1]
                      have HB:=Hd (show(decide (x0=1)&&decide (x1=(i:Int)))=false by simp[d0,d1]);clear d0 d1
                      go_wp2_with fail
                      go_meet
                      case rel=>exact⟨_,rfl,by rw[n0.out];exact JC HF.out.1 HB.out,f0.out.trans La⟩
                    ·have c0:(x0==1)=false:=by simp[d0]
                     have HB:=Hd (show(decide (x0=1)&&decide (x1=(i:Int)))=false by simp[d0]);clear d0
                     go_wp2_with fail
                     go_meet
                     case rel=>exact⟨_,rfl,by rw[n0.out];exact JC HF.out.1 HB.out,f0.out.trans La⟩
                   ·skip
                    go_wp2_with fail
                    go_meet
                    case rel=>exact⟨_,rfl,by rw[n0.out];exact Br HF.out.1,f0.out.trans La⟩
                  case rest=>
                   obtain⟨g1,rfl,hg1,hlc⟩:=hcut
                   obtain⟨wz,hwz⟩:∃ y,wc=y:=⟨_,rfl⟩
                   rw[hwz]at hlc ⊢;clear f0;have f0:=Hd hlc;have Z1:=Hd hg1;clear hwz hlc hg1
                   go_upto_region 52 with fail
                   go_cut [18] from 258 to 275 (λv1 wx=>∃ g:Bool,v1=.bool g/\g=Vf (c.windows.take (k+1)) 2 lv/\Later W wx)
                   case first=>
                    obtain⟨y0,y1⟩:=M2.out _ f0.out;have yP:=P1.out _ (r0.out.trans (L0.out.trans f0.out));have yL:=t2.out _ (L0.out.trans f0.out);cases f2
                    ·by_cases d0:x0=2
                     ·have c0:(x0==2)=true:=by simp[d0]
                      by_cases d1:x1=lv
                      ·have c1:(x1==lv)=true:=by simp[d1]
                       have HB:=Hd (show(decide (x0=2)&&decide (x1=lv))=true by simp[d0,d1]);clear d0 d1
                       go_quiet (fail)
                       go_wp2_with fail
                       go_meet
                       case rel=>exact⟨_,rfl,by rw[n0.out];exact JC HF.out.2.1 HB.out,f0.out.trans La⟩
                      ·have c1:(x1==lv)=false:=by simp[d1]
                       have HB:=Hd (show(decide (x0=2)&&decide (x1=lv))=false by simp[d0,d1]);clear d0 d1
                       go_quiet (fail)
                       go_wp2_with fail
                       go_meet
                       case rel=>exact⟨_,rfl,by rw[n0.out];exact JC HF.out.2.1 HB.out,f0.out.trans La⟩
                     ·have c0:(x0==2)=false:=by simp[d0]
                      have HB:=Hd (show(decide (x0=2)&&decide (x1=lv))=false by simp[d0]);clear d0
                      go_quiet (fail)
                      go_wp2_with fail
                      go_meet
                      case rel=>exact⟨_,rfl,by rw[n0.out];exact JC HF.out.2.1 HB.out,f0.out.trans La⟩
                    ·skip
                     go_quiet (fail)
                     go_wp2_with fail
                     go_meet
                     case rel=>exact⟨_,rfl,by rw[n0.out];exact Br HF.out.2.1,f0.out.trans La⟩
                   case rest=>
                    obtain⟨g2,rfl,hg2,hlc⟩:=hcut
                    obtain⟨wz,hwz⟩:∃ y,wc=y:=⟨_,rfl⟩
                    rw[hwz]at hlc ⊢;clear f0;have f0:=Hd hlc;have b2:=Hd hg2;clear hwz hlc hg2
                    go_upto_region 53 with fail
                    obtain⟨y0,y1⟩:=M2.out _ f0.out;have yP:=P1.out _ (r0.out.trans (L0.out.trans f0.out));have yL:=t2.out _ (L0.out.trans f0.out);cases f3
                    ·by_cases d0:x0=3
                     ·have c0:(x0==3)=true:=by simp[d0]
                      by_cases d1:x1=lv
                      ·have c1:(x1==lv)=true:=by simp[d1]
                       have HB:=Hd (show(decide (x0=3)&&decide (x1=lv))=true by simp[d0,d1]);clear d0 d1
                       go_quiet (fail)
                       go_wp2_with fail
                       exact⟨⟨k+1,g1,g2,_,by omega,by simp,rfl,rfl,rfl,Z1.out,b2.out,by rw[n0.out];exact JC HF.out.2.2 HB.out,L0.out.trans (f0.out.trans La)⟩,by simp only[intOf];omega⟩
                      ·have c1:(x1==lv)=false:=by simp[d1]
                       have HB:=Hd (show(decide (x0=3)&&decide (x1=lv))=false by simp[d0,d1]);clear d0 d1
                       go_quiet (fail)
                       go_wp2_with fail
                       exact⟨⟨k+1,g1,g2,_,by omega,by simp,rfl,rfl,rfl,Z1.out,b2.out,by rw[n0.out];exact JC HF.out.2.2 HB.out,L0.out.trans (f0.out.trans La)⟩,by simp only[intOf];omega⟩
                     ·have c0:(x0==3)=false:=by simp[d0]
                      have HB:=Hd (show(decide (x0=3)&&decide (x1=lv))=false by simp[d0]);clear d0
                      go_quiet (fail)
                      go_wp2_with fail
                      exact⟨⟨k+1,g1,g2,_,by omega,by simp,rfl,rfl,rfl,Z1.out,b2.out,by rw[n0.out];exact JC HF.out.2.2 HB.out,L0.out.trans (f0.out.trans La)⟩,by simp only[intOf];omega⟩
                    ·skip
                     go_quiet (fail)
                     go_wp2_with fail
                     exact⟨⟨k+1,g1,g2,_,by omega,by simp,rfl,rfl,rfl,Z1.out,b2.out,by rw[n0.out];exact Br HF.out.2.2,L0.out.trans (f0.out.trans La)⟩,by simp only[intOf];omega⟩
                 ·have T4:nW=k:=by omega
                  subst T4;rw[List.take_of_length_le (by rw[l3.out];exact Nat.le_refl _)]at hf1 hf2 hf3;rw[Z.out.1]at hf1;rw[Z.out.2.1]at hf2;rw[Z.out.2.2]at hf3;subst hf1 hf2 hf3;have o1:=Hd (r0.out.trans j1);clear j1
                  go_wp2_with fail
                  exact⟨⟨i+1,by omega,by simp,o1.out⟩,by simp only[intOf];omega⟩
              ·have m0:nP=i:=by omega
               subst m0;have o1:=Hd hl;clear hl
               go_upto_region 56 with fail
               clear kP
               obtain⟨wq,hwq⟩:∃ x,wr=x:=⟨_,rfl⟩
               rw[hwq]at o1 ⊢;clear hwq
               obtain⟨bd,hbd⟩:∃ x,c.bound=x:=⟨_,rfl⟩
               have I1:=t4.out;rw[hbd]at I1;obtain⟨⟨hb1,-⟩,hb2⟩:=I1;have d1:decide (nb<=bd)=true:=decide_eq_true hb1;have d2:decide (3<=nb)=true:=decide_eq_true hb2;have j1:=o1.out;have c2:=Hd (λ(w':World) (k:Later w1 w')=>And.intro (h0.out w' k) (show w'.cell? ⟨p,16,none⟩=some (.int .i64 bd) by rw[Za (h0.out w' k) 16,<-hbd];rfl));clear hbd hb1 hb2;refine wp_region_held_drew (S:=λw'=>VarAt w' p c v/\w'.cell? ⟨p,16,none⟩=some (.int .i64 bd)) (by kernel_rfl) (c2.out _ La) (λa0=>?_);refine tkS 0 a0 ?_;refine tkS 1 a0 ?_;refine tkT (i:=2) (v:=.agg (cfgA c v)) (λw hSw=>YG rfl rfl hSw.1) a0 ?_
               (try simp only[p0,p1,p2,p3,p4,p5,p6])
               refine rd1 3 (λK hK=>?_)
               go_simp
               refine(S2.out _ La).mono ?_;rintro e x3 ⟨rfl,hx3⟩;refine hK.out _ _ ?_ (λa0=>?_)
               ·exact c2.out _ La
               clear hK K
               (try simp only[p0,p1,p2,p3,p4,p5,p6])
               refine tkS 4 a0 ?_;refine tkS 5 a0 ?_;refine tkT (i:=6) (v:=.agg (cfgA c v)) (λw hSw=>YG rfl rfl hSw.1) a0 ?_
               (try simp only[p0,p1,p2,p3,p4,p5,p6])
               refine rd1 7 (λK hK=>?_)
               go_simp
               refine(S2.out _ La).mono ?_;rintro e x7 ⟨rfl,hx7⟩;refine hK.out _ _ ?_ (λa0=>?_)
               ·exact c2.out _ La
               clear hK K
               (try simp only[p0,p1,p2,p3,p4,p5,p6])
               refine tkS 8 a0 ?_;refine tkS 9 a0 ?_;refine tkS 10 a0 ?_;refine rd1 11 (λK hK=>?_)
               go_simp
               refine(k3.out _).mono ?_;rintro e x11 ⟨rfl,hx11⟩;refine hK.out _ _ ?_ (λa0=>?_)
               ·exact c2.out _ La
               clear hK K
               (try simp only[p0,p1,p2,p3,p4,p5,p6])
               refine tkS 12 a0 ?_;refine tkS 13 a0 ?_;refine wpAnyH_done (by kernel_rfl) ?_ _
               go_wp2_with fail
               (try go_ret)
               exact⟨rfl,d3.out.trans La⟩
theorem Zch(w:World)(cs:List Value)(c:Cfg)(h:CfgIn w cs c)(hI:CfgI c)(hW:CfgW c) :
 Calls Tryz.prog 6 #[.agg cs.toArray] w λe w'=>e=.returned (.bool true)/\Below w.heap.size w w':=by
 obtain⟨v,hv,hr⟩:=h.asA;rw[hv]
 exact(Zci w c v hr hI hW).mono λe w' ⟨he,hl⟩=>⟨he,hl.out⟩
