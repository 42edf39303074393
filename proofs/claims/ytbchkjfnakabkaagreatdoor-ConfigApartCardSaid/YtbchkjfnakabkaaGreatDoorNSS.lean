import Derived.Test.YtbchkjfnakabkaaGreatDoorNLT
import Derived.Test.YtbchkjfnakabkaaGreatDoorYE
set_option linter.unusedSimpArgs false
set_option linter.unusedVariables false
set_option maxHeartbeats 8000000
set_option maxRecDepth 100000
namespace Go.Proofs.YtbchkjfnakabkaaGreatDoor
open Go.RowKit PX PC
theorem Zhc(w:World):(sizeOf 3).run Tryz.prog w=.ok 1 w:=by kernel_rfl
theorem ZhZ(W:World)(a b:Int):(Op.equalIn 10000 47 (.agg #[.int .i64 a,.int .i64 b]) (.agg #[.int .i64 a,.int .i64 b])).run Tryz.prog W=.ok true W:=
 (Uv (w:=W) (d:=9998) Tryz.underlying47 Tryz.underlying3 Zhc #[.int .i64 a,.int .i64 b] #[.int .i64 a,.int .i64 b] [a,b] [a,b] rfl rfl rfl rfl).trans (by simp)
theorem Zcc(w:World)(C D:Array Value)(c:Cfg)(vF vP vW vO vV vR vK uF uP uW uO uV uR uK:Value)(hC:C=#[.int .i64 c.levels,vF,vP,vW,vO,vV,.int .i64 c.audit.level,.int .i64 c.audit.first,.int .i64 c.audit.count,.int .i64 c.audit.journal,.int .i64 c.boot,.int .i64 c.sectors,vR,vK,.string c.login,.int .i64 c.recovery,.int .i64 c.bound])(hD:D=#[.int .i64 c.levels,uF,uP,uW,uO,uV,.int .i64 c.audit.level,.int .i64 c.audit.first,.int .i64 c.audit.count,.int .i64 c.audit.journal,.int .i64 c.boot,.int .i64 c.sectors,uR,uK,.string c.login,.int .i64 c.recovery,.int .i64 c.bound])(hr:Rows7 w c vF vP vW vO vV vR vK)(hs:Rows7 w c uF uP uW uO uV uR uK)(hI:CfgI c) :
 Calls Tryz.prog 19 #[.agg C,.agg D] w λe w'=>e=.returned (.bool true)/\Later w w':=by
 obtain⟨aF,cF,rfl,pF1,pF2,pF3⟩:=Zl hr.rF;obtain⟨bF,dF,rfl,qF1,qF2,qF3⟩:=Zl hs.rF;obtain⟨aP,cP,rfl,pP1,pP2,pP3⟩:=Zl hr.rP;obtain⟨bP,dP,rfl,qP1,qP2,qP3⟩:=Zl hs.rP;obtain⟨aW,cW,rfl,pW1,pW2,pW3⟩:=Zl hr.rW;obtain⟨bW,dW,rfl,qW1,qW2,qW3⟩:=Zl hs.rW;obtain⟨aO,cO,rfl,pO1,pO2,pO3⟩:=Zl hr.rO;obtain⟨bO,dO,rfl,qO1,qO2,qO3⟩:=Zl hs.rO;obtain⟨aV,cV,rfl,pV1,pV2,pV3⟩:=Zl hr.rV;obtain⟨bV,dV,rfl,qV1,qV2,qV3⟩:=Zl hs.rV;obtain⟨aR,cR,rfl,pR1,pR2,pR3⟩:=Zl hr.rR;obtain⟨bR,dR,rfl,qR1,qR2,qR3⟩:=Zl hs.rR;obtain⟨aK,cK,rfl,pK1,pK2,pK3⟩:=Zl hr.rK;obtain⟨bK,dK,rfl,qK1,qK2,qK3⟩:=Zl hs.rK
 obtain⟨p,hp⟩:∃ p,w.heap.size=p:=⟨_,rfl⟩
 obtain⟨w2,hw2⟩:∃ w2,(w.alloc (.cells C 32)).alloc (.cells D 32)=w2:=⟨_,rfl⟩
 have g0:Later w w2:=by rw[<-hw2];exact((Later.refl w).alloc _).alloc _
 have d0:w2.heap[p]?=some (.cells C 32 (0,0)):=by rw[<-hw2,<-hp];exact Ze (Zd w _) _
 have b0:w2.heap[p+1]?=some (.cells D 32 (0,0)):=by rw[<-hw2,<-hp];exact Zq (by simp)
 rw[hC]at d0;rw[hD]at b0;have A0:=Hd (λ(w':World) (h:Later w2 w')=>And.intro (show w'.cell? ⟨p,1,none⟩=some (.slice aF c.flows.length cF) from Za (h.block d0) 1) (And.intro (show w'.cell? ⟨p+1,1,none⟩=some (.slice bF c.flows.length dF) from Za (h.block b0) 1) (And.intro (hr.rF.later (g0.trans h)) (hs.rF.later (g0.trans h)))));have P0:=Hd (λ(w':World) (h:Later w2 w')=>And.intro (show w'.cell? ⟨p,2,none⟩=some (.slice aP c.parts.length cP) from Za (h.block d0) 2) (And.intro (show w'.cell? ⟨p+1,2,none⟩=some (.slice bP c.parts.length dP) from Za (h.block b0) 2) (And.intro (hr.rP.later (g0.trans h)) (hs.rP.later (g0.trans h)))));have L0:=Hd (λ(w':World) (h:Later w2 w')=>And.intro (show w'.cell? ⟨p,3,none⟩=some (.slice aW c.windows.length cW) from Za (h.block d0) 3) (And.intro (show w'.cell? ⟨p+1,3,none⟩=some (.slice bW c.windows.length dW) from Za (h.block b0) 3) (And.intro (hr.rW.later (g0.trans h)) (hs.rW.later (g0.trans h)))));have T0:=Hd (λ(w':World) (h:Later w2 w')=>And.intro (show w'.cell? ⟨p,4,none⟩=some (.slice aO c.ports.length cO) from Za (h.block d0) 4) (And.intro (show w'.cell? ⟨p+1,4,none⟩=some (.slice bO c.ports.length dO) from Za (h.block b0) 4) (And.intro (hr.rO.later (g0.trans h)) (hs.rO.later (g0.trans h)))));have M0:=Hd (λ(w':World) (h:Later w2 w')=>And.intro (show w'.cell? ⟨p,5,none⟩=some (.slice aV c.volumes.length cV) from Za (h.block d0) 5) (And.intro (show w'.cell? ⟨p+1,5,none⟩=some (.slice bV c.volumes.length dV) from Za (h.block b0) 5) (And.intro (hr.rV.later (g0.trans h)) (hs.rV.later (g0.trans h)))));have N0:=Hd (λ(w':World) (h:Later w2 w')=>And.intro (show w'.cell? ⟨p,12,none⟩=some (.slice aR c.rules.length cR) from Za (h.block d0) 12) (And.intro (show w'.cell? ⟨p+1,12,none⟩=some (.slice bR c.rules.length dR) from Za (h.block b0) 12) (And.intro (hr.rR.later (g0.trans h)) (hs.rR.later (g0.trans h)))));have K0:=Hd (λ(w':World) (h:Later w2 w')=>And.intro (show w'.cell? ⟨p,13,none⟩=some (.slice aK c.keys.length cK) from Za (h.block d0) 13) (And.intro (show w'.cell? ⟨p+1,13,none⟩=some (.slice bK c.keys.length dK) from Za (h.block b0) 13) (And.intro (hr.rK.later (g0.trans h)) (hs.rK.later (g0.trans h)))));have F0:=Hd (λ(w':World) (h:Later w2 w')=>(And.intro (show w'.cell? ⟨p,0,none⟩=some (.int .i64 c.levels) from Za (h.block d0) 0) (And.intro (show w'.cell? ⟨p,6,none⟩=some (.int .i64 c.audit.level) from Za (h.block d0) 6) (And.intro (show w'.cell? ⟨p,7,none⟩=some (.int .i64 c.audit.first) from Za (h.block d0) 7) (And.intro (show w'.cell? ⟨p,8,none⟩=some (.int .i64 c.audit.count) from Za (h.block d0) 8) (And.intro (show w'.cell? ⟨p,9,none⟩=some (.int .i64 c.audit.journal) from Za (h.block d0) 9) (And.intro (show w'.cell? ⟨p,10,none⟩=some (.int .i64 c.boot) from Za (h.block d0) 10) (And.intro (show w'.cell? ⟨p,11,none⟩=some (.int .i64 c.sectors) from Za (h.block d0) 11) (And.intro (show w'.cell? ⟨p,14,none⟩=some (.string c.login) from Za (h.block d0) 14) (And.intro (show w'.cell? ⟨p,15,none⟩=some (.int .i64 c.recovery) from Za (h.block d0) 15) (And.intro (show w'.cell? ⟨p,16,none⟩=some (.int .i64 c.bound) from Za (h.block d0) 16) (And.intro (show w'.cell? ⟨p+1,0,none⟩=some (.int .i64 c.levels) from Za (h.block b0) 0) (And.intro (show w'.cell? ⟨p+1,6,none⟩=some (.int .i64 c.audit.level) from Za (h.block b0) 6) (And.intro (show w'.cell? ⟨p+1,7,none⟩=some (.int .i64 c.audit.first) from Za (h.block b0) 7) (And.intro (show w'.cell? ⟨p+1,8,none⟩=some (.int .i64 c.audit.count) from Za (h.block b0) 8) (And.intro (show w'.cell? ⟨p+1,9,none⟩=some (.int .i64 c.audit.journal) from Za (h.block b0) 9) (And.intro (show w'.cell? ⟨p+1,10,none⟩=some (.int .i64 c.boot) from Za (h.block b0) 10) (And.intro (show w'.cell? ⟨p+1,11,none⟩=some (.int .i64 c.sectors) from Za (h.block b0) 11) (And.intro (show w'.cell? ⟨p+1,14,none⟩=some (.string c.login) from Za (h.block b0) 14) (And.intro (show w'.cell? ⟨p+1,15,none⟩=some (.int .i64 c.recovery) from Za (h.block b0) 15) (show w'.cell? ⟨p+1,16,none⟩=some (.int .i64 c.bound) from Za (h.block b0) 16)))))))))))))))))))))
 obtain⟨nF,hnF⟩:∃ n,c.flows.length=n:=⟨_,rfl⟩
 have t2:=Hd hnF;rw[hnF]at A0 pF1 qF1 pF3 qF3
 obtain⟨nP,hnP⟩:∃ n,c.parts.length=n:=⟨_,rfl⟩
 have E2:=Hd hnP;rw[hnP]at P0 pP1 qP1 pP3 qP3
 obtain⟨nW,hnW⟩:∃ n,c.windows.length=n:=⟨_,rfl⟩
 have l2:=Hd hnW;rw[hnW]at L0 pW1 qW1 pW3 qW3
 obtain⟨nO,hnO⟩:∃ n,c.ports.length=n:=⟨_,rfl⟩
 have A2:=Hd hnO;rw[hnO]at T0 pO1 qO1 pO3 qO3
 obtain⟨nV,hnV⟩:∃ n,c.volumes.length=n:=⟨_,rfl⟩
 have S1:=Hd hnV;rw[hnV]at M0 pV1 qV1 pV3 qV3
 obtain⟨nR,hnR⟩:∃ n,c.rules.length=n:=⟨_,rfl⟩
 have T1:=Hd hnR;rw[hnR]at N0 pR1 qR1 pR3 qR3
 obtain⟨nK,hnK⟩:∃ n,c.keys.length=n:=⟨_,rfl⟩
 have k2:=Hd hnK;rw[hnK]at K0 pK1 qK1 pK3 qK3;have r2:=Hd hw2;have HP:=Hd hp;have i2:∀ i:Nat,i<7->True:=λ_ _=>trivial
 clear i2 hw2 hp d0 b0 hr hs hC hD hnF hnP hnW hnO hnV hnR hnK;obtain⟨xF0,xF1,-, -⟩:=A0.out w2 (Later.refl _);obtain⟨xP0,xP1,-, -⟩:=P0.out w2 (Later.refl _);obtain⟨xW0,xW1,-, -⟩:=L0.out w2 (Later.refl _);obtain⟨xO0,xO1,-, -⟩:=T0.out w2 (Later.refl _);obtain⟨xV0,xV1,-, -⟩:=M0.out w2 (Later.refl _);obtain⟨xR0,xR1,-, -⟩:=N0.out w2 (Later.refl _);obtain⟨xK0,xK1,-, -⟩:=K0.out w2 (Later.refl _)
 go_enter Tryz.func19,Tryz.ntmps19
 go_upto_region 1 with fail
 rw[r2.out,HP.out]
 go_wp2_with fail
 go_loopw [5] (λvi wr=>∃ j:Nat,j<=nF/\vi=.int .i64 (j:Int)/\Later w2 wr) (λvi _=>nF - (intOf vi).toNat)
 case atStart=>exact⟨0,by omega,rfl,(Later.refl w2)⟩
 case round=>
  obtain⟨j,hj,rfl,hbF⟩:=hrel;clear xF0 xF1 xP0 xP1 xW0 xW1 xO0 xO1 xV0 xV1 xR0 xR1 xK0 xK1;obtain⟨xF0,xF1,r0,r1⟩:=A0.out _ hbF;by_cases hlt:j<nF
  ·have a0:j<c.flows.length:=by rw[t2.out];exact hlt
   obtain⟨b,o,rfl,hb',hcc⟩:=Zz r0 a0;obtain⟨b2,o2,rfl,hb2',hdd⟩:=Zz r1 a0
   obtain⟨x,hx⟩:∃ x,c.flows[j]=x:=⟨_,rfl⟩
   rw[hx]at hcc hdd;clear hx;obtain⟨y1,y2⟩:=x;have e0:=hcc 0 (by omega);have f0:=hdd 0 (by omega);have e1:=hcc 1 (by omega);have f1:=hdd 1 (by omega);simp only[Xx,List.getElem?_cons_zero,List.getElem?_cons_succ,Nat.add_zero,Nat.mul_one]at e0 f0 e1 f1;clear hcc hdd r0 r1;have heq:=λW:World=>ZhZ W y1 y2
   have j0:∀ a:Int,(a==a)=true:=λa=>by simp
   have c0:∀ a:List UInt8,(a==a)=true:=λa=>by simp
   go_upto_region 6 with fail
   go_region
   go_wp2_with fail
   exact⟨⟨j+1,by omega,by simp,La⟩,by simp only[intOf];omega⟩
  ·clear r0 r1;obtain⟨xP0,xP1,-, -⟩:=P0.out _ hbF
   go_wp2_with fail
   go_loopw [6] (λvi wr=>∃ j:Nat,j<=nP/\vi=.int .i64 (j:Int)/\Later w2 wr) (λvi _=>nP - (intOf vi).toNat)
   case atStart=>exact⟨0,by omega,rfl,hbF⟩
   case round=>
    obtain⟨j,hj,rfl,hbP⟩:=hrel;clear xF0 xF1 xP0 xP1;obtain⟨xP0,xP1,r0,r1⟩:=P0.out _ hbP;by_cases hlt:j<nP
    ·have a0:j<c.parts.length:=by rw[E2.out];exact hlt
     obtain⟨b,o,rfl,hb',hcc⟩:=Zz r0 a0;obtain⟨b2,o2,rfl,hb2',hdd⟩:=Zz r1 a0
     obtain⟨x,hx⟩:∃ x,c.parts[j]=x:=⟨_,rfl⟩
     rw[hx]at hcc hdd;clear hx;obtain⟨y1,y2⟩:=x;have e0:=hcc 0 (by omega);have f0:=hdd 0 (by omega);have e1:=hcc 1 (by omega);have f1:=hdd 1 (by omega);simp only[XQ,List.getElem?_cons_zero,List.getElem?_cons_succ,Nat.add_zero,Nat.mul_one]at e0 f0 e1 f1;clear hcc hdd r0 r1;have j0:∀ a:Int,(a==a)=true:=λa=>by simp
     have c0:∀ a:List UInt8,(a==a)=true:=λa=>by simp
     go_upto_region 11 with fail
     go_region
     go_wp2_with fail
     exact⟨⟨j+1,by omega,by simp,La⟩,by simp only[intOf];omega⟩
    ·clear r0 r1;obtain⟨xW0,xW1,-, -⟩:=L0.out _ hbP
     go_wp2_with fail
     go_loopw [7] (λvi wr=>∃ j:Nat,j<=nW/\vi=.int .i64 (j:Int)/\Later w2 wr) (λvi _=>nW - (intOf vi).toNat)
     case atStart=>exact⟨0,by omega,rfl,hbP⟩
     case round=>
      obtain⟨j,hj,rfl,hbW⟩:=hrel;clear xP0 xP1 xW0 xW1;obtain⟨xW0,xW1,r0,r1⟩:=L0.out _ hbW;by_cases hlt:j<nW
      ·have a0:j<c.windows.length:=by rw[l2.out];exact hlt
       obtain⟨b,o,rfl,hb',hcc⟩:=Zz r0 a0;obtain⟨b2,o2,rfl,hb2',hdd⟩:=Zz r1 a0
       obtain⟨x,hx⟩:∃ x,c.windows[j]=x:=⟨_,rfl⟩
       rw[hx]at hcc hdd;clear hx;obtain⟨y1,y2,y3⟩:=x;have e0:=hcc 0 (by omega);have f0:=hdd 0 (by omega);have e1:=hcc 1 (by omega);have f1:=hdd 1 (by omega);have e2:=hcc 2 (by omega);have f2:=hdd 2 (by omega);simp only[winC,List.getElem?_cons_zero,List.getElem?_cons_succ,Nat.add_zero,Nat.mul_one]at e0 f0 e1 f1 e2 f2;clear hcc hdd r0 r1;have j0:∀ a:Int,(a==a)=true:=λa=>by simp
       have c0:∀ a:List UInt8,(a==a)=true:=λa=>by simp
       go_upto_region 16 with fail
       go_region
       go_wp2_with fail
       exact⟨⟨j+1,by omega,by simp,La⟩,by simp only[intOf];omega⟩
      ·clear r0 r1;obtain⟨xO0,xO1,-, -⟩:=T0.out _ hbW
       go_wp2_with fail
       go_loopw [8] (λvi wr=>∃ j:Nat,j<=nO/\vi=.int .i64 (j:Int)/\Later w2 wr) (λvi _=>nO - (intOf vi).toNat)
       case atStart=>exact⟨0,by omega,rfl,hbW⟩
       case round=>
        obtain⟨j,hj,rfl,hbO⟩:=hrel;clear xW0 xW1 xO0 xO1;obtain⟨xO0,xO1,r0,r1⟩:=T0.out _ hbO;by_cases hlt:j<nO
        ·have a0:j<c.ports.length:=by rw[A2.out];exact hlt
         obtain⟨b,o,rfl,hb',hcc⟩:=Zz r0 a0;obtain⟨b2,o2,rfl,hb2',hdd⟩:=Zz r1 a0
         obtain⟨x,hx⟩:∃ x,c.ports[j]=x:=⟨_,rfl⟩
         rw[hx]at hcc hdd;clear hx;obtain⟨y1,y2,y3,y4,y5⟩:=x;have e0:=hcc 0 (by omega);have f0:=hdd 0 (by omega);have e1:=hcc 1 (by omega);have f1:=hdd 1 (by omega);have e2:=hcc 2 (by omega);have f2:=hdd 2 (by omega);have e3:=hcc 3 (by omega);have f3:=hdd 3 (by omega);have e4:=hcc 4 (by omega);have f4:=hdd 4 (by omega);simp only[porC,List.getElem?_cons_zero,List.getElem?_cons_succ,Nat.add_zero,Nat.mul_one]at e0 f0 e1 f1 e2 f2 e3 f3 e4 f4;clear hcc hdd r0 r1;have j0:∀ a:Int,(a==a)=true:=λa=>by simp
         have c0:∀ a:List UInt8,(a==a)=true:=λa=>by simp
         go_upto_region 21 with fail
         go_region
         go_wp2_with fail
         exact⟨⟨j+1,by omega,by simp,La⟩,by simp only[intOf];omega⟩
        ·clear r0 r1;obtain⟨xV0,xV1,-, -⟩:=M0.out _ hbO
         go_wp2_with fail
         go_loopw [9] (λvi wr=>∃ j:Nat,j<=nV/\vi=.int .i64 (j:Int)/\Later w2 wr) (λvi _=>nV - (intOf vi).toNat)
         case atStart=>exact⟨0,by omega,rfl,hbO⟩
         case round=>
          obtain⟨j,hj,rfl,hbV⟩:=hrel;clear xO0 xO1 xV0 xV1;obtain⟨xV0,xV1,r0,r1⟩:=M0.out _ hbV;by_cases hlt:j<nV
          ·have a0:j<c.volumes.length:=by rw[S1.out];exact hlt
           obtain⟨b,o,rfl,hb',hcc⟩:=Zz r0 a0;obtain⟨b2,o2,rfl,hb2',hdd⟩:=Zz r1 a0
           obtain⟨x,hx⟩:∃ x,c.volumes[j]=x:=⟨_,rfl⟩
           rw[hx]at hcc hdd;clear hx;obtain⟨y1,y2,y3,y4⟩:=x;have e0:=hcc 0 (by omega);have f0:=hdd 0 (by omega);have e1:=hcc 1 (by omega);have f1:=hdd 1 (by omega);have e2:=hcc 2 (by omega);have f2:=hdd 2 (by omega);have e3:=hcc 3 (by omega);have f3:=hdd 3 (by omega);simp only[volC,List.getElem?_cons_zero,List.getElem?_cons_succ,Nat.add_zero,Nat.mul_one]at e0 f0 e1 f1 e2 f2 e3 f3;clear hcc hdd r0 r1;have j0:∀ a:Int,(a==a)=true:=λa=>by simp
           have c0:∀ a:List UInt8,(a==a)=true:=λa=>by simp
           go_upto_region 26 with fail
           go_region
           go_wp2_with fail
           exact⟨⟨j+1,by omega,by simp,La⟩,by simp only[intOf];omega⟩
          ·clear r0 r1;obtain⟨xR0,xR1,-, -⟩:=N0.out _ hbV
           go_wp2_with fail
           go_loopw [10] (λvi wr=>∃ j:Nat,j<=nR/\vi=.int .i64 (j:Int)/\Later w2 wr) (λvi _=>nR - (intOf vi).toNat)
           case atStart=>exact⟨0,by omega,rfl,hbV⟩
           case round=>
            obtain⟨j,hj,rfl,hbR⟩:=hrel;clear xV0 xV1 xR0 xR1;obtain⟨xR0,xR1,r0,r1⟩:=N0.out _ hbR;by_cases hlt:j<nR
            ·have a0:j<c.rules.length:=by rw[T1.out];exact hlt
             obtain⟨b,o,rfl,hb',hcc⟩:=Zz r0 a0;obtain⟨b2,o2,rfl,hb2',hdd⟩:=Zz r1 a0
             obtain⟨x,hx⟩:∃ x,c.rules[j]=x:=⟨_,rfl⟩
             rw[hx]at hcc hdd;clear hx;obtain⟨y1,y2,y3,y4,y5⟩:=x;have e0:=hcc 0 (by omega);have f0:=hdd 0 (by omega);have e1:=hcc 1 (by omega);have f1:=hdd 1 (by omega);have e2:=hcc 2 (by omega);have f2:=hdd 2 (by omega);have e3:=hcc 3 (by omega);have f3:=hdd 3 (by omega);have e4:=hcc 4 (by omega);have f4:=hdd 4 (by omega);simp only[ruC,List.getElem?_cons_zero,List.getElem?_cons_succ,Nat.add_zero,Nat.mul_one]at e0 f0 e1 f1 e2 f2 e3 f3 e4 f4;clear hcc hdd r0 r1;have j0:∀ a:Int,(a==a)=true:=λa=>by simp
             have c0:∀ a:List UInt8,(a==a)=true:=λa=>by simp
             go_upto_region 31 with fail
             go_region
             go_wp2_with fail
             exact⟨⟨j+1,by omega,by simp,La⟩,by simp only[intOf];omega⟩
            ·clear r0 r1;obtain⟨xK0,xK1,-, -⟩:=K0.out _ hbR
             go_wp2_with fail
             go_loopw [11] (λvi wr=>∃ j:Nat,j<=nK/\vi=.int .i64 (j:Int)/\Later w2 wr) (λvi _=>nK - (intOf vi).toNat)
             case atStart=>exact⟨0,by omega,rfl,hbR⟩
             case round=>
              obtain⟨j,hj,rfl,hbK⟩:=hrel;clear xR0 xR1 xK0 xK1;obtain⟨xK0,xK1,r0,r1⟩:=K0.out _ hbK;by_cases hlt:j<nK
              ·have a0:j<c.keys.length:=by rw[k2.out];exact hlt
               obtain⟨b,o,rfl,hb',hcc⟩:=Zz r0 a0;obtain⟨b2,o2,rfl,hb2',hdd⟩:=Zz r1 a0
               obtain⟨x,hx⟩:∃ x,c.keys[j]=x:=⟨_,rfl⟩
               rw[hx]at hcc hdd;clear hx;have e0:=hcc 0 (by omega);have f0:=hdd 0 (by omega);simp only[keyC,List.getElem?_cons_zero,List.getElem?_cons_succ,Nat.add_zero,Nat.mul_one]at e0 f0;clear hcc hdd r0 r1;have j0:∀ a:Int,(a==a)=true:=λa=>by simp
               have c0:∀ a:List UInt8,(a==a)=true:=λa=>by simp
               go_upto_region 36 with fail
               go_region
               go_wp2_with fail
               exact⟨⟨j+1,by omega,by simp,La⟩,by simp only[intOf];omega⟩
              ·clear r0 r1;obtain⟨z0,z1,z2,z3,z4,z5,z6,z7,z8,z9,z10,z11,z12,z13,z14,z15,z16,z17,z18,z19⟩:=F0.out _ hbK;have j0:∀ a:Int,(a==a)=true:=λa=>by simp
               have c0:∀ a:List UInt8,(a==a)=true:=λa=>by simp
               go_wp2_with fail
               go_ret
               exact⟨Zw (by simp),g0.trans hbK⟩
end Go.Proofs.YtbchkjfnakabkaaGreatDoor
namespace Go.Proofs.YtbchkjfnakabkaaGreatDoor
open Go.RowKit PX PC
theorem EU{α:Type}{w:World}{k b:Nat}{f:α->List Value}{l:List α}{cs:List Value}{t:TypeId}(hb:w.heap[b]?=some (.cells cs.toArray t (0,0)))(hf:∀ x,(f x).length=k)(hc:cs=ZG f l)(hl:l.length<=255)(hk:k<=5) :
 RowAt w k (.slice (some ⟨b,0,none⟩) l.length l.length) (l.map f):=by
 refine⟨some ⟨b,0,none⟩,l.length,by rw[List.length_map],by rw[List.length_map];exact Nat.le_refl _,by omega,?_,.inr ⟨b,0,rfl,Zb hb,λi hi j hj=>?_⟩⟩
 ·rw[List.length_map];have:l.length*k<=255*5:=Nat.mul_le_mul hl hk;omega
 ·rw[List.length_map]at hi;have h:=YY f k hf l i hi j hj;rw[<-hc]at h;rw[Za hb,Nat.zero_add,List.getElem_map]
  simpa using h
theorem ZhU(w:World)(o0 o1 o2 o3 o4 o5:Obj):((((((w.alloc o0).alloc o1).alloc o2).alloc o3).alloc o4).alloc o5).heap[w.heap.size]?=some o0/\((((((w.alloc o0).alloc o1).alloc o2).alloc o3).alloc o4).alloc o5).heap[w.heap.size+1]?=some o1 /\
 ((((((w.alloc o0).alloc o1).alloc o2).alloc o3).alloc o4).alloc o5).heap[w.heap.size+1+1]?=some o2/\((((((w.alloc o0).alloc o1).alloc o2).alloc o3).alloc o4).alloc o5).heap[w.heap.size+1+1+1]?=some o3 /\
 ((((((w.alloc o0).alloc o1).alloc o2).alloc o3).alloc o4).alloc o5).heap[w.heap.size+1+1+1+1]?=some o4/\((((((w.alloc o0).alloc o1).alloc o2).alloc o3).alloc o4).alloc o5).heap[w.heap.size+1+1+1+1+1]?=some o5/\Later w ((((((w.alloc o0).alloc o1).alloc o2).alloc o3).alloc o4).alloc o5):=
 ⟨Ze (Ze (Ze (Ze (Ze (Zd w _) _) _) _) _) _,Ze (Ze (Ze (Ze (Zq (by simp)) _) _) _) _,Ze (Ze (Ze (Zq (by simp)) _) _) _,Ze (Ze (Zq (by simp)) _) _,Ze (Zq (by simp)) _,Zq (by simp),
  ((((((Later.refl w).alloc _).alloc _).alloc _).alloc _).alloc _).alloc _⟩
theorem ZiW(w W:World)(h:W=((((((w.alloc (.cells [.int .i64 2,.slice (some ⟨w.heap.size+1,0,none⟩) 1 1,.slice (some ⟨w.heap.size+1+1,0,none⟩) 2 2,.slice (some ⟨w.heap.size+1+1+1,0,none⟩) 6 6,.slice none 0 0,.slice (some ⟨w.heap.size+1+1+1+1,0,none⟩) 2 2,.int .i64 0,.int .i64 24,.int .i64 12,.int .i64 8,.int .i64 36,.int .i64 38,.slice none 0 0,.slice (some ⟨w.heap.size+1+1+1+1+1,0,none⟩) 2 2,.string ⟨#[112,119]⟩,.int .i64 3,.int .i64 3].toArray 32)).alloc (.cells [.int .i64 0,.int .i64 1].toArray 47)).alloc (.cells [.int .i64 0,.int .i64 1,.int .i64 1,.int .i64 1].toArray 49)).alloc (.cells [.int .i64 1,.int .i64 0,.int .i64 4,.int .i64 1,.int .i64 1,.int .i64 4,.int .i64 2,.int .i64 0,.int .i64 1,.int .i64 2,.int .i64 1,.int .i64 1,.int .i64 3,.int .i64 0,.int .i64 1,.int .i64 3,.int .i64 1,.int .i64 1].toArray 55)).alloc (.cells [.int .i64 0,.int .i64 0,.int .i64 12,.int .i64 8,.int .i64 1,.int .i64 12,.int .i64 12,.int .i64 8].toArray 28)).alloc (.cells [.string ⟨#[97]⟩,.string ⟨#[98]⟩].toArray 9))):W.heap[w.heap.size]?=some (.cells [.int .i64 2,.slice (some ⟨w.heap.size+1,0,none⟩) 1 1,.slice (some ⟨w.heap.size+1+1,0,none⟩) 2 2,.slice (some ⟨w.heap.size+1+1+1,0,none⟩) 6 6,.slice none 0 0,.slice (some ⟨w.heap.size+1+1+1+1,0,none⟩) 2 2,.int .i64 0,.int .i64 24,.int .i64 12,.int .i64 8,.int .i64 36,.int .i64 38,.slice none 0 0,.slice (some ⟨w.heap.size+1+1+1+1+1,0,none⟩) 2 2,.string ⟨#[112,119]⟩,.int .i64 3,.int .i64 3].toArray 32 (0,0))/\CfgIn W [.int .i64 2,.slice (some ⟨w.heap.size+1,0,none⟩) 1 1,.slice (some ⟨w.heap.size+1+1,0,none⟩) 2 2,.slice (some ⟨w.heap.size+1+1+1,0,none⟩) 6 6,.slice none 0 0,.slice (some ⟨w.heap.size+1+1+1+1,0,none⟩) 2 2,.int .i64 0,.int .i64 24,.int .i64 12,.int .i64 8,.int .i64 36,.int .i64 38,.slice none 0 0,.slice (some ⟨w.heap.size+1+1+1+1+1,0,none⟩) 2 2,.string ⟨#[112,119]⟩,.int .i64 3,.int .i64 3] ZJ/\Later w W:=by
 obtain⟨h0,h1,h2,h3,h4,h5,hl⟩:=ZhU w (.cells [.int .i64 2,.slice (some ⟨w.heap.size+1,0,none⟩) 1 1,.slice (some ⟨w.heap.size+1+1,0,none⟩) 2 2,.slice (some ⟨w.heap.size+1+1+1,0,none⟩) 6 6,.slice none 0 0,.slice (some ⟨w.heap.size+1+1+1+1,0,none⟩) 2 2,.int .i64 0,.int .i64 24,.int .i64 12,.int .i64 8,.int .i64 36,.int .i64 38,.slice none 0 0,.slice (some ⟨w.heap.size+1+1+1+1+1,0,none⟩) 2 2,.string ⟨#[112,119]⟩,.int .i64 3,.int .i64 3].toArray 32) (.cells [.int .i64 0,.int .i64 1].toArray 47) (.cells [.int .i64 0,.int .i64 1,.int .i64 1,.int .i64 1].toArray 49) (.cells [.int .i64 1,.int .i64 0,.int .i64 4,.int .i64 1,.int .i64 1,.int .i64 4,.int .i64 2,.int .i64 0,.int .i64 1,.int .i64 2,.int .i64 1,.int .i64 1,.int .i64 3,.int .i64 0,.int .i64 1,.int .i64 3,.int .i64 1,.int .i64 1].toArray 55) (.cells [.int .i64 0,.int .i64 0,.int .i64 12,.int .i64 8,.int .i64 1,.int .i64 12,.int .i64 12,.int .i64 8].toArray 28) (.cells [.string ⟨#[97]⟩,.string ⟨#[98]⟩].toArray 9);rw[<-h]at h0 h1 h2 h3 h4 h5 hl;clear h;exact⟨h0,⟨⟨_,_,_,_,_,_,_,rfl,EU (f:=Xx) (l:=ZJ.flows) h1 (λ_=>rfl) rfl (by decide) (by decide),EU (f:=XQ) (l:=ZJ.parts) h2 (λ_=>rfl) rfl (by decide) (by decide),EU (f:=winC) (l:=ZJ.windows) h3 (λ_=>rfl) rfl (by decide) (by decide),RowAt.nil _ 5,EU (f:=volC) (l:=ZJ.volumes) h4 (λ_=>rfl) rfl (by decide) (by decide),RowAt.nil _ 5,EU (f:=keyC) (l:=ZJ.keys) h5 (λ_=>rfl) rfl (by decide) (by decide)⟩⟩,hl⟩
theorem Bu(w:World):Calls Tryz.prog 29 #[] w λe w'=>∃ cs,e=.returned (.agg cs.toArray)/\CfgIn w' cs ZJ/\Later w w':=by
 have HF:=Hd (ZiW w)
 go_enter Tryz.func29,Tryz.ntmps29
 go_wp2_with fail
 generalize hW:World.alloc _ _=W;obtain⟨h0,h1,h2⟩:=HF.out W hW.symm;clear hW;refine bodyPost_ret (results_cell_row rfl _ _ w.heap.size 32 [.int .i64 2,.slice (some ⟨w.heap.size+1,0,none⟩) 1 1,.slice (some ⟨w.heap.size+1+1,0,none⟩) 2 2,.slice (some ⟨w.heap.size+1+1+1,0,none⟩) 6 6,.slice none 0 0,.slice (some ⟨w.heap.size+1+1+1+1,0,none⟩) 2 2,.int .i64 0,.int .i64 24,.int .i64 12,.int .i64 8,.int .i64 36,.int .i64 38,.slice none 0 0,.slice (some ⟨w.heap.size+1+1+1+1+1,0,none⟩) 2 2,.string ⟨#[112,119]⟩,.int .i64 3,.int .i64 3].toArray (0,0) _ rfl h0 Tryz.underlying32 rfl (by kernel_rfl)) rfl ?_;exact⟨_,rfl,h1,h2⟩
end Go.Proofs.YtbchkjfnakabkaaGreatDoor
namespace Go.Proofs.YtbchkjfnakabkaaGreatDoor
open Go.RowKit PX PC
structure V7 where
 F:Value
 P:Value
 W:Value
 O:Value
 V:Value
 R:Value
 K:Value
def cfgA(c:Cfg)(v:V7):Array Value:=#[.int .i64 c.levels,v.F,v.P,v.W,v.O,v.V,.int .i64 c.audit.level,.int .i64 c.audit.first,.int .i64 c.audit.count,.int .i64 c.audit.journal,.int .i64 c.boot,.int .i64 c.sectors,v.R,v.K,.string c.login,.int .i64 c.recovery,.int .i64 c.bound]
theorem XS(c:Cfg)(v:V7):(Tryz.prog.info? 32).map (·.size)=some (cfgA c v).size:=UR
abbrev RowsOf(w:World)(c:Cfg)(v:V7):Prop:=Rows7 w c v.F v.P v.W v.O v.V v.R v.K
theorem RowsOf.one{w:World}{c:Cfg}{v:V7}(h:RowsOf w c v):(cfgA c v).all (·.oneCell')=true:=by
 obtain⟨a1,b1,e1,-⟩:=Zl h.rF;obtain⟨a2,b2,e2,-⟩:=Zl h.rP;obtain⟨a3,b3,e3,-⟩:=Zl h.rW;obtain⟨a4,b4,e4,-⟩:=Zl h.rO;obtain⟨a5,b5,e5,-⟩:=Zl h.rV;obtain⟨a6,b6,e6,-⟩:=Zl h.rR;obtain⟨a7,b7,e7,-⟩:=Zl h.rK;unfold cfgA;rw[e1,e2,e3,e4,e5,e6,e7];simp[Value.oneCell']
theorem CfgIn.asA{w:World}{cs:List Value}{c:Cfg}(h:CfgIn w cs c):∃ v:V7,cs.toArray=cfgA c v/\RowsOf w c v:=by
 obtain⟨vF,vP,vW,vO,vV,vR,vK,rfl,hr⟩:=h.rows7;exact⟨⟨vF,vP,vW,vO,vV,vR,vK⟩,rfl,hr⟩
theorem RowsOf.inC{w:World}{c:Cfg}{v:V7}(h:RowsOf w c v):CfgIn w (cfgA c v).toList c:=⟨⟨v.F,v.P,v.W,v.O,v.V,v.R,v.K,rfl,h.rF,h.rP,h.rW,h.rO,h.rV,h.rR,h.rK⟩⟩
def VarAt(w:World)(b:Nat)(c:Cfg)(v:V7):Prop:=w.heap[b]?=some (.cells (cfgA c v) 32 (0,0))
theorem VarAt.later{w w':World}{b:Nat}{c:Cfg}{v:V7}(h:VarAt w b c v)(hl:Later w w'):VarAt w' b c v:=hl.block h
theorem VarAt.lt{w:World}{b:Nat}{c:Cfg}{v:V7}(h:VarAt w b c v):b<w.heap.size:=Zb h
theorem EG(w:World)(Z:Array Value)(c:Cfg)(v:V7):VarAt ((w.alloc (.cells Z 32)).setRow w.heap.size (cfgA c v)) w.heap.size c v/\Later w ((w.alloc (.cells Z 32)).setRow w.heap.size (cfgA c v)):=
 ⟨setRow_heap _ _ _ _ _ _ (Zd w _),YQ ((Later.refl w).alloc _) (Nat.le_refl _) _⟩
theorem VarAt.set{w:World}{b:Nat}{c:Cfg}{v:V7}(h:VarAt w b c v)(j:Nat)(u:Value){c':Cfg}{v':V7}(he:(cfgA c v).setIfInBounds j u=cfgA c' v'):VarAt (w.setCell ⟨b,j,none⟩ u) b c' v':=by
 have:=Zf h j u;unfold VarAt;rw[<-he];exact this
theorem Uz(w:World)(c:Cfg)(v:V7)(h:RowsOf w c v)(hI:CfgI c)(hW:CfgW c):Calls Tryz.prog 10 #[.agg (cfgA c v)] w λe w'=>e=.returned (.int .i64 (chkI c))/\Later w w':=
 BG w _ c v.F v.P v.W v.O v.V v.R v.K rfl h hI hW
theorem Be(w:World)(c:Cfg)(v:V7)(h:RowsOf w c v)(hI:CfgI c)(hW:CfgW c):Calls Tryz.prog 12 #[.agg (cfgA c v)] w λe w'=>e=.returned (.int .i64 c.needB)/\Later w w':=
 Zcf w _ c v.F v.P v.W v.O v.V v.R v.K rfl h hI hW
theorem Zhf(w:World)(c:Cfg)(v u:V7)(h:RowsOf w c v)(k:RowsOf w c u)(hI:CfgI c):Calls Tryz.prog 19 #[.agg (cfgA c v),.agg (cfgA c u)] w λe w'=>e=.returned (.bool true)/\Later w w':=
 Zcc w _ _ c v.F v.P v.W v.O v.V v.R v.K u.F u.P u.W u.O u.V u.R u.K rfl rfl h k hI
theorem Zfx(w:World)(c:Cfg)(v:V7)(h:RowsOf w c v)(hI:CfgI c):Calls Tryz.prog 15 #[.agg (cfgA c v)] w λe w'=>e=.returned (.tuple #[.string (JK c),.int .i64 (JY c)])/\Later w w':=
 Zdn w (cfgA c v).toList c h.inC hI
def VV(S:ByteArray):Cfg:=(Yj S.data.toList).getD Jb
def E4(S:ByteArray):Int:=if Yj S.data.toList=none then 110 else 0
def BN(S:ByteArray)(w:World)(e:Ending)(w':World):Prop:=∃ v:V7,e=.returned (.tuple #[.agg (cfgA (VV S) v),.int .i64 (E4 S)])/\RowsOf w' (VV S) v/\Later w w'
theorem Zad(w:World)(S:ByteArray)(hS:S.size<=9223372036854775807):Calls Tryz.prog 17 #[.string S] w (BN S w):=by
 refine(ZbD w S hS).mono λe w' ⟨cs,he,hin,hl⟩=>?_
 obtain⟨v,hv,hr⟩:=hin.asA;rw[hv]at he;exact⟨v,he,hr,hl⟩
def ExAt(w:World)(e:Ending)(w':World):Prop:=∃ v:V7,e=.returned (.agg (cfgA ZJ v))/\RowsOf w' ZJ v/\Later w w'
theorem Zb5(w:World):Calls Tryz.prog 29 #[] w (ExAt w):=by
 refine(Bu w).mono λe w' ⟨cs,he,hin,hl⟩=>?_
 obtain⟨v,hv,hr⟩:=hin.asA;rw[hv]at he;exact⟨v,he,hr,hl⟩
theorem U3{w:Nat}:∀ {l:List Int},Zt w l=true->∀ n∈l,0<=n/\n<256 ^ w
 |[],_,n,hn=>by cases hn
 |m::l,h,n,hn=>by
  obtain⟨h1,h2⟩:=ZV.1 h;rcases List.mem_cons.1 hn with rfl|hn
  ·exact Uu.1 h1
  ·exact U3 h2 n hn
theorem Qe{α:Type}{p:Lays α}:∀ {l:List α},ZD p l=true->∀ x∈l,p.ok x=true
 |[],_,x,hx=>by cases hx
 |y::l,h,x,hx=>by
  rw[ZD,Bool.and_eq_true]at h;rcases List.mem_cons.1 hx with rfl|hx
  ·exact h.1
  ·exact Qe h.2 x hx
theorem XE{α:Type}{p:Lays α}{l:List α}(h:ZO p l=true):l.length<=255/\∀ x∈l,p.ok x=true:=by
 unfold ZO at h;rw[Bool.and_eq_true]at h;have h1:=U3 h.1 _ (List.mem_cons_self ..);have h2:((l.length:Nat):Int)<256:=h1.2;exact⟨by omega,Qe h.2⟩
theorem YZ{w:Nat}(hw:w=1\/w=2){l:List Int}(h:Zt w l=true):∀ n∈l,I64 n:=λn hn=>by
 have h1:=U3 h n hn;rcases hw with rfl|rfl
 ·have h2:n<256:=h1.2;exact⟨by omega,by omega⟩
 ·have h2:n<65536:=h1.2;exact⟨by omega,by omega⟩
theorem Em{s:ByteArray}(h:XC s=true):s.size<=9223372036854775807:=by
 unfold XC at h;rw[decide_eq_true_eq]at h;omega
theorem G4{c:Cfg}(h:c.laid=true):Zt 1 [c.levels]=true/\ZO XI c.flows=true/\ZO XG c.parts=true/\ZO winP c.windows=true/\ZO porP c.ports=true/\ZO volP c.volumes=true /\
 Zt 2 [c.audit.first,c.audit.count,c.audit.journal,c.boot,c.sectors]=true/\ZO ruP c.rules=true/\ZO keyP c.keys=true/\XC c.login=true/\Zt 2 [c.recovery,c.bound]=true/\c.audit.level=0:=by
 simpa only[Cfg.laid,Bool.and_eq_true,decide_eq_true_eq,and_assoc] using h
theorem Ec{c:Cfg}(h:c.laid=true):CfgI c:=by
 obtain⟨e1,e2,e3,e4,e5,e6,e7,e8,e9,e10,e11,e12⟩:=G4 h;have a7:=YZ (.inr rfl) e7;refine⟨YZ (.inl rfl) e1 _ (by simp),λx hx=>?_,λx hx=>?_,λx hx=>?_,λx hx=>?_,λx hx=>?_,⟨λn hn=>?_,λn hn=>a7 n ?_⟩,a7 _ (by simp),a7 _ (by simp),λx hx=>?_,λx hx=>?_,Em e10,YZ (.inr rfl) e11 _ (by simp),YZ (.inr rfl) e11 _ (by simp)⟩
 ·exact YZ (.inl rfl) ((XE e2).2 x hx)
 ·exact YZ (.inl rfl) ((XE e3).2 x hx)
 ·exact YZ (.inl rfl) ((XE e4).2 x hx)
 ·exact YZ (.inl rfl) ((XE e5).2 x hx)
 ·have:=(XE e6).2 x hx;have h':(Zt 1 [x.level]&&Zt 2 [x.first,x.count,x.journal])=true:=this;rw[Bool.and_eq_true]at h';exact⟨YZ (.inl rfl) h'.1,YZ (.inr rfl) h'.2⟩
 ·rw[List.mem_singleton.1 hn,e12];exact⟨by omega,by omega⟩
 ·simp only[List.mem_cons,List.not_mem_nil,or_false]at hn ⊢;rcases hn with h|h|h
  ·exact .inl h
  ·exact .inr (.inl h)
  ·exact .inr (.inr (.inl h))
 ·have:=(XE e8).2 x hx;have h':(Zt 1 [x.fr,x.tu,x.act]&&(XC x.pat&&XC x.wth))=true:=this;rw[Bool.and_eq_true,Bool.and_eq_true]at h';exact⟨YZ (.inl rfl) h'.1,Em h'.2.1,Em h'.2.2⟩
 ·exact Em ((XE e9).2 x hx)
theorem G5{c:Cfg}(h:c.laid=true):CfgW c:=by
 obtain⟨e1,e2,e3,e4,e5,e6,e7,e8,e9,e10,e11,e12⟩:=G4 h;have a:=(XE e5).1;have b:=(XE e6).1;have d:=(XE e8).1;unfold CfgW;omega
theorem D5(S:ByteArray):(VV S).laid=true:=by
 unfold VV
 cases h:Yj S.data.toList with
 |none=>decide +kernel
 |some c=>exact(BI h).1
end Go.Proofs.YtbchkjfnakabkaaGreatDoor
namespace Go.Proofs.YtbchkjfnakabkaaGreatDoor
open Go.RowKit PX PC
def exS:ByteArray:=JK ZJ
theorem Ez:exS.data.toList=ZJ.bytes:=by
 unfold exS JK;rw[if_pos JD];show(ZJ.bytes.toArray).toList=_;simp
theorem exE:JY ZJ=0:=by unfold JY;rw[if_pos JD]
theorem Dj:Yj exS.data.toList=some ZJ:=by rw[Ez];exact D6 ZJ JD
def xS:ByteArray:=⟨#[120]⟩
theorem Zex:Yj (exS++xS).data.toList=none:=by
 have h:(exS++xS).data.toList=ZJ.bytes++[120]:=by rw[Dx,Ez];rfl
 rw[h];have:=ZhS
 simpa using this
theorem Zgl:exS.size=ZJ.bytes.length:=by rw[<-Ez,UE]
theorem ZiU:ZJ.bytes.length=74:=by decide +kernel
theorem Zgm:(exS.extract 0 12).toList=[67,83,84,49,2,1,0,1,2,0,1,1]:=by
 rw[ByteArray.toList_eq];have h:(exS.extract 0 12).data.toList=exS.data.toList.take 12:=by simp[ByteArray.data_extract]
 rw[h,Ez];exact ZhV
def exB:Cfg:={ ZJ with bound:=2 }
def exO:Cfg:={ ZJ with boot:=35 }
theorem ZaB:exB.laid=true:=by decide +kernel
theorem ZaA:exO.laid=true:=by decide +kernel
theorem ZiX:chkI ZJ=0:=by unfold chkI;rw[Zgk];rfl
theorem ZhY:chkI exB=111:=by unfold chkI exB;rw[ZhT];rfl
theorem ZhX:chkI exO=111:=by unfold chkI exO;rw[ZhW];rfl
theorem Ze0:chkI Jb=111:=by
 have:Jb.checkB=false:=Bv;unfold chkI;rw[this];rfl
theorem ZaP:Jb.needB=0:=Zb6
def vZ:V7:=⟨.slice none 0 0,.slice none 0 0,.slice none 0 0,.slice none 0 0,.slice none 0 0,.slice none 0 0,.slice none 0 0⟩
theorem Q6(w:World):RowsOf w Jb vZ:=⟨RowAt.nil w 2,RowAt.nil w 2,RowAt.nil w 3,RowAt.nil w 5,RowAt.nil w 4,RowAt.nil w 5,RowAt.nil w 1⟩
theorem V8:Jb.laid=true:=by decide +kernel
theorem YS{w w':World}{k:Nat}{v:Value}{css:List (List Value)}(h:RowAt w k v css){b:Nat}{C:Array Value}{T:TypeId}(hb:w.heap[b]?=some (.cells C T (0,0)))(i0:Only (λq=>q=b) w w')
 (hne:css=[]\/∃ (i:Nat) (hi:i<css.length) (j:Nat) (u:Value),j<k/\css[i][j]?=some u/\∀ o:Nat,C[o]?≠some u):RowAt w' k v css:=by
 obtain⟨a,cap,h1,h2,h3,h4,h5⟩:=h;refine⟨a,cap,h1,h2,h3,h4,?_⟩;rcases h5 with h|⟨g,o,h6,h7,h8⟩
 ·exact .inl h
 ·rcases hne with hne|⟨i,hi,j,u,hj,hu,hC⟩
  ·exact .inl hne
  ·have W1:g≠b:=λe=>by
    have:=h8 i hi j hj;rw[hu,e,Za hb]at this;exact hC _ this
   exact .inr ⟨g,o,h6,Nat.lt_of_lt_of_le h7 i0.size,λi hi j hj=>(i0.cell (p:=⟨g,o+i*k+j,none⟩) h7 W1).trans (h8 i hi j hj)⟩
theorem ZhR{w:World}{v:V7}(h:RowsOf w ZJ v):(∀o:Nat,(cfgA ZJ v)[o]?≠some (.int .i64 1))/\∀ o:Nat,(cfgA ZJ v)[o]?≠some (.string ⟨#[97]⟩):=by
 obtain⟨a1,b1,e1,-⟩:=Zl h.rF;obtain⟨a2,b2,e2,-⟩:=Zl h.rP;obtain⟨a3,b3,e3,-⟩:=Zl h.rW;obtain⟨a4,b4,e4,-⟩:=Zl h.rO;obtain⟨a5,b5,e5,-⟩:=Zl h.rV;obtain⟨a6,b6,e6,-⟩:=Zl h.rR;obtain⟨a7,b7,e7,-⟩:=Zl h.rK;have hm:∀ (o:Nat) (u:Value),(cfgA ZJ v)[o]?=some u->u∈cfgA ZJ v:=λo u hu=>Array.mem_of_getElem? hu
 constructor
 ·intro o ho;have:=hm o _ ho;simp[cfgA,e1,e2,e3,e4,e5,e6,e7,ZJ]at this
 ·intro o ho;have:=hm o _ ho;simp[cfgA,e1,e2,e3,e4,e5,e6,e7,ZJ]at this
theorem Zbm{w w' w1:World}{b:Nat}{v v2:V7}(h:RowsOf w ZJ v2)(hv:VarAt w b ZJ v)(hr:RowsOf w1 ZJ v)(i0:Only (λq=>q=b) w w'):RowsOf w' exO v2:=by
 obtain⟨n1,n2⟩:=ZhR hr
 exact⟨YS h.rF hv i0 (.inr ⟨0,by decide,1,.int .i64 1,by decide,rfl,n1⟩),YS h.rP hv i0 (.inr ⟨0,by decide,1,.int .i64 1,by decide,rfl,n1⟩),YS h.rW hv i0 (.inr ⟨0,by decide,0,.int .i64 1,by decide,rfl,n1⟩),YS h.rO hv i0 (.inl rfl),
  YS h.rV hv i0 (.inr ⟨1,by decide,0,.int .i64 1,by decide,rfl,n1⟩),YS h.rR hv i0 (.inl rfl),YS h.rK hv i0 (.inr ⟨0,by decide,0,.string ⟨#[97]⟩,by decide,rfl,n2⟩)⟩
theorem Zie(w:World)(v:V7)(h:RowsOf w exB v):Calls Tryz.prog 10 #[.agg (cfgA exB v)] w λe w2=>e=.returned (.int .i64 111)/\Later w w2:=by
 have:=Uz w exB v h (Ec ZaB) (G5 ZaB);rw[ZhY]at this;exact this
theorem Zid(w:World)(v:V7)(h:RowsOf w exO v):Calls Tryz.prog 10 #[.agg (cfgA exO v)] w λe w2=>e=.returned (.int .i64 111)/\Later w w2:=by
 have:=Uz w exO v h (Ec ZaA) (G5 ZaA);rw[ZhX]at this;exact this
theorem Zi0(w:World)(v:V7)(h:RowsOf w ZJ v):Calls Tryz.prog 10 #[.agg (cfgA ZJ v)] w λe w2=>e=.returned (.int .i64 0)/\Later w w2:=by
 have:=Uz w ZJ v h (Ec JD) (G5 JD);rw[ZiX]at this;exact this
theorem ZhC(w:World)(v:V7)(h:RowsOf w ZJ v):Calls Tryz.prog 12 #[.agg (cfgA ZJ v)] w λe w2=>e=.returned (.int .i64 3)/\Later w w2:=by
 have:=Be w ZJ v h (Ec JD) (G5 JD);rw[Zgj]at this;exact this
theorem Zgw(w:World):Calls Tryz.prog 10 #[.agg #[.int .i64 0,.slice none 0 0,.slice none 0 0,.slice none 0 0,.slice none 0 0,.slice none 0 0,.int .i64 0,.int .i64 0,.int .i64 0,.int .i64 0,.int .i64 0,.int .i64 0,.slice none 0 0,.slice none 0 0,.string ⟨#[]⟩,.int .i64 0,.int .i64 0]] w λe w2=>e=.returned (.int .i64 111)/\Later w w2:=by
 have:=Uz w Jb vZ (Q6 w) (Ec V8) (G5 V8);rw[Ze0]at this;exact this
theorem ZdJ(w:World):Calls Tryz.prog 12 #[.agg #[.int .i64 0,.slice none 0 0,.slice none 0 0,.slice none 0 0,.slice none 0 0,.slice none 0 0,.int .i64 0,.int .i64 0,.int .i64 0,.int .i64 0,.int .i64 0,.int .i64 0,.slice none 0 0,.slice none 0 0,.string ⟨#[]⟩,.int .i64 0,.int .i64 0]] w λe w2=>e=.returned (.int .i64 0)/\Later w w2:=by
 have:=Be w Jb vZ (Q6 w) (Ec V8) (G5 V8);rw[ZaP]at this;exact this
theorem Zgn{w:World}{v:V7}(r:RowsOf w ZJ v):RowsOf w exB v:=⟨r.rF,r.rP,r.rW,r.rO,r.rV,r.rR,r.rK⟩
theorem Wr(w:World)(b j:Nat)(u:Value):Only (λk=>k=b) w (w.setCell ⟨b,j,none⟩ u):=(Only.refl (λk=>k=b) w).setCell (p:=⟨b,j,none⟩) (.inl rfl) u
end Go.Proofs.YtbchkjfnakabkaaGreatDoor
namespace Go.Proofs.YtbchkjfnakabkaaGreatDoor
open Go.RowKit PX PC
theorem Bt(w:World):Calls Tryz.prog 14 #[] w λe w'=>e=.returned (.bool true)/\Later w w':=by
 have R1:=Hd Zb5;have v1:=Hd (show VV exS=ZJ from by unfold VV;rw[Dj];rfl);have J1:=Hd (show E4 exS=0 from by unfold E4;rw[Dj];rfl);have A0:=Hd (show E4 (exS++xS)=110 from by unfold E4;rw[Zex];rfl);have p0:exS.size=74:=by rw[Zgl,ZiU]
 have E1:=Hd (λ(w':World)=>show Calls Tryz.prog 17 #[.string exS] w' (BN exS w') from Zad w' exS (by omega));have L1:=Hd (λ(w':World)=>show Calls Tryz.prog 17 #[.string (exS++⟨#[120]⟩)] w' (BN (exS++xS) w') from Zad w' (exS++xS) (by rw[ByteArray.size_append,p0];decide));have C2:=Hd (D5 (exS++xS))
 obtain⟨S,hS⟩:∃ S,exS=S:=⟨_,rfl⟩
 have I0:=Zgm
 have c2:=Hd (λ(w':World) (v:V7) (h:RowsOf w' ZJ v)=>(show Calls Tryz.prog 15 #[.agg (cfgA ZJ v)] w' λe w2=>e=.returned (.tuple #[.string S,.int .i64 0])/\Later w' w2 from by
  have:=Zfx w' ZJ v h (Ec JD);rw[exE,show JK ZJ=S from hS]at this
  exact this))
 rw[hS]at v1 J1 A0 E1 L1 C2 p0 I0;have hcat:¬ 9223372036854775807<S.size+(⟨#[120]⟩:ByteArray).size:=by rw[p0];decide
 clear hS
 go_enter Tryz.func14,Tryz.ntmps14
 go_upto_region 2 with(first
  |(go_at_call 29;(with_reducible refine(R1.out _).mono ?_);rintro e w1 ⟨v,rfl,hr,hl1⟩)
  |refine wpList_store_row rfl 32 (.tmp 1) (.tmp 8) rfl w1.heap.size (cfgA ZJ v) rfl rfl 32 _ (Zd _ _) (XS _ _) rfl hr.one ?_
  |fail)
 generalize hW2:World.setRow _ _ _=W2;have P1:VarAt W2 w1.heap.size ZJ v:=by rw[<-hW2];exact(EG _ _ _ _).1
 have g0:Later w1 W2:=by rw[<-hW2];exact(EG _ _ _ _).2
 clear hW2;have q0:=Hd (λ(w':World) (h:Later W2 w')=>P1.later h);have S0:=Hd (λ(w':World) (h:Later W2 w')=>hr.later (g0.trans h));have A1:=Hd (λ(w':World) (h:Below w1.heap.size w1 w')=>show RowsOf w' ZJ v from hr.later h);have t0:=Hd (show Below w1.heap.size w1 W2 from g0);generalize d0:w1.heap.size=b1 at q0 A1 t0
 (try rw[d0])
 have hbw:w.heap.size<=b1:=by have:=hl1.out.size;omega
 have p1:Later w W2:=hl1.trans g0;clear P1 hr d0 hl1 g0
 go_upto_region 3 with(first
  |refine ZX rfl 32 (.tmp 1) rfl b1 rfl 32 (cfgA ZJ v) (0,0) _ (q0.out _ La) Tryz.underlying32 rfl (XS _ _) ?_
  |(go_at_call 15;(with_reducible refine(c2.out _ _ (S0.out _ La)).mono ?_);rintro e w3 ⟨rfl,hl3⟩)
  |fail)
 go_upto_region 4 with(first
  |(go_at_call 17;(with_reducible refine(E1.out _).mono ?_);rintro e w4 ⟨v2,rfl,hr2,hl4⟩;rw[v1.out]at hr2;rw[v1.out,J1.out])
  |refine wpList_store_row rfl 32 (.tmp 4) (.tmp 17) rfl w4.heap.size (cfgA ZJ v2) rfl rfl 32 _ (Zd _ _) (XS _ _) rfl hr2.one ?_
  |fail)
 generalize hW5:World.setRow _ _ _=W5;have F1:VarAt W5 w4.heap.size ZJ v2:=by rw[<-hW5];exact(EG _ _ _ _).1
 have j1:Later w4 W5:=by rw[<-hW5];exact(EG _ _ _ _).2
 clear hW5;have O0:=Hd (λ(w':World) (h:Later W5 w')=>F1.later h);have Z1:=Hd (λ(w':World) (h:Later W5 w')=>hr2.later (j1.trans h));have R0:=Hd (And.intro (q0.out w4 (show Later W2 w4 from La)) (And.intro hr2 (show Below w4.heap.size w4 W5 from j1)));have k1:b1<w4.heap.size:=by have:=(q0.out _ (show Later W2 w4 from La)).lt;omega
 generalize b0:w4.heap.size=b2 at O0 k1 R0;have M1:=Hd b0
 (try rw[b0])
 have y0:Later W2 W5:=La;clear F1 hr2 b0 hl3 hl4 j1
 go_upto_region 5 with(first
  |(go_at_call 17;(with_reducible refine(L1.out _).mono ?_);rintro e w6 ⟨v3,rfl,hr3,hl6⟩;rw[A0.out])
  |refine wpList_store_row rfl 32 (.tmp 6) (.tmp 23) rfl w6.heap.size (cfgA (VV (S++xS)) v3) rfl rfl 32 _ (Zd _ _) (XS _ _) rfl hr3.one ?_
  |fail)
 generalize hW7:World.setRow _ _ _=W7;have I1:Later w6 W7:=by rw[<-hW7];exact(EG _ _ _ _).2
 clear hW7 hr3;generalize w6.heap.size=b3;have s0:Later W5 W7:=hl6.trans I1;clear hl6 I1;have m0:Later W2 W7:=y0.trans s0;have H0:¬ ((S.size:Int)<12):=by rw[p0];decide
 have W0:decide ((S.size:Int)<12)=false:=decide_eq_false H0;have d2:=Hd (λ(w':World) (h:Later W7 w')=>Zi0 w' v (S0.out _ (m0.trans h)));have C0:=Hd (λ(w':World) (h:Later W7 w')=>ZhC w' v (S0.out _ (m0.trans h)));have p2:=Hd (λ(w':World) (h:Later W7 w')=>Zhf w' ZJ v v2 (S0.out _ (m0.trans h)) (Z1.out _ (s0.trans h)) (Ec JD))
 go_upto_region 7 with(first
  |refine ZX rfl 32 (.tmp 1) rfl b1 rfl 32 (cfgA ZJ v) (0,0) _ (q0.out _ La) Tryz.underlying32 rfl (XS _ _) ?_
  |refine ZX rfl 32 (.tmp 4) rfl b2 rfl 32 (cfgA ZJ v2) (0,0) _ (O0.out _ La) Tryz.underlying32 rfl (XS _ _) ?_
  |(go_at_call 10;(with_reducible refine(d2.out _ La).mono ?_);rintro e w8 ⟨rfl,hl8⟩)
  |(go_at_call 12;(with_reducible refine(C0.out _ La).mono ?_);rintro e w9 ⟨rfl,hl9⟩)
  |(go_at_call 19;(with_reducible refine(p2.out _ La).mono ?_);rintro e w10 ⟨rfl,hl10⟩)
  |fail)
 have n0:Later W5 w10:=La;have l0:Later W2 w10:=y0.trans n0;have g1:=q0.out w10 l0;have g2:=O0.out w10 n0;have t1:Later w w10:=p1.trans l0;have m1:w10.cell? ⟨b1,16,none⟩=some (.int .i64 3):=Za g1 16;have m2:=Zc g1 16;have K1:=Hd g1;have N1:=Hd g2;have v0:Below b1 _ w10:=t0.out.trans (Below.mono l0 (by have:=t0.out.size;have:=g1.lt;have:=q0.out W2 (Later.refl _);have:=this.lt;omega));clear g1 g2 hl8 hl9 hl10 s0 m0 y0 H0 W0
 go_upto_region 8 with fail
 generalize hW:World.setCell _ _ _=W11;have n1:VarAt W11 b1 exB v:=by rw[<-hW];exact VarAt.set K1.out 16 _ rfl
 have i0:Only (λk=>k=b1) w10 W11:=by rw[<-hW];exact Wr _ _ _ _
 have n2:VarAt W11 b2 ZJ v2:=(i0.block b2 N1.out.lt (by omega)).trans N1.out;have c1:Later w W11:=Below.trans t1 (i0.below t1.out.size (λk hk=>by have:k=b1:=hk;omega));have m1:W11.cell? ⟨b2,10,none⟩=some (.int .i64 36):=Za n2 10;have m2:=Zc n2 10;have C0:=Hd n1;have q2:=Hd n2;clear hW n1 n2
 go_upto_region 9 with fail
 generalize hW:World.setCell _ _ _=W12;have n2:VarAt W12 b2 exO v2:=by rw[<-hW];exact VarAt.set q2.out 10 _ rfl
 have k0:Only (λk=>k=b2) W11 W12:=by rw[<-hW];exact Wr _ _ _ _
 have n1:VarAt W12 b1 exB v:=(k0.block b1 C0.out.lt (by omega)).trans C0.out;have hle2:Later w W12:=Below.trans c1 (k0.below c1.out.size (λk hk=>by have:k=b2:=hk;omega));have O1:RowsOf W12 exB v:=Zgn (A1.out W12 (Below.trans (Below.trans v0 (i0.below (by have:=v0.size;have:=C0.out.lt;have:=K1.out.lt;omega) (λk hk=>by have:k=b1:=hk;omega))) (k0.below (by have:=C0.out.lt;omega) (λk hk=>by have:k=b2:=hk;omega))))
 have H1:RowsOf W12 exO v2:=by
  have q1:Below b2 _ w10:=R0.out.2.2.trans (Below.mono n0 (by have:=(O0.out W5 (Later.refl _)).lt;omega));have C1:Only (λk=>k=b1) _ W12:=((Only.of_below (r:=λk=>k=b1) (by rw[M1.out];exact q1)).trans (i0.mono (λk _ hk=>.inl hk))).trans (k0.mono (λk _ hk=>.inr (by rw[M1.out];have:k=b2:=hk;omega)));exact Zbm R0.out.2.1 R0.out.1 (A1.out _ (Below.refl _ _)) C1
 have s1:=Hd (λ(w':World) (h:Later W12 w')=>n1.later h);have d1:=Hd (λ(w':World) (h:Later W12 w')=>n2.later h);have l1:=Hd (λ(w':World) (h:Later W12 w')=>Zie w' v (O1.later h));have i1:=Hd (λ(w':World) (h:Later W12 w')=>Zid w' v2 (H1.later h));have s2:=Hd Zgw;have j2:=Hd ZdJ;clear hW n1 n2 O1 H1 i0 k0 v0 m1 m2 c1 t1 l0 n0
 go_wp2_with (first
  |refine ZX rfl 32 (.tmp 1) rfl b1 rfl 32 (cfgA exB v) (0,0) _ (s1.out _ La) Tryz.underlying32 rfl (XS _ _) ?_
  |refine ZX rfl 32 (.tmp 4) rfl b2 rfl 32 (cfgA exO v2) (0,0) _ (d1.out _ La) Tryz.underlying32 rfl (XS _ _) ?_
  |(go_at_call 10;(with_reducible refine(l1.out _ La).mono ?_);rintro e w13 ⟨rfl,hl13⟩)
  |(go_at_call 10;(with_reducible refine(i1.out _ La).mono ?_);rintro e w14 ⟨rfl,hl14⟩)
  |(go_at_call 10;(with_reducible refine(s2.out _).mono ?_);rintro e w15 ⟨rfl,hl15⟩)
  |(go_at_call 12;(with_reducible refine(j2.out _).mono ?_);rintro e w16 ⟨rfl,hl16⟩)
  |fail)
 go_ret
 exact⟨rfl,La⟩
