import Derived.Test.YtbchkjfnakabkaaGreatDoorNLT
import Derived.Test.YtbchkjfnakabkaaGreatDoorYE
import Derived.Test.YtbchkjfnakabkaaGreatDoorYP
import Derived.Test.YtbchkjfnakabkaaGreatDoorYM
set_option linter.unusedSimpArgs false
set_option linter.unusedVariables false
set_option maxHeartbeats 8000000
set_option maxRecDepth 100000
namespace Go.Proofs.YtbchkjfnakabkaaGreatDoor
open Go.RowKit PX PC
theorem Zgr(w:World):(sizeOf 3).run Tryz.prog w=.ok 1 w:=by kernel_rfl
theorem Zhd(W:World)(a b:Int):(Op.equalIn 10000 47 (.agg #[.int .i64 a,.int .i64 b]) (.agg #[.int .i64 a,.int .i64 b])).run Tryz.prog W=.ok true W:=
 (Uj (w:=W) (d:=9998) Tryz.underlying47 Tryz.underlying3 Zgr #[.int .i64 a,.int .i64 b] #[.int .i64 a,.int .i64 b] [a,b] [a,b] rfl rfl rfl rfl).trans (by simp)
theorem Zbx(w:World)(C D:Array Value)(c:Cfg)(vF vP vW vO vV vR vK uF uP uW uO uV uR uK:Value)(hC:C=#[.int .i64 c.levels,vF,vP,vW,vO,vV,.int .i64 c.audit.level,.int .i64 c.audit.first,.int .i64 c.audit.count,.int .i64 c.audit.journal,.int .i64 c.boot,.int .i64 c.sectors,vR,vK,.string c.login,.int .i64 c.recovery,.int .i64 c.bound])(hD:D=#[.int .i64 c.levels,uF,uP,uW,uO,uV,.int .i64 c.audit.level,.int .i64 c.audit.first,.int .i64 c.audit.count,.int .i64 c.audit.journal,.int .i64 c.boot,.int .i64 c.sectors,uR,uK,.string c.login,.int .i64 c.recovery,.int .i64 c.bound])(hr:Rows7 w c vF vP vW vO vV vR vK)(hs:Rows7 w c uF uP uW uO uV uR uK)(hI:CfgI c) :
 Calls Tryz.prog 19 #[.agg C,.agg D] w fun e w'=>e=.returned (.bool true)∧Later w w':=by
 obtain⟨aF,cF,rfl,pF1,pF2,pF3⟩:=Zm hr.rF;obtain⟨bF,dF,rfl,qF1,qF2,qF3⟩:=Zm hs.rF;obtain⟨aP,cP,rfl,pP1,pP2,pP3⟩:=Zm hr.rP;obtain⟨bP,dP,rfl,qP1,qP2,qP3⟩:=Zm hs.rP;obtain⟨aW,cW,rfl,pW1,pW2,pW3⟩:=Zm hr.rW;obtain⟨bW,dW,rfl,qW1,qW2,qW3⟩:=Zm hs.rW;obtain⟨aO,cO,rfl,pO1,pO2,pO3⟩:=Zm hr.rO;obtain⟨bO,dO,rfl,qO1,qO2,qO3⟩:=Zm hs.rO;obtain⟨aV,cV,rfl,pV1,pV2,pV3⟩:=Zm hr.rV;obtain⟨bV,dV,rfl,qV1,qV2,qV3⟩:=Zm hs.rV;obtain⟨aR,cR,rfl,pR1,pR2,pR3⟩:=Zm hr.rR;obtain⟨bR,dR,rfl,qR1,qR2,qR3⟩:=Zm hs.rR;obtain⟨aK,cK,rfl,pK1,pK2,pK3⟩:=Zm hr.rK;obtain⟨bK,dK,rfl,qK1,qK2,qK3⟩:=Zm hs.rK
 obtain⟨p,hp⟩:∃ p,w.heap.size=p:=⟨_,rfl⟩
 obtain⟨w2,hw2⟩:∃ w2,(w.alloc (.cells C 32)).alloc (.cells D 32)=w2:=⟨_,rfl⟩
 have hl2:Later w w2:=by rw[←hw2];exact((Later.refl w).alloc _).alloc _
 have hb1:w2.heap[p]?=some (.cells C 32 (0,0)):=by rw[←hw2,←hp];exact Zd (Ze w _) _
 have hb2:w2.heap[p+1]?=some (.cells D 32 (0,0)):=by rw[←hw2,←hp];exact Zt (by simp)
 rw[hC]at hb1;rw[hD]at hb2;have HXF:=Hd (fun(w':World) (h:Later w2 w')=>And.intro (show w'.cell? ⟨p,1,none⟩=some (.slice aF c.flows.length cF) from Zb (h.block hb1) 1) (And.intro (show w'.cell? ⟨p+1,1,none⟩=some (.slice bF c.flows.length dF) from Zb (h.block hb2) 1) (And.intro (hr.rF.later (hl2.trans h)) (hs.rF.later (hl2.trans h)))));have HXP:=Hd (fun(w':World) (h:Later w2 w')=>And.intro (show w'.cell? ⟨p,2,none⟩=some (.slice aP c.parts.length cP) from Zb (h.block hb1) 2) (And.intro (show w'.cell? ⟨p+1,2,none⟩=some (.slice bP c.parts.length dP) from Zb (h.block hb2) 2) (And.intro (hr.rP.later (hl2.trans h)) (hs.rP.later (hl2.trans h)))));have HXW:=Hd (fun(w':World) (h:Later w2 w')=>And.intro (show w'.cell? ⟨p,3,none⟩=some (.slice aW c.windows.length cW) from Zb (h.block hb1) 3) (And.intro (show w'.cell? ⟨p+1,3,none⟩=some (.slice bW c.windows.length dW) from Zb (h.block hb2) 3) (And.intro (hr.rW.later (hl2.trans h)) (hs.rW.later (hl2.trans h)))));have HXO:=Hd (fun(w':World) (h:Later w2 w')=>And.intro (show w'.cell? ⟨p,4,none⟩=some (.slice aO c.ports.length cO) from Zb (h.block hb1) 4) (And.intro (show w'.cell? ⟨p+1,4,none⟩=some (.slice bO c.ports.length dO) from Zb (h.block hb2) 4) (And.intro (hr.rO.later (hl2.trans h)) (hs.rO.later (hl2.trans h)))));have HXV:=Hd (fun(w':World) (h:Later w2 w')=>And.intro (show w'.cell? ⟨p,5,none⟩=some (.slice aV c.volumes.length cV) from Zb (h.block hb1) 5) (And.intro (show w'.cell? ⟨p+1,5,none⟩=some (.slice bV c.volumes.length dV) from Zb (h.block hb2) 5) (And.intro (hr.rV.later (hl2.trans h)) (hs.rV.later (hl2.trans h)))));have HXR:=Hd (fun(w':World) (h:Later w2 w')=>And.intro (show w'.cell? ⟨p,12,none⟩=some (.slice aR c.rules.length cR) from Zb (h.block hb1) 12) (And.intro (show w'.cell? ⟨p+1,12,none⟩=some (.slice bR c.rules.length dR) from Zb (h.block hb2) 12) (And.intro (hr.rR.later (hl2.trans h)) (hs.rR.later (hl2.trans h)))));have HXK:=Hd (fun(w':World) (h:Later w2 w')=>And.intro (show w'.cell? ⟨p,13,none⟩=some (.slice aK c.keys.length cK) from Zb (h.block hb1) 13) (And.intro (show w'.cell? ⟨p+1,13,none⟩=some (.slice bK c.keys.length dK) from Zb (h.block hb2) 13) (And.intro (hr.rK.later (hl2.trans h)) (hs.rK.later (hl2.trans h)))));have HREST:=Hd (fun(w':World) (h:Later w2 w')=>(And.intro (show w'.cell? ⟨p,0,none⟩=some (.int .i64 c.levels) from Zb (h.block hb1) 0) (And.intro (show w'.cell? ⟨p,6,none⟩=some (.int .i64 c.audit.level) from Zb (h.block hb1) 6) (And.intro (show w'.cell? ⟨p,7,none⟩=some (.int .i64 c.audit.first) from Zb (h.block hb1) 7) (And.intro (show w'.cell? ⟨p,8,none⟩=some (.int .i64 c.audit.count) from Zb (h.block hb1) 8) (And.intro (show w'.cell? ⟨p,9,none⟩=some (.int .i64 c.audit.journal) from Zb (h.block hb1) 9) (And.intro (show w'.cell? ⟨p,10,none⟩=some (.int .i64 c.boot) from Zb (h.block hb1) 10) (And.intro (show w'.cell? ⟨p,11,none⟩=some (.int .i64 c.sectors) from Zb (h.block hb1) 11) (And.intro (show w'.cell? ⟨p,14,none⟩=some (.string c.login) from Zb (h.block hb1) 14) (And.intro (show w'.cell? ⟨p,15,none⟩=some (.int .i64 c.recovery) from Zb (h.block hb1) 15) (And.intro (show w'.cell? ⟨p,16,none⟩=some (.int .i64 c.bound) from Zb (h.block hb1) 16) (And.intro (show w'.cell? ⟨p+1,0,none⟩=some (.int .i64 c.levels) from Zb (h.block hb2) 0) (And.intro (show w'.cell? ⟨p+1,6,none⟩=some (.int .i64 c.audit.level) from Zb (h.block hb2) 6) (And.intro (show w'.cell? ⟨p+1,7,none⟩=some (.int .i64 c.audit.first) from Zb (h.block hb2) 7) (And.intro (show w'.cell? ⟨p+1,8,none⟩=some (.int .i64 c.audit.count) from Zb (h.block hb2) 8) (And.intro (show w'.cell? ⟨p+1,9,none⟩=some (.int .i64 c.audit.journal) from Zb (h.block hb2) 9) (And.intro (show w'.cell? ⟨p+1,10,none⟩=some (.int .i64 c.boot) from Zb (h.block hb2) 10) (And.intro (show w'.cell? ⟨p+1,11,none⟩=some (.int .i64 c.sectors) from Zb (h.block hb2) 11) (And.intro (show w'.cell? ⟨p+1,14,none⟩=some (.string c.login) from Zb (h.block hb2) 14) (And.intro (show w'.cell? ⟨p+1,15,none⟩=some (.int .i64 c.recovery) from Zb (h.block hb2) 15) (show w'.cell? ⟨p+1,16,none⟩=some (.int .i64 c.bound) from Zb (h.block hb2) 16)))))))))))))))))))))
 obtain⟨nF,hnF⟩:∃ n,c.flows.length=n:=⟨_,rfl⟩
 have HNF:=Hd hnF;rw[hnF]at HXF pF1 qF1 pF3 qF3
 obtain⟨nP,hnP⟩:∃ n,c.parts.length=n:=⟨_,rfl⟩
 have HNP:=Hd hnP;rw[hnP]at HXP pP1 qP1 pP3 qP3
 obtain⟨nW,hnW⟩:∃ n,c.windows.length=n:=⟨_,rfl⟩
 have HNW:=Hd hnW;rw[hnW]at HXW pW1 qW1 pW3 qW3
 obtain⟨nO,hnO⟩:∃ n,c.ports.length=n:=⟨_,rfl⟩
 have HNO:=Hd hnO;rw[hnO]at HXO pO1 qO1 pO3 qO3
 obtain⟨nV,hnV⟩:∃ n,c.volumes.length=n:=⟨_,rfl⟩
 have HNV:=Hd hnV;rw[hnV]at HXV pV1 qV1 pV3 qV3
 obtain⟨nR,hnR⟩:∃ n,c.rules.length=n:=⟨_,rfl⟩
 have HNR:=Hd hnR;rw[hnR]at HXR pR1 qR1 pR3 qR3
 obtain⟨nK,hnK⟩:∃ n,c.keys.length=n:=⟨_,rfl⟩
 have HNK:=Hd hnK;rw[hnK]at HXK pK1 qK1 pK3 qK3;have HW2:=Hd hw2;have HP:=Hd hp;have hlo:∀ i:Nat,i<7→True:=fun _ _=>trivial
 clear hlo hw2 hp hb1 hb2 hr hs hC hD hnF hnP hnW hnO hnV hnR hnK;obtain⟨xF0,xF1,-, -⟩:=HXF.out w2 (Later.refl _);obtain⟨xP0,xP1,-, -⟩:=HXP.out w2 (Later.refl _);obtain⟨xW0,xW1,-, -⟩:=HXW.out w2 (Later.refl _);obtain⟨xO0,xO1,-, -⟩:=HXO.out w2 (Later.refl _);obtain⟨xV0,xV1,-, -⟩:=HXV.out w2 (Later.refl _);obtain⟨xR0,xR1,-, -⟩:=HXR.out w2 (Later.refl _);obtain⟨xK0,xK1,-, -⟩:=HXK.out w2 (Later.refl _)
 go_enter Tryz.func19,Tryz.ntmps19
 go_upto_region 1 with fail
 rw[HW2.out,HP.out]
 go_wp2_with fail
 go_loopw [5] (fun vi wr=>∃ j:Nat,j≤nF∧vi=.int .i64 (j:Int)∧Later w2 wr) (fun vi _=>nF - (intOf vi).toNat)
 case atStart=>exact⟨0,by omega,rfl,(Later.refl w2)⟩
 case round=>
  obtain⟨j,hj,rfl,hbF⟩:=hrel;clear xF0 xF1 xP0 xP1 xW0 xW1 xO0 xO1 xV0 xV1 xR0 xR1 xK0 xK1;obtain⟨xF0,xF1,r0,r1⟩:=HXF.out _ hbF;by_cases hlt:j<nF
  ·have hlt2:j<c.flows.length:=by rw[HNF.out];exact hlt
   obtain⟨b,o,rfl,hb',hcc⟩:=ZG r0 hlt2;obtain⟨b2,o2,rfl,hb2',hdd⟩:=ZG r1 hlt2
   obtain⟨x,hx⟩:∃ x,c.flows[j]=x:=⟨_,rfl⟩
   rw[hx]at hcc hdd;clear hx;obtain⟨y1,y2⟩:=x;have e0:=hcc 0 (by omega);have f0:=hdd 0 (by omega);have e1:=hcc 1 (by omega);have f1:=hdd 1 (by omega);simp only[Yl,List.getElem?_cons_zero,List.getElem?_cons_succ,Nat.add_zero,Nat.mul_one]at e0 f0 e1 f1;clear hcc hdd r0 r1;have heq:=fun W:World=>Zhd W y1 y2
   have hbeq:∀ a:Int,(a==a)=true:=fun a=>by simp
   have hbeqs:∀ a:List UInt8,(a==a)=true:=fun a=>by simp
   go_upto_region 6 with fail
   go_region
   go_wp2_with fail
   exact⟨⟨j+1,by omega,by simp,La⟩,by simp only[intOf];omega⟩
  ·clear r0 r1;obtain⟨xP0,xP1,-, -⟩:=HXP.out _ hbF
   go_wp2_with fail
   go_loopw [6] (fun vi wr=>∃ j:Nat,j≤nP∧vi=.int .i64 (j:Int)∧Later w2 wr) (fun vi _=>nP - (intOf vi).toNat)
   case atStart=>exact⟨0,by omega,rfl,hbF⟩
   case round=>
    obtain⟨j,hj,rfl,hbP⟩:=hrel;clear xF0 xF1 xP0 xP1;obtain⟨xP0,xP1,r0,r1⟩:=HXP.out _ hbP;by_cases hlt:j<nP
    ·have hlt2:j<c.parts.length:=by rw[HNP.out];exact hlt
     obtain⟨b,o,rfl,hb',hcc⟩:=ZG r0 hlt2;obtain⟨b2,o2,rfl,hb2',hdd⟩:=ZG r1 hlt2
     obtain⟨x,hx⟩:∃ x,c.parts[j]=x:=⟨_,rfl⟩
     rw[hx]at hcc hdd;clear hx;obtain⟨y1,y2⟩:=x;have e0:=hcc 0 (by omega);have f0:=hdd 0 (by omega);have e1:=hcc 1 (by omega);have f1:=hdd 1 (by omega);simp only[X9,List.getElem?_cons_zero,List.getElem?_cons_succ,Nat.add_zero,Nat.mul_one]at e0 f0 e1 f1;clear hcc hdd r0 r1;have hbeq:∀ a:Int,(a==a)=true:=fun a=>by simp
     have hbeqs:∀ a:List UInt8,(a==a)=true:=fun a=>by simp
     go_upto_region 11 with fail
     go_region
     go_wp2_with fail
     exact⟨⟨j+1,by omega,by simp,La⟩,by simp only[intOf];omega⟩
    ·clear r0 r1;obtain⟨xW0,xW1,-, -⟩:=HXW.out _ hbP
     go_wp2_with fail
     go_loopw [7] (fun vi wr=>∃ j:Nat,j≤nW∧vi=.int .i64 (j:Int)∧Later w2 wr) (fun vi _=>nW - (intOf vi).toNat)
     case atStart=>exact⟨0,by omega,rfl,hbP⟩
     case round=>
      obtain⟨j,hj,rfl,hbW⟩:=hrel;clear xP0 xP1 xW0 xW1;obtain⟨xW0,xW1,r0,r1⟩:=HXW.out _ hbW;by_cases hlt:j<nW
      ·have hlt2:j<c.windows.length:=by rw[HNW.out];exact hlt
       obtain⟨b,o,rfl,hb',hcc⟩:=ZG r0 hlt2;obtain⟨b2,o2,rfl,hb2',hdd⟩:=ZG r1 hlt2
       obtain⟨x,hx⟩:∃ x,c.windows[j]=x:=⟨_,rfl⟩
       rw[hx]at hcc hdd;clear hx;obtain⟨y1,y2,y3⟩:=x;have e0:=hcc 0 (by omega);have f0:=hdd 0 (by omega);have e1:=hcc 1 (by omega);have f1:=hdd 1 (by omega);have e2:=hcc 2 (by omega);have f2:=hdd 2 (by omega);simp only[winC,List.getElem?_cons_zero,List.getElem?_cons_succ,Nat.add_zero,Nat.mul_one]at e0 f0 e1 f1 e2 f2;clear hcc hdd r0 r1;have hbeq:∀ a:Int,(a==a)=true:=fun a=>by simp
       have hbeqs:∀ a:List UInt8,(a==a)=true:=fun a=>by simp
       go_upto_region 16 with fail
       go_region
       go_wp2_with fail
       exact⟨⟨j+1,by omega,by simp,La⟩,by simp only[intOf];omega⟩
      ·clear r0 r1;obtain⟨xO0,xO1,-, -⟩:=HXO.out _ hbW
       go_wp2_with fail
       go_loopw [8] (fun vi wr=>∃ j:Nat,j≤nO∧vi=.int .i64 (j:Int)∧Later w2 wr) (fun vi _=>nO - (intOf vi).toNat)
       case atStart=>exact⟨0,by omega,rfl,hbW⟩
       case round=>
        obtain⟨j,hj,rfl,hbO⟩:=hrel;clear xW0 xW1 xO0 xO1;obtain⟨xO0,xO1,r0,r1⟩:=HXO.out _ hbO;by_cases hlt:j<nO
        ·have hlt2:j<c.ports.length:=by rw[HNO.out];exact hlt
         obtain⟨b,o,rfl,hb',hcc⟩:=ZG r0 hlt2;obtain⟨b2,o2,rfl,hb2',hdd⟩:=ZG r1 hlt2
         obtain⟨x,hx⟩:∃ x,c.ports[j]=x:=⟨_,rfl⟩
         rw[hx]at hcc hdd;clear hx;obtain⟨y1,y2,y3,y4,y5⟩:=x;have e0:=hcc 0 (by omega);have f0:=hdd 0 (by omega);have e1:=hcc 1 (by omega);have f1:=hdd 1 (by omega);have e2:=hcc 2 (by omega);have f2:=hdd 2 (by omega);have e3:=hcc 3 (by omega);have f3:=hdd 3 (by omega);have e4:=hcc 4 (by omega);have f4:=hdd 4 (by omega);simp only[porC,List.getElem?_cons_zero,List.getElem?_cons_succ,Nat.add_zero,Nat.mul_one]at e0 f0 e1 f1 e2 f2 e3 f3 e4 f4;clear hcc hdd r0 r1;have hbeq:∀ a:Int,(a==a)=true:=fun a=>by simp
         have hbeqs:∀ a:List UInt8,(a==a)=true:=fun a=>by simp
         go_upto_region 21 with fail
         go_region
         go_wp2_with fail
         exact⟨⟨j+1,by omega,by simp,La⟩,by simp only[intOf];omega⟩
        ·clear r0 r1;obtain⟨xV0,xV1,-, -⟩:=HXV.out _ hbO
         go_wp2_with fail
         go_loopw [9] (fun vi wr=>∃ j:Nat,j≤nV∧vi=.int .i64 (j:Int)∧Later w2 wr) (fun vi _=>nV - (intOf vi).toNat)
         case atStart=>exact⟨0,by omega,rfl,hbO⟩
         case round=>
          obtain⟨j,hj,rfl,hbV⟩:=hrel;clear xO0 xO1 xV0 xV1;obtain⟨xV0,xV1,r0,r1⟩:=HXV.out _ hbV;by_cases hlt:j<nV
          ·have hlt2:j<c.volumes.length:=by rw[HNV.out];exact hlt
           obtain⟨b,o,rfl,hb',hcc⟩:=ZG r0 hlt2;obtain⟨b2,o2,rfl,hb2',hdd⟩:=ZG r1 hlt2
           obtain⟨x,hx⟩:∃ x,c.volumes[j]=x:=⟨_,rfl⟩
           rw[hx]at hcc hdd;clear hx;obtain⟨y1,y2,y3,y4⟩:=x;have e0:=hcc 0 (by omega);have f0:=hdd 0 (by omega);have e1:=hcc 1 (by omega);have f1:=hdd 1 (by omega);have e2:=hcc 2 (by omega);have f2:=hdd 2 (by omega);have e3:=hcc 3 (by omega);have f3:=hdd 3 (by omega);simp only[volC,List.getElem?_cons_zero,List.getElem?_cons_succ,Nat.add_zero,Nat.mul_one]at e0 f0 e1 f1 e2 f2 e3 f3;clear hcc hdd r0 r1;have hbeq:∀ a:Int,(a==a)=true:=fun a=>by simp
           have hbeqs:∀ a:List UInt8,(a==a)=true:=fun a=>by simp
           go_upto_region 26 with fail
           go_region
           go_wp2_with fail
           exact⟨⟨j+1,by omega,by simp,La⟩,by simp only[intOf];omega⟩
          ·clear r0 r1;obtain⟨xR0,xR1,-, -⟩:=HXR.out _ hbV
           go_wp2_with fail
           go_loopw [10] (fun vi wr=>∃ j:Nat,j≤nR∧vi=.int .i64 (j:Int)∧Later w2 wr) (fun vi _=>nR - (intOf vi).toNat)
           case atStart=>exact⟨0,by omega,rfl,hbV⟩
           case round=>
            obtain⟨j,hj,rfl,hbR⟩:=hrel;clear xV0 xV1 xR0 xR1;obtain⟨xR0,xR1,r0,r1⟩:=HXR.out _ hbR;by_cases hlt:j<nR
            ·have hlt2:j<c.rules.length:=by rw[HNR.out];exact hlt
             obtain⟨b,o,rfl,hb',hcc⟩:=ZG r0 hlt2;obtain⟨b2,o2,rfl,hb2',hdd⟩:=ZG r1 hlt2
             obtain⟨x,hx⟩:∃ x,c.rules[j]=x:=⟨_,rfl⟩
             rw[hx]at hcc hdd;clear hx;obtain⟨y1,y2,y3,y4,y5⟩:=x;have e0:=hcc 0 (by omega);have f0:=hdd 0 (by omega);have e1:=hcc 1 (by omega);have f1:=hdd 1 (by omega);have e2:=hcc 2 (by omega);have f2:=hdd 2 (by omega);have e3:=hcc 3 (by omega);have f3:=hdd 3 (by omega);have e4:=hcc 4 (by omega);have f4:=hdd 4 (by omega);simp only[ruC,List.getElem?_cons_zero,List.getElem?_cons_succ,Nat.add_zero,Nat.mul_one]at e0 f0 e1 f1 e2 f2 e3 f3 e4 f4;clear hcc hdd r0 r1;have hbeq:∀ a:Int,(a==a)=true:=fun a=>by simp
             have hbeqs:∀ a:List UInt8,(a==a)=true:=fun a=>by simp
             go_upto_region 31 with fail
             go_region
             go_wp2_with fail
             exact⟨⟨j+1,by omega,by simp,La⟩,by simp only[intOf];omega⟩
            ·clear r0 r1;obtain⟨xK0,xK1,-, -⟩:=HXK.out _ hbR
             go_wp2_with fail
             go_loopw [11] (fun vi wr=>∃ j:Nat,j≤nK∧vi=.int .i64 (j:Int)∧Later w2 wr) (fun vi _=>nK - (intOf vi).toNat)
             case atStart=>exact⟨0,by omega,rfl,hbR⟩
             case round=>
              obtain⟨j,hj,rfl,hbK⟩:=hrel;clear xR0 xR1 xK0 xK1;obtain⟨xK0,xK1,r0,r1⟩:=HXK.out _ hbK;by_cases hlt:j<nK
              ·have hlt2:j<c.keys.length:=by rw[HNK.out];exact hlt
               obtain⟨b,o,rfl,hb',hcc⟩:=ZG r0 hlt2;obtain⟨b2,o2,rfl,hb2',hdd⟩:=ZG r1 hlt2
               obtain⟨x,hx⟩:∃ x,c.keys[j]=x:=⟨_,rfl⟩
               rw[hx]at hcc hdd;clear hx;have e0:=hcc 0 (by omega);have f0:=hdd 0 (by omega);simp only[keyC,List.getElem?_cons_zero,List.getElem?_cons_succ,Nat.add_zero,Nat.mul_one]at e0 f0;clear hcc hdd r0 r1;have hbeq:∀ a:Int,(a==a)=true:=fun a=>by simp
               have hbeqs:∀ a:List UInt8,(a==a)=true:=fun a=>by simp
               go_upto_region 36 with fail
               go_region
               go_wp2_with fail
               exact⟨⟨j+1,by omega,by simp,La⟩,by simp only[intOf];omega⟩
              ·clear r0 r1;obtain⟨z0,z1,z2,z3,z4,z5,z6,z7,z8,z9,z10,z11,z12,z13,z14,z15,z16,z17,z18,z19⟩:=HREST.out _ hbK;have hbeq:∀ a:Int,(a==a)=true:=fun a=>by simp
               have hbeqs:∀ a:List UInt8,(a==a)=true:=fun a=>by simp
               go_wp2_with fail
               go_ret
               exact⟨Zs (by simp),hl2.trans hbK⟩
end Go.Proofs.YtbchkjfnakabkaaGreatDoor
namespace Go.Proofs.YtbchkjfnakabkaaGreatDoor
open Go.RowKit PX PC
theorem EH{α:Type}{w:World}{k b:Nat}{f:α→List Value}{l:List α}{cs:List Value}{t:TypeId}(hb:w.heap[b]?=some (.cells cs.toArray t (0,0)))(hf:∀ x,(f x).length=k)(hc:cs=ZE f l)(hl:l.length≤255)(hk:k≤5) :
 RowAt w k (.slice (some ⟨b,0,none⟩) l.length l.length) (l.map f):=by
 refine⟨some ⟨b,0,none⟩,l.length,by rw[List.length_map],by rw[List.length_map];exact Nat.le_refl _,by omega,?_,.inr ⟨b,0,rfl,Za hb,fun i hi j hj=>?_⟩⟩
 ·rw[List.length_map];have:l.length*k≤255*5:=Nat.mul_le_mul hl hk;omega
 ·rw[List.length_map]at hi;have h:=YQ f k hf l i hi j hj;rw[←hc]at h;rw[Zb hb,Nat.zero_add,List.getElem_map]
  simpa using h
theorem Zg8(w:World)(o0 o1 o2 o3 o4 o5:Obj):((((((w.alloc o0).alloc o1).alloc o2).alloc o3).alloc o4).alloc o5).heap[w.heap.size]?=some o0∧((((((w.alloc o0).alloc o1).alloc o2).alloc o3).alloc o4).alloc o5).heap[w.heap.size+1]?=some o1 ∧
 ((((((w.alloc o0).alloc o1).alloc o2).alloc o3).alloc o4).alloc o5).heap[w.heap.size+1+1]?=some o2∧((((((w.alloc o0).alloc o1).alloc o2).alloc o3).alloc o4).alloc o5).heap[w.heap.size+1+1+1]?=some o3 ∧
 ((((((w.alloc o0).alloc o1).alloc o2).alloc o3).alloc o4).alloc o5).heap[w.heap.size+1+1+1+1]?=some o4∧((((((w.alloc o0).alloc o1).alloc o2).alloc o3).alloc o4).alloc o5).heap[w.heap.size+1+1+1+1+1]?=some o5∧Later w ((((((w.alloc o0).alloc o1).alloc o2).alloc o3).alloc o4).alloc o5):=
 ⟨Zd (Zd (Zd (Zd (Zd (Ze w _) _) _) _) _) _,Zd (Zd (Zd (Zd (Zt (by simp)) _) _) _) _,Zd (Zd (Zd (Zt (by simp)) _) _) _,Zd (Zd (Zt (by simp)) _) _,Zd (Zt (by simp)) _,Zt (by simp),
  ((((((Later.refl w).alloc _).alloc _).alloc _).alloc _).alloc _).alloc _⟩
theorem Zib(w W:World)(h:W=((((((w.alloc (.cells [.int .i64 2,.slice (some ⟨w.heap.size+1,0,none⟩) 1 1,.slice (some ⟨w.heap.size+1+1,0,none⟩) 2 2,.slice (some ⟨w.heap.size+1+1+1,0,none⟩) 6 6,.slice none 0 0,.slice (some ⟨w.heap.size+1+1+1+1,0,none⟩) 2 2,.int .i64 0,.int .i64 24,.int .i64 12,.int .i64 8,.int .i64 36,.int .i64 38,.slice none 0 0,.slice (some ⟨w.heap.size+1+1+1+1+1,0,none⟩) 2 2,.string ⟨#[112,119]⟩,.int .i64 3,.int .i64 3].toArray 32)).alloc (.cells [.int .i64 0,.int .i64 1].toArray 47)).alloc (.cells [.int .i64 0,.int .i64 1,.int .i64 1,.int .i64 1].toArray 49)).alloc (.cells [.int .i64 1,.int .i64 0,.int .i64 4,.int .i64 1,.int .i64 1,.int .i64 4,.int .i64 2,.int .i64 0,.int .i64 1,.int .i64 2,.int .i64 1,.int .i64 1,.int .i64 3,.int .i64 0,.int .i64 1,.int .i64 3,.int .i64 1,.int .i64 1].toArray 55)).alloc (.cells [.int .i64 0,.int .i64 0,.int .i64 12,.int .i64 8,.int .i64 1,.int .i64 12,.int .i64 12,.int .i64 8].toArray 28)).alloc (.cells [.string ⟨#[97]⟩,.string ⟨#[98]⟩].toArray 9))):W.heap[w.heap.size]?=some (.cells [.int .i64 2,.slice (some ⟨w.heap.size+1,0,none⟩) 1 1,.slice (some ⟨w.heap.size+1+1,0,none⟩) 2 2,.slice (some ⟨w.heap.size+1+1+1,0,none⟩) 6 6,.slice none 0 0,.slice (some ⟨w.heap.size+1+1+1+1,0,none⟩) 2 2,.int .i64 0,.int .i64 24,.int .i64 12,.int .i64 8,.int .i64 36,.int .i64 38,.slice none 0 0,.slice (some ⟨w.heap.size+1+1+1+1+1,0,none⟩) 2 2,.string ⟨#[112,119]⟩,.int .i64 3,.int .i64 3].toArray 32 (0,0))∧CfgIn W [.int .i64 2,.slice (some ⟨w.heap.size+1,0,none⟩) 1 1,.slice (some ⟨w.heap.size+1+1,0,none⟩) 2 2,.slice (some ⟨w.heap.size+1+1+1,0,none⟩) 6 6,.slice none 0 0,.slice (some ⟨w.heap.size+1+1+1+1,0,none⟩) 2 2,.int .i64 0,.int .i64 24,.int .i64 12,.int .i64 8,.int .i64 36,.int .i64 38,.slice none 0 0,.slice (some ⟨w.heap.size+1+1+1+1+1,0,none⟩) 2 2,.string ⟨#[112,119]⟩,.int .i64 3,.int .i64 3] ZH∧Later w W:=by
 obtain⟨h0,h1,h2,h3,h4,h5,hl⟩:=Zg8 w (.cells [.int .i64 2,.slice (some ⟨w.heap.size+1,0,none⟩) 1 1,.slice (some ⟨w.heap.size+1+1,0,none⟩) 2 2,.slice (some ⟨w.heap.size+1+1+1,0,none⟩) 6 6,.slice none 0 0,.slice (some ⟨w.heap.size+1+1+1+1,0,none⟩) 2 2,.int .i64 0,.int .i64 24,.int .i64 12,.int .i64 8,.int .i64 36,.int .i64 38,.slice none 0 0,.slice (some ⟨w.heap.size+1+1+1+1+1,0,none⟩) 2 2,.string ⟨#[112,119]⟩,.int .i64 3,.int .i64 3].toArray 32) (.cells [.int .i64 0,.int .i64 1].toArray 47) (.cells [.int .i64 0,.int .i64 1,.int .i64 1,.int .i64 1].toArray 49) (.cells [.int .i64 1,.int .i64 0,.int .i64 4,.int .i64 1,.int .i64 1,.int .i64 4,.int .i64 2,.int .i64 0,.int .i64 1,.int .i64 2,.int .i64 1,.int .i64 1,.int .i64 3,.int .i64 0,.int .i64 1,.int .i64 3,.int .i64 1,.int .i64 1].toArray 55) (.cells [.int .i64 0,.int .i64 0,.int .i64 12,.int .i64 8,.int .i64 1,.int .i64 12,.int .i64 12,.int .i64 8].toArray 28) (.cells [.string ⟨#[97]⟩,.string ⟨#[98]⟩].toArray 9);rw[←h]at h0 h1 h2 h3 h4 h5 hl;clear h;exact⟨h0,⟨⟨_,_,_,_,_,_,_,rfl,EH (f:=Yl) (l:=ZH.flows) h1 (fun _=>rfl) rfl (by decide) (by decide),EH (f:=X9) (l:=ZH.parts) h2 (fun _=>rfl) rfl (by decide) (by decide),EH (f:=winC) (l:=ZH.windows) h3 (fun _=>rfl) rfl (by decide) (by decide),RowAt.nil _ 5,EH (f:=volC) (l:=ZH.volumes) h4 (fun _=>rfl) rfl (by decide) (by decide),RowAt.nil _ 5,EH (f:=keyC) (l:=ZH.keys) h5 (fun _=>rfl) rfl (by decide) (by decide)⟩⟩,hl⟩
theorem D0(w:World):Calls Tryz.prog 29 #[] w fun e w'=>∃ cs,e=.returned (.agg cs.toArray)∧CfgIn w' cs ZH∧Later w w':=by
 have HF:=Hd (Zib w)
 go_enter Tryz.func29,Tryz.ntmps29
 go_wp2_with fail
 generalize hW:World.alloc _ _=W;obtain⟨h0,h1,h2⟩:=HF.out W hW.symm;clear hW;refine bodyPost_ret (results_cell_row rfl _ _ w.heap.size 32 [.int .i64 2,.slice (some ⟨w.heap.size+1,0,none⟩) 1 1,.slice (some ⟨w.heap.size+1+1,0,none⟩) 2 2,.slice (some ⟨w.heap.size+1+1+1,0,none⟩) 6 6,.slice none 0 0,.slice (some ⟨w.heap.size+1+1+1+1,0,none⟩) 2 2,.int .i64 0,.int .i64 24,.int .i64 12,.int .i64 8,.int .i64 36,.int .i64 38,.slice none 0 0,.slice (some ⟨w.heap.size+1+1+1+1+1,0,none⟩) 2 2,.string ⟨#[112,119]⟩,.int .i64 3,.int .i64 3].toArray (0,0) _ rfl h0 Tryz.underlying32 rfl (by kernel_rfl)) rfl ?_;exact⟨_,rfl,h1,h2⟩
end Go.Proofs.YtbchkjfnakabkaaGreatDoor
namespace Go.Proofs.YtbchkjfnakabkaaGreatDoor
open Go.RowKit PX PC
structure V7 where
 F:Value
 P:Value
 W:Value
 O:Value
 V:Value
 R:Value
 K:Value
def cfgA(c:Cfg)(v:V7):Array Value:=#[.int .i64 c.levels,v.F,v.P,v.W,v.O,v.V,.int .i64 c.audit.level,.int .i64 c.audit.first,.int .i64 c.audit.count,.int .i64 c.audit.journal,.int .i64 c.boot,.int .i64 c.sectors,v.R,v.K,.string c.login,.int .i64 c.recovery,.int .i64 c.bound]
theorem Xz(c:Cfg)(v:V7):(Tryz.prog.info? 32).map (·.size)=some (cfgA c v).size:=UG
abbrev RowsOf(w:World)(c:Cfg)(v:V7):Prop:=Rows7 w c v.F v.P v.W v.O v.V v.R v.K
theorem RowsOf.one{w:World}{c:Cfg}{v:V7}(h:RowsOf w c v):(cfgA c v).all (·.oneCell')=true:=by
 obtain⟨a1,b1,e1,-⟩:=Zm h.rF;obtain⟨a2,b2,e2,-⟩:=Zm h.rP;obtain⟨a3,b3,e3,-⟩:=Zm h.rW;obtain⟨a4,b4,e4,-⟩:=Zm h.rO;obtain⟨a5,b5,e5,-⟩:=Zm h.rV;obtain⟨a6,b6,e6,-⟩:=Zm h.rR;obtain⟨a7,b7,e7,-⟩:=Zm h.rK;unfold cfgA;rw[e1,e2,e3,e4,e5,e6,e7];simp[Value.oneCell']
theorem CfgIn.asA{w:World}{cs:List Value}{c:Cfg}(h:CfgIn w cs c):∃ v:V7,cs.toArray=cfgA c v∧RowsOf w c v:=by
 obtain⟨vF,vP,vW,vO,vV,vR,vK,rfl,hr⟩:=h.rows7;exact⟨⟨vF,vP,vW,vO,vV,vR,vK⟩,rfl,hr⟩
theorem RowsOf.inC{w:World}{c:Cfg}{v:V7}(h:RowsOf w c v):CfgIn w (cfgA c v).toList c:=⟨⟨v.F,v.P,v.W,v.O,v.V,v.R,v.K,rfl,h.rF,h.rP,h.rW,h.rO,h.rV,h.rR,h.rK⟩⟩
def VarAt(w:World)(b:Nat)(c:Cfg)(v:V7):Prop:=w.heap[b]?=some (.cells (cfgA c v) 32 (0,0))
theorem VarAt.later{w w':World}{b:Nat}{c:Cfg}{v:V7}(h:VarAt w b c v)(hl:Later w w'):VarAt w' b c v:=hl.block h
theorem VarAt.lt{w:World}{b:Nat}{c:Cfg}{v:V7}(h:VarAt w b c v):b<w.heap.size:=Za h
theorem Vy(w:World)(Z:Array Value)(c:Cfg)(v:V7):VarAt ((w.alloc (.cells Z 32)).setRow w.heap.size (cfgA c v)) w.heap.size c v∧Later w ((w.alloc (.cells Z 32)).setRow w.heap.size (cfgA c v)):=
 ⟨setRow_heap _ _ _ _ _ _ (Ze w _),YK ((Later.refl w).alloc _) (Nat.le_refl _) _⟩
theorem VarAt.set{w:World}{b:Nat}{c:Cfg}{v:V7}(h:VarAt w b c v)(j:Nat)(u:Value){c':Cfg}{v':V7}(he:(cfgA c v).setIfInBounds j u=cfgA c' v'):VarAt (w.setCell ⟨b,j,none⟩ u) b c' v':=by
 have:=Zf h j u;unfold VarAt;rw[←he];exact this
theorem En(w:World)(c:Cfg)(v:V7)(h:RowsOf w c v)(hI:CfgI c)(hW:CfgW c):Calls Tryz.prog 10 #[.agg (cfgA c v)] w fun e w'=>e=.returned (.int .i64 (chkI c))∧Later w w':=
 Ba w _ c v.F v.P v.W v.O v.V v.R v.K rfl h hI hW
theorem ET(w:World)(c:Cfg)(v:V7)(h:RowsOf w c v)(hI:CfgI c)(hW:CfgW c):Calls Tryz.prog 12 #[.agg (cfgA c v)] w fun e w'=>e=.returned (.int .i64 c.needB)∧Later w w':=
 ZbC w _ c v.F v.P v.W v.O v.V v.R v.K rfl h hI hW
theorem Zgu(w:World)(c:Cfg)(v u:V7)(h:RowsOf w c v)(k:RowsOf w c u)(hI:CfgI c):Calls Tryz.prog 19 #[.agg (cfgA c v),.agg (cfgA c u)] w fun e w'=>e=.returned (.bool true)∧Later w w':=
 Zbx w _ _ c v.F v.P v.W v.O v.V v.R v.K u.F u.P u.W u.O u.V u.R u.K rfl rfl h k hI
theorem ZeN(w:World)(c:Cfg)(v:V7)(h:RowsOf w c v)(hI:CfgI c):Calls Tryz.prog 15 #[.agg (cfgA c v)] w fun e w'=>e=.returned (.tuple #[.string (Jv c),.int .i64 (JI c)])∧Later w w':=
 ZcE w (cfgA c v).toList c h.inC hI
def VE(S:ByteArray):Cfg:=(Ye S.data.toList).getD Y4
def ER(S:ByteArray):Int:=if Ye S.data.toList=none then 110 else 0
def Bh(S:ByteArray)(w:World)(e:Ending)(w':World):Prop:=∃ v:V7,e=.returned (.tuple #[.agg (cfgA (VE S) v),.int .i64 (ER S)])∧RowsOf w' (VE S) v∧Later w w'
theorem BH(w:World)(S:ByteArray)(hS:S.size≤9223372036854775807):Calls Tryz.prog 17 #[.string S] w (Bh S w):=by
 refine(Za4 w S hS).mono fun e w' ⟨cs,he,hin,hl⟩=>?_
 obtain⟨v,hv,hr⟩:=hin.asA;rw[hv]at he;exact⟨v,he,hr,hl⟩
def ExAt(w:World)(e:Ending)(w':World):Prop:=∃ v:V7,e=.returned (.agg (cfgA ZH v))∧RowsOf w' ZH v∧Later w w'
theorem Zbr(w:World):Calls Tryz.prog 29 #[] w (ExAt w):=by
 refine(D0 w).mono fun e w' ⟨cs,he,hin,hl⟩=>?_
 obtain⟨v,hv,hr⟩:=hin.asA;rw[hv]at he;exact⟨v,he,hr,hl⟩
theorem UP{w:Nat}:∀ {l:List Int},Zq w l=true→∀ n∈l,0≤n∧n<256 ^ w
 |[],_,n,hn=>by cases hn
 |m::l,h,n,hn=>by
  obtain⟨h1,h2⟩:=ZU.1 h;rcases List.mem_cons.1 hn with rfl|hn
  ·exact Uh.1 h1
  ·exact UP h2 n hn
theorem GX{α:Type}{p:Lays α}:∀ {l:List α},ZA p l=true→∀ x∈l,p.ok x=true
 |[],_,x,hx=>by cases hx
 |y::l,h,x,hx=>by
  rw[ZA,Bool.and_eq_true]at h;rcases List.mem_cons.1 hx with rfl|hx
  ·exact h.1
  ·exact GX h.2 x hx
theorem XB{α:Type}{p:Lays α}{l:List α}(h:ZM p l=true):l.length≤255∧∀ x∈l,p.ok x=true:=by
 unfold ZM at h;rw[Bool.and_eq_true]at h;have h1:=UP h.1 _ (List.mem_cons_self ..);have h2:((l.length:Nat):Int)<256:=h1.2;exact⟨by omega,GX h.2⟩
theorem YR{w:Nat}(hw:w=1∨w=2){l:List Int}(h:Zq w l=true):∀ n∈l,I64 n:=fun n hn=>by
 have h1:=UP h n hn;rcases hw with rfl|rfl
 ·have h2:n<256:=h1.2;exact⟨by omega,by omega⟩
 ·have h2:n<65536:=h1.2;exact⟨by omega,by omega⟩
theorem U9{s:ByteArray}(h:Xy s=true):s.size≤9223372036854775807:=by
 unfold Xy at h;rw[decide_eq_true_eq]at h;omega
theorem GO{c:Cfg}(h:c.laid=true):Zq 1 [c.levels]=true∧ZM XF c.flows=true∧ZM XD c.parts=true∧ZM winP c.windows=true∧ZM porP c.ports=true∧ZM volP c.volumes=true ∧
 Zq 2 [c.audit.first,c.audit.count,c.audit.journal,c.boot,c.sectors]=true∧ZM ruP c.rules=true∧ZM keyP c.keys=true∧Xy c.login=true∧Zq 2 [c.recovery,c.bound]=true∧c.audit.level=0:=by
 simpa only[Cfg.laid,Bool.and_eq_true,decide_eq_true_eq,and_assoc] using h
theorem UX{c:Cfg}(h:c.laid=true):CfgI c:=by
 obtain⟨e1,e2,e3,e4,e5,e6,e7,e8,e9,e10,e11,e12⟩:=GO h;have a7:=YR (.inr rfl) e7;refine⟨YR (.inl rfl) e1 _ (by simp),fun x hx=>?_,fun x hx=>?_,fun x hx=>?_,fun x hx=>?_,fun x hx=>?_,⟨fun n hn=>?_,fun n hn=>a7 n ?_⟩,a7 _ (by simp),a7 _ (by simp),fun x hx=>?_,fun x hx=>?_,U9 e10,YR (.inr rfl) e11 _ (by simp),YR (.inr rfl) e11 _ (by simp)⟩
 ·exact YR (.inl rfl) ((XB e2).2 x hx)
 ·exact YR (.inl rfl) ((XB e3).2 x hx)
 ·exact YR (.inl rfl) ((XB e4).2 x hx)
 ·exact YR (.inl rfl) ((XB e5).2 x hx)
 ·have:=(XB e6).2 x hx;have h':(Zq 1 [x.level]&&Zq 2 [x.first,x.count,x.journal])=true:=this;rw[Bool.and_eq_true]at h';exact⟨YR (.inl rfl) h'.1,YR (.inr rfl) h'.2⟩
 ·rw[List.mem_singleton.1 hn,e12];exact⟨by omega,by omega⟩
 ·simp only[List.mem_cons,List.not_mem_nil,or_false]at hn ⊢;rcases hn with h|h|h
  ·exact .inl h
  ·exact .inr (.inl h)
  ·exact .inr (.inr (.inl h))
 ·have:=(XB e8).2 x hx;have h':(Zq 1 [x.fr,x.tu,x.act]&&(Xy x.pat&&Xy x.wth))=true:=this;rw[Bool.and_eq_true,Bool.and_eq_true]at h';exact⟨YR (.inl rfl) h'.1,U9 h'.2.1,U9 h'.2.2⟩
 ·exact U9 ((XB e9).2 x hx)
theorem GP{c:Cfg}(h:c.laid=true):CfgW c:=by
 obtain⟨e1,e2,e3,e4,e5,e6,e7,e8,e9,e10,e11,e12⟩:=GO h;have a:=(XB e5).1;have b:=(XB e6).1;have d:=(XB e8).1;unfold CfgW;omega
theorem DG(S:ByteArray):(VE S).laid=true:=by
 unfold VE
 cases h:Ye S.data.toList with
 |none=>decide +kernel
 |some c=>exact(Bc h).1
end Go.Proofs.YtbchkjfnakabkaaGreatDoor
namespace Go.Proofs.YtbchkjfnakabkaaGreatDoor
open Go.RowKit PX PC
def exS:ByteArray:=Jv ZH
theorem Em:exS.data.toList=ZH.bytes:=by
 unfold exS Jv;rw[if_pos Jp];show(ZH.bytes.toArray).toList=_;simp
theorem exE:JI ZH=0:=by unfold JI;rw[if_pos Jp]
theorem WP:Ye exS.data.toList=some ZH:=by rw[Em];exact DH ZH Jp
def xS:ByteArray:=⟨#[120]⟩
theorem ZdR:Ye (exS++xS).data.toList=none:=by
 have h:(exS++xS).data.toList=ZH.bytes++[120]:=by rw[W8,Em];rfl
 rw[h];have:=Zg6
 simpa using this
theorem Zfy:exS.size=ZH.bytes.length:=by rw[←Em,Us]
theorem Zh9:ZH.bytes.length=74:=by decide +kernel
theorem Zfz:(exS.extract 0 12).toList=[67,83,84,49,2,1,0,1,2,0,1,1]:=by
 rw[ByteArray.toList_eq];have h:(exS.extract 0 12).data.toList=exS.data.toList.take 12:=by simp[ByteArray.data_extract]
 rw[h,Em];exact Zg9
def exB:Cfg:={ ZH with bound:=2 }
def exO:Cfg:={ ZH with boot:=35 }
theorem B3:exB.laid=true:=by decide +kernel
theorem B2:exO.laid=true:=by decide +kernel
theorem Zic:chkI ZH=0:=by unfold chkI;rw[Zfx];rfl
theorem Zhc:chkI exB=111:=by unfold chkI exB;rw[Zg7];rfl
theorem Zhb:chkI exO=111:=by unfold chkI exO;rw[Zha];rfl
theorem Zei:chkI Y4=111:=by
 have:Y4.checkB=false:=D1;unfold chkI;rw[this];rfl
theorem Zah:Y4.needB=0:=Zbs
def vZ:V7:=⟨.slice none 0 0,.slice none 0 0,.slice none 0 0,.slice none 0 0,.slice none 0 0,.slice none 0 0,.slice none 0 0⟩
theorem QI(w:World):RowsOf w Y4 vZ:=⟨RowAt.nil w 2,RowAt.nil w 2,RowAt.nil w 3,RowAt.nil w 5,RowAt.nil w 4,RowAt.nil w 5,RowAt.nil w 1⟩
theorem VP:Y4.laid=true:=by decide +kernel
theorem YM{w w':World}{k:Nat}{v:Value}{css:List (List Value)}(h:RowAt w k v css){b:Nat}{C:Array Value}{T:TypeId}(hb:w.heap[b]?=some (.cells C T (0,0)))(hon:Only (fun q=>q=b) w w')
 (hne:css=[]∨∃ (i:Nat) (hi:i<css.length) (j:Nat) (u:Value),j<k∧css[i][j]?=some u∧∀ o:Nat,C[o]?≠some u):RowAt w' k v css:=by
 obtain⟨a,cap,h1,h2,h3,h4,h5⟩:=h;refine⟨a,cap,h1,h2,h3,h4,?_⟩;rcases h5 with h|⟨g,o,h6,h7,h8⟩
 ·exact .inl h
 ·rcases hne with hne|⟨i,hi,j,u,hj,hu,hC⟩
  ·exact .inl hne
  ·have hgb:g≠b:=fun e=>by
    have:=h8 i hi j hj;rw[hu,e,Zb hb]at this;exact hC _ this
   exact .inr ⟨g,o,h6,Nat.lt_of_lt_of_le h7 hon.size,fun i hi j hj=>(hon.cell (p:=⟨g,o+i*k+j,none⟩) h7 hgb).trans (h8 i hi j hj)⟩
theorem Zg5{w:World}{v:V7}(h:RowsOf w ZH v):(∀o:Nat,(cfgA ZH v)[o]?≠some (.int .i64 1))∧∀ o:Nat,(cfgA ZH v)[o]?≠some (.string ⟨#[97]⟩):=by
 obtain⟨a1,b1,e1,-⟩:=Zm h.rF;obtain⟨a2,b2,e2,-⟩:=Zm h.rP;obtain⟨a3,b3,e3,-⟩:=Zm h.rW;obtain⟨a4,b4,e4,-⟩:=Zm h.rO;obtain⟨a5,b5,e5,-⟩:=Zm h.rV;obtain⟨a6,b6,e6,-⟩:=Zm h.rR;obtain⟨a7,b7,e7,-⟩:=Zm h.rK;have hm:∀ (o:Nat) (u:Value),(cfgA ZH v)[o]?=some u→u∈cfgA ZH v:=fun o u hu=>Array.mem_of_getElem? hu
 constructor
 ·intro o ho;have:=hm o _ ho;simp[cfgA,e1,e2,e3,e4,e5,e6,e7,ZH]at this
 ·intro o ho;have:=hm o _ ho;simp[cfgA,e1,e2,e3,e4,e5,e6,e7,ZH]at this
theorem ZaN{w w' w1:World}{b:Nat}{v v2:V7}(h:RowsOf w ZH v2)(hv:VarAt w b ZH v)(hr:RowsOf w1 ZH v)(hon:Only (fun q=>q=b) w w'):RowsOf w' exO v2:=by
 obtain⟨n1,n2⟩:=Zg5 hr
 exact⟨YM h.rF hv hon (.inr ⟨0,by decide,1,.int .i64 1,by decide,rfl,n1⟩),YM h.rP hv hon (.inr ⟨0,by decide,1,.int .i64 1,by decide,rfl,n1⟩),YM h.rW hv hon (.inr ⟨0,by decide,0,.int .i64 1,by decide,rfl,n1⟩),YM h.rO hv hon (.inl rfl),
  YM h.rV hv hon (.inr ⟨1,by decide,0,.int .i64 1,by decide,rfl,n1⟩),YM h.rR hv hon (.inl rfl),YM h.rK hv hon (.inr ⟨0,by decide,0,.string ⟨#[97]⟩,by decide,rfl,n2⟩)⟩
theorem Zht(w:World)(v:V7)(h:RowsOf w exB v):Calls Tryz.prog 10 #[.agg (cfgA exB v)] w fun e w2=>e=.returned (.int .i64 111)∧Later w w2:=by
 have:=En w exB v h (UX B3) (GP B3);rw[Zhc]at this;exact this
theorem Zhs(w:World)(v:V7)(h:RowsOf w exO v):Calls Tryz.prog 10 #[.agg (cfgA exO v)] w fun e w2=>e=.returned (.int .i64 111)∧Later w w2:=by
 have:=En w exO v h (UX B2) (GP B2);rw[Zhb]at this;exact this
theorem Zif(w:World)(v:V7)(h:RowsOf w ZH v):Calls Tryz.prog 10 #[.agg (cfgA ZH v)] w fun e w2=>e=.returned (.int .i64 0)∧Later w w2:=by
 have:=En w ZH v h (UX Jp) (GP Jp);rw[Zic]at this;exact this
theorem ZgS(w:World)(v:V7)(h:RowsOf w ZH v):Calls Tryz.prog 12 #[.agg (cfgA ZH v)] w fun e w2=>e=.returned (.int .i64 3)∧Later w w2:=by
 have:=ET w ZH v h (UX Jp) (GP Jp);rw[Zfw]at this;exact this
theorem ZfK(w:World):Calls Tryz.prog 10 #[.agg #[.int .i64 0,.slice none 0 0,.slice none 0 0,.slice none 0 0,.slice none 0 0,.slice none 0 0,.int .i64 0,.int .i64 0,.int .i64 0,.int .i64 0,.int .i64 0,.int .i64 0,.slice none 0 0,.slice none 0 0,.string ⟨#[]⟩,.int .i64 0,.int .i64 0]] w fun e w2=>e=.returned (.int .i64 111)∧Later w w2:=by
 have:=En w Y4 vZ (QI w) (UX VP) (GP VP);rw[Zei]at this;exact this
theorem Zc1(w:World):Calls Tryz.prog 12 #[.agg #[.int .i64 0,.slice none 0 0,.slice none 0 0,.slice none 0 0,.slice none 0 0,.slice none 0 0,.int .i64 0,.int .i64 0,.int .i64 0,.int .i64 0,.int .i64 0,.int .i64 0,.slice none 0 0,.slice none 0 0,.string ⟨#[]⟩,.int .i64 0,.int .i64 0]] w fun e w2=>e=.returned (.int .i64 0)∧Later w w2:=by
 have:=ET w Y4 vZ (QI w) (UX VP) (GP VP);rw[Zah]at this;exact this
theorem ZfA{w:World}{v:V7}(r:RowsOf w ZH v):RowsOf w exB v:=⟨r.rF,r.rP,r.rW,r.rO,r.rV,r.rR,r.rK⟩
theorem V0(w:World)(b j:Nat)(u:Value):Only (fun k=>k=b) w (w.setCell ⟨b,j,none⟩ u):=(Only.refl (fun k=>k=b) w).setCell (p:=⟨b,j,none⟩) (.inl rfl) u
end Go.Proofs.YtbchkjfnakabkaaGreatDoor
namespace Go.Proofs.YtbchkjfnakabkaaGreatDoor
open Go.RowKit PX PC
theorem DY(w:World):Calls Tryz.prog 14 #[] w fun e w'=>e=.returned (.bool true)∧Later w w':=by
 have HEX:=Hd Zbr;have HPE:=Hd (show VE exS=ZH from by unfold VE;rw[WP];rfl);have HPF:=Hd (show ER exS=0 from by unfold ER;rw[WP];rfl);have HXF:=Hd (show ER (exS++xS)=110 from by unfold ER;rw[ZdR];rfl);have hs81:exS.size=74:=by rw[Zfy,Zh9]
 have HP1:=Hd (fun(w':World)=>show Calls Tryz.prog 17 #[.string exS] w' (Bh exS w') from BH w' exS (by omega));have HP2:=Hd (fun(w':World)=>show Calls Tryz.prog 17 #[.string (exS++⟨#[120]⟩)] w' (Bh (exS++xS) w') from BH w' (exS++xS) (by rw[ByteArray.size_append,hs81];decide));have HXL:=Hd (DG (exS++xS))
 obtain⟨S,hS⟩:∃ S,exS=S:=⟨_,rfl⟩
 have hhead:=Zfz
 have HPR:=Hd (fun(w':World) (v:V7) (h:RowsOf w' ZH v)=>(show Calls Tryz.prog 15 #[.agg (cfgA ZH v)] w' fun e w2=>e=.returned (.tuple #[.string S,.int .i64 0])∧Later w' w2 from by
  have:=ZeN w' ZH v h (UX Jp);rw[exE,show Jv ZH=S from hS]at this
  exact this))
 rw[hS]at HPE HPF HXF HP1 HP2 HXL hs81 hhead;have hcat:¬ 9223372036854775807<S.size+(⟨#[120]⟩:ByteArray).size:=by rw[hs81];decide
 clear hS
 go_enter Tryz.func14,Tryz.ntmps14
 go_upto_region 2 with(first
  |(go_at_call 29;(with_reducible refine(HEX.out _).mono ?_);rintro e w1 ⟨v,rfl,hr,hl1⟩)
  |refine wpList_store_row rfl 32 (.tmp 1) (.tmp 8) rfl w1.heap.size (cfgA ZH v) rfl rfl 32 _ (Ze _ _) (Xz _ _) rfl hr.one ?_
  |fail)
 generalize hW2:World.setRow _ _ _=W2;have hv1:VarAt W2 w1.heap.size ZH v:=by rw[←hW2];exact(Vy _ _ _ _).1
 have hl2:Later w1 W2:=by rw[←hW2];exact(Vy _ _ _ _).2
 clear hW2;have HV1:=Hd (fun(w':World) (h:Later W2 w')=>hv1.later h);have HR1:=Hd (fun(w':World) (h:Later W2 w')=>hr.later (hl2.trans h));have HRA:=Hd (fun(w':World) (h:Below w1.heap.size w1 w')=>show RowsOf w' ZH v from hr.later h);have HL12:=Hd (show Below w1.heap.size w1 W2 from hl2);generalize hb1:w1.heap.size=b1 at HV1 HRA HL12
 (try rw[hb1])
 have hbw:w.heap.size≤b1:=by have:=hl1.out.size;omega
 have hlw2:Later w W2:=hl1.trans hl2;clear hv1 hr hb1 hl1 hl2
 go_upto_region 3 with(first
  |refine ZW rfl 32 (.tmp 1) rfl b1 rfl 32 (cfgA ZH v) (0,0) _ (HV1.out _ La) Tryz.underlying32 rfl (Xz _ _) ?_
  |(go_at_call 15;(with_reducible refine(HPR.out _ _ (HR1.out _ La)).mono ?_);rintro e w3 ⟨rfl,hl3⟩)
  |fail)
 go_upto_region 4 with(first
  |(go_at_call 17;(with_reducible refine(HP1.out _).mono ?_);rintro e w4 ⟨v2,rfl,hr2,hl4⟩;rw[HPE.out]at hr2;rw[HPE.out,HPF.out])
  |refine wpList_store_row rfl 32 (.tmp 4) (.tmp 17) rfl w4.heap.size (cfgA ZH v2) rfl rfl 32 _ (Ze _ _) (Xz _ _) rfl hr2.one ?_
  |fail)
 generalize hW5:World.setRow _ _ _=W5;have hv2:VarAt W5 w4.heap.size ZH v2:=by rw[←hW5];exact(Vy _ _ _ _).1
 have hl5:Later w4 W5:=by rw[←hW5];exact(Vy _ _ _ _).2
 clear hW5;have HV2:=Hd (fun(w':World) (h:Later W5 w')=>hv2.later h);have HR2:=Hd (fun(w':World) (h:Later W5 w')=>hr2.later (hl5.trans h));have HW4:=Hd (And.intro (HV1.out w4 (show Later W2 w4 from La)) (And.intro hr2 (show Below w4.heap.size w4 W5 from hl5)));have hb12:b1<w4.heap.size:=by have:=(HV1.out _ (show Later W2 w4 from La)).lt;omega
 generalize hb2:w4.heap.size=b2 at HV2 hb12 HW4;have HB2:=Hd hb2
 (try rw[hb2])
 have hl25:Later W2 W5:=La;clear hv2 hr2 hb2 hl3 hl4 hl5
 go_upto_region 5 with(first
  |(go_at_call 17;(with_reducible refine(HP2.out _).mono ?_);rintro e w6 ⟨v3,rfl,hr3,hl6⟩;rw[HXF.out])
  |refine wpList_store_row rfl 32 (.tmp 6) (.tmp 23) rfl w6.heap.size (cfgA (VE (S++xS)) v3) rfl rfl 32 _ (Ze _ _) (Xz _ _) rfl hr3.one ?_
  |fail)
 generalize hW7:World.setRow _ _ _=W7;have hl7:Later w6 W7:=by rw[←hW7];exact(Vy _ _ _ _).2
 clear hW7 hr3;generalize w6.heap.size=b3;have hl57:Later W5 W7:=hl6.trans hl7;clear hl6 hl7;have hl27:Later W2 W7:=hl25.trans hl57;have hlen:¬ ((S.size:Int)<12):=by rw[hs81];decide
 have hd12:decide ((S.size:Int)<12)=false:=decide_eq_false hlen;have HC1:=Hd (fun(w':World) (h:Later W7 w')=>Zif w' v (HR1.out _ (hl27.trans h)));have HN1:=Hd (fun(w':World) (h:Later W7 w')=>ZgS w' v (HR1.out _ (hl27.trans h)));have HS1:=Hd (fun(w':World) (h:Later W7 w')=>Zgu w' ZH v v2 (HR1.out _ (hl27.trans h)) (HR2.out _ (hl57.trans h)) (UX Jp))
 go_upto_region 7 with(first
  |refine ZW rfl 32 (.tmp 1) rfl b1 rfl 32 (cfgA ZH v) (0,0) _ (HV1.out _ La) Tryz.underlying32 rfl (Xz _ _) ?_
  |refine ZW rfl 32 (.tmp 4) rfl b2 rfl 32 (cfgA ZH v2) (0,0) _ (HV2.out _ La) Tryz.underlying32 rfl (Xz _ _) ?_
  |(go_at_call 10;(with_reducible refine(HC1.out _ La).mono ?_);rintro e w8 ⟨rfl,hl8⟩)
  |(go_at_call 12;(with_reducible refine(HN1.out _ La).mono ?_);rintro e w9 ⟨rfl,hl9⟩)
  |(go_at_call 19;(with_reducible refine(HS1.out _ La).mono ?_);rintro e w10 ⟨rfl,hl10⟩)
  |fail)
 have hl5x:Later W5 w10:=La;have hl2x:Later W2 w10:=hl25.trans hl5x;have g1:=HV1.out w10 hl2x;have g2:=HV2.out w10 hl5x;have hlx:Later w w10:=hlw2.trans hl2x;have m1:w10.cell? ⟨b1,16,none⟩=some (.int .i64 3):=Zb g1 16;have m2:=Zc g1 16;have HG1:=Hd g1;have HG2:=Hd g2;have hbe1:Below b1 _ w10:=HL12.out.trans (Below.mono hl2x (by have:=HL12.out.size;have:=g1.lt;have:=HV1.out W2 (Later.refl _);have:=this.lt;omega));clear g1 g2 hl8 hl9 hl10 hl57 hl27 hl25 hlen hd12
 go_upto_region 8 with fail
 generalize hW:World.setCell _ _ _=W11;have n1:VarAt W11 b1 exB v:=by rw[←hW];exact VarAt.set HG1.out 16 _ rfl
 have hon:Only (fun k=>k=b1) w10 W11:=by rw[←hW];exact V0 _ _ _ _
 have n2:VarAt W11 b2 ZH v2:=(hon.block b2 HG2.out.lt (by omega)).trans HG2.out;have hle:Later w W11:=Below.trans hlx (hon.below hlx.out.size (fun k hk=>by have:k=b1:=hk;omega));have m1:W11.cell? ⟨b2,10,none⟩=some (.int .i64 36):=Zb n2 10;have m2:=Zc n2 10;have HN1:=Hd n1;have HN2:=Hd n2;clear hW n1 n2
 go_upto_region 9 with fail
 generalize hW:World.setCell _ _ _=W12;have n2:VarAt W12 b2 exO v2:=by rw[←hW];exact VarAt.set HN2.out 10 _ rfl
 have hon2:Only (fun k=>k=b2) W11 W12:=by rw[←hW];exact V0 _ _ _ _
 have n1:VarAt W12 b1 exB v:=(hon2.block b1 HN1.out.lt (by omega)).trans HN1.out;have hle2:Later w W12:=Below.trans hle (hon2.below hle.out.size (fun k hk=>by have:k=b2:=hk;omega));have hra:RowsOf W12 exB v:=ZfA (HRA.out W12 (Below.trans (Below.trans hbe1 (hon.below (by have:=hbe1.size;have:=HN1.out.lt;have:=HG1.out.lt;omega) (fun k hk=>by have:k=b1:=hk;omega))) (hon2.below (by have:=HN1.out.lt;omega) (fun k hk=>by have:k=b2:=hk;omega))))
 have hrb:RowsOf W12 exO v2:=by
  have h410:Below b2 _ w10:=HW4.out.2.2.trans (Below.mono hl5x (by have:=(HV2.out W5 (Later.refl _)).lt;omega));have hon4:Only (fun k=>k=b1) _ W12:=((Only.of_below (r:=fun k=>k=b1) (by rw[HB2.out];exact h410)).trans (hon.mono (fun k _ hk=>.inl hk))).trans (hon2.mono (fun k _ hk=>.inr (by rw[HB2.out];have:k=b2:=hk;omega)));exact ZaN HW4.out.2.1 HW4.out.1 (HRA.out _ (Below.refl _ _)) hon4
 have HV1':=Hd (fun(w':World) (h:Later W12 w')=>n1.later h);have HV2':=Hd (fun(w':World) (h:Later W12 w')=>n2.later h);have HC1':=Hd (fun(w':World) (h:Later W12 w')=>Zht w' v (hra.later h));have HC2':=Hd (fun(w':World) (h:Later W12 w')=>Zhs w' v2 (hrb.later h));have HCZ:=Hd ZfK;have HNZ:=Hd Zc1;clear hW n1 n2 hra hrb hon hon2 hbe1 m1 m2 hle hlx hl2x hl5x
 go_wp2_with (first
  |refine ZW rfl 32 (.tmp 1) rfl b1 rfl 32 (cfgA exB v) (0,0) _ (HV1'.out _ La) Tryz.underlying32 rfl (Xz _ _) ?_
  |refine ZW rfl 32 (.tmp 4) rfl b2 rfl 32 (cfgA exO v2) (0,0) _ (HV2'.out _ La) Tryz.underlying32 rfl (Xz _ _) ?_
  |(go_at_call 10;(with_reducible refine(HC1'.out _ La).mono ?_);rintro e w13 ⟨rfl,hl13⟩)
  |(go_at_call 10;(with_reducible refine(HC2'.out _ La).mono ?_);rintro e w14 ⟨rfl,hl14⟩)
  |(go_at_call 10;(with_reducible refine(HCZ.out _).mono ?_);rintro e w15 ⟨rfl,hl15⟩)
  |(go_at_call 12;(with_reducible refine(HNZ.out _).mono ?_);rintro e w16 ⟨rfl,hl16⟩)
  |fail)
 go_ret
 exact⟨rfl,La⟩
end Go.Proofs.YtbchkjfnakabkaaGreatDoor
