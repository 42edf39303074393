import Derived.Test.YtbchkjfnakabkaaGreatDoorNCx
import Derived.Test.YtbchkjfnakabkaaGreatDoorR4
import Derived.Test.YtbchkjfnakabkaaGreatDoorY47
set_option linter.unusedSimpArgs false
set_option linter.unusedVariables false
set_option maxHeartbeats 4000000
set_option maxRecDepth 100000
namespace Go.Proofs.YtbchkjfnakabkaaGreatDoor
open Go.RowKit PX PC
def Zeg(S:ByteArray)(w:World)(e:Ending)(w':World):Prop:=∃ (Y:RxA) (n:Int),e=.returned (.tuple #[.agg (Zh Y),.int .i64 n])∧(n==0)=Yo S.data.toList∧Later w w'
theorem ZcP(w:World)(S:ByteArray):Calls Tryz.prog 150 #[.string S] w (Zeg S w):=by
 refine(ZcQ w S).mono fun e w' ⟨hb,h⟩=>?_
 rcases h with⟨X,hp,rfl,-⟩|⟨n,hp,rfl⟩
 ·exact⟨X,0,rfl,by rw[GQ.2 ⟨_,hp⟩];rfl,hb⟩
 ·refine⟨_,n,rfl,?_,hb⟩;rw[UY.2 ⟨_,hp⟩];rcases GM hp with rfl|rfl<;>rfl
theorem U0(w:World)(S:ByteArray):Calls Tryz.prog 125 #[.string S] w fun e w'=>e=.returned (.bool (Yo S.data.toList))∧Later w w':=by
 have HP:=Hd (ZcP w S);have HSZ:=Hd (fun(Y:RxA)=>show(#[.int .i64 0,.int .i64 0,.int .i64 0,.int .u64 0,.int .u64 0,.int .u64 0,.int .u64 0,.slice none 0 0]:Array Value).size=(Zh Y).size by rw[Zi];rfl)
 go_enter Tryz.func125,Tryz.ntmps125
 go_wp2_with (first
  |(go_at_call 150;(with_reducible refine HP.out.mono ?_);rintro e w1 ⟨Y,n,rfl,hn,hl1⟩)
  |refine wpList_store_row rfl 141 (.tmp 3) (.tmp 8) rfl w1.heap.size (Zh Y) rfl rfl 141 _ (Ze w1 _) (Zj Y) (HSZ.out Y) (Zl Y) ?_
  |fail)
 go_ret
 exact⟨rfl,YK (hl1.alloc _) hl1.size _⟩
noncomputable def Zci(c:Cfg)(x:Ru):Bool:=(c.lvl x.fr&&c.lvl x.tu)&&!rchB c.flows x.fr x.tu
def Zch(x:Ru):Bool:=if x.act=2 then Yo x.wth.data.toList else x.wth.data.toList.isEmpty
theorem Zgy(c:Cfg)(x:Ru):ruOK c x=(Zci c x&&(inB x.act 0 2&&(Yo x.pat.data.toList&&Zch x))):=rfl
theorem EX{c:Cfg}{n:Int}(h:c.lvl n=true):lev c.levels n:=by
 unfold Cfg.lvl at h;rw[ZR]at h;unfold lev;omega
theorem ZaJ(w:World)(cb fb:Nat)(c:Cfg)(x:Ru)(vF vP vW vO vV vR vK lv:Value)(h:FormIn w fb c vF vP vW vO vV vR vK lv)(hL:LatOf w c lv)
 (hcb:w.cell? ⟨cb,0,none⟩=some (.pointer (some ⟨fb,0,none⟩))) :
 Calls Tryz.prog 124 #[ruV x,.pointer (some ⟨cb,0,none⟩)] w fun e w'=>e=.returned (.bool (ruOK c x))∧Later w w':=by
 rw[Zgy];obtain⟨f,t,k,P,W⟩:=x;have hlev:=hL.lev;obtain⟨lb,N,U,D,rfl,hN,hat,hLR⟩:=hL.ok
 obtain⟨w1,hw1⟩:∃ w1,w.alloc (.cells #[.int .i64 f,.int .i64 t,.int .i64 k,.string P,.string W] 53)=w1:=⟨_,rfl⟩
 have hlw:Later w w1:=by rw[←hw1];exact(Later.refl w).alloc _
 obtain⟨xb,hxb⟩:∃ xb,w.heap.size=xb:=⟨_,rfl⟩
 have hblk:w1.heap[xb]?=some (.cells #[.int .i64 f,.int .i64 t,.int .i64 k,.string P,.string W] 53 (0,0)):=by rw[←hw1];exact Zt hxb
 have h1:=h.later hlw;have hat1:=hat.later hlw;have cc:=hlw.cell hcb;have kl:w1.cell? ⟨fb,17,none⟩=some (.pointer (some ⟨lb,0,none⟩)):=h1.cell 17;have HC:=Hd (fun(w2:World) (h2:Later w1 w2)=>And.intro (Zb (h2.block hblk) 0) (And.intro (Zb (h2.block hblk) 1) (And.intro (Zb (h2.block hblk) 2) (And.intro (Zb (h2.block hblk) 3) (Zb (h2.block hblk) 4)))));have HLV:=Hd (fun(w2:World) (h2:Later w1 w2) (n:Int)=>Va w2 fb c n ((h1.later h2).cell 0) hlev.1 hlev.2);have HFL:=Hd (fun(w2:World) (h2:Later w1 w2)=>WC w2 lb N f t U D (hat1.later h2) hLR.up hLR.hi);have HK:=Hd (fun w2=>Xw w2 k 0 2);have HPT:=Hd (fun w2=>U0 w2 P);have HWT:=Hd (fun w2=>U0 w2 W);have he:Zci c ⟨f,t,k,P,W⟩=((c.lvl f&&c.lvl t)&&!rchB c.flows f t):=rfl;have hwi:Zch ⟨f,t,k,P,W⟩=if k=2 then Yo W.data.toList else W.data.toList.isEmpty:=rfl
 have hfr:c.lvl f=true→c.lvl t=true→JP N U f t=rchB c.flows f t:=fun q1 q2=>by
  have r1:=EX q1;have r2:=EX q2;rw[hN]at r1 r2;exact GU hLR r1 r2
 obtain⟨E,hE⟩:∃ E,Zci c ⟨f,t,k,P,W⟩=E:=⟨_,rfl⟩
 obtain⟨Z,hZ⟩:∃ Z,Zch ⟨f,t,k,P,W⟩=Z:=⟨_,rfl⟩
 rw[hE]at he;rw[hZ]at hwi;rw[hE,hZ]
 obtain⟨p1,hp1⟩:∃ p,c.lvl f=p:=⟨_,rfl⟩
 obtain⟨p2,hp2⟩:∃ p,c.lvl t=p:=⟨_,rfl⟩
 obtain⟨fl,hfl⟩:∃ p,JP N U f t=p:=⟨_,rfl⟩
 obtain⟨rb,hrb⟩:∃ p,rchB c.flows f t=p:=⟨_,rfl⟩
 obtain⟨k1,hk1⟩:∃ p,inB k 0 2=p:=⟨_,rfl⟩
 obtain⟨rp,hrp⟩:∃ p,Yo P.data.toList=p:=⟨_,rfl⟩
 rw[hp1,hp2,hrb]at he;rw[hp1,hp2,hfl,hrb]at hfr;have HP1:=Hd hp1;have HP2:=Hd hp2;have HLB:=Hd (fun(w2:World) (h2:Later w1 w2) (n:Int) (b:Bool) (hb:c.lvl n=b)=>show Calls Tryz.prog 109 #[.pointer (some ⟨fb,0,none⟩),.int .i64 n] w2 fun e w'=>e=.returned (.bool b)∧w'=w2 from hb▸HLV.out w2 h2 n);rw[hfl]at HFL;rw[hk1]at HK;rw[hrp]at HPT;show Calls Tryz.prog 124 #[.agg #[.int .i64 f,.int .i64 t,.int .i64 k,.string P,.string W],.pointer (some ⟨cb,0,none⟩)] w fun e w'=>e=.returned (.bool (E&&(inB k 0 2&&(Yo P.data.toList&&Z))))∧Later w w'
 rw[hk1,hrp];have HW1:=Hd hw1;have HLW:=Hd hlw;have HE:=Hd he;have HWI:=Hd hwi;have HFR:=Hd hfr;clear h hat h1 hat1 hcb hblk hw1 hlw he hwi hp1 hp2 hfl hrb hk1 hrp hE hZ hfr hLR hN hlev HLV;obtain⟨c0,c1,c2,c3,c4⟩:=HC.out w1 (Later.refl _)
 go_enter Tryz.func124,Tryz.ntmps124
 go_upto_region 1 with fail
 rw[HW1.out]
 go_cut [4] from 6 to 27 (fun v wx=>v=.bool E∧Later w1 wx)
 case first=>
  cases p1
  ·go_quiet ((first
    |(go_at_call 109;exact Calls.quiet_of_same (HLB.out _ (Later.drewN (Later.refl _) _) _ _ (by first|exact HP1.out|exact HP2.out)))
    |fail))
   go_wp2_with fail
   go_meet
   case rel=>exact⟨by rw[HE.out];rfl,Later.drewN (Later.refl _) _⟩
  ·cases p2
   ·go_quiet ((first
     |(go_at_call 109;exact Calls.quiet_of_same (HLB.out _ (Later.drewN (Later.refl _) _) _ _ (by first|exact HP1.out|exact HP2.out)))
     |fail))
    go_wp2_with fail
    go_meet
    case rel=>exact⟨by rw[HE.out];rfl,Later.drewN (Later.refl _) _⟩
   ·have hf:=HFR.out rfl rfl;subst hf
    go_quiet ((first
     |(go_at_call 109;exact Calls.quiet_of_same (HLB.out _ (Later.drewN (Later.refl _) _) _ _ (by first|exact HP1.out|exact HP2.out)))
     |(go_at_call 116;exact Calls.quiet_of_same (HFL.out _ (Later.drewN (Later.refl _) _)))
     |fail))
    go_wp2_with fail
    go_meet
    case rel=>exact⟨by rw[HE.out];rfl,Later.drewN (Later.refl _) _⟩
 case rest=>
  obtain⟨rfl,hwc⟩:=hcut
  obtain⟨w3,hw3⟩:∃ w3,wc=w3:=⟨_,rfl⟩
  rw[hw3]at hwc ⊢;clear hw3 c0 c1 c2 c3 c4 cc kl;obtain⟨c0,c1,c2,c3,c4⟩:=HC.out w3 hwc
  go_upto_if 33 with fail
  go_cut [5] from 33 to 36 (fun v wx=>v=.bool Z∧Later w3 wx)
  case first=>
   by_cases hk:k=2
   ·have hkb:(k==2)=true:=by simpa using hk
    have HZ:=Hd (show Z=Yo W.data.toList by rw[HWI.out,if_pos hk]);clear hk
    go_wp2_with (first
     |(go_at_call 125;(with_reducible refine(HWT.out _).mono ?_);rintro e w4 ⟨rfl,hl4⟩)
     |fail)
    go_meet
    case rel=>exact⟨by rw[HZ.out],hl4⟩
   ·have hkb:(k==2)=false:=by simpa using hk
    have HZ:=Hd (show Z=W.data.toList.isEmpty by rw[HWI.out,if_neg hk]);clear hk
    go_wp2_with fail
    go_meet
    case rel=>exact⟨by rw[HZ.out,←ByteArray.toList_eq],Later.refl _⟩
  case rest=>
   obtain⟨rfl,hwd⟩:=hcut
   obtain⟨w4,hw4⟩:∃ w4,wc=w4:=⟨_,rfl⟩
   rw[hw4]at hwd ⊢;clear hw4 c0 c1 c2 c3 c4;obtain⟨c0,c1,c2,c3,c4⟩:=HC.out w4 (hwc.trans hwd);have hlf:Later w w4:=HLW.out.trans (hwc.trans hwd);cases E
   ·go_wp2_with fail
    go_ret
    exact⟨rfl,hlf⟩
   ·cases k1
    ·go_wp2_with (first
      |(go_at_call 23;(with_reducible refine(HK.out _).mono ?_);rintro e w5 ⟨rfl,rfl⟩)
      |fail)
     go_ret
     exact⟨rfl,hlf⟩
    ·cases rp
     ·go_wp2_with (first
       |(go_at_call 23;(with_reducible refine(HK.out _).mono ?_);rintro e w5 ⟨rfl,rfl⟩)
       |(go_at_call 125;(with_reducible refine(HPT.out _).mono ?_);rintro e w5 ⟨rfl,hl5⟩)
       |fail)
      go_ret
      exact⟨rfl,hlf.trans hl5⟩
     ·go_wp2_with (first
       |(go_at_call 23;(with_reducible refine(HK.out _).mono ?_);rintro e w5 ⟨rfl,rfl⟩)
       |(go_at_call 125;(with_reducible refine(HPT.out _).mono ?_);rintro e w5 ⟨rfl,hl5⟩)
       |fail)
      go_ret
      exact⟨Zs (by simp),hlf.trans hl5⟩
theorem Zbm(w:World)(fb:Nat)(c:Cfg)(vF vP vW vO vV vR vK lv:Value)(h:FormIn w fb c vF vP vW vO vV vR vK lv)(hL:LatOf w c lv) :
 Calls Tryz.prog 102 #[.pointer (some ⟨fb,0,none⟩)] w fun e w'=>e=.returned (.bool c.rulesB)∧Later w w':=by
 obtain⟨a,cap,rfl,hl1,hl2,hl3⟩:=Zm h.rR;obtain⟨cb,w1,hcb,hw1,hlw,hblk,hcell⟩:=Vf (w:=w) (fb:=fb);have h1:=h.later hlw;have hL1:=hL.later hlw;have k4:w1.cell? ⟨fb,12,none⟩=some (.slice a c.rules.length cap):=h1.cell 12;have HALL:=Hd (Zik w1 _ c.rules h1.rR 124 #[.pointer (some ⟨cb,0,none⟩)] (enters_of Tryz.func124 (by kernel_rfl) rfl) (ruOK c) (by omega) (fun w2 h2 x hx=>ZaJ w2 cb fb c x vF vP vW vO vV _ vK lv (h1.later h2) (hL1.later h2) (h2.cell hcell)));have hp:c.rulesB=(decide (c.rules.length≤32)&&c.rules.all (ruOK c)):=rfl;rw[hp]
 obtain⟨n,hn⟩:∃ n,c.rules.length=n:=⟨_,rfl⟩
 obtain⟨q,hq⟩:∃ q,c.rules.all (ruOK c)=q:=⟨_,rfl⟩
 rw[hq]at HALL ⊢;rw[hn]at HALL k4 hl1 hl3 ⊢;have HW1:=Hd hw1;have HLW:=Hd hlw;clear h h1 hp hn hq hblk hw1 hlw hL hL1;by_cases hi:n≤32
 ·rw[decide_eq_true hi];have hd:decide ((n:Int)≤32)=true:=decide_eq_true (by omega)
  go_enter Tryz.func102,Tryz.ntmps102
  go_upto_region 1 with fail
  rw[HW1.out]
  go_wp2_with (first
   |(go_at_call 123;(with_reducible refine HALL.out.mono ?_);rintro e w' ⟨rfl,hl1⟩)
   |fail)
  go_ret
  exact⟨Zs (by simp),HLW.out.trans hl1⟩
 ·rw[decide_eq_false hi];have hd:decide ((n:Int)≤32)=false:=decide_eq_false (by omega)
  go_enter Tryz.func102,Tryz.ntmps102
  go_upto_region 1 with fail
  rw[HW1.out]
  go_wp2_with fail
  go_ret
  exact⟨Zs (by simp),HLW.out⟩
end Go.Proofs.YtbchkjfnakabkaaGreatDoor
