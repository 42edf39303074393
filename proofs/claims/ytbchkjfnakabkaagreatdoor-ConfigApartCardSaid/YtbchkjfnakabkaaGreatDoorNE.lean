import Derived.Test.YtbchkjfnakabkaaGreatDoorNCx
import Derived.Test.YtbchkjfnakabkaaGreatDoorR4
set_option linter.unusedSimpArgs false
set_option linter.unusedVariables false
set_option maxHeartbeats 4000000
set_option maxRecDepth 100000
namespace Go.Proofs.YtbchkjfnakabkaaGreatDoor
open Go.RowKit PX PC
def ZeY(S:ByteArray)(w:World)(e:Ending)(w':World):Prop:=∃ (Y:RxA) (n:Int),e=.returned (.tuple #[.agg (Zh Y),.int .i64 n])/\(n==0)=Ys S.data.toList/\Later w w'
theorem Zdx(w:World)(S:ByteArray):Calls Tryz.prog 150 #[.string S] w (ZeY S w):=by
 refine(Zdy w S).mono λe w' ⟨hb,h⟩=>?_
 rcases h with⟨X,hp,rfl,-⟩|⟨n,hp,rfl⟩
 ·exact⟨X,0,rfl,by rw[G6.2 ⟨_,hp⟩];rfl,hb⟩
 ·refine⟨_,n,rfl,?_,hb⟩;rw[Ed.2 ⟨_,hp⟩];rcases G1 hp with rfl|rfl<;>rfl
theorem Ef(w:World)(S:ByteArray):Calls Tryz.prog 125 #[.string S] w λe w'=>e=.returned (.bool (Ys S.data.toList))/\Later w w':=by
 have HP:=Hd (Zdx w S);have v0:=Hd (λ(Y:RxA)=>show(#[.int .i64 0,.int .i64 0,.int .i64 0,.int .u64 0,.int .u64 0,.int .u64 0,.int .u64 0,.slice none 0 0]:Array Value).size=(Zh Y).size by rw[Zi];rfl)
 go_enter Tryz.func125,Tryz.ntmps125
 go_wp2_with (first
  |(go_at_call 150;(with_reducible refine HP.out.mono ?_);rintro e w1 ⟨Y,n,rfl,hn,hl1⟩)
  |refine wpList_store_row rfl 141 (.tmp 3) (.tmp 8) rfl w1.heap.size (Zh Y) rfl rfl 141 _ (Zd w1 _) (Zj Y) (v0.out Y) (Zm Y) ?_
  |fail)
 go_ret
 exact⟨rfl,YQ (hl1.alloc _) hl1.size _⟩
noncomputable def Zc1(c:Cfg)(x:Ru):Bool:=(c.lvl x.fr&&c.lvl x.tu)&&!rchB c.flows x.fr x.tu
def Zc0(x:Ru):Bool:=if x.act=2 then Ys x.wth.data.toList else x.wth.data.toList.isEmpty
theorem Zhi(c:Cfg)(x:Ru):ruOK c x=(Zc1 c x&&(inB x.act 0 2&&(Ys x.pat.data.toList&&Zc0 x))):=rfl
theorem Ga{c:Cfg}{n:Int}(h:c.lvl n=true):lev c.levels n:=by
 unfold Cfg.lvl at h;rw[ZI]at h;unfold lev;omega
theorem Zbh(w:World)(cb fb:Nat)(c:Cfg)(x:Ru)(vF vP vW vO vV vR vK lv:Value)(h:FormIn w fb c vF vP vW vO vV vR vK lv)(hL:LatOf w c lv)
 (hcb:w.cell? ⟨cb,0,none⟩=some (.pointer (some ⟨fb,0,none⟩))) :
 Calls Tryz.prog 124 #[ruV x,.pointer (some ⟨cb,0,none⟩)] w λe w'=>e=.returned (.bool (ruOK c x))/\Later w w':=by
 rw[Zhi];obtain⟨f,t,k,P,W⟩:=x;have d0:=hL.lev;obtain⟨lb,N,U,D,rfl,hN,hat,hLR⟩:=hL.ok
 obtain⟨w1,hw1⟩:∃ w1,w.alloc (.cells #[.int .i64 f,.int .i64 t,.int .i64 k,.string P,.string W] 53)=w1:=⟨_,rfl⟩
 have b0:Later w w1:=by rw[<-hw1];exact(Later.refl w).alloc _
 obtain⟨xb,hxb⟩:∃ xb,w.heap.size=xb:=⟨_,rfl⟩
 have a0:w1.heap[xb]?=some (.cells #[.int .i64 f,.int .i64 t,.int .i64 k,.string P,.string W] 53 (0,0)):=by rw[<-hw1];exact Zq hxb
 have h1:=h.later b0;have f0:=hat.later b0;have cc:=b0.cell hcb;have kl:w1.cell? ⟨fb,17,none⟩=some (.pointer (some ⟨lb,0,none⟩)):=h1.cell 17;have HC:=Hd (λ(w2:World) (h2:Later w1 w2)=>And.intro (Za (h2.block a0) 0) (And.intro (Za (h2.block a0) 1) (And.intro (Za (h2.block a0) 2) (And.intro (Za (h2.block a0) 3) (Za (h2.block a0) 4)))));have q0:=Hd (λ(w2:World) (h2:Later w1 w2) (n:Int)=>Vt w2 fb c n ((h1.later h2).cell 0) d0.1 d0.2);have p0:=Hd (λ(w2:World) (h2:Later w1 w2)=>W4 w2 lb N f t U D (f0.later h2) hLR.up hLR.hi);have HK:=Hd (λw2=>XA w2 k 0 2);have o0:=Hd (λw2=>Ef w2 P);have z0:=Hd (λw2=>Ef w2 W);have he:Zc1 c ⟨f,t,k,P,W⟩=((c.lvl f&&c.lvl t)&&!rchB c.flows f t):=rfl;have l0:Zc0 ⟨f,t,k,P,W⟩=if k=2 then Ys W.data.toList else W.data.toList.isEmpty:=rfl
 have k0:c.lvl f=true->c.lvl t=true->Ve N U f t=rchB c.flows f t:=λq1 q2=>by
  have r1:=Ga q1;have r2:=Ga q2;rw[hN]at r1 r2;exact Qa hLR r1 r2
 obtain⟨E,hE⟩:∃ E,Zc1 c ⟨f,t,k,P,W⟩=E:=⟨_,rfl⟩
 obtain⟨Z,hZ⟩:∃ Z,Zc0 ⟨f,t,k,P,W⟩=Z:=⟨_,rfl⟩
 rw[hE]at he;rw[hZ]at l0;rw[hE,hZ]
 obtain⟨p1,hp1⟩:∃ p,c.lvl f=p:=⟨_,rfl⟩
 obtain⟨p2,hp2⟩:∃ p,c.lvl t=p:=⟨_,rfl⟩
 obtain⟨fl,hfl⟩:∃ p,Ve N U f t=p:=⟨_,rfl⟩
 obtain⟨rb,hrb⟩:∃ p,rchB c.flows f t=p:=⟨_,rfl⟩
 obtain⟨k1,hk1⟩:∃ p,inB k 0 2=p:=⟨_,rfl⟩
 obtain⟨rp,hrp⟩:∃ p,Ys P.data.toList=p:=⟨_,rfl⟩
 rw[hp1,hp2,hrb]at he;rw[hp1,hp2,hfl,hrb]at k0;have m0:=Hd hp1;have n0:=Hd hp2;have j0:=Hd (λ(w2:World) (h2:Later w1 w2) (n:Int) (b:Bool) (hb:c.lvl n=b)=>show Calls Tryz.prog 109 #[.pointer (some ⟨fb,0,none⟩),.int .i64 n] w2 λe w'=>e=.returned (.bool b)/\w'=w2 from hb▸q0.out w2 h2 n);rw[hfl]at p0;rw[hk1]at HK;rw[hrp]at o0;show Calls Tryz.prog 124 #[.agg #[.int .i64 f,.int .i64 t,.int .i64 k,.string P,.string W],.pointer (some ⟨cb,0,none⟩)] w λe w'=>e=.returned (.bool (E&&(inB k 0 2&&(Ys P.data.toList&&Z))))/\Later w w'
 rw[hk1,hrp];have g0:=Hd hw1;have h0:=Hd b0;have HE:=Hd he;have s0:=Hd l0;have y0:=Hd k0;clear h hat h1 f0 hcb a0 hw1 b0 he l0 hp1 hp2 hfl hrb hk1 hrp hE hZ k0 hLR hN d0 q0;obtain⟨c0,c1,c2,c3,c4⟩:=HC.out w1 (Later.refl _)
 go_enter Tryz.func124,Tryz.ntmps124
 go_upto_region 1 with fail
 rw[g0.out]
 go_cut [4] from 6 to 27 (λv wx=>v=.bool E/\Later w1 wx)
 case first=>
  cases p1
  ·go_quiet ((first
    |(go_at_call 109;exact Calls.quiet_of_same (j0.out _ (Later.drewN (Later.refl _) _) _ _ (by first|exact m0.out|exact n0.out)))
    |fail))
   go_wp2_with fail
   go_meet
   case rel=>exact⟨by rw[HE.out];rfl,Later.drewN (Later.refl _) _⟩
  ·cases p2
   ·go_quiet ((first
     |(go_at_call 109;exact Calls.quiet_of_same (j0.out _ (Later.drewN (Later.refl _) _) _ _ (by first|exact m0.out|exact n0.out)))
     |fail))
    go_wp2_with fail
    go_meet
    case rel=>exact⟨by rw[HE.out];rfl,Later.drewN (Later.refl _) _⟩
   ·have hf:=y0.out rfl rfl;subst hf
    go_quiet ((first
     |(go_at_call 109;exact Calls.quiet_of_same (j0.out _ (Later.drewN (Later.refl _) _) _ _ (by first|exact m0.out|exact n0.out)))
     |(go_at_call 116;exact Calls.quiet_of_same (p0.out _ (Later.drewN (Later.refl _) _)))
     |fail))
    go_wp2_with fail
    go_meet
    case rel=>exact⟨by rw[HE.out];rfl,Later.drewN (Later.refl _) _⟩
 case rest=>
  obtain⟨rfl,hwc⟩:=hcut
  obtain⟨w3,hw3⟩:∃ w3,wc=w3:=⟨_,rfl⟩
  rw[hw3]at hwc ⊢;clear hw3 c0 c1 c2 c3 c4 cc kl;obtain⟨c0,c1,c2,c3,c4⟩:=HC.out w3 hwc
  go_upto_if 33 with fail
  go_cut [5] from 33 to 36 (λv wx=>v=.bool Z/\Later w3 wx)
  case first=>
   by_cases hk:k=2
   ·have t0:(k==2)=true:=by simpa using hk
    have HZ:=Hd (show Z=Ys W.data.toList by rw[s0.out,if_pos hk]);clear hk
    go_wp2_with (first
     |(go_at_call 125;(with_reducible refine(z0.out _).mono ?_);rintro e w4 ⟨rfl,hl4⟩)
     |fail)
    go_meet
    case rel=>exact⟨by rw[HZ.out],hl4⟩
   ·have t0:(k==2)=false:=by simpa using hk
    have HZ:=Hd (show Z=W.data.toList.isEmpty by rw[s0.out,if_neg hk]);clear hk
    go_wp2_with fail
    go_meet
    case rel=>exact⟨by rw[HZ.out,<-ByteArray.toList_eq],Later.refl _⟩
  case rest=>
   obtain⟨rfl,hwd⟩:=hcut
   obtain⟨w4,hw4⟩:∃ w4,wc=w4:=⟨_,rfl⟩
   rw[hw4]at hwd ⊢;clear hw4 c0 c1 c2 c3 c4;obtain⟨c0,c1,c2,c3,c4⟩:=HC.out w4 (hwc.trans hwd);have i0:Later w w4:=h0.out.trans (hwc.trans hwd);cases E
   ·go_wp2_with fail
    go_ret
    exact⟨rfl,i0⟩
   ·cases k1
    ·go_wp2_with (first
      |(go_at_call 23;(with_reducible refine(HK.out _).mono ?_);rintro e w5 ⟨rfl,rfl⟩)
      |fail)
     go_ret
     exact⟨rfl,i0⟩
    ·cases rp
     ·go_wp2_with (first
       |(go_at_call 23;(with_reducible refine(HK.out _).mono ?_);rintro e w5 ⟨rfl,rfl⟩)
       |(go_at_call 125;(with_reducible refine(o0.out _).mono ?_);rintro e w5 ⟨rfl,hl5⟩)
       |fail)
      go_ret
      exact⟨rfl,i0.trans hl5⟩
     ·go_wp2_with (first
       |(go_at_call 23;(with_reducible refine(HK.out _).mono ?_);rintro e w5 ⟨rfl,rfl⟩)
       |(go_at_call 125;(with_reducible refine(o0.out _).mono ?_);rintro e w5 ⟨rfl,hl5⟩)
       |fail)
      go_ret
      exact⟨Zw (by simp),i0.trans hl5⟩
theorem ZbW(w:World)(fb:Nat)(c:Cfg)(vF vP vW vO vV vR vK lv:Value)(h:FormIn w fb c vF vP vW vO vV vR vK lv)(hL:LatOf w c lv) :
 Calls Tryz.prog 102 #[.pointer (some ⟨fb,0,none⟩)] w λe w'=>e=.returned (.bool c.rulesB)/\Later w w':=by
 obtain⟨a,cap,rfl,hl1,hl2,hl3⟩:=Zl h.rR;obtain⟨cb,w1,hcb,hw1,b0,a0,hcell⟩:=Vx (w:=w) (fb:=fb);have h1:=h.later b0;have r0:=hL.later b0;have k4:w1.cell? ⟨fb,12,none⟩=some (.slice a c.rules.length cap):=h1.cell 12;have e0:=Hd (Zi5 w1 _ c.rules h1.rR 124 #[.pointer (some ⟨cb,0,none⟩)] (enters_of Tryz.func124 (by kernel_rfl) rfl) (ruOK c) (by omega) (λw2 h2 x hx=>Zbh w2 cb fb c x vF vP vW vO vV _ vK lv (h1.later h2) (r0.later h2) (h2.cell hcell)));have hp:c.rulesB=(decide (c.rules.length<=32)&&c.rules.all (ruOK c)):=rfl;rw[hp]
 obtain⟨n,hn⟩:∃ n,c.rules.length=n:=⟨_,rfl⟩
 obtain⟨q,hq⟩:∃ q,c.rules.all (ruOK c)=q:=⟨_,rfl⟩
 rw[hq]at e0 ⊢;rw[hn]at e0 k4 hl1 hl3 ⊢;have g0:=Hd hw1;have h0:=Hd b0;clear h h1 hp hn hq a0 hw1 b0 hL r0;by_cases hi:n<=32
 ·rw[decide_eq_true hi];have hd:decide ((n:Int)<=32)=true:=decide_eq_true (by omega)
  go_enter Tryz.func102,Tryz.ntmps102
  go_upto_region 1 with fail
  rw[g0.out]
  go_wp2_with (first
   |(go_at_call 123;(with_reducible refine e0.out.mono ?_);rintro e w' ⟨rfl,hl1⟩)
   |fail)
  go_ret
  exact⟨Zw (by simp),h0.out.trans hl1⟩
 ·rw[decide_eq_false hi];have hd:decide ((n:Int)<=32)=false:=decide_eq_false (by omega)
  go_enter Tryz.func102,Tryz.ntmps102
  go_upto_region 1 with fail
  rw[g0.out]
  go_wp2_with fail
  go_ret
  exact⟨Zw (by simp),h0.out⟩
