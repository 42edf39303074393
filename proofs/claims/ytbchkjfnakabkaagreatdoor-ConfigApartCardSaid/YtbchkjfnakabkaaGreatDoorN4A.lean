import Derived.Test.YtbchkjfnakabkaaGreatDoorN23
import Derived.Deep.MidRow
import Derived.Test.YtbchkjfnakabkaaGreatDoorN5
set_option linter.unusedSimpArgs false
set_option linter.unusedVariables false
set_option maxHeartbeats 8000000
set_option maxRecDepth 100000
namespace Go.Proofs.YtbchkjfnakabkaaGreatDoor
open Go.RowKit PX PC
theorem LatAt.lt{w:World}{lb:Nat}{n:Int}{U D:List Int}(h:LatAt w lb n U D):lb<w.heap.size:=Zb h
theorem LatAt.free{w:World}{lb:Nat}{n:Int}{U D:List Int}(h:LatAt w lb n U D)(j:Nat):w.frozen? ⟨lb,j,none⟩=false:=Zc h j
theorem LatAt.drew{w:World}{lb:Nat}{n:Int}{U D:List Int}(h:LatAt w lb n U D):LatAt w.drew lb n U D:=h
theorem LatAt.setUp{w:World}{lb:Nat}{n:Int}{U D:List Int}(h:LatAt w lb n U D)(hU:Rows8 U){a:Nat}(ha:a<8)(x:Int):LatAt (w.setCell ⟨lb,1+a,none⟩ (.int .u8 x)) lb n (U.set a x) D:=by
 refine(Zf h (1+a) _).trans ?_
 congr 2
 apply Array.ext';simp only[Array.toList_setIfInBounds,Jz];rw[Nat.add_comm,List.set_cons_succ,List.set_append_left _ _ (by simp[X5,hU.len];exact ha)];simp[X5,List.map_set]
theorem LatAt.setDown{w:World}{lb:Nat}{n:Int}{U D:List Int}(h:LatAt w lb n U D)(hU:Rows8 U){a:Nat}(x:Int):LatAt (w.setCell ⟨lb,9+a,none⟩ (.int .u8 x)) lb n U (D.set a x):=by
 refine(Zf h (9+a) _).trans ?_
 congr 2
 apply Array.ext';simp only[Array.toList_setIfInBounds,Jz];rw[show 9+a=(8+a)+1 by omega,List.set_cons_succ,List.set_append_right _ _ (by simp[X5,hU.len]),show 8+a - (X5 U).length=a by simp[X5,hU.len]];simp[X5,List.map_set]
def Qx(cs:List Value)(o:Nat):List Value->List Value
 |[]=>cs
 |v::r=>Qx (cs.set o v) (o+1) r
theorem VF:∀ (vs:List Value) (o:Nat) (w:World) (b:Nat) (cs:List Value) (t:TypeId) (f:Nat × Nat),w.heap[b]?=some (.cells cs.toArray t f)->(w.setCells b o vs).heap[b]?=some (.cells (Qx cs o vs).toArray t f)
 |[],_,_,_,_,_,_,h=>h
 |v::r,o,w,b,cs,t,f,h=>by
  have:=Zf h o v;rw[show cs.toArray.setIfInBounds o v=(cs.set o v).toArray by apply Array.ext';simp]at this;exact VF r (o+1) _ b _ t f this
theorem EQ:∀ (vs mid pre post:List Value),mid.length=vs.length->Qx (pre++(mid++post)) pre.length vs=pre++(vs++post)
 |[],[],pre,post,_=>rfl
 |v::vs,m::mid,pre,post,h=>by
  have ih:=EQ vs mid (pre++[v]) post (by simpa using h);simp only[Qx];rw[List.set_append_right _ _ (Nat.le_refl _),Nat.sub_self];simp only[List.cons_append,List.set_cons_zero];simp only[List.append_assoc,List.cons_append,List.nil_append,List.length_append,List.length_cons,List.length_nil]at ih;exact ih
 |[],_::_,_,_,h=>by simp at h
 |_::_,[],_,_,h=>by simp at h
theorem VL:∀ (vs:List Value) (o:Nat) (a w:World) (b:Nat),Later a w->a.heap.size<=b->Later a (w.setCells b o vs)
 |[],_,_,_,_,h,_=>h
 |v::r,o,a,w,b,h,hb=>VL r (o+1) a _ b (Later.setC h hb o v) hb
theorem LatAt.setAll{w:World}{lb:Nat}{n:Int}{U D:List Int}(h:LatAt w lb n U D)(hU:Rows8 U){V:List Int}(hV:Rows8 V):LatAt (w.setCells lb 1 (X5 V)) lb n V D:=by
 refine(VF _ _ _ _ _ _ _ h).trans ?_;have:=EQ (X5 V) (X5 U) [.int .i64 n] (X5 D) (by simp[X5,hU.len,hV.len]);exact congrArg (λl=>some (Obj.cells (List.toArray l) 177 (0,0))) this
theorem LatAt.range{w:World}{lb:Nat}{n:Int}{U D:List Int}(h:LatAt w lb n U D)(hU:Rows8 U):w.rangeAt lb 1 (X5 U):=λj v hv=>by
 have hj:j<(X5 U).length:=(List.getElem?_eq_some_iff.1 hv).1;have J2:j<8:=by simpa [X5,hU.len] using hj
 rw[h.up hU J2,<-hv,ET hU J2]
theorem LatAt.there{w:World}{lb:Nat}{n:Int}{U D:List Int}(h:LatAt w lb n U D)(hU:Rows8 U):w.there lb 1 8:=λj hj=>by
 rw[h.up hU hj,h.free];exact⟨rfl,rfl⟩
theorem BY{b:Nat}(hb:b<8):(2:Int) ^ b%256=2 ^ b:=by
 have:=GR hb;omega
theorem Zd4(n:Int):Jz n YK YK=[.int .i64 n,.int .u8 0,.int .u8 0,.int .u8 0,.int .u8 0,.int .u8 0,.int .u8 0,.int .u8 0,.int .u8 0,.int .u8 0,.int .u8 0,.int .u8 0,.int .u8 0,.int .u8 0,.int .u8 0,.int .u8 0,.int .u8 0]:=rfl
def U6(n:Int)(l:List (Int × Int))(w:World)(e:Ending)(w':World):Prop:=
 ((Lat n l∧∃ (lb N:Nat) (U D:List Int),n=N∧e=.returned (.tuple #[.pointer (some ⟨lb,0,none⟩),.int .i64 0])∧LatAt w' lb N U D∧LatR N l U D∧w.heap.size≤lb) ∨
  (¬Lat n l/\∃ k:Int,e=.returned (.tuple #[.pointer none,.int .i64 k])/\k≠0))/\Later w w'
theorem YP{n:Int}{l:List (Int × Int)}{w w':World}(k:Int)(hk:k≠0)(hn:¬ Lat n l)(hl:Later w w'):U6 n l w (.returned (.tuple #[.pointer none,.int .i64 k])) w':=⟨.inr ⟨hn,k,rfl,hk⟩,hl⟩
theorem ZhB(w:World)(n:Int)(l:List (Int × Int))(a:Option Addr)(cap:Nat)(h:¬ (1<=n/\n<=8/\l.length<=64))(hl:l.length<=140737488355328) :
 Calls Tryz.prog 106 #[.int .i64 n,.slice a l.length cap] w (U6 n l w):=by
 have s2:¬ Lat n l:=λk=>h ⟨k.lo,k.hi,k.few⟩
 have HP:=Hd (YP (w:=w) (w':=w) 40 (by decide) s2 (Later.refl w))
 obtain⟨PT,hPT⟩:∃ PT,U6 n l w=PT:=⟨_,rfl⟩
 rw[hPT]at HP ⊢;clear hPT s2;by_cases h1:n<1
 ·clear h
  go_enter Tryz.func106,Tryz.ntmps106
  go_wp2_with fail
  exact HP.out
 ·by_cases h2:8<n
  ·clear h
   go_enter Tryz.func106,Tryz.ntmps106
   go_wp2_with fail
   exact HP.out
  ·have h3:64<l.length:=by omega
   obtain⟨m,hm⟩:∃ m,l.length=m:=⟨_,rfl⟩
   rw[hm]at h3 hl ⊢;clear h hm
   go_enter Tryz.func106,Tryz.ntmps106
   go_wp2_with fail
   exact HP.out
theorem ZfQ(w:World)(N:Nat)(l:List (Int × Int))(a:Option Addr)(cap:Nat)(h1:1<=N)(h8:N<=8)(hl:l.length<=64)(hrow:RowAt w 2 (.slice a l.length cap) (l.map Xx))(hI:∀ x∈l,Bp x) :
 Calls Tryz.prog 106 #[.int .i64 N,.slice a l.length cap] w (U6 N l w):=by
 obtain⟨PT,hPT⟩:∃ PT,U6 N l w=PT:=⟨_,rfl⟩
 rw[hPT];have O0:=Hd hPT;have e0:=Hd hrow;have HI:=Hd hI;have hdl:decide ((64:Int)<(l.length:Int))=false:=decide_eq_false (by omega);clear hPT hrow hI
 go_enter Tryz.func106,Tryz.ntmps106
 go_wp2_with fail
 obtain⟨lb,hlb⟩:∃ lb,w.heap.size=lb:=⟨_,rfl⟩
 rw[hlb]
 obtain⟨w1,hw1⟩:∃ w1,w.alloc (.cells (Jz N YK YK).toArray 177)=w1:=⟨_,rfl⟩
 rw[Zd4]at hw1;rw[hw1];have W0:LatAt w1 lb N YK YK:=by unfold LatAt;rw[<-hw1,Zd4];exact Zq hlb
 have l0:Later w w1:=by rw[<-hw1];exact(Later.refl w).alloc _
 have f2:=Hd (And.intro W0 l0);clear hw1 W0 l0
 go_loopw [30] (λv wx=>∃ i:Nat,i<=N/\v=.int .i64 i/\LatAt wx lb N (Vg i) YK/\Later w wx) (λv _=>N - (intOf v).toNat)
 case atStart=>exact⟨0,by omega,rfl,f2.out.1,f2.out.2⟩
 case round=>
  obtain⟨i,hi,rfl,hat,hlx⟩:=hrel;have hD:=Yc i (by omega);have I1:=Hd hat;by_cases hlt:i<N
  ·have k1:=hat.up hD (show i<8 by omega);have k2:=hat.free (1+i);have H0:=BY (show i<8 by omega);have i1:(i:Int)<8:=by omega
   have i2:(0:Int)<=(i:Int):=by omega
   have HN:=Hd (hat.setUp hD (show i<8 by omega) (2 ^ i));have a1:=Hd H0;clear hat hD H0
   go_wp2_with fail
   go_region
   generalize hWZ:World.drew _=WZ
   have r0:LatAt WZ lb N (Vg (i+1)) YK:=by
    rw[<-hWZ,a1.out];exact HN.out
   have S0:Later w WZ:=by
    rw[<-hWZ];exact Later.drew (Later.setC hlx (by omega) _ _)
   have f1:=Hd r0;clear hWZ k1 k2 r0
   go_wp2_with fail
   exact⟨⟨i+1,by omega,by simp,f1.out,S0⟩,by simp only[intOf];omega⟩
  ·have g0:i=N:=by omega
   rw[g0]at I1;clear g0 hat hD;have o2:RowAt wr 2 (.slice a l.length cap) (l.map Xx):=e0.out.later hlx;have T0:=Hd o2;have n2:=Hd hlx;clear o2 hlx
   obtain⟨wd,hwd⟩:∃ wd:World,wd=wr:=⟨_,rfl⟩
   rw[<-hwd]at I1 T0 n2 ⊢;clear hwd
   go_wp2_with fail
   go_loopw [43] (λv wx=>∃ j:Nat,j<=l.length/\v=.int .i64 j/\(∀p∈l.take j,lev N p.1/\lev N p.2)/\LatAt wx lb N (YV (Vg N) (l.take j)) YK/\Later w wx) (λv _=>l.length - (intOf v).toNat)
   case atStart=>exact⟨0,by omega,rfl,λp hp=>by simp at hp,I1.out,n2.out⟩
   case round=>
    obtain⟨j,hj,rfl,hlv,hat,hlx⟩:=hrel;have hR:=VY (n:=N) (by omega) (l.take j) (Vg N) (Yc N h8) hlv;have l1:=Hd hlv;have F1:=Hd hlx;have hlbl:=hat.lt;by_cases hlt:j<l.length
    ·obtain⟨b,o,rfl,hb,hc⟩:=Zz (e0.out.later hlx) hlt;have j0:=List.take_succ_eq_append_getElem hlt;have o0:=List.getElem_mem hlt;have hI:=HI.out _ o0
     obtain⟨x,hx⟩:∃ x,l[j]=x:=⟨_,rfl⟩
     rw[hx]at hc j0 hI o0;have HS:Hid (YV (Vg N) (l.take (j+1))=addR (YV (Vg N) (l.take j)) x.1.toNat x.2.toNat):=Hd (by rw[j0,D7]);have O2:=Hd j0;have m1:=Hd o0;clear hx j0 hlv o0;obtain⟨x1,x2⟩:=x;have c0:=hc 0 (by omega);have c1:=hc 1 (by omega);simp only[Xx,List.getElem?_cons_zero,List.getElem?_cons_succ,Nat.add_zero,Nat.mul_one]at c0 c1
     obtain⟨R,hRe⟩:∃ R,YV (Vg N) (l.take j)=R:=⟨_,rfl⟩
     rw[hRe]at HS hat hR;have O1:=Hd hat;have P1:=Hd hR;have z1:=Hd (λ(w2:World) (h:Later wr w2) (z:Int)=>Gf w2 lb N z (hat.later h).n);clear hc hRe hat hR hI hlx;by_cases hx1:0<=x1/\x1<(N:Int)
     ·by_cases K0:0<=x2/\x2<(N:Int)
      ·obtain⟨p1,q1⟩:=hx1;obtain⟨p2,q2⟩:=K0;obtain⟨y1,rfl⟩:=Int.eq_ofNat_of_zero_le p1;obtain⟨y2,rfl⟩:=Int.eq_ofNat_of_zero_le p2;have H1:=Hd (λw2 h=>z1.out w2 h y1);have H2:=Hd (λw2 h=>z1.out w2 h y2);rw[Vr p1 q1]at H1;rw[Vr p2 q2]at H2
       go_upto_region 14 with(first
        |(go_at_call 133;(with_reducible refine(H1.out _ ((Later.refl wr).alloc _)).mono ?_);rintro e w' ⟨rfl,rfl⟩)
        |(go_at_call 133;(with_reducible refine(H2.out _ ((Later.refl wr).alloc _)).mono ?_);rintro e w' ⟨rfl,rfl⟩)
        |fail)
       obtain⟨pb,hpb⟩:∃ pb,wr.heap.size=pb:=⟨_,rfl⟩
       rw[hpb]
       obtain⟨w2,hw2⟩:∃ w2,wr.alloc (.cells #[.int .i64 (y1:Int),.int .i64 (y2:Int)] 47)=w2:=⟨_,rfl⟩
       rw[hw2];have C1:Later wr w2:=by rw[<-hw2];exact(Later.refl wr).alloc _
       have F0:w2.heap[pb]?=some (.cells #[.int .i64 (y1:Int),.int .i64 (y2:Int)] 47 (0,0)):=by rw[<-hw2];exact Zq hpb
       have d0:=Za F0 0;have d1:=Za F0 1;have p0:=O1.out.later C1;have k1:=p0.up P1.out (show y1<8 by omega);have k2:=p0.free (1+y1);have v0:=P1.out.get y1;have i1:(y1:Int)<8:=by omega
       have i2:(y2:Int)<8:=by omega
       have A0:=Zhp v0 (GR (show y2<8 by omega));have HN:=Hd (p0.setUp P1.out (show y1<8 by omega) (orI (R[y1]?.getD 0) (2 ^ y2)));have H0:=BY (show y2<8 by omega);have A1:=Zix (show y2<8 by omega)
       obtain⟨y,hye⟩:∃ y,R[y1]?.getD 0=y:=⟨_,rfl⟩
       rw[hye]at k1 v0 A0 HN;have J1:=Hd hye;have S1:=Hd A0;have a1:=Hd H0;have HSW:=Hd A1;clear hw2 F0 p0 hye A0 H0 A1
       go_region
       generalize hWZ:World.drew _=WZ
       have r0:LatAt WZ lb N (addR R y1 y2) YK:=by
        rw[<-hWZ,a1.out,S1.out];unfold addR;rw[J1.out];exact HN.out
       have S0:Later w WZ:=by
        rw[<-hWZ];exact Later.drew (Later.setC (F1.out.trans C1) (by omega) _ _)
       have f1:=Hd r0;clear hWZ k1 k2 d0 d1 r0
       go_wp2_with fail
       refine⟨⟨j+1,by omega,by simp,λp hp=>?_,?_,S0⟩,by simp only[intOf];omega⟩
       ·rw[O2.out]at hp;rcases List.mem_append.1 hp with hp|hp
        ·exact l1.out p hp
        ·rw[List.mem_singleton.1 hp];exact⟨⟨p1,q1⟩,p2,q2⟩
       ·rw[HS.out];exact f1.out
      ·obtain⟨p1,q1⟩:=hx1;have H1:=Hd (λw2 h=>z1.out w2 h x1);have H2:=Hd (λw2 h=>z1.out w2 h x2);rw[Vr p1 q1]at H1;rw[QN K0]at H2;have W1:=Hd (show ¬Lat N l from λk=>K0 (k.pairs _ m1.out).2);clear K0
       go_wp2_with (first
        |(go_at_call 133;(with_reducible refine(H1.out _ ((Later.refl wr).alloc _)).mono ?_);rintro e w' ⟨rfl,rfl⟩)
        |(go_at_call 133;(with_reducible refine(H2.out _ ((Later.refl wr).alloc _)).mono ?_);rintro e w' ⟨rfl,rfl⟩)
        |fail)
       rw[<-O0.out];exact YP 41 (by decide) W1.out (F1.out.alloc _)
     ·have H1:=Hd (λw2 h=>z1.out w2 h x1);rw[QN hx1]at H1;have W1:=Hd (show ¬Lat N l from λk=>hx1 (k.pairs _ m1.out).1);clear hx1
      go_wp2_with (first
       |(go_at_call 133;(with_reducible refine(H1.out _ ((Later.refl wr).alloc _)).mono ?_);rintro e w' ⟨rfl,rfl⟩)
       |fail)
      rw[<-O0.out];exact YP 41 (by decide) W1.out (F1.out.alloc _)
    ·have N1:j=l.length:=by omega
     rw[N1,List.take_of_length_le (Nat.le_refl _)]at hat hR;rw[N1,List.take_of_length_le (Nat.le_refl _)]at hlv
     obtain⟨R,hRe⟩:∃ R,YV (Vg N) l=R:=⟨_,rfl⟩
     have k0:Ja N l R:=by rw[<-hRe];exact EL h8 hlv
     have i0:Zco N l R:=by rw[<-hRe];exact GT h8 hlv
     rw[hRe]at hat hR
     obtain⟨RV,hRV⟩:∃ RV,X5 R=RV:=⟨_,rfl⟩
     have t2:=Hd (show Calls Tryz.prog 134 #[.agg RV.toArray] wr (U7 R wr) by rw[<-hRV];exact BC wr R hR);have r2:=Hd (show wr.rangeAt lb 1 RV by rw[<-hRV];exact hat.range hR);have L2:=Hd (show(Tryz.prog.info? 175).map (·.size)=some RV.length by rw[<-hRV,show(X5 R).length=8 by simp[X5,hR.len]];exact Zea);have b1:=Hd (And.intro (And.intro hat hR) (And.intro k0 (And.intro i0 hlv)));clear hat hR hRe k0 i0 hlv l1 hRV N1
     go_upto_region 17 with(first
      |refine wpList_load_mid rfl 175 (.tmp 77) rfl lb 1 rfl RV _ r2.out Tryz.underlying175 rfl L2.out ?_
      |(go_at_call 134;(with_reducible refine t2.out.mono ?_);rintro e w2 ⟨U,rfl,hU,hUp,hUs,hUn,hUl⟩;have z0:=Hd (b1.out.1.1.later hUl);have j2:=Hd (z0.out.there b1.out.1.2);have C2:=Hd (Eo hU);have l2:=Hd (show w2.there lb 1 (XP U).size by rw[Vm hU];exact j2.out))
      |refine wpList_store_mid rfl 175 (.tmp 81) (.tmp 79) rfl lb 1 (XP U) rfl rfl l2.out C2.out (DZ U) ?_
      |fail)
     obtain⟨w3,hw3⟩:∃ w3,w2.setCells lb 1 (XP U).toList=w3:=⟨_,rfl⟩
     rw[hw3]
     have r1:LatAt w3 lb N U YK:=by
      rw[<-hw3,show(XP U).toList=X5 U from rfl];exact z0.out.setAll b1.out.1.2 hU
     have P0:Later w w3:=by rw[<-hw3];exact VL _ _ _ _ _ (F1.out.trans hUl) (by omega)
     obtain⟨⟨-, -⟩,k0,i0,hlv⟩:=b1.out;have T1:=Hd (W6 h1 h8 hlv hU hUp (hUn _ _ k0) (ZgA i0 hUs));have q0:=Hd hU;have K2:=Hd (And.intro r1 P0);clear hw3 r1 P0 k0 i0 hlv hU hUp hUs hUn hUl z0 j2 C2 l2 t2 r2 L2;clear b1
     go_wp2_with fail
     go_loopw [83] (λv wx=>∃ a:Nat,a<=N/\v=.int .i64 a/\LatAt wx lb N U (Ek U N a)/\Later w wx) (λv _=>N - (intOf v).toNat)
     case atStart=>exact⟨0,by omega,rfl,K2.out.1,K2.out.2⟩
     case round=>
      obtain⟨a',ha,rfl,hat,hlx⟩:=hrel;have g2:=(VA (U:=U) h8 a' (by omega)).1;have b0:=Hd hat;have t0:=Hd g2;clear hat g2;by_cases hlt:a'<N
      ·obtain⟨we,hwe⟩:∃ we:World,we=wr:=⟨_,rfl⟩
       rw[<-hwe]at b0 hlx ⊢;clear hwe
       obtain⟨B,hB⟩:∃ B,Ek U N a'=B:=⟨_,rfl⟩
       rw[hB]at b0 t0;have HB:=Hd hB;clear hB
       go_wp2_with fail
       go_loopw [87] (λv wx=>∃ k:Nat,k<=N/\v=.int .i64 k/\LatAt wx lb N U (UD U B a' k)/\Later w wx) (λv _=>N - (intOf v).toNat)
       case atStart=>exact⟨0,by omega,rfl,b0.out,hlx⟩
       case round=>
        obtain⟨k,hk,rfl,hat,hly⟩:=hrel;have n1:=(U0 (U:=U) t0.out (show a'<8 by omega) k (by omega)).1;have f0:UD U B a' (k+1)=if bitR U a' k then addR (UD U B a' k) k a' else UD U B a' k:=rfl
        obtain⟨C,hC⟩:∃ C,UD U B a' k=C:=⟨_,rfl⟩
        rw[hC]at hat n1 f0;have s0:=Hd f0;have HC:=Hd hC;have R0:=Hd hat;clear f0 hC;by_cases hltk:k<N
        ·have a2:=q0.out.get a';have k1:=hat.up q0.out (show a'<8 by omega);have ht:=DQ a2 k;have t1:bitR U a' k=(U[a']?.getD 0).toNat.testBit k:=rfl;rw[<-t1]at ht
         obtain⟨x,hx⟩:∃ x,U[a']?.getD 0=x:=⟨_,rfl⟩
         rw[hx]at k1 ht a2;have k2:=hat.down q0.out n1 (show k<8 by omega);have k3:=hat.free (9+k);have v0:=n1.get k;have A0:=Zhp v0 (GR (show a'<8 by omega));have HN:=Hd (hat.setDown q0.out (a:=k) (orI (C[k]?.getD 0) (2 ^ a')));have a1:=Hd (BY (show a'<8 by omega))
         obtain⟨y,hye⟩:∃ y,C[k]?.getD 0=y:=⟨_,rfl⟩
         rw[hye]at k2 v0 A0 HN;have J1:=Hd hye;have S1:=Hd A0;have i1:(a':Int)<8:=by omega
         have i2:(0:Int)<=(a':Int):=by omega
         have i3:(k:Int)<8:=by omega
         have i4:(0:Int)<=(k:Int):=by omega
         clear t1 hx hye A0 hat n1;cases hbb:bitR U a' k
         ·rw[hbb]at ht;have L1:=Hd hbb;clear hbb
          go_wp2_with fail
          refine⟨⟨k+1,by omega,by simp,?_,hly⟩,by simp only[intOf];omega⟩;rw[s0.out,L1.out];exact R0.out
         ·rw[hbb]at ht;have L1:=Hd hbb;clear hbb
          go_wp2_with fail
          go_region
          generalize hWZ:World.drew _=WZ
          have r0:LatAt WZ lb N U (addR C k a'):=by
           rw[<-hWZ,a1.out,S1.out];unfold addR;rw[J1.out];exact HN.out
          have S0:Later w WZ:=by
           rw[<-hWZ];exact Later.drew (Later.setC hly (by omega) _ _)
          have f1:=Hd r0;clear hWZ k1 k2 k3 r0 ht
          go_wp2_with fail
          refine⟨⟨k+1,by omega,by simp,?_,S0⟩,by simp only[intOf];omega⟩;rw[s0.out,L1.out];exact f1.out
        ·have F2:k=N:=by omega
         have HF:=Hd (show LatAt wr lb N U (Ek U N (a'+1)) by
          have e:Ek U N (a'+1)=UD U (Ek U N a') a' N:=rfl;have e2:UD U B a' N=C:=by rw[<-F2];exact HC.out
          rw[e,HB.out,e2];exact R0.out)
         clear hat n1 F2
         go_wp2_with fail
         exact⟨⟨a'+1,by omega,by simp,HF.out,hly⟩,by simp only[intOf];omega⟩
      ·have b2:a'=N:=by omega
       rw[b2]at b0 t0;clear b2
       obtain⟨D,hD⟩:∃ D,Ek U N N=D:=⟨_,rfl⟩
       rw[hD]at b0 t0 T1;have HD:=Hd hD;have m0:=Hd (ZdF T1.out hl);have g1:=Hd hlx
       obtain⟨we,hwe⟩:∃ we:World,we=wr:=⟨_,rfl⟩
       rw[<-hwe]at b0 g1 ⊢;clear hwe hD hlx
       go_wp2_with fail
       go_loopw [115] (λv wx=>∃ i:Nat,i<=N/\v=.int .i64 i/\(∀c,c<i->andI (U[c]?.getD 0) (D[c]?.getD 0)=2 ^ c)/\LatAt wx lb N U D/\Later w wx) (λv _=>N - (intOf v).toNat)
       case atStart=>exact⟨0,by omega,rfl,λc hc=>absurd hc (by omega),b0.out,g1.out⟩
       case round=>
        obtain⟨i5,hi5,rfl,hok,hat,hlx⟩:=hrel;have K1:=Hd hok;clear hok;have I0:=Hd hat;by_cases hlt5:i5<N
        ·have k1:=hat.up q0.out (show i5<8 by omega);have k2:=hat.down q0.out t0.out (show i5<8 by omega);have m2:=q0.out.get i5;have v0:=t0.out.get i5;have N0:=ZaK m2 v0
         obtain⟨x,hx⟩:∃ x,U[i5]?.getD 0=x:=⟨_,rfl⟩
         obtain⟨y,hy⟩:∃ y,D[i5]?.getD 0=y:=⟨_,rfl⟩
         rw[hx]at k1 m2 N0;rw[hy]at k2 v0 N0
         obtain⟨z,hz⟩:∃ z,andI x y=z:=⟨_,rfl⟩
         rw[hz]at N0
         obtain⟨T,hT⟩:∃ T:Int,2 ^ i5=T:=⟨_,rfl⟩
         have H0:=BY (show i5<8 by omega);have A1:=Zix (show i5<8 by omega);rw[hT]at H0 A1;have Z1:=Hd (And.intro hx (And.intro hy (And.intro hz hT)));have i1:(i5:Int)<8:=by omega
         have i2:(0:Int)<=(i5:Int):=by omega
         clear hx hy hz hat;by_cases hzT:z=T
         ·have M2:(z != T)=false:=by simpa using hzT
          have M1:=Hd hzT;clear hzT
          go_wp2_with fail
          go_quiet (fail)
          go_wp2_with fail
          refine⟨⟨i5+1,by omega,by simp,λc hc=>?_,I0.out,Later.drewN hlx _⟩,by simp only[intOf];omega⟩;rcases(by omega:c<i5\/c=i5) with hc'|rfl
          ·exact K1.out c hc'
          ·obtain⟨e1,e2,e3,e4⟩:=Z1.out;rw[e1,e2,e3,e4];exact M1.out
         ·have M2:(z != T)=true:=by simpa using hzT
          have M1:=Hd hzT;clear hzT
          go_wp2_with fail
          go_quiet (fail)
          go_wp2_with fail
          rw[<-O0.out];refine YP 42 (by decide) (λk=>?_) (Later.drewN hlx _);have:=(m0.out.2 k).1 i5 hlt5;obtain⟨e1,e2,e3,e4⟩:=Z1.out;rw[e1,e2,e3,e4]at this;exact M1.out this
        ·have g0:i5=N:=by omega
         rw[g0]at K1;clear g0 hat;have o1:=Hd hlx
         obtain⟨we,hwe⟩:∃ we:World,we=wr:=⟨_,rfl⟩
         rw[<-hwe]at I0 o1 ⊢;clear hwe hlx
         go_wp2_with fail
         go_loopw [136] (λv wx=>∃ i:Nat,i<=N/\v=.int .i64 i/\(∀c,c<i->∀ b,b<N->VM U N (andI (U[c]?.getD 0) (U[b]?.getD 0))/\VM D N (andI (D[c]?.getD 0) (D[b]?.getD 0)))/\LatAt wx lb N U D/\Later w wx) (λv _=>N - (intOf v).toNat)
         case atStart=>exact⟨0,by omega,rfl,λc hc=>absurd hc (by omega),I0.out,o1.out⟩
         case round=>
          obtain⟨i6,hi6,rfl,hok6,hat,hlx⟩:=hrel;have C0:=Hd hok6;have L0:=Hd hat;have j1:=Hd hlx;clear hok6 hat;by_cases hlt6:i6<N
          ·obtain⟨we,hwe⟩:∃ we:World,we=wr:=⟨_,rfl⟩
           rw[<-hwe]at L0 j1 hlx ⊢;clear hwe
           go_wp2_with fail
           go_loopw [140] (λv wx=>∃ j:Nat,j<=N/\v=.int .i64 j/\(∀b,b<j->VM U N (andI (U[i6]?.getD 0) (U[b]?.getD 0))/\VM D N (andI (D[i6]?.getD 0) (D[b]?.getD 0)))/\LatAt wx lb N U D/\Later w wx) (λv _=>N - (intOf v).toNat)
           case atStart=>exact⟨0,by omega,rfl,λc hc=>absurd hc (by omega),L0.out,j1.out⟩
           case round=>
            obtain⟨i7,hi7,rfl,hok7,hat,hly⟩:=hrel;have y0:=Hd hok7;have n0:=Hd hat;clear hok7 hat;by_cases hlt7:i7<N
            ·have HJ:=Hd (λw2 (h:Later wr w2)=>ZfX w2 lb N i6 i7 U D (n0.out.later h) q0.out t0.out h8 hlt6 hlt7);have HM:=Hd (λw2 (h:Later wr w2)=>ZfW w2 lb N i6 i7 U D (n0.out.later h) q0.out t0.out h8 hlt6 hlt7);have E1:=Hd (ZaD U (andI (U[i6]?.getD 0) (U[i7]?.getD 0)) N);have E2:=Hd (ZaD D (andI (D[i6]?.getD 0) (D[i7]?.getD 0)) N)
             obtain⟨v1,hv1⟩:∃ v1,endF U (andI (U[i6]?.getD 0) (U[i7]?.getD 0)) 0 N=v1:=⟨_,rfl⟩
             obtain⟨v2,hv2⟩:∃ v2,endF D (andI (D[i6]?.getD 0) (D[i7]?.getD 0)) 0 N=v2:=⟨_,rfl⟩
             rw[hv1]at HJ E1;rw[hv2]at HM E2;clear hv1 hv2;by_cases hn1:v1<0
             ·go_wp2_with (first
               |(go_at_call 135;(with_reducible refine(HJ.out _ (Later.refl _)).mono ?_);rintro e w' ⟨rfl,q1,rfl⟩)
               |fail)
              rw[<-O0.out];refine YP 43 (by decide) (λk=>?_) (Later.drewN hly _);have:=E1.out.2 ((m0.out.2 k).2 i6 hlt6 i7 hlt7).1;omega
             ·by_cases hn2:v2<0
              ·go_wp2_with (first
                |(go_at_call 135;(with_reducible refine(HJ.out _ (Later.refl _)).mono ?_);rintro e w' ⟨rfl,q1,rfl⟩)
                |(go_at_call 136;(with_reducible refine(HM.out _ (Later.drewN (Later.refl _) _)).mono ?_);rintro e w' ⟨rfl,q2,rfl⟩)
                |fail)
               rw[<-O0.out];refine YP 43 (by decide) (λk=>?_) (Later.drewN hly _);have:=E2.out.2 ((m0.out.2 k).2 i6 hlt6 i7 hlt7).2;omega
              ·have hd1:decide (v1<0)=false:=decide_eq_false hn1;have hd2:decide (v2<0)=false:=decide_eq_false hn2
               go_wp2_with (first
                |(go_at_call 135;(with_reducible refine(HJ.out _ (Later.refl _)).mono ?_);rintro e w' ⟨rfl,q1,rfl⟩)
                |(go_at_call 136;(with_reducible refine(HM.out _ (Later.drewN (Later.refl _) _)).mono ?_);rintro e w' ⟨rfl,q2,rfl⟩)
                |fail)
               refine⟨⟨i7+1,by omega,by simp,λc hc=>?_,n0.out,Later.drewN hly _⟩,by simp only[intOf];omega⟩;rcases(by omega:c<i7\/c=i7) with hc'|rfl
               ·exact y0.out c hc'
               ·exact⟨E1.out.1 (by omega),E2.out.1 (by omega)⟩
            ·have g0:i7=N:=by omega
             rw[g0]at y0;clear g0
             go_wp2_with fail
             refine⟨⟨i6+1,by omega,by simp,λc hc=>?_,n0.out,hly⟩,by simp only[intOf];omega⟩;rcases(by omega:c<i6\/c=i6) with hc'|rfl
             ·exact C0.out c hc'
             ·exact y0.out
          ·have g0:i6=N:=by omega
           rw[g0]at C0;clear g0
           go_wp2_with fail
           rw[<-O0.out];exact⟨.inl ⟨m0.out.1 ⟨K1.out,C0.out⟩,lb,N,U,D,rfl,rfl,L0.out,T1.out,by omega⟩,hlx⟩
end Go.Proofs.YtbchkjfnakabkaaGreatDoor
namespace Go.Proofs.YtbchkjfnakabkaaGreatDoor
open Go.RowKit PX PC
def Dd(c:Cfg)(vF vP vW vO vV vR vK lv:Value):Array Value:=#[.int .i64 c.levels,vF,vP,vW,vO,vV,.int .i64 c.audit.level,.int .i64 c.audit.first,.int .i64 c.audit.count,.int .i64 c.audit.journal,.int .i64 c.boot,.int .i64 c.sectors,vR,vK,.string c.login,.int .i64 c.recovery,.int .i64 c.bound,lv]
structure FormIn (w:World) (fb:Nat) (c:Cfg) (vF vP vW vO vV vR vK lv:Value):Prop where
 blk:w.heap[fb]?=some (.cells (Dd c vF vP vW vO vV vR vK lv) 61 (0,0))
 rF:RowAt w 2 vF (c.flows.map Xx)
 rP:RowAt w 2 vP (c.parts.map XQ)
 rW:RowAt w 3 vW (c.windows.map winC)
 rO:RowAt w 5 vO (c.ports.map porC)
 rV:RowAt w 4 vV (c.volumes.map volC)
 rR:RowAt w 5 vR (c.rules.map ruC)
 rK:RowAt w 1 vK (c.keys.map keyC)
theorem FormIn.later{w w':World}{fb:Nat}{c:Cfg}{vF vP vW vO vV vR vK lv:Value}(h:FormIn w fb c vF vP vW vO vV vR vK lv)(hl:Later w w'):FormIn w' fb c vF vP vW vO vV vR vK lv:=
 ⟨hl.block h.blk,h.rF.later hl,h.rP.later hl,h.rW.later hl,h.rO.later hl,h.rV.later hl,h.rR.later hl,h.rK.later hl⟩
theorem FormIn.cell{w:World}{fb:Nat}{c:Cfg}{vF vP vW vO vV vR vK lv:Value}(h:FormIn w fb c vF vP vW vO vV vR vK lv)(j:Nat):w.cell? ⟨fb,j,none⟩=(Dd c vF vP vW vO vV vR vK lv)[j]?:=Za h.blk j
theorem ZhI{n lo hi:Int}(h0:lo<=n)(h1:n<=hi):inB n lo hi=true:=by unfold inB;rw[decide_eq_true h0,decide_eq_true h1];rfl
theorem ZgT{n lo hi:Int}(h:¬ (lo<=n/\n<=hi)):inB n lo hi=false:=by rw[Bool.eq_false_iff];exact λk=>h (ZI.1 k)
theorem XA(w:World)(n lo hi:Int):Calls Tryz.prog 23 #[.int .i64 n,.int .i64 lo,.int .i64 hi] w λe w'=>e=.returned (.bool (inB n lo hi))/\w'=w:=by
 by_cases h0:lo<=n
 ·by_cases h1:n<=hi
  ·rw[ZhI h0 h1]
   go_enter Tryz.func23,Tryz.ntmps23
   go_wp2_with fail
   go_ret
   exact⟨rfl,rfl⟩
  ·rw[ZgT (λh=>h1 h.2)]
   go_enter Tryz.func23,Tryz.ntmps23
   go_wp2_with fail
   go_ret
   exact⟨rfl,rfl⟩
 ·rw[ZgT (λh=>h0 h.1)]
  go_enter Tryz.func23,Tryz.ntmps23
  go_wp2_with fail
  go_ret
  exact⟨rfl,rfl⟩
theorem Vt(w:World)(fb:Nat)(c:Cfg)(n:Int)(hc:w.cell? ⟨fb,0,none⟩=some (.int .i64 c.levels))(h1:1<=c.levels)(h8:c.levels<=8) :
 Calls Tryz.prog 109 #[.pointer (some ⟨fb,0,none⟩),.int .i64 n] w λe w'=>e=.returned (.bool (c.lvl n))/\w'=w:=by
 have a0:=Hd (show Calls Tryz.prog 23 #[.int .i64 n,.int .i64 0,.int .i64 (c.levels - 1)] w λe w'=>e=.returned (.bool (c.lvl n))/\w'=w from XA w n 0 (c.levels - 1))
 obtain⟨b,hb⟩:∃ b,c.lvl n=b:=⟨_,rfl⟩
 rw[hb]at a0 ⊢
 obtain⟨L,hL⟩:∃ L,c.levels=L:=⟨_,rfl⟩
 rw[hL]at a0 hc h1 h8;clear hb hL
 go_enter Tryz.func109,Tryz.ntmps109
 go_wp2_with (first
  |(go_at_call 23;(with_reducible refine a0.out.mono ?_);rintro e w' ⟨rfl,rfl⟩)
  |fail)
 go_ret
 exact⟨rfl,rfl⟩
theorem Gm(w:World)(fb:Nat)(c:Cfg)(n:Int)(a:Option Addr)(cap:Nat)(hc:w.cell? ⟨fb,2,none⟩=some (.slice a c.parts.length cap))(hl:c.parts.length<=140737488355328) :
 Calls Tryz.prog 111 #[.pointer (some ⟨fb,0,none⟩),.int .i64 n] w λe w'=>e=.returned (.bool (c.prt n))/\w'=w:=by
 have a0:=Hd (show Calls Tryz.prog 23 #[.int .i64 n,.int .i64 0,.int .i64 ((c.parts.length:Int) - 1)] w λe w'=>e=.returned (.bool (c.prt n))/\w'=w from XA w n 0 _)
 obtain⟨b,hb⟩:∃ b,c.prt n=b:=⟨_,rfl⟩
 rw[hb]at a0 ⊢
 obtain⟨L,hL⟩:∃ L,c.parts.length=L:=⟨_,rfl⟩
 rw[hL]at a0 hc hl;clear hb hL
 go_enter Tryz.func111,Tryz.ntmps111
 go_wp2_with (first
  |(go_at_call 23;(with_reducible refine a0.out.mono ?_);rintro e w' ⟨rfl,rfl⟩)
  |fail)
 go_ret
 exact⟨rfl,rfl⟩
theorem Wo:∀ (l:List Win) (x:Win) (k i:Int),sumT (l++[x]) k i=sumT l k i+(if x.kind=k/\x.index=i then x.ticks else 0)
 |[],x,k,i=>by simp[sumT]
 |y::l,x,k,i=>by simp only[List.cons_append,sumT,Wo l x k i];omega
theorem Qt:∀ (l:List Win) (k i:Int),(∀x∈l,1<=x.ticks/\x.ticks<=255)->0<=sumT l k i/\sumT l k i<=255*l.length
 |[],k,i,_=>by simp[sumT]
 |y::l,k,i,h=>by
  have h1:=Qt l k i λx hx=>h x (List.mem_cons_of_mem y hx)
  have h2:=h y List.mem_cons_self;simp only[sumT,List.length_cons];split<;>omega
def U4(c:Cfg):Prop:=c.windows.length<=64/\∀ x∈c.windows,1<=x.ticks/\x.ticks<=255
theorem G8(w:World)(fb:Nat)(c:Cfg)(v:Value)(k i:Int)(hc:w.cell? ⟨fb,3,none⟩=some v)(hrow:RowAt w 3 v (c.windows.map winC))(hw:U4 c) :
 Calls Tryz.prog 77 #[.pointer (some ⟨fb,0,none⟩),.int .i64 k,.int .i64 i] w λe w'=>e=.returned (.int .i64 (c.tk k i))/\Later w w':=by
 obtain⟨a,cap,rfl,l0,C1,P0⟩:=Zl hrow;have e0:=Hd hrow;have HW:=Hd hw;have j0:c.tk k i=sumT c.windows k i:=rfl;rw[j0]
 obtain⟨l,hl⟩:∃ l,c.windows=l:=⟨_,rfl⟩
 have R1:=Hd (show l.length<=64/\∀ x∈l,1<=x.ticks/\x.ticks<=255 by rw[<-hl];exact hw);have hl64:=R1.out.1;rw[hl]at hc e0 l0 P0 ⊢;clear hrow hw j0 HW hl
 go_enter Tryz.func77,Tryz.ntmps77
 go_wp2_with fail
 go_loopw [7,16] (λvn vi wr=>∃ j:Nat,j<=l.length/\vi=.int .i64 (j:Int)/\vn=.int .i64 (sumT (l.take j) k i)/\Later w wr) (λ_ vi _=>l.length - (intOf vi).toNat)
 case atStart=>exact⟨0,by omega,rfl,rfl,Later.refl _⟩
 case round=>
  obtain⟨j,hj,rfl,rfl,hb⟩:=hrel;by_cases hlt:j<l.length
  ·obtain⟨b,o,rfl,hb',hcc⟩:=Zz (e0.out.later hb) hlt;have j0:=List.take_succ_eq_append_getElem hlt;have z2:=Qt (l.take j) k i (λx hx=>R1.out.2 x (List.mem_of_mem_take hx));have N2:(l.take j).length<=64:=by rw[List.length_take];omega
   have K0:=R1.out.2 _ (List.getElem_mem hlt)
   obtain⟨x,hx⟩:∃ x,l[j]=x:=⟨_,rfl⟩
   rw[hx]at hcc j0 K0;have HS:Hid (sumT (l.take (j+1)) k i=sumT (l.take j) k i+(if x.kind=k/\x.index=i then x.ticks else 0)):=Hd (by rw[j0,Wo])
   obtain⟨s,hs⟩:∃ s,sumT (l.take j) k i=s:=⟨_,rfl⟩
   rw[hs]at HS z2 ⊢;obtain⟨hs0,hs1⟩:=z2;have hs2:s<=16320:=by omega
   clear hx j0 hs hs1 N2;obtain⟨x1,x2,x3⟩:=x;have c0:=hcc 0 (by omega);have c1:=hcc 1 (by omega);have c2:=hcc 2 (by omega);simp only[winC,List.getElem?_cons_zero,List.getElem?_cons_succ,Nat.add_zero,Nat.mul_one]at c0 c1 c2;clear hcc;obtain⟨hx3,hx4⟩:=K0;simp only at hx3 hx4;by_cases h1:x1=k
   ·have d1:(x1==k)=true:=by simpa using h1
    by_cases h2:x2=i
    ·have d2:(x2==i)=true:=by simpa using h2
     have s1:=Hd (And.intro h1 h2);clear h1 h2
     go_wp2_with fail
     refine⟨⟨j+1,by omega,by simp,?_,hb.alloc _⟩,by simp only[intOf];omega⟩;rw[HS.out,if_pos s1.out]
    ·have d2:(x2==i)=false:=by simpa using h2
     have s1:=Hd h2;clear h1 h2
     go_wp2_with fail
     refine⟨⟨j+1,by omega,by simp,?_,hb.alloc _⟩,by simp only[intOf];omega⟩;rw[HS.out,if_neg (λe=>s1.out e.2),Int.add_zero]
   ·have d1:(x1==k)=false:=by simpa using h1
    have s1:=Hd h1;clear h1
    go_wp2_with fail
    refine⟨⟨j+1,by omega,by simp,?_,hb.alloc _⟩,by simp only[intOf];omega⟩;rw[HS.out,if_neg (λe=>s1.out e.1),Int.add_zero]
  ·go_wp2_with fail
   go_ret
   refine⟨ZT ?_,hb⟩;rw[List.take_of_length_le (by omega)]
def hasW(c:Cfg)(k i:Int):Bool:=hasT c.windows k i
theorem Zgh(w:World)(fb:Nat)(c:Cfg)(v:Value)(k i:Int)(hc:w.cell? ⟨fb,3,none⟩=some v)(hrow:RowAt w 3 v (c.windows.map winC))(hw:U4 c) :
 Calls Tryz.prog 113 #[.pointer (some ⟨fb,0,none⟩),.int .i64 k,.int .i64 i] w λe w'=>e=.returned (.bool (hasW c k i))/\Later w w':=by
 have HT:=Hd (G8 w fb c v k i hc hrow hw);have hh:hasW c k i=decide (0<c.tk k i):=rfl;rw[hh]
 obtain⟨t,ht⟩:∃ t,c.tk k i=t:=⟨_,rfl⟩
 rw[ht]at HT ⊢;clear hc hrow hw hh ht
 go_enter Tryz.func113,Tryz.ntmps113
 go_wp2_with (first
  |(go_at_call 77;(with_reducible refine HT.out.mono ?_);rintro e w' ⟨rfl,l0⟩)
  |fail)
 go_ret
 exact⟨rfl,l0⟩
theorem ZgJ(w:World)(a b:Int)(ha:0<=a)(ha2:a<=1000000)(hb:0<b)(hb2:b<=1000000):Calls Tryz.prog 76 #[.int .i64 a,.int .i64 b] w λe w'=>e=.returned (.int .i64 (upI a b))/\w'=w:=by
 have hu:upI a b=(a+b - 1)/b:=rfl;rw[hu];clear hu
 go_enter Tryz.func76,Tryz.ntmps76
 go_wp2_with fail
 go_ret
 exact⟨rfl,rfl⟩
end Go.Proofs.YtbchkjfnakabkaaGreatDoor
namespace Go.Proofs.YtbchkjfnakabkaaGreatDoor
open Go.RowKit PX PC
def El(c:Cfg):Prop:=1<=c.levels/\c.levels<=8
theorem Zbw(w:World)(cb fb:Nat)(c:Cfg)(x:Prt)(hcb:w.cell? ⟨cb,0,none⟩=some (.pointer (some ⟨fb,0,none⟩)))(hc0:w.cell? ⟨fb,0,none⟩=some (.int .i64 c.levels))(hL:El c) :
 Calls Tryz.prog 108 #[Zbx x,.pointer (some ⟨cb,0,none⟩)] w λe w'=>e=.returned (.bool (YU c x))/\Later w w':=by
 obtain⟨x1,x2⟩:=x;have hcl:=World.block_lt_of_cell? w _ hcb;have l1:=Hd (λ(w1:World) (h:Later w w1)=>Vt w1 fb c x1 (h.cell hc0) hL.1 hL.2);have a0:=Hd (λ(w1:World)=>XA w1 x2 1 16);have hp:YU c ⟨x1,x2⟩=(inB x2 1 16&&c.lvl x1):=rfl;rw[hp];clear hp hc0
 obtain⟨q,hq⟩:∃ q,c.lvl x1=q:=⟨_,rfl⟩
 rw[hq]at l1 ⊢;clear hq;show Calls Tryz.prog 108 #[.agg #[.int .i64 x1,.int .i64 x2],.pointer (some ⟨cb,0,none⟩)] w _;cases hi:inB x2 1 16
 ·rw[hi]at a0;clear hi
  go_enter Tryz.func108,Tryz.ntmps108
  go_wp2_with (first
   |(go_at_call 23;(with_reducible refine(a0.out _).mono ?_);rintro e w' ⟨rfl,rfl⟩)
   |fail)
  go_ret
  exact⟨rfl,(Later.refl w).alloc _⟩
 ·rw[hi]at a0;clear hi
  go_enter Tryz.func108,Tryz.ntmps108
  go_wp2_with (first
   |(go_at_call 23;(with_reducible refine(a0.out _).mono ?_);rintro e w' ⟨rfl,rfl⟩)
   |(go_at_call 109;(with_reducible refine(l1.out _ ((Later.refl w).alloc _)).mono ?_);rintro e w' ⟨rfl,rfl⟩)
   |fail)
  go_ret
  exact⟨Zw (by simp),(Later.refl w).alloc _⟩
theorem Vx{w:World}{fb:Nat}:∃ (cb:Nat) (w1:World),w.heap.size=cb/\w.alloc (.cells #[.pointer (some ⟨fb,0,none⟩)] 58)=w1/\Later w w1/\w1.heap[cb]?=some (.cells #[.pointer (some ⟨fb,0,none⟩)] 58 (0,0))/\w1.cell? ⟨cb,0,none⟩=some (.pointer (some ⟨fb,0,none⟩)):=
 ⟨_,_,rfl,rfl,(Later.refl w).alloc _,Zd w _,Za (Zd w _) 0⟩
theorem ZbZ(w:World)(fb:Nat)(c:Cfg)(vF vP vW vO vV vR vK lv:Value)(h:FormIn w fb c vF vP vW vO vV vR vK lv)(hL:El c) :
 Calls Tryz.prog 98 #[.pointer (some ⟨fb,0,none⟩)] w λe w'=>e=.returned (.bool c.partsB)/\Later w w':=by
 obtain⟨a,cap,rfl,l0,C1,P0⟩:=Zl h.rP;obtain⟨cb,w1,hcb,hw1,hlw,hblk,hcell⟩:=Vx (w:=w) (fb:=fb);have h1:=h.later hlw;have k2:=h1.cell 2;have M0:=Hd (ZgE w1 _ c.parts h1.rP 108 #[.pointer (some ⟨cb,0,none⟩)] (enters_of Tryz.func108 (by kernel_rfl) rfl) (YU c) (by omega) (λw2 h2 x hx=>Zbw w2 cb fb c x (h2.cell hcell) (h2.cell (h1.cell 0)) hL));have a0:=Hd (λ(w1:World)=>XA w1 (c.parts.length:Int) 1 8);have hp:c.partsB=(inB c.parts.length 1 8&&c.parts.all (YU c)):=rfl;rw[hp]
 obtain⟨n,hn⟩:∃ n,c.parts.length=n:=⟨_,rfl⟩
 obtain⟨q,hq⟩:∃ q,c.parts.all (YU c)=q:=⟨_,rfl⟩
 rw[hq]at M0 ⊢;simp only[Dd]at k2;rw[hn]at M0 a0 k2 l0 P0 ⊢;have k2':w1.cell? ⟨fb,2,none⟩=some (.slice a n cap):=k2;have I2:=Hd hw1;have A2:=Hd hlw;clear h h1 k2 hp hn hq hblk hw1 hlw;cases hi:inB n 1 8
 ·rw[hi]at a0;clear hi
  go_enter Tryz.func98,Tryz.ntmps98
  go_upto_region 1 with fail
  rw[I2.out]
  go_wp2_with (first
   |(go_at_call 23;(with_reducible refine(a0.out _).mono ?_);rintro e w' ⟨rfl,rfl⟩)
   |fail)
  go_ret
  exact⟨rfl,A2.out⟩
 ·rw[hi]at a0;clear hi
  go_enter Tryz.func98,Tryz.ntmps98
  go_upto_region 1 with fail
  rw[I2.out]
  go_wp2_with (first
   |(go_at_call 23;(with_reducible refine(a0.out _).mono ?_);rintro e w' ⟨rfl,rfl⟩)
   |(go_at_call 107;(with_reducible refine M0.out.mono ?_);rintro e w' ⟨rfl,l0⟩)
   |fail)
  go_ret
  exact⟨Zw (by simp),A2.out.trans l0⟩
