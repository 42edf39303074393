import Derived.Test.YtbchkjfnakabkaaGreatDoorN23
import Derived.Test.YtbchkjfnakabkaaGreatDoorY47
import Derived.Deep.MidRow
import Derived.Test.YtbchkjfnakabkaaGreatDoorN5
set_option linter.unusedSimpArgs false
set_option linter.unusedVariables false
set_option maxHeartbeats 8000000
set_option maxRecDepth 100000
namespace Go.Proofs.YtbchkjfnakabkaaGreatDoor
open Go.RowKit PX PC
theorem LatAt.lt{w:World}{lb:Nat}{n:Int}{U D:List Int}(h:LatAt w lb n U D):lb<w.heap.size:=Za h
theorem LatAt.free{w:World}{lb:Nat}{n:Int}{U D:List Int}(h:LatAt w lb n U D)(j:Nat):w.frozen? ⟨lb,j,none⟩=false:=Zc h j
theorem LatAt.drew{w:World}{lb:Nat}{n:Int}{U D:List Int}(h:LatAt w lb n U D):LatAt w.drew lb n U D:=h
theorem LatAt.setUp{w:World}{lb:Nat}{n:Int}{U D:List Int}(h:LatAt w lb n U D)(hU:Rows8 U){a:Nat}(ha:a<8)(x:Int):LatAt (w.setCell ⟨lb,1+a,none⟩ (.int .u8 x)) lb n (U.set a x) D:=by
 refine(Zf h (1+a) _).trans ?_
 congr 2
 apply Array.ext';simp only[Array.toList_setIfInBounds,JA];rw[Nat.add_comm,List.set_cons_succ,List.set_append_left _ _ (by simp[Yb,hU.len];exact ha)];simp[Yb,List.map_set]
theorem LatAt.setDown{w:World}{lb:Nat}{n:Int}{U D:List Int}(h:LatAt w lb n U D)(hU:Rows8 U){a:Nat}(x:Int):LatAt (w.setCell ⟨lb,9+a,none⟩ (.int .u8 x)) lb n U (D.set a x):=by
 refine(Zf h (9+a) _).trans ?_
 congr 2
 apply Array.ext';simp only[Array.toList_setIfInBounds,JA];rw[show 9+a=(8+a)+1 by omega,List.set_cons_succ,List.set_append_right _ _ (by simp[Yb,hU.len]),show 8+a - (Yb U).length=a by simp[Yb,hU.len]];simp[Yb,List.map_set]
def QD(cs:List Value)(o:Nat):List Value->List Value
 |[]=>cs
 |v::r=>QD (cs.set o v) (o+1) r
theorem VG:∀ (vs:List Value) (o:Nat) (w:World) (b:Nat) (cs:List Value) (t:TypeId) (f:Nat × Nat),w.heap[b]?=some (.cells cs.toArray t f)->(w.setCells b o vs).heap[b]?=some (.cells (QD cs o vs).toArray t f)
 |[],_,_,_,_,_,_,h=>h
 |v::r,o,w,b,cs,t,f,h=>by
  have:=Zf h o v;rw[show cs.toArray.setIfInBounds o v=(cs.set o v).toArray by apply Array.ext';simp]at this;exact VG r (o+1) _ b _ t f this
theorem ET:∀ (vs mid pre post:List Value),mid.length=vs.length->QD (pre++(mid++post)) pre.length vs=pre++(vs++post)
 |[],[],pre,post,_=>rfl
 |v::vs,m::mid,pre,post,h=>by
  have ih:=ET vs mid (pre++[v]) post (by simpa using h);simp only[QD];rw[List.set_append_right _ _ (Nat.le_refl _),Nat.sub_self];simp only[List.cons_append,List.set_cons_zero];simp only[List.append_assoc,List.cons_append,List.nil_append,List.length_append,List.length_cons,List.length_nil]at ih;exact ih
 |[],_::_,_,_,h=>by simp at h
 |_::_,[],_,_,h=>by simp at h
theorem VM:∀ (vs:List Value) (o:Nat) (a w:World) (b:Nat),Later a w->a.heap.size<=b->Later a (w.setCells b o vs)
 |[],_,_,_,_,h,_=>h
 |v::r,o,a,w,b,h,hb=>VM r (o+1) a _ b (Later.setC h hb o v) hb
theorem LatAt.setAll{w:World}{lb:Nat}{n:Int}{U D:List Int}(h:LatAt w lb n U D)(hU:Rows8 U){V:List Int}(hV:Rows8 V):LatAt (w.setCells lb 1 (Yb V)) lb n V D:=by
 refine(VG _ _ _ _ _ _ _ h).trans ?_;have:=ET (Yb V) (Yb U) [.int .i64 n] (Yb D) (by simp[Yb,hU.len,hV.len]);exact congrArg (λl=>some (Obj.cells (List.toArray l) 177 (0,0))) this
theorem LatAt.range{w:World}{lb:Nat}{n:Int}{U D:List Int}(h:LatAt w lb n U D)(hU:Rows8 U):w.rangeAt lb 1 (Yb U):=λj v hv=>by
 have hj:j<(Yb U).length:=(List.getElem?_eq_some_iff.1 hv).1;have m2:j<8:=by simpa [Yb,hU.len] using hj
 rw[h.up hU m2,<-hv,EW hU m2]
theorem LatAt.there{w:World}{lb:Nat}{n:Int}{U D:List Int}(h:LatAt w lb n U D)(hU:Rows8 U):w.there lb 1 8:=λj hj=>by
 rw[h.up hU hj,h.free];exact⟨rfl,rfl⟩
theorem B7{b:Nat}(hb:b<8):(2:Int) ^ b%256=2 ^ b:=by
 have:=GW hb;omega
theorem Zea(n:Int):JA n YO YO=[.int .i64 n,.int .u8 0,.int .u8 0,.int .u8 0,.int .u8 0,.int .u8 0,.int .u8 0,.int .u8 0,.int .u8 0,.int .u8 0,.int .u8 0,.int .u8 0,.int .u8 0,.int .u8 0,.int .u8 0,.int .u8 0,.int .u8 0]:=rfl
def U9(n:Int)(l:List (Int × Int))(w:World)(e:Ending)(w':World):Prop:=
 ((Lat n l∧∃ (lb N:Nat) (U D:List Int),n=N∧e=.returned (.tuple #[.pointer (some ⟨lb,0,none⟩),.int .i64 0])∧LatAt w' lb N U D∧LatR N l U D∧w.heap.size≤lb) ∨
  (¬Lat n l/\∃ k:Int,e=.returned (.tuple #[.pointer none,.int .i64 k])/\k≠0))/\Later w w'
theorem YT{n:Int}{l:List (Int × Int)}{w w':World}(k:Int)(hk:k≠0)(hn:¬ Lat n l)(hl:Later w w'):U9 n l w (.returned (.tuple #[.pointer none,.int .i64 k])) w':=⟨.inr ⟨hn,k,rfl,hk⟩,hl⟩
theorem ZhJ(w:World)(n:Int)(l:List (Int × Int))(a:Option Addr)(cap:Nat)(h:¬ (1<=n/\n<=8/\l.length<=64))(hl:l.length<=140737488355328) :
 Calls Tryz.prog 106 #[.int .i64 n,.slice a l.length cap] w (U9 n l w):=by
 have a2:¬ Lat n l:=λk=>h ⟨k.lo,k.hi,k.few⟩
 have HP:=Hd (YT (w:=w) (w':=w) 40 (by decide) a2 (Later.refl w))
 obtain⟨PT,hPT⟩:∃ PT,U9 n l w=PT:=⟨_,rfl⟩
 rw[hPT]at HP ⊢;clear hPT a2;by_cases h1:n<1
 ·clear h
  go_enter Tryz.func106,Tryz.ntmps106
  go_wp2_with fail
  exact HP.out
 ·by_cases h2:8<n
  ·clear h
   go_enter Tryz.func106,Tryz.ntmps106
   go_wp2_with fail
   exact HP.out
  ·have h3:64<l.length:=by omega
   obtain⟨m,hm⟩:∃ m,l.length=m:=⟨_,rfl⟩
   rw[hm]at h3 hl ⊢;clear h hm
   go_enter Tryz.func106,Tryz.ntmps106
   go_wp2_with fail
   exact HP.out
theorem ZfX(w:World)(N:Nat)(l:List (Int × Int))(a:Option Addr)(cap:Nat)(h1:1<=N)(h8:N<=8)(hl:l.length<=64)(hrow:RowAt w 2 (.slice a l.length cap) (l.map XA))(hI:∀ x∈l,Bz x) :
 Calls Tryz.prog 106 #[.int .i64 N,.slice a l.length cap] w (U9 N l w):=by
 obtain⟨PT,hPT⟩:∃ PT,U9 N l w=PT:=⟨_,rfl⟩
 rw[hPT];have P0:=Hd hPT;have j0:=Hd hrow;have HI:=Hd hI;have hdl:decide ((64:Int)<(l.length:Int))=false:=decide_eq_false (by omega);clear hPT hrow hI
 go_enter Tryz.func106,Tryz.ntmps106
 go_wp2_with fail
 obtain⟨lb,hlb⟩:∃ lb,w.heap.size=lb:=⟨_,rfl⟩
 rw[hlb]
 obtain⟨w1,hw1⟩:∃ w1,w.alloc (.cells (JA N YO YO).toArray 177)=w1:=⟨_,rfl⟩
 rw[Zea]at hw1;rw[hw1];have a1:LatAt w1 lb N YO YO:=by unfold LatAt;rw[<-hw1,Zea];exact Zo hlb
 have l0:Later w w1:=by rw[<-hw1];exact(Later.refl w).alloc _
 have J2:=Hd (And.intro a1 l0);clear hw1 a1 l0
 go_loopw [30] (λv wx=>∃ i:Nat,i<=N/\v=.int .i64 i/\LatAt wx lb N (Vf i) YO/\Later w wx) (λv _=>N - (intOf v).toNat)
 case atStart=>exact⟨0,by omega,rfl,J2.out.1,J2.out.2⟩
 case round=>
  obtain⟨i,hi,rfl,hat,hlx⟩:=hrel;have hD:=Yi i (by omega);have S1:=Hd hat;by_cases hlt:i<N
  ·have k1:=hat.up hD (show i<8 by omega);have k2:=hat.free (1+i);have y0:=B7 (show i<8 by omega);have i1:(i:Int)<8:=by omega
   have i2:(0:Int)<=(i:Int):=by omega
   have HN:=Hd (hat.setUp hD (show i<8 by omega) (2 ^ i));have n1:=Hd y0;clear hat hD y0
   go_wp2_with fail
   go_region
   generalize hWZ:World.drew _=WZ
   have v0:LatAt WZ lb N (Vf (i+1)) YO:=by
    rw[<-hWZ,n1.out];exact HN.out
   have j1:Later w WZ:=by
    rw[<-hWZ];exact Later.drew (Later.setC hlx (by omega) _ _)
   have S0:=Hd v0;clear hWZ k1 k2 v0
   go_wp2_with fail
   exact⟨⟨i+1,by omega,by simp,S0.out,j1⟩,by simp only[intOf];omega⟩
  ·have e0:i=N:=by omega
   rw[e0]at S1;clear e0 hat hD;have r2:RowAt wr 2 (.slice a l.length cap) (l.map XA):=j0.out.later hlx;have m1:=Hd r2;have l2:=Hd hlx;clear r2 hlx
   obtain⟨wd,hwd⟩:∃ wd:World,wd=wr:=⟨_,rfl⟩
   rw[<-hwd]at S1 m1 l2 ⊢;clear hwd
   go_wp2_with fail
   go_loopw [43] (λv wx=>∃ j:Nat,j<=l.length/\v=.int .i64 j/\(∀p∈l.take j,lev N p.1/\lev N p.2)/\LatAt wx lb N (Y0 (Vf N) (l.take j)) YO/\Later w wx) (λv _=>l.length - (intOf v).toNat)
   case atStart=>exact⟨0,by omega,rfl,λp hp=>by simp at hp,S1.out,l2.out⟩
   case round=>
    obtain⟨j,hj,rfl,hlv,hat,hlx⟩:=hrel;have hR:=VZ (n:=N) (by omega) (l.take j) (Vf N) (Yi N h8) hlv;have z1:=Hd hlv;have A1:=Hd hlx;have hlbl:=hat.lt;by_cases hlt:j<l.length
    ·obtain⟨b,o,rfl,hb,hc⟩:=Zz (j0.out.later hlx) hlt;have i0:=List.take_succ_eq_append_getElem hlt;have o0:=List.getElem_mem hlt;have hI:=HI.out _ o0
     obtain⟨x,hx⟩:∃ x,l[j]=x:=⟨_,rfl⟩
     rw[hx]at hc i0 hI o0;have HS:Hid (Y0 (Vf N) (l.take (j+1))=addR (Y0 (Vf N) (l.take j)) x.1.toNat x.2.toNat):=Hd (by rw[i0,Bg]);have M2:=Hd i0;have g1:=Hd o0;clear hx i0 hlv o0;obtain⟨x1,x2⟩:=x;have c0:=hc 0 (by omega);have c1:=hc 1 (by omega);simp only[XA,List.getElem?_cons_zero,List.getElem?_cons_succ,Nat.add_zero,Nat.mul_one]at c0 c1
     obtain⟨R,hRe⟩:∃ R,Y0 (Vf N) (l.take j)=R:=⟨_,rfl⟩
     rw[hRe]at HS hat hR;have T1:=Hd hat;have N1:=Hd hR;have t1:=Hd (λ(w2:World) (h:Later wr w2) (z:Int)=>Gk w2 lb N z (hat.later h).n);clear hc hRe hat hR hI hlx;by_cases hx1:0<=x1/\x1<(N:Int)
     ·by_cases F0:0<=x2/\x2<(N:Int)
      ·obtain⟨p1,q1⟩:=hx1;obtain⟨p2,q2⟩:=F0;obtain⟨y1,rfl⟩:=Int.eq_ofNat_of_zero_le p1;obtain⟨y2,rfl⟩:=Int.eq_ofNat_of_zero_le p2;have H1:=Hd (λw2 h=>t1.out w2 h y1);have H2:=Hd (λw2 h=>t1.out w2 h y2);rw[Vr p1 q1]at H1;rw[Vr p2 q2]at H2
       go_upto_region 14 with(first
        |(go_at_call 133;(with_reducible refine(H1.out _ ((Later.refl wr).alloc _)).mono ?_);rintro e w' ⟨rfl,rfl⟩)
        |(go_at_call 133;(with_reducible refine(H2.out _ ((Later.refl wr).alloc _)).mono ?_);rintro e w' ⟨rfl,rfl⟩)
        |fail)
       obtain⟨pb,hpb⟩:∃ pb,wr.heap.size=pb:=⟨_,rfl⟩
       rw[hpb]
       obtain⟨w2,hw2⟩:∃ w2,wr.alloc (.cells #[.int .i64 (y1:Int),.int .i64 (y2:Int)] 47)=w2:=⟨_,rfl⟩
       rw[hw2];have C1:Later wr w2:=by rw[<-hw2];exact(Later.refl wr).alloc _
       have H0:w2.heap[pb]?=some (.cells #[.int .i64 (y1:Int),.int .i64 (y2:Int)] 47 (0,0)):=by rw[<-hw2];exact Zo hpb
       have d0:=Zb H0 0;have d1:=Zb H0 1;have m0:=T1.out.later C1;have k1:=m0.up N1.out (show y1<8 by omega);have k2:=m0.free (1+y1);have t0:=N1.out.get y1;have i1:(y1:Int)<8:=by omega
       have i2:(y2:Int)<8:=by omega
       have z0:=Zhx t0 (GW (show y2<8 by omega));have HN:=Hd (m0.setUp N1.out (show y1<8 by omega) (orI (R[y1]?.getD 0) (2 ^ y2)));have y0:=B7 (show y2<8 by omega);have F1:=ZiE (show y2<8 by omega)
       obtain⟨y,hye⟩:∃ y,R[y1]?.getD 0=y:=⟨_,rfl⟩
       rw[hye]at k1 t0 z0 HN;have L1:=Hd hye;have J1:=Hd z0;have n1:=Hd y0;have HSW:=Hd F1;clear hw2 H0 m0 hye z0 y0 F1
       go_region
       generalize hWZ:World.drew _=WZ
       have v0:LatAt WZ lb N (addR R y1 y2) YO:=by
        rw[<-hWZ,n1.out,J1.out];unfold addR;rw[L1.out];exact HN.out
       have j1:Later w WZ:=by
        rw[<-hWZ];exact Later.drew (Later.setC (A1.out.trans C1) (by omega) _ _)
       have S0:=Hd v0;clear hWZ k1 k2 d0 d1 v0
       go_wp2_with fail
       refine⟨⟨j+1,by omega,by simp,λp hp=>?_,?_,j1⟩,by simp only[intOf];omega⟩
       ·rw[M2.out]at hp;rcases List.mem_append.1 hp with hp|hp
        ·exact z1.out p hp
        ·rw[List.mem_singleton.1 hp];exact⟨⟨p1,q1⟩,p2,q2⟩
       ·rw[HS.out];exact S0.out
      ·obtain⟨p1,q1⟩:=hx1;have H1:=Hd (λw2 h=>t1.out w2 h x1);have H2:=Hd (λw2 h=>t1.out w2 h x2);rw[Vr p1 q1]at H1;rw[QU F0]at H2;have M1:=Hd (show ¬Lat N l from λk=>F0 (k.pairs _ g1.out).2);clear F0
       go_wp2_with (first
        |(go_at_call 133;(with_reducible refine(H1.out _ ((Later.refl wr).alloc _)).mono ?_);rintro e w' ⟨rfl,rfl⟩)
        |(go_at_call 133;(with_reducible refine(H2.out _ ((Later.refl wr).alloc _)).mono ?_);rintro e w' ⟨rfl,rfl⟩)
        |fail)
       rw[<-P0.out];exact YT 41 (by decide) M1.out (A1.out.alloc _)
     ·have H1:=Hd (λw2 h=>t1.out w2 h x1);rw[QU hx1]at H1;have M1:=Hd (show ¬Lat N l from λk=>hx1 (k.pairs _ g1.out).1);clear hx1
      go_wp2_with (first
       |(go_at_call 133;(with_reducible refine(H1.out _ ((Later.refl wr).alloc _)).mono ?_);rintro e w' ⟨rfl,rfl⟩)
       |fail)
      rw[<-P0.out];exact YT 41 (by decide) M1.out (A1.out.alloc _)
    ·have K1:j=l.length:=by omega
     rw[K1,List.take_of_length_le (Nat.le_refl _)]at hat hR;rw[K1,List.take_of_length_le (Nat.le_refl _)]at hlv
     obtain⟨R,hRe⟩:∃ R,Y0 (Vf N) l=R:=⟨_,rfl⟩
     have g0:Je N l R:=by rw[<-hRe];exact EO h8 hlv
     have k0:Zcw N l R:=by rw[<-hRe];exact GY h8 hlv
     rw[hRe]at hat hR
     obtain⟨RV,hRV⟩:∃ RV,Yb R=RV:=⟨_,rfl⟩
     have g2:=Hd (show Calls Tryz.prog 134 #[.agg RV.toArray] wr (Ea R wr) by rw[<-hRV];exact BK wr R hR);have z2:=Hd (show wr.rangeAt lb 1 RV by rw[<-hRV];exact hat.range hR);have K2:=Hd (show(Tryz.prog.info? 175).map (·.size)=some RV.length by rw[<-hRV,show(Yb R).length=8 by simp[Yb,hR.len]];exact Zeg);have b1:=Hd (And.intro (And.intro hat hR) (And.intro g0 (And.intro k0 hlv)));clear hat hR hRe g0 k0 hlv z1 hRV K1
     go_upto_region 17 with(first
      |refine wpList_load_mid rfl 175 (.tmp 77) rfl lb 1 rfl RV _ z2.out Tryz.underlying175 rfl K2.out ?_
      |(go_at_call 134;(with_reducible refine g2.out.mono ?_);rintro e w2 ⟨U,rfl,hU,hUp,hUs,hUn,hUl⟩;have M0:=Hd (b1.out.1.1.later hUl);have o2:=Hd (M0.out.there b1.out.1.2);have A2:=Hd (Es hU);have t2:=Hd (show w2.there lb 1 (XS U).size by rw[Vl hU];exact o2.out))
      |refine wpList_store_mid rfl 175 (.tmp 81) (.tmp 79) rfl lb 1 (XS U) rfl rfl t2.out A2.out (D8 U) ?_
      |fail)
     obtain⟨w3,hw3⟩:∃ w3,w2.setCells lb 1 (XS U).toList=w3:=⟨_,rfl⟩
     rw[hw3]
     have o1:LatAt w3 lb N U YO:=by
      rw[<-hw3,show(XS U).toList=Yb U from rfl];exact M0.out.setAll b1.out.1.2 hU
     have O0:Later w w3:=by rw[<-hw3];exact VM _ _ _ _ _ (A1.out.trans hUl) (by omega)
     obtain⟨⟨-, -⟩,g0,k0,hlv⟩:=b1.out;have W1:=Hd (Dh h1 h8 hlv hU hUp (hUn _ _ g0) (ZgH k0 hUs));have n0:=Hd hU;have F2:=Hd (And.intro o1 O0);clear hw3 o1 O0 g0 k0 hlv hU hUp hUs hUn hUl M0 o2 A2 t2 g2 z2 K2;clear b1
     go_wp2_with fail
     go_loopw [83] (λv wx=>∃ a:Nat,a<=N/\v=.int .i64 a/\LatAt wx lb N U (En U N a)/\Later w wx) (λv _=>N - (intOf v).toNat)
     case atStart=>exact⟨0,by omega,rfl,F2.out.1,F2.out.2⟩
     case round=>
      obtain⟨a',ha,rfl,hat,hlx⟩:=hrel;have j2:=(VA (U:=U) h8 a' (by omega)).1;have b0:=Hd hat;have r0:=Hd j2;clear hat j2;by_cases hlt:a'<N
      ·obtain⟨we,hwe⟩:∃ we:World,we=wr:=⟨_,rfl⟩
       rw[<-hwe]at b0 hlx ⊢;clear hwe
       obtain⟨B,hB⟩:∃ B,En U N a'=B:=⟨_,rfl⟩
       rw[hB]at b0 r0;have HB:=Hd hB;clear hB
       go_wp2_with fail
       go_loopw [87] (λv wx=>∃ k:Nat,k<=N/\v=.int .i64 k/\LatAt wx lb N U (UE U B a' k)/\Later w wx) (λv _=>N - (intOf v).toNat)
       case atStart=>exact⟨0,by omega,rfl,b0.out,hlx⟩
       case round=>
        obtain⟨k,hk,rfl,hat,hly⟩:=hrel;have T0:=(U3 (U:=U) r0.out (show a'<8 by omega) k (by omega)).1;have f0:UE U B a' (k+1)=if bitR U a' k then addR (UE U B a' k) k a' else UE U B a' k:=rfl
        obtain⟨C,hC⟩:∃ C,UE U B a' k=C:=⟨_,rfl⟩
        rw[hC]at hat T0 f0;have s0:=Hd f0;have HC:=Hd hC;have R0:=Hd hat;clear f0 hC;by_cases hltk:k<N
        ·have n2:=n0.out.get a';have k1:=hat.up n0.out (show a'<8 by omega);have ht:=D0 n2 k;have s1:bitR U a' k=(U[a']?.getD 0).toNat.testBit k:=rfl;rw[<-s1]at ht
         obtain⟨x,hx⟩:∃ x,U[a']?.getD 0=x:=⟨_,rfl⟩
         rw[hx]at k1 ht n2;have k2:=hat.down n0.out T0 (show k<8 by omega);have k3:=hat.free (9+k);have t0:=T0.get k;have z0:=Zhx t0 (GW (show a'<8 by omega));have HN:=Hd (hat.setDown n0.out (a:=k) (orI (C[k]?.getD 0) (2 ^ a')));have n1:=Hd (B7 (show a'<8 by omega))
         obtain⟨y,hye⟩:∃ y,C[k]?.getD 0=y:=⟨_,rfl⟩
         rw[hye]at k2 t0 z0 HN;have L1:=Hd hye;have J1:=Hd z0;have i1:(a':Int)<8:=by omega
         have i2:(0:Int)<=(a':Int):=by omega
         have i3:(k:Int)<8:=by omega
         have i4:(0:Int)<=(k:Int):=by omega
         clear s1 hx hye z0 hat T0;cases hbb:bitR U a' k
         ·rw[hbb]at ht;have I1:=Hd hbb;clear hbb
          go_wp2_with fail
          refine⟨⟨k+1,by omega,by simp,?_,hly⟩,by simp only[intOf];omega⟩;rw[s0.out,I1.out];exact R0.out
         ·rw[hbb]at ht;have I1:=Hd hbb;clear hbb
          go_wp2_with fail
          go_region
          generalize hWZ:World.drew _=WZ
          have v0:LatAt WZ lb N U (addR C k a'):=by
           rw[<-hWZ,n1.out,J1.out];unfold addR;rw[L1.out];exact HN.out
          have j1:Later w WZ:=by
           rw[<-hWZ];exact Later.drew (Later.setC hly (by omega) _ _)
          have S0:=Hd v0;clear hWZ k1 k2 k3 v0 ht
          go_wp2_with fail
          refine⟨⟨k+1,by omega,by simp,?_,j1⟩,by simp only[intOf];omega⟩;rw[s0.out,I1.out];exact S0.out
        ·have b2:k=N:=by omega
         have HF:=Hd (show LatAt wr lb N U (En U N (a'+1)) by
          have e:En U N (a'+1)=UE U (En U N a') a' N:=rfl;have e2:UE U B a' N=C:=by rw[<-b2];exact HC.out
          rw[e,HB.out,e2];exact R0.out)
         clear hat T0 b2
         go_wp2_with fail
         exact⟨⟨a'+1,by omega,by simp,HF.out,hly⟩,by simp only[intOf];omega⟩
      ·have C2:a'=N:=by omega
       rw[C2]at b0 r0;clear C2
       obtain⟨D,hD⟩:∃ D,En U N N=D:=⟨_,rfl⟩
       rw[hD]at b0 r0 W1;have HD:=Hd hD;have q0:=Hd (ZdL W1.out hl);have r1:=Hd hlx
       obtain⟨we,hwe⟩:∃ we:World,we=wr:=⟨_,rfl⟩
       rw[<-hwe]at b0 r1 ⊢;clear hwe hD hlx
       go_wp2_with fail
       go_loopw [115] (λv wx=>∃ i:Nat,i<=N/\v=.int .i64 i/\(∀c,c<i->andI (U[c]?.getD 0) (D[c]?.getD 0)=2 ^ c)/\LatAt wx lb N U D/\Later w wx) (λv _=>N - (intOf v).toNat)
       case atStart=>exact⟨0,by omega,rfl,λc hc=>absurd hc (by omega),b0.out,r1.out⟩
       case round=>
        obtain⟨i5,hi5,rfl,hok,hat,hlx⟩:=hrel;have P1:=Hd hok;clear hok;have I0:=Hd hat;by_cases hlt5:i5<N
        ·have k1:=hat.up n0.out (show i5<8 by omega);have k2:=hat.down n0.out r0.out (show i5<8 by omega);have L2:=n0.out.get i5;have t0:=r0.out.get i5;have N0:=ZaT L2 t0
         obtain⟨x,hx⟩:∃ x,U[i5]?.getD 0=x:=⟨_,rfl⟩
         obtain⟨y,hy⟩:∃ y,D[i5]?.getD 0=y:=⟨_,rfl⟩
         rw[hx]at k1 L2 N0;rw[hy]at k2 t0 N0
         obtain⟨z,hz⟩:∃ z,andI x y=z:=⟨_,rfl⟩
         rw[hz]at N0
         obtain⟨T,hT⟩:∃ T:Int,2 ^ i5=T:=⟨_,rfl⟩
         have y0:=B7 (show i5<8 by omega);have F1:=ZiE (show i5<8 by omega);rw[hT]at y0 F1;have I2:=Hd (And.intro hx (And.intro hy (And.intro hz hT)));have i1:(i5:Int)<8:=by omega
         have i2:(0:Int)<=(i5:Int):=by omega
         clear hx hy hz hat;by_cases hzT:z=T
         ·have O2:(z != T)=false:=by simpa using hzT
          have O1:=Hd hzT;clear hzT
          go_wp2_with fail
          go_quiet (fail)
          go_wp2_with fail
          refine⟨⟨i5+1,by omega,by simp,λc hc=>?_,I0.out,Later.drewN hlx _⟩,by simp only[intOf];omega⟩;rcases(by omega:c<i5\/c=i5) with hc'|rfl
          ·exact P1.out c hc'
          ·obtain⟨e1,e2,e3,e4⟩:=I2.out;rw[e1,e2,e3,e4];exact O1.out
         ·have O2:(z != T)=true:=by simpa using hzT
          have O1:=Hd hzT;clear hzT
          go_wp2_with fail
          go_quiet (fail)
          go_wp2_with fail
          rw[<-P0.out];refine YT 42 (by decide) (λk=>?_) (Later.drewN hlx _);have:=(q0.out.2 k).1 i5 hlt5;obtain⟨e1,e2,e3,e4⟩:=I2.out;rw[e1,e2,e3,e4]at this;exact O1.out this
        ·have e0:i5=N:=by omega
         rw[e0]at P1;clear e0 hat;have f1:=Hd hlx
         obtain⟨we,hwe⟩:∃ we:World,we=wr:=⟨_,rfl⟩
         rw[<-hwe]at I0 f1 ⊢;clear hwe hlx
         go_wp2_with fail
         go_loopw [136] (λv wx=>∃ i:Nat,i<=N/\v=.int .i64 i/\(∀c,c<i->∀ b,b<N->VN U N (andI (U[c]?.getD 0) (U[b]?.getD 0))/\VN D N (andI (D[c]?.getD 0) (D[b]?.getD 0)))/\LatAt wx lb N U D/\Later w wx) (λv _=>N - (intOf v).toNat)
         case atStart=>exact⟨0,by omega,rfl,λc hc=>absurd hc (by omega),I0.out,f1.out⟩
         case round=>
          obtain⟨i6,hi6,rfl,hok6,hat,hlx⟩:=hrel;have C0:=Hd hok6;have A0:=Hd hat;have l1:=Hd hlx;clear hok6 hat;by_cases hlt6:i6<N
          ·obtain⟨we,hwe⟩:∃ we:World,we=wr:=⟨_,rfl⟩
           rw[<-hwe]at A0 l1 hlx ⊢;clear hwe
           go_wp2_with fail
           go_loopw [140] (λv wx=>∃ j:Nat,j<=N/\v=.int .i64 j/\(∀b,b<j->VN U N (andI (U[i6]?.getD 0) (U[b]?.getD 0))/\VN D N (andI (D[i6]?.getD 0) (D[b]?.getD 0)))/\LatAt wx lb N U D/\Later w wx) (λv _=>N - (intOf v).toNat)
           case atStart=>exact⟨0,by omega,rfl,λc hc=>absurd hc (by omega),A0.out,l1.out⟩
           case round=>
            obtain⟨i7,hi7,rfl,hok7,hat,hly⟩:=hrel;have L0:=Hd hok7;have p0:=Hd hat;clear hok7 hat;by_cases hlt7:i7<N
            ·have HJ:=Hd (λw2 (h:Later wr w2)=>Zf4 w2 lb N i6 i7 U D (p0.out.later h) n0.out r0.out h8 hlt6 hlt7);have HM:=Hd (λw2 (h:Later wr w2)=>Zf3 w2 lb N i6 i7 U D (p0.out.later h) n0.out r0.out h8 hlt6 hlt7);have E1:=Hd (ZaM U (andI (U[i6]?.getD 0) (U[i7]?.getD 0)) N);have E2:=Hd (ZaM D (andI (D[i6]?.getD 0) (D[i7]?.getD 0)) N)
             obtain⟨v1,hv1⟩:∃ v1,endF U (andI (U[i6]?.getD 0) (U[i7]?.getD 0)) 0 N=v1:=⟨_,rfl⟩
             obtain⟨v2,hv2⟩:∃ v2,endF D (andI (D[i6]?.getD 0) (D[i7]?.getD 0)) 0 N=v2:=⟨_,rfl⟩
             rw[hv1]at HJ E1;rw[hv2]at HM E2;clear hv1 hv2;by_cases hn1:v1<0
             ·go_wp2_with (first
               |(go_at_call 135;(with_reducible refine(HJ.out _ (Later.refl _)).mono ?_);rintro e w' ⟨rfl,q1,rfl⟩)
               |fail)
              rw[<-P0.out];refine YT 43 (by decide) (λk=>?_) (Later.drewN hly _);have:=E1.out.2 ((q0.out.2 k).2 i6 hlt6 i7 hlt7).1;omega
             ·by_cases hn2:v2<0
              ·go_wp2_with (first
                |(go_at_call 135;(with_reducible refine(HJ.out _ (Later.refl _)).mono ?_);rintro e w' ⟨rfl,q1,rfl⟩)
                |(go_at_call 136;(with_reducible refine(HM.out _ (Later.drewN (Later.refl _) _)).mono ?_);rintro e w' ⟨rfl,q2,rfl⟩)
                |fail)
               rw[<-P0.out];refine YT 43 (by decide) (λk=>?_) (Later.drewN hly _);have:=E2.out.2 ((q0.out.2 k).2 i6 hlt6 i7 hlt7).2;omega
              ·have hd1:decide (v1<0)=false:=decide_eq_false hn1;have hd2:decide (v2<0)=false:=decide_eq_false hn2
               go_wp2_with (first
                |(go_at_call 135;(with_reducible refine(HJ.out _ (Later.refl _)).mono ?_);rintro e w' ⟨rfl,q1,rfl⟩)
                |(go_at_call 136;(with_reducible refine(HM.out _ (Later.drewN (Later.refl _) _)).mono ?_);rintro e w' ⟨rfl,q2,rfl⟩)
                |fail)
               refine⟨⟨i7+1,by omega,by simp,λc hc=>?_,p0.out,Later.drewN hly _⟩,by simp only[intOf];omega⟩;rcases(by omega:c<i7\/c=i7) with hc'|rfl
               ·exact L0.out c hc'
               ·exact⟨E1.out.1 (by omega),E2.out.1 (by omega)⟩
            ·have e0:i7=N:=by omega
             rw[e0]at L0;clear e0
             go_wp2_with fail
             refine⟨⟨i6+1,by omega,by simp,λc hc=>?_,p0.out,hly⟩,by simp only[intOf];omega⟩;rcases(by omega:c<i6\/c=i6) with hc'|rfl
             ·exact C0.out c hc'
             ·exact L0.out
          ·have e0:i6=N:=by omega
           rw[e0]at C0;clear e0
           go_wp2_with fail
           rw[<-P0.out];exact⟨.inl ⟨q0.out.1 ⟨P1.out,C0.out⟩,lb,N,U,D,rfl,rfl,A0.out,W1.out,by omega⟩,hlx⟩
end Go.Proofs.YtbchkjfnakabkaaGreatDoor
namespace Go.Proofs.YtbchkjfnakabkaaGreatDoor
open Go.RowKit PX PC
def Dn(c:Cfg)(vF vP vW vO vV vR vK lv:Value):Array Value:=#[.int .i64 c.levels,vF,vP,vW,vO,vV,.int .i64 c.audit.level,.int .i64 c.audit.first,.int .i64 c.audit.count,.int .i64 c.audit.journal,.int .i64 c.boot,.int .i64 c.sectors,vR,vK,.string c.login,.int .i64 c.recovery,.int .i64 c.bound,lv]
structure FormIn (w:World) (fb:Nat) (c:Cfg) (vF vP vW vO vV vR vK lv:Value):Prop where
 blk:w.heap[fb]?=some (.cells (Dn c vF vP vW vO vV vR vK lv) 61 (0,0))
 rF:RowAt w 2 vF (c.flows.map XA)
 rP:RowAt w 2 vP (c.parts.map XT)
 rW:RowAt w 3 vW (c.windows.map winC)
 rO:RowAt w 5 vO (c.ports.map porC)
 rV:RowAt w 4 vV (c.volumes.map volC)
 rR:RowAt w 5 vR (c.rules.map ruC)
 rK:RowAt w 1 vK (c.keys.map keyC)
theorem FormIn.later{w w':World}{fb:Nat}{c:Cfg}{vF vP vW vO vV vR vK lv:Value}(h:FormIn w fb c vF vP vW vO vV vR vK lv)(hl:Later w w'):FormIn w' fb c vF vP vW vO vV vR vK lv:=
 ⟨hl.block h.blk,h.rF.later hl,h.rP.later hl,h.rW.later hl,h.rO.later hl,h.rV.later hl,h.rR.later hl,h.rK.later hl⟩
theorem FormIn.cell{w:World}{fb:Nat}{c:Cfg}{vF vP vW vO vV vR vK lv:Value}(h:FormIn w fb c vF vP vW vO vV vR vK lv)(j:Nat):w.cell? ⟨fb,j,none⟩=(Dn c vF vP vW vO vV vR vK lv)[j]?:=Zb h.blk j
theorem ZhQ{n lo hi:Int}(h0:lo<=n)(h1:n<=hi):inB n lo hi=true:=by unfold inB;rw[decide_eq_true h0,decide_eq_true h1];rfl
theorem Zg0{n lo hi:Int}(h:¬ (lo<=n/\n<=hi)):inB n lo hi=false:=by rw[Bool.eq_false_iff];exact λk=>h (ZI.1 k)
theorem XD(w:World)(n lo hi:Int):Calls Tryz.prog 23 #[.int .i64 n,.int .i64 lo,.int .i64 hi] w λe w'=>e=.returned (.bool (inB n lo hi))/\w'=w:=by
 by_cases h0:lo<=n
 ·by_cases h1:n<=hi
  ·rw[ZhQ h0 h1]
   go_enter Tryz.func23,Tryz.ntmps23
   go_wp2_with fail
   go_ret
   exact⟨rfl,rfl⟩
  ·rw[Zg0 (λh=>h1 h.2)]
   go_enter Tryz.func23,Tryz.ntmps23
   go_wp2_with fail
   go_ret
   exact⟨rfl,rfl⟩
 ·rw[Zg0 (λh=>h0 h.1)]
  go_enter Tryz.func23,Tryz.ntmps23
  go_wp2_with fail
  go_ret
  exact⟨rfl,rfl⟩
theorem Vt(w:World)(fb:Nat)(c:Cfg)(n:Int)(hc:w.cell? ⟨fb,0,none⟩=some (.int .i64 c.levels))(h1:1<=c.levels)(h8:c.levels<=8) :
 Calls Tryz.prog 109 #[.pointer (some ⟨fb,0,none⟩),.int .i64 n] w λe w'=>e=.returned (.bool (c.lvl n))/\w'=w:=by
 have a0:=Hd (show Calls Tryz.prog 23 #[.int .i64 n,.int .i64 0,.int .i64 (c.levels - 1)] w λe w'=>e=.returned (.bool (c.lvl n))/\w'=w from XD w n 0 (c.levels - 1))
 obtain⟨b,hb⟩:∃ b,c.lvl n=b:=⟨_,rfl⟩
 rw[hb]at a0 ⊢
 obtain⟨L,hL⟩:∃ L,c.levels=L:=⟨_,rfl⟩
 rw[hL]at a0 hc h1 h8;clear hb hL
 go_enter Tryz.func109,Tryz.ntmps109
 go_wp2_with (first
  |(go_at_call 23;(with_reducible refine a0.out.mono ?_);rintro e w' ⟨rfl,rfl⟩)
  |fail)
 go_ret
 exact⟨rfl,rfl⟩
theorem Gs(w:World)(fb:Nat)(c:Cfg)(n:Int)(a:Option Addr)(cap:Nat)(hc:w.cell? ⟨fb,2,none⟩=some (.slice a c.parts.length cap))(hl:c.parts.length<=140737488355328) :
 Calls Tryz.prog 111 #[.pointer (some ⟨fb,0,none⟩),.int .i64 n] w λe w'=>e=.returned (.bool (c.prt n))/\w'=w:=by
 have a0:=Hd (show Calls Tryz.prog 23 #[.int .i64 n,.int .i64 0,.int .i64 ((c.parts.length:Int) - 1)] w λe w'=>e=.returned (.bool (c.prt n))/\w'=w from XD w n 0 _)
 obtain⟨b,hb⟩:∃ b,c.prt n=b:=⟨_,rfl⟩
 rw[hb]at a0 ⊢
 obtain⟨L,hL⟩:∃ L,c.parts.length=L:=⟨_,rfl⟩
 rw[hL]at a0 hc hl;clear hb hL
 go_enter Tryz.func111,Tryz.ntmps111
 go_wp2_with (first
  |(go_at_call 23;(with_reducible refine a0.out.mono ?_);rintro e w' ⟨rfl,rfl⟩)
  |fail)
 go_ret
 exact⟨rfl,rfl⟩
theorem Wx:∀ (l:List Win) (x:Win) (k i:Int),sumT (l++[x]) k i=sumT l k i+(if x.kind=k/\x.index=i then x.ticks else 0)
 |[],x,k,i=>by simp[sumT]
 |y::l,x,k,i=>by simp only[List.cons_append,sumT,Wx l x k i];omega
theorem Qy:∀ (l:List Win) (k i:Int),(∀x∈l,1<=x.ticks/\x.ticks<=255)->0<=sumT l k i/\sumT l k i<=255*l.length
 |[],k,i,_=>by simp[sumT]
 |y::l,k,i,h=>by
  have h1:=Qy l k i λx hx=>h x (List.mem_cons_of_mem y hx)
  have h2:=h y List.mem_cons_self;simp only[sumT,List.length_cons];split<;>omega
def U7(c:Cfg):Prop:=c.windows.length<=64/\∀ x∈c.windows,1<=x.ticks/\x.ticks<=255
theorem Qf(w:World)(fb:Nat)(c:Cfg)(v:Value)(k i:Int)(hc:w.cell? ⟨fb,3,none⟩=some v)(hrow:RowAt w 3 v (c.windows.map winC))(hw:U7 c) :
 Calls Tryz.prog 77 #[.pointer (some ⟨fb,0,none⟩),.int .i64 k,.int .i64 i] w λe w'=>e=.returned (.int .i64 (c.tk k i))/\Later w w':=by
 obtain⟨a,cap,rfl,l0,C1,O0⟩:=Zk hrow;have j0:=Hd hrow;have HW:=Hd hw;have i0:c.tk k i=sumT c.windows k i:=rfl;rw[i0]
 obtain⟨l,hl⟩:∃ l,c.windows=l:=⟨_,rfl⟩
 have R1:=Hd (show l.length<=64/\∀ x∈l,1<=x.ticks/\x.ticks<=255 by rw[<-hl];exact hw);have hl64:=R1.out.1;rw[hl]at hc j0 l0 O0 ⊢;clear hrow hw i0 HW hl
 go_enter Tryz.func77,Tryz.ntmps77
 go_wp2_with fail
 go_loopw [7,16] (λvn vi wr=>∃ j:Nat,j<=l.length/\vi=.int .i64 (j:Int)/\vn=.int .i64 (sumT (l.take j) k i)/\Later w wr) (λ_ vi _=>l.length - (intOf vi).toNat)
 case atStart=>exact⟨0,by omega,rfl,rfl,Later.refl _⟩
 case round=>
  obtain⟨j,hj,rfl,rfl,hb⟩:=hrel;by_cases hlt:j<l.length
  ·obtain⟨b,o,rfl,hb',hcc⟩:=Zz (j0.out.later hb) hlt;have i0:=List.take_succ_eq_append_getElem hlt;have f2:=Qy (l.take j) k i (λx hx=>R1.out.2 x (List.mem_of_mem_take hx));have N2:(l.take j).length<=64:=by rw[List.length_take];omega
   have F0:=R1.out.2 _ (List.getElem_mem hlt)
   obtain⟨x,hx⟩:∃ x,l[j]=x:=⟨_,rfl⟩
   rw[hx]at hcc i0 F0;have HS:Hid (sumT (l.take (j+1)) k i=sumT (l.take j) k i+(if x.kind=k/\x.index=i then x.ticks else 0)):=Hd (by rw[i0,Wx])
   obtain⟨s,hs⟩:∃ s,sumT (l.take j) k i=s:=⟨_,rfl⟩
   rw[hs]at HS f2 ⊢;obtain⟨hs0,hs1⟩:=f2;have hs2:s<=16320:=by omega
   clear hx i0 hs hs1 N2;obtain⟨x1,x2,x3⟩:=x;have c0:=hcc 0 (by omega);have c1:=hcc 1 (by omega);have c2:=hcc 2 (by omega);simp only[winC,List.getElem?_cons_zero,List.getElem?_cons_succ,Nat.add_zero,Nat.mul_one]at c0 c1 c2;clear hcc;obtain⟨hx3,hx4⟩:=F0;simp only at hx3 hx4;by_cases h1:x1=k
   ·have d1:(x1==k)=true:=by simpa using h1
    by_cases h2:x2=i
    ·have d2:(x2==i)=true:=by simpa using h2
     have W0:=Hd (And.intro h1 h2);clear h1 h2
     go_wp2_with fail
     refine⟨⟨j+1,by omega,by simp,?_,hb.alloc _⟩,by simp only[intOf];omega⟩;rw[HS.out,if_pos W0.out]
    ·have d2:(x2==i)=false:=by simpa using h2
     have W0:=Hd h2;clear h1 h2
     go_wp2_with fail
     refine⟨⟨j+1,by omega,by simp,?_,hb.alloc _⟩,by simp only[intOf];omega⟩;rw[HS.out,if_neg (λe=>W0.out e.2),Int.add_zero]
   ·have d1:(x1==k)=false:=by simpa using h1
    have W0:=Hd h1;clear h1
    go_wp2_with fail
    refine⟨⟨j+1,by omega,by simp,?_,hb.alloc _⟩,by simp only[intOf];omega⟩;rw[HS.out,if_neg (λe=>W0.out e.1),Int.add_zero]
  ·go_wp2_with fail
   go_ret
   refine⟨ZU ?_,hb⟩;rw[List.take_of_length_le (by omega)]
def hasW(c:Cfg)(k i:Int):Bool:=hasT c.windows k i
theorem Zgo(w:World)(fb:Nat)(c:Cfg)(v:Value)(k i:Int)(hc:w.cell? ⟨fb,3,none⟩=some v)(hrow:RowAt w 3 v (c.windows.map winC))(hw:U7 c) :
 Calls Tryz.prog 113 #[.pointer (some ⟨fb,0,none⟩),.int .i64 k,.int .i64 i] w λe w'=>e=.returned (.bool (hasW c k i))/\Later w w':=by
 have HT:=Hd (Qf w fb c v k i hc hrow hw);have hh:hasW c k i=decide (0<c.tk k i):=rfl;rw[hh]
 obtain⟨t,ht⟩:∃ t,c.tk k i=t:=⟨_,rfl⟩
 rw[ht]at HT ⊢;clear hc hrow hw hh ht
 go_enter Tryz.func113,Tryz.ntmps113
 go_wp2_with (first
  |(go_at_call 77;(with_reducible refine HT.out.mono ?_);rintro e w' ⟨rfl,l0⟩)
  |fail)
 go_ret
 exact⟨rfl,l0⟩
theorem ZgQ(w:World)(a b:Int)(ha:0<=a)(ha2:a<=1000000)(hb:0<b)(hb2:b<=1000000):Calls Tryz.prog 76 #[.int .i64 a,.int .i64 b] w λe w'=>e=.returned (.int .i64 (upI a b))/\w'=w:=by
 have hu:upI a b=(a+b - 1)/b:=rfl;rw[hu];clear hu
 go_enter Tryz.func76,Tryz.ntmps76
 go_wp2_with fail
 go_ret
 exact⟨rfl,rfl⟩
end Go.Proofs.YtbchkjfnakabkaaGreatDoor
namespace Go.Proofs.YtbchkjfnakabkaaGreatDoor
open Go.RowKit PX PC
def Eo(c:Cfg):Prop:=1<=c.levels/\c.levels<=8
theorem ZbH(w:World)(cb fb:Nat)(c:Cfg)(x:Prt)(hcb:w.cell? ⟨cb,0,none⟩=some (.pointer (some ⟨fb,0,none⟩)))(hc0:w.cell? ⟨fb,0,none⟩=some (.int .i64 c.levels))(hL:Eo c) :
 Calls Tryz.prog 108 #[ZbI x,.pointer (some ⟨cb,0,none⟩)] w λe w'=>e=.returned (.bool (YZ c x))/\Later w w':=by
 obtain⟨x1,x2⟩:=x;have hcl:=World.block_lt_of_cell? w _ hcb;have z1:=Hd (λ(w1:World) (h:Later w w1)=>Vt w1 fb c x1 (h.cell hc0) hL.1 hL.2);have a0:=Hd (λ(w1:World)=>XD w1 x2 1 16);have hp:YZ c ⟨x1,x2⟩=(inB x2 1 16&&c.lvl x1):=rfl;rw[hp];clear hp hc0
 obtain⟨q,hq⟩:∃ q,c.lvl x1=q:=⟨_,rfl⟩
 rw[hq]at z1 ⊢;clear hq;show Calls Tryz.prog 108 #[.agg #[.int .i64 x1,.int .i64 x2],.pointer (some ⟨cb,0,none⟩)] w _;cases hi:inB x2 1 16
 ·rw[hi]at a0;clear hi
  go_enter Tryz.func108,Tryz.ntmps108
  go_wp2_with (first
   |(go_at_call 23;(with_reducible refine(a0.out _).mono ?_);rintro e w' ⟨rfl,rfl⟩)
   |fail)
  go_ret
  exact⟨rfl,(Later.refl w).alloc _⟩
 ·rw[hi]at a0;clear hi
  go_enter Tryz.func108,Tryz.ntmps108
  go_wp2_with (first
   |(go_at_call 23;(with_reducible refine(a0.out _).mono ?_);rintro e w' ⟨rfl,rfl⟩)
   |(go_at_call 109;(with_reducible refine(z1.out _ ((Later.refl w).alloc _)).mono ?_);rintro e w' ⟨rfl,rfl⟩)
   |fail)
  go_ret
  exact⟨Zw (by simp),(Later.refl w).alloc _⟩
theorem Vx{w:World}{fb:Nat}:∃ (cb:Nat) (w1:World),w.heap.size=cb/\w.alloc (.cells #[.pointer (some ⟨fb,0,none⟩)] 58)=w1/\Later w w1/\w1.heap[cb]?=some (.cells #[.pointer (some ⟨fb,0,none⟩)] 58 (0,0))/\w1.cell? ⟨cb,0,none⟩=some (.pointer (some ⟨fb,0,none⟩)):=
 ⟨_,_,rfl,rfl,(Later.refl w).alloc _,Zd w _,Zb (Zd w _) 0⟩
theorem Zb9(w:World)(fb:Nat)(c:Cfg)(vF vP vW vO vV vR vK lv:Value)(h:FormIn w fb c vF vP vW vO vV vR vK lv)(hL:Eo c) :
 Calls Tryz.prog 98 #[.pointer (some ⟨fb,0,none⟩)] w λe w'=>e=.returned (.bool c.partsB)/\Later w w':=by
 obtain⟨a,cap,rfl,l0,C1,O0⟩:=Zk h.rP;obtain⟨cb,w1,hcb,hw1,hlw,hblk,hcell⟩:=Vx (w:=w) (fb:=fb);have h1:=h.later hlw;have k2:=h1.cell 2;have K0:=Hd (ZgL w1 _ c.parts h1.rP 108 #[.pointer (some ⟨cb,0,none⟩)] (enters_of Tryz.func108 (by kernel_rfl) rfl) (YZ c) (by omega) (λw2 h2 x hx=>ZbH w2 cb fb c x (h2.cell hcell) (h2.cell (h1.cell 0)) hL));have a0:=Hd (λ(w1:World)=>XD w1 (c.parts.length:Int) 1 8);have hp:c.partsB=(inB c.parts.length 1 8&&c.parts.all (YZ c)):=rfl;rw[hp]
 obtain⟨n,hn⟩:∃ n,c.parts.length=n:=⟨_,rfl⟩
 obtain⟨q,hq⟩:∃ q,c.parts.all (YZ c)=q:=⟨_,rfl⟩
 rw[hq]at K0 ⊢;simp only[Dn]at k2;rw[hn]at K0 a0 k2 l0 O0 ⊢;have k2':w1.cell? ⟨fb,2,none⟩=some (.slice a n cap):=k2;have Z1:=Hd hw1;have s2:=Hd hlw;clear h h1 k2 hp hn hq hblk hw1 hlw;cases hi:inB n 1 8
 ·rw[hi]at a0;clear hi
  go_enter Tryz.func98,Tryz.ntmps98
  go_upto_region 1 with fail
  rw[Z1.out]
  go_wp2_with (first
   |(go_at_call 23;(with_reducible refine(a0.out _).mono ?_);rintro e w' ⟨rfl,rfl⟩)
   |fail)
  go_ret
  exact⟨rfl,s2.out⟩
 ·rw[hi]at a0;clear hi
  go_enter Tryz.func98,Tryz.ntmps98
  go_upto_region 1 with fail
  rw[Z1.out]
  go_wp2_with (first
   |(go_at_call 23;(with_reducible refine(a0.out _).mono ?_);rintro e w' ⟨rfl,rfl⟩)
   |(go_at_call 107;(with_reducible refine K0.out.mono ?_);rintro e w' ⟨rfl,l0⟩)
   |fail)
  go_ret
  exact⟨Zw (by simp),s2.out.trans l0⟩
end Go.Proofs.YtbchkjfnakabkaaGreatDoor
