import Derived.Test.YtbchkjfnakabkaaGreatDoorN23
import Derived.Test.YtbchkjfnakabkaaGreatDoorY47
import Derived.Deep.MidRow
import Derived.Test.YtbchkjfnakabkaaGreatDoorN5
set_option linter.unusedSimpArgs false
set_option linter.unusedVariables false
set_option maxHeartbeats 8000000
set_option maxRecDepth 100000
namespace Go.Proofs.YtbchkjfnakabkaaGreatDoor
open Go.RowKit PX PC
theorem LatAt.lt{w:World}{lb:Nat}{n:Int}{U D:List Int}(h:LatAt w lb n U D):lb<w.heap.size:=Za h
theorem LatAt.free{w:World}{lb:Nat}{n:Int}{U D:List Int}(h:LatAt w lb n U D)(j:Nat):w.frozen? ⟨lb,j,none⟩=false:=Zc h j
theorem LatAt.drew{w:World}{lb:Nat}{n:Int}{U D:List Int}(h:LatAt w lb n U D):LatAt w.drew lb n U D:=h
theorem LatAt.setUp{w:World}{lb:Nat}{n:Int}{U D:List Int}(h:LatAt w lb n U D)(hU:Rows8 U){a:Nat}(ha:a<8)(x:Int):LatAt (w.setCell ⟨lb,1+a,none⟩ (.int .u8 x)) lb n (U.set a x) D:=by
 refine(Zf h (1+a) _).trans ?_
 congr 2
 apply Array.ext';simp only[Array.toList_setIfInBounds,Jm];rw[Nat.add_comm,List.set_cons_succ,List.set_append_left _ _ (by simp[XZ,hU.len];exact ha)];simp[XZ,List.map_set]
theorem LatAt.setDown{w:World}{lb:Nat}{n:Int}{U D:List Int}(h:LatAt w lb n U D)(hU:Rows8 U){a:Nat}(x:Int):LatAt (w.setCell ⟨lb,9+a,none⟩ (.int .u8 x)) lb n U (D.set a x):=by
 refine(Zf h (9+a) _).trans ?_
 congr 2
 apply Array.ext';simp only[Array.toList_setIfInBounds,Jm];rw[show 9+a=(8+a)+1 by omega,List.set_cons_succ,List.set_append_right _ _ (by simp[XZ,hU.len]),show 8+a - (XZ U).length=a by simp[XZ,hU.len]];simp[XZ,List.map_set]
def Qd(cs:List Value)(o:Nat):List Value→List Value
 |[]=>cs
 |v::r=>Qd (cs.set o v) (o+1) r
theorem Vo:∀ (vs:List Value) (o:Nat) (w:World) (b:Nat) (cs:List Value) (t:TypeId) (f:Nat × Nat),w.heap[b]?=some (.cells cs.toArray t f)→(w.setCells b o vs).heap[b]?=some (.cells (Qd cs o vs).toArray t f)
 |[],_,_,_,_,_,_,h=>h
 |v::r,o,w,b,cs,t,f,h=>by
  have:=Zf h o v;rw[show cs.toArray.setIfInBounds o v=(cs.set o v).toArray by apply Array.ext';simp]at this;exact Vo r (o+1) _ b _ t f this
theorem ED:∀ (vs mid pre post:List Value),mid.length=vs.length→Qd (pre++(mid++post)) pre.length vs=pre++(vs++post)
 |[],[],pre,post,_=>rfl
 |v::vs,m::mid,pre,post,h=>by
  have ih:=ED vs mid (pre++[v]) post (by simpa using h);simp only[Qd];rw[List.set_append_right _ _ (Nat.le_refl _),Nat.sub_self];simp only[List.cons_append,List.set_cons_zero];simp only[List.append_assoc,List.cons_append,List.nil_append,List.length_append,List.length_cons,List.length_nil]at ih;exact ih
 |[],_::_,_,_,h=>by simp at h
 |_::_,[],_,_,h=>by simp at h
theorem Vu:∀ (vs:List Value) (o:Nat) (a w:World) (b:Nat),Later a w→a.heap.size≤b→Later a (w.setCells b o vs)
 |[],_,_,_,_,h,_=>h
 |v::r,o,a,w,b,h,hb=>Vu r (o+1) a _ b (Later.setC h hb o v) hb
theorem LatAt.setAll{w:World}{lb:Nat}{n:Int}{U D:List Int}(h:LatAt w lb n U D)(hU:Rows8 U){V:List Int}(hV:Rows8 V):LatAt (w.setCells lb 1 (XZ V)) lb n V D:=by
 refine(Vo _ _ _ _ _ _ _ h).trans ?_;have:=ED (XZ V) (XZ U) [.int .i64 n] (XZ D) (by simp[XZ,hU.len,hV.len]);exact congrArg (fun l=>some (Obj.cells (List.toArray l) 177 (0,0))) this
theorem LatAt.range{w:World}{lb:Nat}{n:Int}{U D:List Int}(h:LatAt w lb n U D)(hU:Rows8 U):w.rangeAt lb 1 (XZ U):=fun j v hv=>by
 have hj:j<(XZ U).length:=(List.getElem?_eq_some_iff.1 hv).1;have hj8:j<8:=by simpa [XZ,hU.len] using hj
 rw[h.up hU hj8,←hv,EG hU hj8]
theorem LatAt.there{w:World}{lb:Nat}{n:Int}{U D:List Int}(h:LatAt w lb n U D)(hU:Rows8 U):w.there lb 1 8:=fun j hj=>by
 rw[h.up hU hj,h.free];exact⟨rfl,rfl⟩
theorem Br{b:Nat}(hb:b<8):(2:Int) ^ b%256=2 ^ b:=by
 have:=GD hb;omega
theorem Zdp(n:Int):Jm n YE YE=[.int .i64 n,.int .u8 0,.int .u8 0,.int .u8 0,.int .u8 0,.int .u8 0,.int .u8 0,.int .u8 0,.int .u8 0,.int .u8 0,.int .u8 0,.int .u8 0,.int .u8 0,.int .u8 0,.int .u8 0,.int .u8 0,.int .u8 0]:=rfl
def US(n:Int)(l:List (Int × Int))(w:World)(e:Ending)(w':World):Prop:=
 ((Lat n l∧∃ (lb N:Nat) (U D:List Int),n=N∧e=.returned (.tuple #[.pointer (some ⟨lb,0,none⟩),.int .i64 0])∧LatAt w' lb N U D∧LatR N l U D∧w.heap.size≤lb) ∨
  (¬Lat n l∧∃ k:Int,e=.returned (.tuple #[.pointer none,.int .i64 k])∧k≠0))∧Later w w'
theorem YI{n:Int}{l:List (Int × Int)}{w w':World}(k:Int)(hk:k≠0)(hn:¬ Lat n l)(hl:Later w w'):US n l w (.returned (.tuple #[.pointer none,.int .i64 k])) w':=⟨.inr ⟨hn,k,rfl,hk⟩,hl⟩
theorem ZgR(w:World)(n:Int)(l:List (Int × Int))(a:Option Addr)(cap:Nat)(h:¬ (1≤n∧n≤8∧l.length≤64))(hl:l.length≤140737488355328) :
 Calls Tryz.prog 106 #[.int .i64 n,.slice a l.length cap] w (US n l w):=by
 have hno:¬ Lat n l:=fun k=>h ⟨k.lo,k.hi,k.few⟩
 have HP:=Hd (YI (w:=w) (w':=w) 40 (by decide) hno (Later.refl w))
 obtain⟨PT,hPT⟩:∃ PT,US n l w=PT:=⟨_,rfl⟩
 rw[hPT]at HP ⊢;clear hPT hno;by_cases h1:n<1
 ·clear h
  go_enter Tryz.func106,Tryz.ntmps106
  go_wp2_with fail
  exact HP.out
 ·by_cases h2:8<n
  ·clear h
   go_enter Tryz.func106,Tryz.ntmps106
   go_wp2_with fail
   exact HP.out
  ·have h3:64<l.length:=by omega
   obtain⟨m,hm⟩:∃ m,l.length=m:=⟨_,rfl⟩
   rw[hm]at h3 hl ⊢;clear h hm
   go_enter Tryz.func106,Tryz.ntmps106
   go_wp2_with fail
   exact HP.out
theorem Ze5(w:World)(N:Nat)(l:List (Int × Int))(a:Option Addr)(cap:Nat)(h1:1≤N)(h8:N≤8)(hl:l.length≤64)(hrow:RowAt w 2 (.slice a l.length cap) (l.map Yl))(hI:∀ x∈l,DV x) :
 Calls Tryz.prog 106 #[.int .i64 N,.slice a l.length cap] w (US N l w):=by
 obtain⟨PT,hPT⟩:∃ PT,US N l w=PT:=⟨_,rfl⟩
 rw[hPT];have HPT:=Hd hPT;have HROW:=Hd hrow;have HI:=Hd hI;have hdl:decide ((64:Int)<(l.length:Int))=false:=decide_eq_false (by omega);clear hPT hrow hI
 go_enter Tryz.func106,Tryz.ntmps106
 go_wp2_with fail
 obtain⟨lb,hlb⟩:∃ lb,w.heap.size=lb:=⟨_,rfl⟩
 rw[hlb]
 obtain⟨w1,hw1⟩:∃ w1,w.alloc (.cells (Jm N YE YE).toArray 177)=w1:=⟨_,rfl⟩
 rw[Zdp]at hw1;rw[hw1];have hat1:LatAt w1 lb N YE YE:=by unfold LatAt;rw[←hw1,Zdp];exact Zt hlb
 have hl1:Later w w1:=by rw[←hw1];exact(Later.refl w).alloc _
 have HL1:=Hd (And.intro hat1 hl1);clear hw1 hat1 hl1
 go_loopw [30] (fun v wx=>∃ i:Nat,i≤N∧v=.int .i64 i∧LatAt wx lb N (JQ i) YE∧Later w wx) (fun v _=>N - (intOf v).toNat)
 case atStart=>exact⟨0,by omega,rfl,HL1.out.1,HL1.out.2⟩
 case round=>
  obtain⟨i,hi,rfl,hat,hlx⟩:=hrel;have hD:=X7 i (by omega);have HAT:=Hd hat;by_cases hlt:i<N
  ·have k1:=hat.up hD (show i<8 by omega);have k2:=hat.free (1+i);have hsh:=Br (show i<8 by omega);have i1:(i:Int)<8:=by omega
   have i2:(0:Int)≤(i:Int):=by omega
   have HN:=Hd (hat.setUp hD (show i<8 by omega) (2 ^ i));have HSH:=Hd hsh;clear hat hD hsh
   go_wp2_with fail
   go_region
   generalize hWZ:World.drew _=WZ
   have hz1:LatAt WZ lb N (JQ (i+1)) YE:=by
    rw[←hWZ,HSH.out];exact HN.out
   have hz2:Later w WZ:=by
    rw[←hWZ];exact Later.drew (Later.setC hlx (by omega) _ _)
   have HZ1:=Hd hz1;clear hWZ k1 k2 hz1
   go_wp2_with fail
   exact⟨⟨i+1,by omega,by simp,HZ1.out,hz2⟩,by simp only[intOf];omega⟩
  ·have hiN:i=N:=by omega
   rw[hiN]at HAT;clear hiN hat hD;have hrw:RowAt wr 2 (.slice a l.length cap) (l.map Yl):=HROW.out.later hlx;have HROW2:=Hd hrw;have HLX:=Hd hlx;clear hrw hlx
   obtain⟨wd,hwd⟩:∃ wd:World,wd=wr:=⟨_,rfl⟩
   rw[←hwd]at HAT HROW2 HLX ⊢;clear hwd
   go_wp2_with fail
   go_loopw [43] (fun v wx=>∃ j:Nat,j≤l.length∧v=.int .i64 j∧(∀p∈l.take j,lev N p.1∧lev N p.2)∧LatAt wx lb N (YO (JQ N) (l.take j)) YE∧Later w wx) (fun v _=>l.length - (intOf v).toNat)
   case atStart=>exact⟨0,by omega,rfl,fun p hp=>by simp at hp,HAT.out,HLX.out⟩
   case round=>
    obtain⟨j,hj,rfl,hlv,hat,hlx⟩:=hrel;have hR:=VH (n:=N) (by omega) (l.take j) (JQ N) (X7 N h8) hlv;have HLV:=Hd hlv;have HLY:=Hd hlx;have hlbl:=hat.lt;by_cases hlt:j<l.length
    ·obtain⟨b,o,rfl,hb,hc⟩:=ZG (HROW.out.later hlx) hlt;have htk:=List.take_succ_eq_append_getElem hlt;have hmem:=List.getElem_mem hlt;have hI:=HI.out _ hmem
     obtain⟨x,hx⟩:∃ x,l[j]=x:=⟨_,rfl⟩
     rw[hx]at hc htk hI hmem;have HS:Hid (YO (JQ N) (l.take (j+1))=addR (YO (JQ N) (l.take j)) x.1.toNat x.2.toNat):=Hd (by rw[htk,DJ]);have HTK:=Hd htk;have HMEM:=Hd hmem;clear hx htk hlv hmem;obtain⟨x1,x2⟩:=x;have c0:=hc 0 (by omega);have c1:=hc 1 (by omega);simp only[Yl,List.getElem?_cons_zero,List.getElem?_cons_succ,Nat.add_zero,Nat.mul_one]at c0 c1
     obtain⟨R,hRe⟩:∃ R,YO (JQ N) (l.take j)=R:=⟨_,rfl⟩
     rw[hRe]at HS hat hR;have HAT2:=Hd hat;have HRR:=Hd hR;have HIS:=Hd (fun(w2:World) (h:Later wr w2) (z:Int)=>E4 w2 lb N z (hat.later h).n);clear hc hRe hat hR hI hlx;by_cases hx1:0≤x1∧x1<(N:Int)
     ·by_cases hx2:0≤x2∧x2<(N:Int)
      ·obtain⟨p1,q1⟩:=hx1;obtain⟨p2,q2⟩:=hx2;obtain⟨y1,rfl⟩:=Int.eq_ofNat_of_zero_le p1;obtain⟨y2,rfl⟩:=Int.eq_ofNat_of_zero_le p2;have H1:=Hd (fun w2 h=>HIS.out w2 h y1);have H2:=Hd (fun w2 h=>HIS.out w2 h y2);rw[J7 p1 q1]at H1;rw[J7 p2 q2]at H2
       go_upto_region 14 with(first
        |(go_at_call 133;(with_reducible refine(H1.out _ ((Later.refl wr).alloc _)).mono ?_);rintro e w' ⟨rfl,rfl⟩)
        |(go_at_call 133;(with_reducible refine(H2.out _ ((Later.refl wr).alloc _)).mono ?_);rintro e w' ⟨rfl,rfl⟩)
        |fail)
       obtain⟨pb,hpb⟩:∃ pb,wr.heap.size=pb:=⟨_,rfl⟩
       rw[hpb]
       obtain⟨w2,hw2⟩:∃ w2,wr.alloc (.cells #[.int .i64 (y1:Int),.int .i64 (y2:Int)] 47)=w2:=⟨_,rfl⟩
       rw[hw2];have hl2:Later wr w2:=by rw[←hw2];exact(Later.refl wr).alloc _
       have hpb2:w2.heap[pb]?=some (.cells #[.int .i64 (y1:Int),.int .i64 (y2:Int)] 47 (0,0)):=by rw[←hw2];exact Zt hpb
       have d0:=Zb hpb2 0;have d1:=Zb hpb2 1;have hat2:=HAT2.out.later hl2;have k1:=hat2.up HRR.out (show y1<8 by omega);have k2:=hat2.free (1+y1);have hyy:=HRR.out.get y1;have i1:(y1:Int)<8:=by omega
       have i2:(y2:Int)<8:=by omega
       have hor:=ZgF hyy (GD (show y2<8 by omega));have HN:=Hd (hat2.setUp HRR.out (show y1<8 by omega) (orI (R[y1]?.getD 0) (2 ^ y2)));have hsh:=Br (show y2<8 by omega);have hsw:=ZhM (show y2<8 by omega)
       obtain⟨y,hye⟩:∃ y,R[y1]?.getD 0=y:=⟨_,rfl⟩
       rw[hye]at k1 hyy hor HN;have HYE:=Hd hye;have HOR:=Hd hor;have HSH:=Hd hsh;have HSW:=Hd hsw;clear hw2 hpb2 hat2 hye hor hsh hsw
       go_region
       generalize hWZ:World.drew _=WZ
       have hz1:LatAt WZ lb N (addR R y1 y2) YE:=by
        rw[←hWZ,HSH.out,HOR.out];unfold addR;rw[HYE.out];exact HN.out
       have hz2:Later w WZ:=by
        rw[←hWZ];exact Later.drew (Later.setC (HLY.out.trans hl2) (by omega) _ _)
       have HZ1:=Hd hz1;clear hWZ k1 k2 d0 d1 hz1
       go_wp2_with fail
       refine⟨⟨j+1,by omega,by simp,fun p hp=>?_,?_,hz2⟩,by simp only[intOf];omega⟩
       ·rw[HTK.out]at hp;rcases List.mem_append.1 hp with hp|hp
        ·exact HLV.out p hp
        ·rw[List.mem_singleton.1 hp];exact⟨⟨p1,q1⟩,p2,q2⟩
       ·rw[HS.out];exact HZ1.out
      ·obtain⟨p1,q1⟩:=hx1;have H1:=Hd (fun w2 h=>HIS.out w2 h x1);have H2:=Hd (fun w2 h=>HIS.out w2 h x2);rw[J7 p1 q1]at H1;rw[Qs hx2]at H2;have HNO:=Hd (show ¬Lat N l from fun k=>hx2 (k.pairs _ HMEM.out).2);clear hx2
       go_wp2_with (first
        |(go_at_call 133;(with_reducible refine(H1.out _ ((Later.refl wr).alloc _)).mono ?_);rintro e w' ⟨rfl,rfl⟩)
        |(go_at_call 133;(with_reducible refine(H2.out _ ((Later.refl wr).alloc _)).mono ?_);rintro e w' ⟨rfl,rfl⟩)
        |fail)
       rw[←HPT.out];exact YI 41 (by decide) HNO.out (HLY.out.alloc _)
     ·have H1:=Hd (fun w2 h=>HIS.out w2 h x1);rw[Qs hx1]at H1;have HNO:=Hd (show ¬Lat N l from fun k=>hx1 (k.pairs _ HMEM.out).1);clear hx1
      go_wp2_with (first
       |(go_at_call 133;(with_reducible refine(H1.out _ ((Later.refl wr).alloc _)).mono ?_);rintro e w' ⟨rfl,rfl⟩)
       |fail)
      rw[←HPT.out];exact YI 41 (by decide) HNO.out (HLY.out.alloc _)
    ·have hjl:j=l.length:=by omega
     rw[hjl,List.take_of_length_le (Nat.le_refl _)]at hat hR;rw[hjl,List.take_of_length_le (Nat.le_refl _)]at hlv
     obtain⟨R,hRe⟩:∃ R,YO (JQ N) l=R:=⟨_,rfl⟩
     have hsnd:Y3 N l R:=by rw[←hRe];exact Ey h8 hlv
     have hbas:ZbI N l R:=by rw[←hRe];exact GF h8 hlv
     rw[hRe]at hat hR
     obtain⟨RV,hRV⟩:∃ RV,XZ R=RV:=⟨_,rfl⟩
     have HCL:=Hd (show Calls Tryz.prog 134 #[.agg RV.toArray] wr (UT R wr) by rw[←hRV];exact D6 wr R hR);have HRG:=Hd (show wr.rangeAt lb 1 RV by rw[←hRV];exact hat.range hR);have HRI:=Hd (show(Tryz.prog.info? 175).map (·.size)=some RV.length by rw[←hRV,show(XZ R).length=8 by simp[XZ,hR.len]];exact Zdu);have HFA:=Hd (And.intro (And.intro hat hR) (And.intro hsnd (And.intro hbas hlv)));clear hat hR hRe hsnd hbas hlv HLV hRV hjl
     go_upto_region 17 with(first
      |refine wpList_load_mid rfl 175 (.tmp 77) rfl lb 1 rfl RV _ HRG.out Tryz.underlying175 rfl HRI.out ?_
      |(go_at_call 134;(with_reducible refine HCL.out.mono ?_);rintro e w2 ⟨U,rfl,hU,hUp,hUs,hUn,hUl⟩;have HAT3:=Hd (HFA.out.1.1.later hUl);have HTH:=Hd (HAT3.out.there HFA.out.1.2);have HUI:=Hd (Eb hU);have HUS:=Hd (show w2.there lb 1 (XM U).size by rw[JW hU];exact HTH.out))
      |refine wpList_store_mid rfl 175 (.tmp 81) (.tmp 79) rfl lb 1 (XM U) rfl rfl HUS.out HUI.out (DA U) ?_
      |fail)
     obtain⟨w3,hw3⟩:∃ w3,w2.setCells lb 1 (XM U).toList=w3:=⟨_,rfl⟩
     rw[hw3]
     have hat3:LatAt w3 lb N U YE:=by
      rw[←hw3,show(XM U).toList=XZ U from rfl];exact HAT3.out.setAll HFA.out.1.2 hU
     have hl3:Later w w3:=by rw[←hw3];exact Vu _ _ _ _ _ (HLY.out.trans hUl) (by omega)
     obtain⟨⟨-, -⟩,hsnd,hbas,hlv⟩:=HFA.out;have HLR:=Hd (WD h1 h8 hlv hU hUp (hUn _ _ hsnd) (ZfO hbas hUs));have HUR:=Hd hU;have HA3:=Hd (And.intro hat3 hl3);clear hw3 hat3 hl3 hsnd hbas hlv hU hUp hUs hUn hUl HAT3 HTH HUI HUS HCL HRG HRI;clear HFA
     go_wp2_with fail
     go_loopw [83] (fun v wx=>∃ a:Nat,a≤N∧v=.int .i64 a∧LatAt wx lb N U (U6 U N a)∧Later w wx) (fun v _=>N - (intOf v).toNat)
     case atStart=>exact⟨0,by omega,rfl,HA3.out.1,HA3.out.2⟩
     case round=>
      obtain⟨a',ha,rfl,hat,hlx⟩:=hrel;have hBr:=(Vi (U:=U) h8 a' (by omega)).1;have HAT4:=Hd hat;have HBR:=Hd hBr;clear hat hBr;by_cases hlt:a'<N
      ·obtain⟨we,hwe⟩:∃ we:World,we=wr:=⟨_,rfl⟩
       rw[←hwe]at HAT4 hlx ⊢;clear hwe
       obtain⟨B,hB⟩:∃ B,U6 U N a'=B:=⟨_,rfl⟩
       rw[hB]at HAT4 HBR;have HB:=Hd hB;clear hB
       go_wp2_with fail
       go_loopw [87] (fun v wx=>∃ k:Nat,k≤N∧v=.int .i64 k∧LatAt wx lb N U (Ur U B a' k)∧Later w wx) (fun v _=>N - (intOf v).toNat)
       case atStart=>exact⟨0,by omega,rfl,HAT4.out,hlx⟩
       case round=>
        obtain⟨k,hk,rfl,hat,hly⟩:=hrel;have hCr:=(UN (U:=U) HBR.out (show a'<8 by omega) k (by omega)).1;have hstep:Ur U B a' (k+1)=if bitR U a' k then addR (Ur U B a' k) k a' else Ur U B a' k:=rfl
        obtain⟨C,hC⟩:∃ C,Ur U B a' k=C:=⟨_,rfl⟩
        rw[hC]at hat hCr hstep;have HSTEP:=Hd hstep;have HC:=Hd hC;have HAT5:=Hd hat;clear hstep hC;by_cases hltk:k<N
        ·have hxU:=HUR.out.get a';have k1:=hat.up HUR.out (show a'<8 by omega);have ht:=Ds hxU k;have hbit:bitR U a' k=(U[a']?.getD 0).toNat.testBit k:=rfl;rw[←hbit]at ht
         obtain⟨x,hx⟩:∃ x,U[a']?.getD 0=x:=⟨_,rfl⟩
         rw[hx]at k1 ht hxU;have k2:=hat.down HUR.out hCr (show k<8 by omega);have k3:=hat.free (9+k);have hyy:=hCr.get k;have hor:=ZgF hyy (GD (show a'<8 by omega));have HN:=Hd (hat.setDown HUR.out (a:=k) (orI (C[k]?.getD 0) (2 ^ a')));have HSH:=Hd (Br (show a'<8 by omega))
         obtain⟨y,hye⟩:∃ y,C[k]?.getD 0=y:=⟨_,rfl⟩
         rw[hye]at k2 hyy hor HN;have HYE:=Hd hye;have HOR:=Hd hor;have i1:(a':Int)<8:=by omega
         have i2:(0:Int)≤(a':Int):=by omega
         have i3:(k:Int)<8:=by omega
         have i4:(0:Int)≤(k:Int):=by omega
         clear hbit hx hye hor hat hCr;cases hbb:bitR U a' k
         ·rw[hbb]at ht;have HBB:=Hd hbb;clear hbb
          go_wp2_with fail
          refine⟨⟨k+1,by omega,by simp,?_,hly⟩,by simp only[intOf];omega⟩;rw[HSTEP.out,HBB.out];exact HAT5.out
         ·rw[hbb]at ht;have HBB:=Hd hbb;clear hbb
          go_wp2_with fail
          go_region
          generalize hWZ:World.drew _=WZ
          have hz1:LatAt WZ lb N U (addR C k a'):=by
           rw[←hWZ,HSH.out,HOR.out];unfold addR;rw[HYE.out];exact HN.out
          have hz2:Later w WZ:=by
           rw[←hWZ];exact Later.drew (Later.setC hly (by omega) _ _)
          have HZ1:=Hd hz1;clear hWZ k1 k2 k3 hz1 ht
          go_wp2_with fail
          refine⟨⟨k+1,by omega,by simp,?_,hz2⟩,by simp only[intOf];omega⟩;rw[HSTEP.out,HBB.out];exact HZ1.out
        ·have hkN:k=N:=by omega
         have HF:=Hd (show LatAt wr lb N U (U6 U N (a'+1)) by
          have e:U6 U N (a'+1)=Ur U (U6 U N a') a' N:=rfl;have e2:Ur U B a' N=C:=by rw[←hkN];exact HC.out
          rw[e,HB.out,e2];exact HAT5.out)
         clear hat hCr hkN
         go_wp2_with fail
         exact⟨⟨a'+1,by omega,by simp,HF.out,hly⟩,by simp only[intOf];omega⟩
      ·have haN:a'=N:=by omega
       rw[haN]at HAT4 HBR;clear haN
       obtain⟨D,hD⟩:∃ D,U6 U N N=D:=⟨_,rfl⟩
       rw[hD]at HAT4 HBR HLR;have HD:=Hd hD;have HIFF:=Hd (ZcX HLR.out hl);have HLX2:=Hd hlx
       obtain⟨we,hwe⟩:∃ we:World,we=wr:=⟨_,rfl⟩
       rw[←hwe]at HAT4 HLX2 ⊢;clear hwe hD hlx
       go_wp2_with fail
       go_loopw [115] (fun v wx=>∃ i:Nat,i≤N∧v=.int .i64 i∧(∀c,c<i→andI (U[c]?.getD 0) (D[c]?.getD 0)=2 ^ c)∧LatAt wx lb N U D∧Later w wx) (fun v _=>N - (intOf v).toNat)
       case atStart=>exact⟨0,by omega,rfl,fun c hc=>absurd hc (by omega),HAT4.out,HLX2.out⟩
       case round=>
        obtain⟨i5,hi5,rfl,hok,hat,hlx⟩:=hrel;have HOK:=Hd hok;clear hok;have HAT6:=Hd hat;by_cases hlt5:i5<N
        ·have k1:=hat.up HUR.out (show i5<8 by omega);have k2:=hat.down HUR.out HBR.out (show i5<8 by omega);have hxx:=HUR.out.get i5;have hyy:=HBR.out.get i5;have hand:=Zac hxx hyy
         obtain⟨x,hx⟩:∃ x,U[i5]?.getD 0=x:=⟨_,rfl⟩
         obtain⟨y,hy⟩:∃ y,D[i5]?.getD 0=y:=⟨_,rfl⟩
         rw[hx]at k1 hxx hand;rw[hy]at k2 hyy hand
         obtain⟨z,hz⟩:∃ z,andI x y=z:=⟨_,rfl⟩
         rw[hz]at hand
         obtain⟨T,hT⟩:∃ T:Int,2 ^ i5=T:=⟨_,rfl⟩
         have hsh:=Br (show i5<8 by omega);have hsw:=ZhM (show i5<8 by omega);rw[hT]at hsh hsw;have HXY:=Hd (And.intro hx (And.intro hy (And.intro hz hT)));have i1:(i5:Int)<8:=by omega
         have i2:(0:Int)≤(i5:Int):=by omega
         clear hx hy hz hat;by_cases hzT:z=T
         ·have hne:(z != T)=false:=by simpa using hzT
          have HZT:=Hd hzT;clear hzT
          go_wp2_with fail
          go_quiet (fail)
          go_wp2_with fail
          refine⟨⟨i5+1,by omega,by simp,fun c hc=>?_,HAT6.out,Later.drewN hlx _⟩,by simp only[intOf];omega⟩;rcases(by omega:c<i5∨c=i5) with hc'|rfl
          ·exact HOK.out c hc'
          ·obtain⟨e1,e2,e3,e4⟩:=HXY.out;rw[e1,e2,e3,e4];exact HZT.out
         ·have hne:(z != T)=true:=by simpa using hzT
          have HZT:=Hd hzT;clear hzT
          go_wp2_with fail
          go_quiet (fail)
          go_wp2_with fail
          rw[←HPT.out];refine YI 42 (by decide) (fun k=>?_) (Later.drewN hlx _);have:=(HIFF.out.2 k).1 i5 hlt5;obtain⟨e1,e2,e3,e4⟩:=HXY.out;rw[e1,e2,e3,e4]at this;exact HZT.out this
        ·have hiN:i5=N:=by omega
         rw[hiN]at HOK;clear hiN hat;have HLX3:=Hd hlx
         obtain⟨we,hwe⟩:∃ we:World,we=wr:=⟨_,rfl⟩
         rw[←hwe]at HAT6 HLX3 ⊢;clear hwe hlx
         go_wp2_with fail
         go_loopw [136] (fun v wx=>∃ i:Nat,i≤N∧v=.int .i64 i∧(∀c,c<i→∀ b,b<N→Vv U N (andI (U[c]?.getD 0) (U[b]?.getD 0))∧Vv D N (andI (D[c]?.getD 0) (D[b]?.getD 0)))∧LatAt wx lb N U D∧Later w wx) (fun v _=>N - (intOf v).toNat)
         case atStart=>exact⟨0,by omega,rfl,fun c hc=>absurd hc (by omega),HAT6.out,HLX3.out⟩
         case round=>
          obtain⟨i6,hi6,rfl,hok6,hat,hlx⟩:=hrel;have HOK6:=Hd hok6;have HAT7:=Hd hat;have HLX4:=Hd hlx;clear hok6 hat;by_cases hlt6:i6<N
          ·obtain⟨we,hwe⟩:∃ we:World,we=wr:=⟨_,rfl⟩
           rw[←hwe]at HAT7 HLX4 hlx ⊢;clear hwe
           go_wp2_with fail
           go_loopw [140] (fun v wx=>∃ j:Nat,j≤N∧v=.int .i64 j∧(∀b,b<j→Vv U N (andI (U[i6]?.getD 0) (U[b]?.getD 0))∧Vv D N (andI (D[i6]?.getD 0) (D[b]?.getD 0)))∧LatAt wx lb N U D∧Later w wx) (fun v _=>N - (intOf v).toNat)
           case atStart=>exact⟨0,by omega,rfl,fun c hc=>absurd hc (by omega),HAT7.out,HLX4.out⟩
           case round=>
            obtain⟨i7,hi7,rfl,hok7,hat,hly⟩:=hrel;have HOK7:=Hd hok7;have HAT8:=Hd hat;clear hok7 hat;by_cases hlt7:i7<N
            ·have HJ:=Hd (fun w2 (h:Later wr w2)=>Zfb w2 lb N i6 i7 U D (HAT8.out.later h) HUR.out HBR.out h8 hlt6 hlt7);have HM:=Hd (fun w2 (h:Later wr w2)=>Zfa w2 lb N i6 i7 U D (HAT8.out.later h) HUR.out HBR.out h8 hlt6 hlt7);have E1:=Hd (B5 U (andI (U[i6]?.getD 0) (U[i7]?.getD 0)) N);have E2:=Hd (B5 D (andI (D[i6]?.getD 0) (D[i7]?.getD 0)) N)
             obtain⟨v1,hv1⟩:∃ v1,endF U (andI (U[i6]?.getD 0) (U[i7]?.getD 0)) 0 N=v1:=⟨_,rfl⟩
             obtain⟨v2,hv2⟩:∃ v2,endF D (andI (D[i6]?.getD 0) (D[i7]?.getD 0)) 0 N=v2:=⟨_,rfl⟩
             rw[hv1]at HJ E1;rw[hv2]at HM E2;clear hv1 hv2;by_cases hn1:v1<0
             ·go_wp2_with (first
               |(go_at_call 135;(with_reducible refine(HJ.out _ (Later.refl _)).mono ?_);rintro e w' ⟨rfl,q1,rfl⟩)
               |fail)
              rw[←HPT.out];refine YI 43 (by decide) (fun k=>?_) (Later.drewN hly _);have:=E1.out.2 ((HIFF.out.2 k).2 i6 hlt6 i7 hlt7).1;omega
             ·by_cases hn2:v2<0
              ·go_wp2_with (first
                |(go_at_call 135;(with_reducible refine(HJ.out _ (Later.refl _)).mono ?_);rintro e w' ⟨rfl,q1,rfl⟩)
                |(go_at_call 136;(with_reducible refine(HM.out _ (Later.drewN (Later.refl _) _)).mono ?_);rintro e w' ⟨rfl,q2,rfl⟩)
                |fail)
               rw[←HPT.out];refine YI 43 (by decide) (fun k=>?_) (Later.drewN hly _);have:=E2.out.2 ((HIFF.out.2 k).2 i6 hlt6 i7 hlt7).2;omega
              ·have hd1:decide (v1<0)=false:=decide_eq_false hn1;have hd2:decide (v2<0)=false:=decide_eq_false hn2
               go_wp2_with (first
                |(go_at_call 135;(with_reducible refine(HJ.out _ (Later.refl _)).mono ?_);rintro e w' ⟨rfl,q1,rfl⟩)
                |(go_at_call 136;(with_reducible refine(HM.out _ (Later.drewN (Later.refl _) _)).mono ?_);rintro e w' ⟨rfl,q2,rfl⟩)
                |fail)
               refine⟨⟨i7+1,by omega,by simp,fun c hc=>?_,HAT8.out,Later.drewN hly _⟩,by simp only[intOf];omega⟩;rcases(by omega:c<i7∨c=i7) with hc'|rfl
               ·exact HOK7.out c hc'
               ·exact⟨E1.out.1 (by omega),E2.out.1 (by omega)⟩
            ·have hiN:i7=N:=by omega
             rw[hiN]at HOK7;clear hiN
             go_wp2_with fail
             refine⟨⟨i6+1,by omega,by simp,fun c hc=>?_,HAT8.out,hly⟩,by simp only[intOf];omega⟩;rcases(by omega:c<i6∨c=i6) with hc'|rfl
             ·exact HOK6.out c hc'
             ·exact HOK7.out
          ·have hiN:i6=N:=by omega
           rw[hiN]at HOK6;clear hiN
           go_wp2_with fail
           rw[←HPT.out];exact⟨.inl ⟨HIFF.out.1 ⟨HOK.out,HOK6.out⟩,lb,N,U,D,rfl,rfl,HAT7.out,HLR.out,by omega⟩,hlx⟩
end Go.Proofs.YtbchkjfnakabkaaGreatDoor
namespace Go.Proofs.YtbchkjfnakabkaaGreatDoor
open Go.RowKit PX PC
def WJ(c:Cfg)(vF vP vW vO vV vR vK lv:Value):Array Value:=#[.int .i64 c.levels,vF,vP,vW,vO,vV,.int .i64 c.audit.level,.int .i64 c.audit.first,.int .i64 c.audit.count,.int .i64 c.audit.journal,.int .i64 c.boot,.int .i64 c.sectors,vR,vK,.string c.login,.int .i64 c.recovery,.int .i64 c.bound,lv]
structure FormIn (w:World) (fb:Nat) (c:Cfg) (vF vP vW vO vV vR vK lv:Value):Prop where
 blk:w.heap[fb]?=some (.cells (WJ c vF vP vW vO vV vR vK lv) 61 (0,0))
 rF:RowAt w 2 vF (c.flows.map Yl)
 rP:RowAt w 2 vP (c.parts.map X9)
 rW:RowAt w 3 vW (c.windows.map winC)
 rO:RowAt w 5 vO (c.ports.map porC)
 rV:RowAt w 4 vV (c.volumes.map volC)
 rR:RowAt w 5 vR (c.rules.map ruC)
 rK:RowAt w 1 vK (c.keys.map keyC)
theorem FormIn.later{w w':World}{fb:Nat}{c:Cfg}{vF vP vW vO vV vR vK lv:Value}(h:FormIn w fb c vF vP vW vO vV vR vK lv)(hl:Later w w'):FormIn w' fb c vF vP vW vO vV vR vK lv:=
 ⟨hl.block h.blk,h.rF.later hl,h.rP.later hl,h.rW.later hl,h.rO.later hl,h.rV.later hl,h.rR.later hl,h.rK.later hl⟩
theorem FormIn.cell{w:World}{fb:Nat}{c:Cfg}{vF vP vW vO vV vR vK lv:Value}(h:FormIn w fb c vF vP vW vO vV vR vK lv)(j:Nat):w.cell? ⟨fb,j,none⟩=(WJ c vF vP vW vO vV vR vK lv)[j]?:=Zb h.blk j
theorem ZgY{n lo hi:Int}(h0:lo≤n)(h1:n≤hi):inB n lo hi=true:=by unfold inB;rw[decide_eq_true h0,decide_eq_true h1];rfl
theorem Zf7{n lo hi:Int}(h:¬ (lo≤n∧n≤hi)):inB n lo hi=false:=by rw[Bool.eq_false_iff];exact fun k=>h (ZR.1 k)
theorem Xw(w:World)(n lo hi:Int):Calls Tryz.prog 23 #[.int .i64 n,.int .i64 lo,.int .i64 hi] w fun e w'=>e=.returned (.bool (inB n lo hi))∧w'=w:=by
 by_cases h0:lo≤n
 ·by_cases h1:n≤hi
  ·rw[ZgY h0 h1]
   go_enter Tryz.func23,Tryz.ntmps23
   go_wp2_with fail
   go_ret
   exact⟨rfl,rfl⟩
  ·rw[Zf7 (fun h=>h1 h.2)]
   go_enter Tryz.func23,Tryz.ntmps23
   go_wp2_with fail
   go_ret
   exact⟨rfl,rfl⟩
 ·rw[Zf7 (fun h=>h0 h.1)]
  go_enter Tryz.func23,Tryz.ntmps23
  go_wp2_with fail
  go_ret
  exact⟨rfl,rfl⟩
theorem Va(w:World)(fb:Nat)(c:Cfg)(n:Int)(hc:w.cell? ⟨fb,0,none⟩=some (.int .i64 c.levels))(h1:1≤c.levels)(h8:c.levels≤8) :
 Calls Tryz.prog 109 #[.pointer (some ⟨fb,0,none⟩),.int .i64 n] w fun e w'=>e=.returned (.bool (c.lvl n))∧w'=w:=by
 have HIN:=Hd (show Calls Tryz.prog 23 #[.int .i64 n,.int .i64 0,.int .i64 (c.levels - 1)] w fun e w'=>e=.returned (.bool (c.lvl n))∧w'=w from Xw w n 0 (c.levels - 1))
 obtain⟨b,hb⟩:∃ b,c.lvl n=b:=⟨_,rfl⟩
 rw[hb]at HIN ⊢
 obtain⟨L,hL⟩:∃ L,c.levels=L:=⟨_,rfl⟩
 rw[hL]at HIN hc h1 h8;clear hb hL
 go_enter Tryz.func109,Tryz.ntmps109
 go_wp2_with (first
  |(go_at_call 23;(with_reducible refine HIN.out.mono ?_);rintro e w' ⟨rfl,rfl⟩)
  |fail)
 go_ret
 exact⟨rfl,rfl⟩
theorem Ga(w:World)(fb:Nat)(c:Cfg)(n:Int)(a:Option Addr)(cap:Nat)(hc:w.cell? ⟨fb,2,none⟩=some (.slice a c.parts.length cap))(hl:c.parts.length≤140737488355328) :
 Calls Tryz.prog 111 #[.pointer (some ⟨fb,0,none⟩),.int .i64 n] w fun e w'=>e=.returned (.bool (c.prt n))∧w'=w:=by
 have HIN:=Hd (show Calls Tryz.prog 23 #[.int .i64 n,.int .i64 0,.int .i64 ((c.parts.length:Int) - 1)] w fun e w'=>e=.returned (.bool (c.prt n))∧w'=w from Xw w n 0 _)
 obtain⟨b,hb⟩:∃ b,c.prt n=b:=⟨_,rfl⟩
 rw[hb]at HIN ⊢
 obtain⟨L,hL⟩:∃ L,c.parts.length=L:=⟨_,rfl⟩
 rw[hL]at HIN hc hl;clear hb hL
 go_enter Tryz.func111,Tryz.ntmps111
 go_wp2_with (first
  |(go_at_call 23;(with_reducible refine HIN.out.mono ?_);rintro e w' ⟨rfl,rfl⟩)
  |fail)
 go_ret
 exact⟨rfl,rfl⟩
theorem Q0:∀ (l:List Win) (x:Win) (k i:Int),sumT (l++[x]) k i=sumT l k i+(if x.kind=k∧x.index=i then x.ticks else 0)
 |[],x,k,i=>by simp[sumT]
 |y::l,x,k,i=>by simp only[List.cons_append,sumT,Q0 l x k i];omega
theorem Qa:∀ (l:List Win) (k i:Int),(∀x∈l,1≤x.ticks∧x.ticks≤255)→0≤sumT l k i∧sumT l k i≤255*l.length
 |[],k,i,_=>by simp[sumT]
 |y::l,k,i,h=>by
  have h1:=Qa l k i fun x hx=>h x (List.mem_cons_of_mem y hx)
  have h2:=h y List.mem_cons_self;simp only[sumT,List.length_cons];split<;>omega
def UQ(c:Cfg):Prop:=c.windows.length≤64∧∀ x∈c.windows,1≤x.ticks∧x.ticks≤255
theorem GS(w:World)(fb:Nat)(c:Cfg)(v:Value)(k i:Int)(hc:w.cell? ⟨fb,3,none⟩=some v)(hrow:RowAt w 3 v (c.windows.map winC))(hw:UQ c) :
 Calls Tryz.prog 77 #[.pointer (some ⟨fb,0,none⟩),.int .i64 k,.int .i64 i] w fun e w'=>e=.returned (.int .i64 (c.tk k i))∧Later w w':=by
 obtain⟨a,cap,rfl,hl1,hl2,hl3⟩:=Zm hrow;have HROW:=Hd hrow;have HW:=Hd hw;have htk:c.tk k i=sumT c.windows k i:=rfl;rw[htk]
 obtain⟨l,hl⟩:∃ l,c.windows=l:=⟨_,rfl⟩
 have HW2:=Hd (show l.length≤64∧∀ x∈l,1≤x.ticks∧x.ticks≤255 by rw[←hl];exact hw);have hl64:=HW2.out.1;rw[hl]at hc HROW hl1 hl3 ⊢;clear hrow hw htk HW hl
 go_enter Tryz.func77,Tryz.ntmps77
 go_wp2_with fail
 go_loopw [7,16] (fun vn vi wr=>∃ j:Nat,j≤l.length∧vi=.int .i64 (j:Int)∧vn=.int .i64 (sumT (l.take j) k i)∧Later w wr) (fun _ vi _=>l.length - (intOf vi).toNat)
 case atStart=>exact⟨0,by omega,rfl,rfl,Later.refl _⟩
 case round=>
  obtain⟨j,hj,rfl,rfl,hb⟩:=hrel;by_cases hlt:j<l.length
  ·obtain⟨b,o,rfl,hb',hcc⟩:=ZG (HROW.out.later hb) hlt;have htk:=List.take_succ_eq_append_getElem hlt;have hbd:=Qa (l.take j) k i (fun x hx=>HW2.out.2 x (List.mem_of_mem_take hx));have hlj:(l.take j).length≤64:=by rw[List.length_take];omega
   have hx2:=HW2.out.2 _ (List.getElem_mem hlt)
   obtain⟨x,hx⟩:∃ x,l[j]=x:=⟨_,rfl⟩
   rw[hx]at hcc htk hx2;have HS:Hid (sumT (l.take (j+1)) k i=sumT (l.take j) k i+(if x.kind=k∧x.index=i then x.ticks else 0)):=Hd (by rw[htk,Q0])
   obtain⟨s,hs⟩:∃ s,sumT (l.take j) k i=s:=⟨_,rfl⟩
   rw[hs]at HS hbd ⊢;obtain⟨hs0,hs1⟩:=hbd;have hs2:s≤16320:=by omega
   clear hx htk hs hs1 hlj;obtain⟨x1,x2,x3⟩:=x;have c0:=hcc 0 (by omega);have c1:=hcc 1 (by omega);have c2:=hcc 2 (by omega);simp only[winC,List.getElem?_cons_zero,List.getElem?_cons_succ,Nat.add_zero,Nat.mul_one]at c0 c1 c2;clear hcc;obtain⟨hx3,hx4⟩:=hx2;simp only at hx3 hx4;by_cases h1:x1=k
   ·have d1:(x1==k)=true:=by simpa using h1
    by_cases h2:x2=i
    ·have d2:(x2==i)=true:=by simpa using h2
     have H12:=Hd (And.intro h1 h2);clear h1 h2
     go_wp2_with fail
     refine⟨⟨j+1,by omega,by simp,?_,hb.alloc _⟩,by simp only[intOf];omega⟩;rw[HS.out,if_pos H12.out]
    ·have d2:(x2==i)=false:=by simpa using h2
     have H12:=Hd h2;clear h1 h2
     go_wp2_with fail
     refine⟨⟨j+1,by omega,by simp,?_,hb.alloc _⟩,by simp only[intOf];omega⟩;rw[HS.out,if_neg (fun e=>H12.out e.2),Int.add_zero]
   ·have d1:(x1==k)=false:=by simpa using h1
    have H12:=Hd h1;clear h1
    go_wp2_with fail
    refine⟨⟨j+1,by omega,by simp,?_,hb.alloc _⟩,by simp only[intOf];omega⟩;rw[HS.out,if_neg (fun e=>H12.out e.1),Int.add_zero]
  ·go_wp2_with fail
   go_ret
   refine⟨ZT ?_,hb⟩;rw[List.take_of_length_le (by omega)]
def hasW(c:Cfg)(k i:Int):Bool:=hasT c.windows k i
theorem Zfu(w:World)(fb:Nat)(c:Cfg)(v:Value)(k i:Int)(hc:w.cell? ⟨fb,3,none⟩=some v)(hrow:RowAt w 3 v (c.windows.map winC))(hw:UQ c) :
 Calls Tryz.prog 113 #[.pointer (some ⟨fb,0,none⟩),.int .i64 k,.int .i64 i] w fun e w'=>e=.returned (.bool (hasW c k i))∧Later w w':=by
 have HT:=Hd (GS w fb c v k i hc hrow hw);have hh:hasW c k i=decide (0<c.tk k i):=rfl;rw[hh]
 obtain⟨t,ht⟩:∃ t,c.tk k i=t:=⟨_,rfl⟩
 rw[ht]at HT ⊢;clear hc hrow hw hh ht
 go_enter Tryz.func113,Tryz.ntmps113
 go_wp2_with (first
  |(go_at_call 77;(with_reducible refine HT.out.mono ?_);rintro e w' ⟨rfl,hl1⟩)
  |fail)
 go_ret
 exact⟨rfl,hl1⟩
theorem ZfW(w:World)(a b:Int)(ha:0≤a)(ha2:a≤1000000)(hb:0<b)(hb2:b≤1000000):Calls Tryz.prog 76 #[.int .i64 a,.int .i64 b] w fun e w'=>e=.returned (.int .i64 (upI a b))∧w'=w:=by
 have hu:upI a b=(a+b - 1)/b:=rfl;rw[hu];clear hu
 go_enter Tryz.func76,Tryz.ntmps76
 go_wp2_with fail
 go_ret
 exact⟨rfl,rfl⟩
end Go.Proofs.YtbchkjfnakabkaaGreatDoor
namespace Go.Proofs.YtbchkjfnakabkaaGreatDoor
open Go.RowKit PX PC
def U7(c:Cfg):Prop:=1≤c.levels∧c.levels≤8
theorem ZaX(w:World)(cb fb:Nat)(c:Cfg)(x:Prt)(hcb:w.cell? ⟨cb,0,none⟩=some (.pointer (some ⟨fb,0,none⟩)))(hc0:w.cell? ⟨fb,0,none⟩=some (.int .i64 c.levels))(hL:U7 c) :
 Calls Tryz.prog 108 #[ZaY x,.pointer (some ⟨cb,0,none⟩)] w fun e w'=>e=.returned (.bool (YX c x))∧Later w w':=by
 obtain⟨x1,x2⟩:=x;have hcl:=World.block_lt_of_cell? w _ hcb;have HLV:=Hd (fun(w1:World) (h:Later w w1)=>Va w1 fb c x1 (h.cell hc0) hL.1 hL.2);have HIN:=Hd (fun(w1:World)=>Xw w1 x2 1 16);have hp:YX c ⟨x1,x2⟩=(inB x2 1 16&&c.lvl x1):=rfl;rw[hp];clear hp hc0
 obtain⟨q,hq⟩:∃ q,c.lvl x1=q:=⟨_,rfl⟩
 rw[hq]at HLV ⊢;clear hq;show Calls Tryz.prog 108 #[.agg #[.int .i64 x1,.int .i64 x2],.pointer (some ⟨cb,0,none⟩)] w _;cases hi:inB x2 1 16
 ·rw[hi]at HIN;clear hi
  go_enter Tryz.func108,Tryz.ntmps108
  go_wp2_with (first
   |(go_at_call 23;(with_reducible refine(HIN.out _).mono ?_);rintro e w' ⟨rfl,rfl⟩)
   |fail)
  go_ret
  exact⟨rfl,(Later.refl w).alloc _⟩
 ·rw[hi]at HIN;clear hi
  go_enter Tryz.func108,Tryz.ntmps108
  go_wp2_with (first
   |(go_at_call 23;(with_reducible refine(HIN.out _).mono ?_);rintro e w' ⟨rfl,rfl⟩)
   |(go_at_call 109;(with_reducible refine(HLV.out _ ((Later.refl w).alloc _)).mono ?_);rintro e w' ⟨rfl,rfl⟩)
   |fail)
  go_ret
  exact⟨Zs (by simp),(Later.refl w).alloc _⟩
theorem Vf{w:World}{fb:Nat}:∃ (cb:Nat) (w1:World),w.heap.size=cb∧w.alloc (.cells #[.pointer (some ⟨fb,0,none⟩)] 58)=w1∧Later w w1∧w1.heap[cb]?=some (.cells #[.pointer (some ⟨fb,0,none⟩)] 58 (0,0))∧w1.cell? ⟨cb,0,none⟩=some (.pointer (some ⟨fb,0,none⟩)):=
 ⟨_,_,rfl,rfl,(Later.refl w).alloc _,Ze w _,Zb (Ze w _) 0⟩
theorem Zbo(w:World)(fb:Nat)(c:Cfg)(vF vP vW vO vV vR vK lv:Value)(h:FormIn w fb c vF vP vW vO vV vR vK lv)(hL:U7 c) :
 Calls Tryz.prog 98 #[.pointer (some ⟨fb,0,none⟩)] w fun e w'=>e=.returned (.bool c.partsB)∧Later w w':=by
 obtain⟨a,cap,rfl,hl1,hl2,hl3⟩:=Zm h.rP;obtain⟨cb,w1,hcb,hw1,hlw,hblk,hcell⟩:=Vf (w:=w) (fb:=fb);have h1:=h.later hlw;have k2:=h1.cell 2;have HALL:=Hd (ZfS w1 _ c.parts h1.rP 108 #[.pointer (some ⟨cb,0,none⟩)] (enters_of Tryz.func108 (by kernel_rfl) rfl) (YX c) (by omega) (fun w2 h2 x hx=>ZaX w2 cb fb c x (h2.cell hcell) (h2.cell (h1.cell 0)) hL));have HIN:=Hd (fun(w1:World)=>Xw w1 (c.parts.length:Int) 1 8);have hp:c.partsB=(inB c.parts.length 1 8&&c.parts.all (YX c)):=rfl;rw[hp]
 obtain⟨n,hn⟩:∃ n,c.parts.length=n:=⟨_,rfl⟩
 obtain⟨q,hq⟩:∃ q,c.parts.all (YX c)=q:=⟨_,rfl⟩
 rw[hq]at HALL ⊢;simp only[WJ]at k2;rw[hn]at HALL HIN k2 hl1 hl3 ⊢;have k2':w1.cell? ⟨fb,2,none⟩=some (.slice a n cap):=k2;have HW1:=Hd hw1;have HLW:=Hd hlw;clear h h1 k2 hp hn hq hblk hw1 hlw;cases hi:inB n 1 8
 ·rw[hi]at HIN;clear hi
  go_enter Tryz.func98,Tryz.ntmps98
  go_upto_region 1 with fail
  rw[HW1.out]
  go_wp2_with (first
   |(go_at_call 23;(with_reducible refine(HIN.out _).mono ?_);rintro e w' ⟨rfl,rfl⟩)
   |fail)
  go_ret
  exact⟨rfl,HLW.out⟩
 ·rw[hi]at HIN;clear hi
  go_enter Tryz.func98,Tryz.ntmps98
  go_upto_region 1 with fail
  rw[HW1.out]
  go_wp2_with (first
   |(go_at_call 23;(with_reducible refine(HIN.out _).mono ?_);rintro e w' ⟨rfl,rfl⟩)
   |(go_at_call 107;(with_reducible refine HALL.out.mono ?_);rintro e w' ⟨rfl,hl1⟩)
   |fail)
  go_ret
  exact⟨Zs (by simp),HLW.out.trans hl1⟩
end Go.Proofs.YtbchkjfnakabkaaGreatDoor
