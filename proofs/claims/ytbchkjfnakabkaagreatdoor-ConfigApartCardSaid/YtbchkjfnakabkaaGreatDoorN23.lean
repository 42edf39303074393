import Derived.Test.YtbchkjfnakabkaaGreatDoorYP
import Derived.Test.YtbchkjfnakabkaaGreatDoorB34
set_option linter.unusedSimpArgs false
set_option linter.unusedVariables false
set_option maxHeartbeats 4000000
set_option maxRecDepth 100000
namespace Go.Proofs.YtbchkjfnakabkaaGreatDoor
open Go.RowKit PX PC
def X5(r:List Int):List Value:=r.map (Value.int .u8)
def XP(r:List Int):Array Value:=(X5 r).toArray
theorem Vm{r:List Int}(h:Rows8 r):(XP r).size=8:=by simp[XP,X5,h.len]
theorem Zea:(Tryz.prog.info? 175).map (·.size)=some 8:=by kernel_rfl
theorem Eo{r:List Int}(h:Rows8 r):(Tryz.prog.info? 175).map (·.size)=some (XP r).size:=by rw[Vm h];exact Zea
theorem DZ(r:List Int):(XP r).all (·.oneCell')=true:=by simp[XP,X5,Value.oneCell']
theorem Ww{r:List Int}(h:Rows8 r){a:Nat}(ha:a<8):(XP r)[a]?=some (.int .u8 (r[a]?.getD 0)):=by
 have hl:a<r.length:=by rw[h.len];exact ha
 simp[XP,X5,List.getElem?_eq_getElem hl,hl]
theorem Zc5(r:List Int)(a:Nat)(x:Int):(XP r).setIfInBounds a (.int .u8 x)=XP (r.set a x):=by
 apply Array.ext';simp[XP,X5,List.map_set]
theorem Zhp{x y:Int}(hx:0<=x/\x<256)(hy:0<=y/\y<256):Go.bits .or .u8 x y=orI x y:=by
 have ho:=ZdC hx hy;unfold orI at ho ⊢;unfold Go.bits;simp only
 have ha:(BitVec.ofInt IntKind.u8.bits x).toNat=x.toNat:=by
  rw[BitVec.toNat_ofInt];show(x%(2 ^ 8:Nat)).toNat=_;omega
 have hb:(BitVec.ofInt IntKind.u8.bits y).toNat=y.toNat:=by
  rw[BitVec.toNat_ofInt];show(y%(2 ^ 8:Nat)).toNat=_;omega
 rw[BitVec.toNat_or,ha,hb,IntKind.wrap_u8];omega
theorem ZaK{x y:Int}(hx:0<=x/\x<256)(hy:0<=y/\y<256):Go.bits .and .u8 x y=andI x y:=by
 have ho:=Q1 hx hy;unfold andI at ho ⊢;unfold Go.bits;simp only
 have ha:(BitVec.ofInt IntKind.u8.bits x).toNat=x.toNat:=by
  rw[BitVec.toNat_ofInt];show(x%(2 ^ 8:Nat)).toNat=_;omega
 have hb:(BitVec.ofInt IntKind.u8.bits y).toNat=y.toNat:=by
  rw[BitVec.toNat_ofInt];show(y%(2 ^ 8:Nat)).toNat=_;omega
 rw[BitVec.toNat_and,ha,hb,IntKind.wrap_u8];omega
theorem Zix{b:Nat}(hb:b<8):IntKind.u8.wrap (2 ^ b)=2 ^ b:=by
 have:=GR hb;rw[IntKind.wrap_u8];omega
theorem DQ{x:Int}(hx:0<=x/\x<256)(b:Nat):(Go.bits .and .u8 (x/2 ^ b) 1==1)=x.toNat.testBit b:=by
 obtain⟨m,rfl⟩:=Int.eq_ofNat_of_zero_le hx.1;have e1:((m:Int)/2 ^ b)=((m/2 ^ b:Nat):Int):=by simp
 have hq:m/2 ^ b<256:=Nat.lt_of_le_of_lt (Nat.div_le_self _ _) (by omega);rw[e1,ZaK (x:=((m/2 ^ b:Nat):Int)) (y:=1) ⟨Int.natCast_nonneg _,by omega⟩ (by omega),andI];rw[Int.toNat_natCast,Int.toNat_natCast,Nat.testBit_eq_decide_div_mod_eq,show(1:Int).toNat=1 from rfl,Nat.and_one_is_mod,Bool.eq_iff_iff];simp only[beq_iff_eq,decide_eq_true_eq];omega
theorem Ziw(w:World):(sizeOf 5).run Tryz.prog w=.ok 1 w:=by kernel_rfl
theorem Zhg{r s:List Int}(hr:Rows8 r)(hs:Rows8 s)(w:World):(Op.equalIn 10000 175 (.agg (XP r)) (.agg (XP s))).run Tryz.prog w=.ok (decide (r=s)) w:=
 Uv (w:=w) (d:=9998) Tryz.underlying175 Tryz.underlying5 Ziw (XP r) (XP s) r s hr.len hs.len rfl rfl
theorem YQ{B q:Nat}{a w:World}(h:Below B a w)(hq:B<=q)(cs:Array Value):Below B a (w.setRow q cs):=
 ⟨h.os,h.tape,h.output,by simpa using h.size,λk hk=>(setRow_other w q k cs (by omega)).trans (h.block k hk)⟩
theorem Later.setC{a w:World}(h:Later a w){b:Nat}(hb:a.heap.size<=b)(j:Nat)(u:Value):Later a (w.setCell ⟨b,j,none⟩ u):=Below.setCell h hb u
def U7(r:List Int)(w:World)(e:Ending)(w':World):Prop:=
 ∃ q,e=.returned (.agg (XP q))/\Rows8 q/\Jm q 8=q/\subR r q/\(∀n l,Ja n l r->Ja n l q)/\Later w w'
theorem Zfh(r:List Int):subR r r:=λ_ _ h=>h
theorem ZcR{r s t:List Int}(h:subR r s)(k:subR s t):subR r t:=λi j hb=>k i j (h i j hb)
theorem Zbe{r:List Int}{a b:Nat}(h:bitR r a b=true):r.set a (orI (r[a]?.getD 0) (r[b]?.getD 0))=VS r a b:=by unfold VS;rw[if_pos h]
theorem DS{r:List Int}{a b:Nat}(h:bitR r a b=false):VS r a b=r:=by unfold VS;rw[if_neg (by rw[h];decide)]
theorem BC(w:World)(r:List Int)(hr:Rows8 r):Calls Tryz.prog 134 #[.agg (XP r)] w (U7 r w):=by
 obtain⟨PT,hPT⟩:∃ PT,U7 r w=PT:=⟨_,rfl⟩
 rw[hPT];have p1:=Hd hPT;have HR:=Hd hr
 obtain⟨CS,hCS⟩:∃ CS:Array Value,XP r=CS:=⟨_,rfl⟩
 have o1:=Hd (Eo hr);rw[hCS]at o1;rw[hCS];have s1:=Hd hCS;clear hPT hr hCS
 go_enter Tryz.func134,Tryz.ntmps134
 go_wp2_with fail
 go_loopg [] (ZdZ r+1) (λgk wx=>∃ q,ZdZ q<gk/\Rows8 q/\wx.heap[w.heap.size]?=some (.cells (XP q) 175 (0,0))/\wx.heap[w.heap.size+1]?=some (.cells (XP YK) 175 (0,0))/\subR r q/\(∀n l,Ja n l r->Ja n l q)/\Later w wx)
 case atStart=>
  refine⟨r,by omega,HR.out,?_,?_,Zfh r,λn l h=>h,((Later.refl w).alloc _).alloc _⟩
  ·rw[s1.out];exact Ze (Zd w _) _
  ·exact Zq (by simp)
 case round=>
  obtain⟨q,hgk,hq,hub,hrb,hsub,hsnd,hl⟩:=hrel
  obtain⟨g',rfl⟩:∃ g',gk=g'+1:=⟨gk - 1,by omega⟩
  have HQ:=Hd hq;have HI:=Hd (Eo hq);have F0:=Hd hub;have g1:=Hd hrb;have j0:=Hd hsub;have o0:=Hd hsnd;have HZ:=Hd (show(XP q).size=(#[Value.int .u8 0,.int .u8 0,.int .u8 0,.int .u8 0,.int .u8 0,.int .u8 0,.int .u8 0,.int .u8 0]:Array Value).size by rw[Vm hq];rfl);have hrlt:=Zb hrb;have hult:=Zb hub;clear hq hub hrb hsub hsnd
  obtain⟨QC,hQC⟩:∃ QC,XP q=QC:=⟨_,rfl⟩
  rw[hQC]at F0 HZ HI;have n1:=Hd (show QC.all (·.oneCell')=true by rw[<-hQC];exact DZ q);have a1:=Hd hQC;clear hQC
  go_wp2_with (first
   |refine wpList_load_row rfl 175 (.tmp 1) rfl w.heap.size rfl 175 QC (0,0) _ F0.out Tryz.underlying175 rfl HI.out ?_
   |refine wpList_store_row rfl 175 (.tmp 3) (.tmp 6) rfl wr.heap.size QC rfl rfl 175 _ (Zd wr _) HI.out HZ.out.symm n1.out ?_
   |fail)
  obtain⟨wb,hwb⟩:∃ wb,wr.heap.size=wb:=⟨_,rfl⟩
  rw[hwb]
  obtain⟨w1,hw1⟩:∃ w1,(wr.alloc (.cells #[Value.int .u8 0,.int .u8 0,.int .u8 0,.int .u8 0,.int .u8 0,.int .u8 0,.int .u8 0,.int .u8 0] 175)).setRow wb QC=w1:=⟨_,rfl⟩
  rw[hw1];have T0:w1.heap[w.heap.size]?=some (.cells (XP q) 175 (0,0)):=by rw[<-hw1,a1.out];exact(setRow_other _ _ _ _ (by omega)).trans (Ze F0.out _)
  have R0:w1.heap[w.heap.size+1]?=some (.cells (XP YK) 175 (0,0)):=by rw[<-hw1];exact(setRow_other _ _ _ _ (by omega)).trans (Ze g1.out _)
  have c1:w1.heap[wb]?=some (.cells QC 175 (0,0)):=by rw[<-hw1];exact setRow_heap _ _ _ _ _ _ (Zq hwb)
  have j1:Later w w1:=by rw[<-hw1];exact YQ (hl.alloc _) (by omega) _
  clear hw1 hl;have v1:=Hd T0;have r1:=Hd R0;have f1:=Hd c1;clear T0 R0 c1
  go_loopw [7] (λv wx=>∃ a:Nat,a<=8/\v=.int .i64 a/\wx.heap[w.heap.size]?=some (.cells (XP (Jm q a)) 175 (0,0))/\wx.heap[w.heap.size+1]?=some (.cells (XP YK) 175 (0,0))/\wx.heap[wb]?=some (.cells QC 175 (0,0))/\Later w wx) (λv _=>8 - (intOf v).toNat)
  case atStart=>exact⟨0,by omega,rfl,v1.out,r1.out,f1.out,j1⟩
  case round=>
   obtain⟨a,ha,rfl,hu2,hr2,hb2,hl2⟩:=hrel
   obtain⟨p,hp⟩:∃ p,Jm q a=p:=⟨_,rfl⟩
   have S0:Rows8 p:=by rw[<-hp];exact XD HQ.out a
   rw[hp]at hu2;have HP:=Hd hp;have f0:=Hd S0;have s0:=Zb hu2;have r0:=Zb hb2;have i0:=Hd hu2;have l0:=Hd hr2;have z0:=Hd hb2;clear hp S0 hu2 hr2 hb2;by_cases hlt:a<8
   ·obtain⟨wo,hwo⟩:∃ wo:World,wo=wr:=⟨_,rfl⟩
    rw[<-hwo]at i0 l0 z0 hl2 s0 r0 ⊢;clear hwo
    go_wp2_with fail
    go_loopw [10] (λv wx=>∃ b:Nat,b<=8/\v=.int .i64 b/\wx.heap[w.heap.size]?=some (.cells (XP (UO p a b)) 175 (0,0))/\wx.heap[w.heap.size+1]?=some (.cells (XP YK) 175 (0,0))/\wx.heap[wb]?=some (.cells QC 175 (0,0))/\Later w wx) (λv _=>8 - (intOf v).toNat)
    case atStart=>exact⟨0,by omega,rfl,i0.out,l0.out,z0.out,hl2⟩
    case round=>
     obtain⟨b,hb,rfl,hu3,hr3,hb3,hl3⟩:=hrel
     obtain⟨c,hc⟩:∃ c,UO p a b=c:=⟨_,rfl⟩
     have g0:Rows8 c:=by rw[<-hc];exact Yv f0.out a b
     rw[hc]at hu3;have HC:=Hd hc;by_cases hlb:b<8
     ·have hx:=g0.get a;have hy:=g0.get b;have k1:=(Za hu3 a).trans (Ww g0 hlt);have k2:=(Za hu3 b).trans (Ww g0 hlb);have k3:=Zc hu3 a;have ht:=DQ hx b;have a0:bitR c a b=(c[a]?.getD 0).toNat.testBit b:=rfl;have y0:=Zhp hx hy;have hult3:=Zb hu3;have q0:=λ(x:Int)=>Zf hu3 a (.int .u8 x)
      have C0:=Hd q0;have L0:=Hd hu3;have A0:=Hd hr3;have v0:=Hd hb3;have d0:UO p a (b+1)=VS c a b:=by rw[<-hc];rfl
      have e0:=Hd d0
      obtain⟨x,hxe⟩:∃ x,c[a]?.getD 0=x:=⟨_,rfl⟩
      obtain⟨y,hye⟩:∃ y,c[b]?.getD 0=y:=⟨_,rfl⟩
      rw[hxe]at k1 ht y0 a0 hx;rw[hye]at k2 y0 hy;rw[<-a0]at ht;have HX:=Hd hxe;have HY:=Hd hye;have HBIT:=Hd a0;have m1:=Hd y0;clear hc g0 q0 hu3 hr3 hb3 d0 hxe hye a0 y0;cases hbb:bitR c a b
      ·rw[hbb]at ht;have H0:=Hd hbb;clear hbb
       go_wp2_with fail
       refine⟨⟨b+1,by omega,by simp,?_,A0.out,v0.out,hl3⟩,by simp only[intOf];omega⟩;rw[e0.out,DS H0.out];exact L0.out
      ·rw[hbb]at ht;have H0:=Hd hbb;clear hbb
       go_wp2_with fail
       go_region
       generalize hWZ:World.drew _=WZ
       have M0:WZ.heap[w.heap.size]?=some (.cells (XP (UO p a (b+1))) 175 (0,0)):=by
        rw[<-hWZ,m1.out,e0.out,<-Zbe H0.out,HX.out,HY.out,<-Zc5];exact C0.out _
       have N0:WZ.heap[w.heap.size+1]?=some (.cells (XP YK) 175 (0,0)):=by
        rw[<-hWZ];exact(Below.heap_setCell _ _ _ _ (by simp)).trans A0.out
       have b1:WZ.heap[wb]?=some (.cells QC 175 (0,0)):=by
        rw[<-hWZ];exact(Below.heap_setCell _ _ _ _ (by simp;omega)).trans v0.out
       have t1:Later w WZ:=by
        rw[<-hWZ];exact Later.drew (Later.setC hl3 (Nat.le_refl _) _ _)
       clear hWZ k1 k2 k3;have Z1:=Hd M0;have Z2:=Hd N0;have Z3:=Hd b1;clear M0 N0 b1
       go_wp2_with fail
       exact⟨⟨b+1,by omega,by simp,Z1.out,Z2.out,Z3.out,t1⟩,by simp only[intOf];omega⟩
     ·have W0:b=8:=by omega
      have L0:=Hd (show wr.heap[w.heap.size]?=some (.cells (XP (Jm q (a+1))) 175 (0,0)) by
       rw[hu3,<-hc,W0,<-HP.out];rfl)
      have A0:=Hd hr3;have v0:=Hd hb3;clear hu3 hr3 hb3 hc g0 W0
      go_wp2_with fail
      exact⟨⟨a+1,by omega,by simp,L0.out,A0.out,v0.out,hl3⟩,by simp only[intOf];omega⟩
   ·have d1:a=8:=by omega
    have P0:Jm q 8=p:=by rw[<-HP.out,d1]
    have m0:=Hd P0;have t0:=λw'=>Zhg f0.out HQ.out w'
    rw[a1.out]at t0
    obtain⟨PC8,hPC8⟩:∃ PC8,XP p=PC8:=⟨_,rfl⟩
    have n0:=Hd (Eo f0.out);rw[hPC8]at t0 i0 n0;have O0:=Hd hPC8;have l1:=Hd (show PC8.all (·.oneCell')=true by rw[<-hPC8];exact DZ p);have q1:=Hd (show(XP YK).size=PC8.size by rw[<-hPC8,Vm f0.out];rfl);clear hPC8 P0 d1;by_cases c0:p=q
    ·rw[decide_eq_true c0]at t0;have I0:=Hd c0;clear c0
     go_wp2_with (first
      |refine wpList_load_row rfl 175 (.tmp 1) rfl w.heap.size rfl 175 PC8 (0,0) _ i0.out Tryz.underlying175 rfl n0.out ?_
      |refine wpList_load_row rfl 175 (.tmp 3) rfl wb rfl 175 QC (0,0) _ z0.out Tryz.underlying175 rfl HI.out ?_
      |refine wpList_store_row rfl 175 (.tmp 2) (.tmp 33) rfl (w.heap.size+1) PC8 rfl rfl 175 _ l0.out n0.out q1.out l1.out ?_
      |fail)
     refine bodyPost_ret (results_cell_row rfl _ _ (w.heap.size+1) 175 PC8 (0,0) _ rfl (setRow_heap _ _ _ _ _ _ l0.out) Tryz.underlying175 rfl n0.out) rfl ?_;rw[<-p1.out];have c0:=I0.out;refine⟨p,by rw[O0.out],f0.out,?_,?_,λn l h=>?_,YQ hl2 (by omega) _⟩
     ·have:=m0.out;rw[<-c0]at this;exact this
     ·rw[c0];exact j0.out
     ·rw[c0];exact o0.out n l h
    ·rw[decide_eq_false c0]at t0;have I0:=Hd c0;clear c0
     go_wp2_with (first
      |refine wpList_load_row rfl 175 (.tmp 1) rfl w.heap.size rfl 175 PC8 (0,0) _ i0.out Tryz.underlying175 rfl n0.out ?_
      |refine wpList_load_row rfl 175 (.tmp 3) rfl wb rfl 175 QC (0,0) _ z0.out Tryz.underlying175 rfl HI.out ?_
      |fail)
     go_roundg g'
     case measure=>omega
     case rel=>
      have p0:=ZdY HQ.out (by rw[m0.out];exact I0.out);rw[m0.out]at p0;refine⟨p,by omega,f0.out,?_,l0.out,?_,λn l h=>?_,hl2⟩
      ·rw[O0.out];exact i0.out
      ·rw[<-m0.out];exact ZcR j0.out (UJ HQ.out 0 8 (by omega) (by omega))
      ·rw[<-m0.out];exact EN HQ.out (o0.out n l h) 8 (by omega)
end Go.Proofs.YtbchkjfnakabkaaGreatDoor
namespace Go.Proofs.YtbchkjfnakabkaaGreatDoor
open Go.RowKit PX PC
def Jz(n:Int)(U D:List Int):List Value:=.int .i64 n::(X5 U++X5 D)
def LatAt(w:World)(lb:Nat)(n:Int)(U D:List Int):Prop:=w.heap[lb]?=some (.cells (Jz n U D).toArray 177 (0,0))
theorem ET{r:List Int}(h:Rows8 r){a:Nat}(ha:a<8):(X5 r)[a]?=some (.int .u8 (r[a]?.getD 0)):=by
 have hl:a<r.length:=by rw[h.len];exact ha
 simp[X5,List.getElem?_eq_getElem hl,hl]
theorem LatAt.n{w:World}{lb:Nat}{n:Int}{U D:List Int}(h:LatAt w lb n U D):w.cell? ⟨lb,0,none⟩=some (.int .i64 n):=Za h 0
theorem LatAt.up{w:World}{lb:Nat}{n:Int}{U D:List Int}(h:LatAt w lb n U D)(hU:Rows8 U){a:Nat}(ha:a<8):w.cell? ⟨lb,1+a,none⟩=some (.int .u8 (U[a]?.getD 0)):=by
 rw[Za h,List.getElem?_toArray,Jz,Nat.add_comm,List.getElem?_cons_succ,List.getElem?_append_left (by simp[X5,hU.len];exact ha),ET hU ha]
theorem LatAt.down{w:World}{lb:Nat}{n:Int}{U D:List Int}(h:LatAt w lb n U D)(hU:Rows8 U)(hD:Rows8 D){a:Nat}(ha:a<8):w.cell? ⟨lb,9+a,none⟩=some (.int .u8 (D[a]?.getD 0)):=by
 rw[Za h,List.getElem?_toArray,Jz,show 9+a=(8+a)+1 by omega,List.getElem?_cons_succ,List.getElem?_append_right (by simp[X5,hU.len]),show 8+a - (X5 U).length=a by simp[X5,hU.len],ET hD ha]
theorem LatAt.later{w w':World}{lb:Nat}{n:Int}{U D:List Int}(h:LatAt w lb n U D)(hl:Later w w'):LatAt w' lb n U D:=hl.block h
def levD(n a:Int):Bool:=decide (0<=a/\a<n)
theorem Vr{n a:Int}(h0:0<=a)(h1:a<n):levD n a=true:=decide_eq_true ⟨h0,h1⟩
theorem QN{n a:Int}(h:¬ (0<=a/\a<n)):levD n a=false:=decide_eq_false h
theorem Ew{n a:Int}:levD n a=true↔lev n a:=by unfold levD lev;exact decide_eq_true_iff
theorem Gf(w:World)(lb:Nat)(n a:Int)(hc:w.cell? ⟨lb,0,none⟩=some (.int .i64 n)) :
 Calls Tryz.prog 133 #[.pointer (some ⟨lb,0,none⟩),.int .i64 a] w λe w'=>e=.returned (.bool (levD n a))/\w'=w:=by
 by_cases h0:0<=a
 ·by_cases h1:a<n
  ·rw[Vr h0 h1]
   go_enter Tryz.func133,Tryz.ntmps133
   go_wp2_with fail
   go_ret
   exact⟨rfl,rfl⟩
  ·rw[QN (λh=>h1 h.2)]
   go_enter Tryz.func133,Tryz.ntmps133
   go_wp2_with fail
   go_ret
   exact⟨rfl,rfl⟩
 ·rw[QN (λh=>h0 h.1)]
  go_enter Tryz.func133,Tryz.ntmps133
  go_wp2_with fail
  go_ret
  exact⟨rfl,rfl⟩
def endF(R:List Int)(x:Int):Nat->Nat->Int
 |_,0=>-1
 |c,k+1=>if R[c]?.getD 0=x then(c:Int) else endF R x (c+1) k
theorem ZaC(R:List Int)(x:Int):∀ (k c:Nat),0<=endF R x c k↔∃ i,c<=i/\i<c+k/\R[i]?.getD 0=x
 |0,c=>by simp[endF];intro i h1 h2;omega
 |k+1,c=>by
  unfold endF;by_cases h:R[c]?.getD 0=x
  ·rw[if_pos h];exact⟨λ_=>⟨c,Nat.le_refl _,by omega,h⟩,λ_=>by omega⟩
  ·rw[if_neg h,ZaC R x k (c+1)];constructor
   ·rintro⟨i,h1,h2,h3⟩;exact⟨i,by omega,by omega,h3⟩
   ·rintro⟨i,h1,h2,h3⟩;rcases(by omega:i=c\/c+1<=i) with rfl|h4
    ·exact absurd h3 h
    ·exact⟨i,h4,by omega,h3⟩
theorem ZaD(R:List Int)(x:Int)(n:Nat):0<=endF R x 0 n↔VM R n x:=by
 rw[ZaC];unfold VM;constructor
 ·rintro⟨i,-, h2,h3⟩;exact⟨i,by omega,h3⟩
 ·rintro⟨i,h2,h3⟩;exact⟨i,by omega,by omega,h3⟩
theorem Zd3(w:World)(lb o n:Nat)(R:List Int)(x:Int)(hn:n<=8)(hc:w.cell? ⟨lb,0,none⟩=some (.int .i64 n))(hR:∀ a,a<8->w.cell? ⟨lb,o+a,none⟩=some (.int .u8 (R[a]?.getD 0))) :
 Calls Tryz.prog 156 #[.pointer (some ⟨lb,0,none⟩),.pointer (some ⟨lb,o,none⟩),.int .u8 x] w λe w'=>e=.returned (.int .i64 (endF R x 0 n))/\w'=w:=by
 have HR:=Hd hR;clear hR
 obtain⟨v,hv⟩:∃ v,endF R x 0 n=v:=⟨_,rfl⟩
 rw[hv];have HV:=Hd hv;clear hv
 go_enter Tryz.func156,Tryz.ntmps156
 go_wp2_with fail
 go_loop [12] (λvi=>∃ c:Nat,c<=n/\vi=.int .i64 c/\Hid (endF R x c (n - c)=v)) (λvi=>n - (intOf vi).toNat)
 case atStart=>exact⟨0,by omega,rfl,HV⟩
 case round=>
  obtain⟨c,hcn,rfl,HF⟩:=hrel;by_cases hlt:c<n
  ·have k1:=HR.out c (by omega)
   obtain⟨y,hy⟩:∃ y,R[c]?.getD 0=y:=⟨_,rfl⟩
   rw[hy]at k1;have HY:=Hd hy;clear hy
   have HE:=Hd (show endF R x c (n - c)=if y=x then(c:Int) else endF R x (c+1) (n - (c+1)) by
    rw[show n - c=(n - (c+1))+1 by omega,endF,HY.out])
   by_cases hyx:y=x
   ·have hb:(y==x)=true:=by simpa using hyx
    have K0:=Hd hyx;clear hyx
    go_wp2_with fail
    go_ret
    refine⟨ZT ?_,rfl⟩;rw[<-HF.out,HE.out,if_pos K0.out]
   ·have hb:(y==x)=false:=by simpa using hyx
    have K0:=Hd hyx;clear hyx
    go_wp2_with fail
    refine⟨⟨c+1,by omega,by simp,Hd ?_⟩,by simp only[intOf];omega⟩;rw[<-HF.out,HE.out,if_neg K0.out]
  ·go_wp2_with fail
   go_ret
   refine⟨ZT ?_,rfl⟩;rw[<-HF.out,show n - c=0 by omega,endF]
theorem ZfX(w:World)(lb n a b:Nat)(U D:List Int)(h:LatAt w lb n U D)(hU:Rows8 U)(hD:Rows8 D)(hn:n<=8)(ha:a<n)(hb:b<n) :
 Calls Tryz.prog 135 #[.pointer (some ⟨lb,0,none⟩),.int .i64 a,.int .i64 b] w λe w'=>e=.returned (.int .i64 (endF U (andI (U[a]?.getD 0) (U[b]?.getD 0)) 0 n))/\∃ k,w'=w.drewN k:=by
 have h1:=Gf w lb n a h.n;have h2:=Gf w lb n b h.n;rw[Vr (by omega) (by omega)]at h1 h2;have H1:=Hd h1;have H2:=Hd h2;have k0:=h.n;have k1:=h.up hU (show a<8 by omega);have k2:=h.up hU (show b<8 by omega);have hx:=hU.get a;have hy:=hU.get b;have b0:=ZaK hx hy;have HE:=Hd (λ(w1:World) (h1:Later w w1)=>Zd3 w1 lb 1 n U (andI (U[a]?.getD 0) (U[b]?.getD 0)) hn (h.later h1).n (λa ha=>(h.later h1).up hU ha))
 obtain⟨x,hxe⟩:∃ x,U[a]?.getD 0=x:=⟨_,rfl⟩
 obtain⟨y,hye⟩:∃ y,U[b]?.getD 0=y:=⟨_,rfl⟩
 rw[hxe]at k1 b0 HE hx ⊢;rw[hye]at k2 b0 HE hy ⊢
 obtain⟨z,hz⟩:∃ z,andI x y=z:=⟨_,rfl⟩
 rw[hz]at b0 HE ⊢;have i1:(a:Int)<8:=by omega
 have i2:(b:Int)<8:=by omega
 have i3:(0:Int)<=(a:Int):=by omega
 have i4:(0:Int)<=(b:Int):=by omega
 clear h h1 h2 hU hD hxe hye hz
 go_enter Tryz.func135,Tryz.ntmps135
 go_wp2_with (first
  |(go_at_call 133;(with_reducible refine H1.out.mono ?_);rintro e w' ⟨rfl,rfl⟩)
  |(go_at_call 133;(with_reducible refine H2.out.mono ?_);rintro e w' ⟨rfl,rfl⟩)
  |fail)
 go_quiet ((go_at_call 156;exact Calls.quiet_of_same (HE.out _ (Later.drewN (Later.refl _) _))))
 go_wp2_with fail
 go_ret
 exact⟨rfl,_,rfl⟩
theorem ZfW(w:World)(lb n a b:Nat)(U D:List Int)(h:LatAt w lb n U D)(hU:Rows8 U)(hD:Rows8 D)(hn:n<=8)(ha:a<n)(hb:b<n) :
 Calls Tryz.prog 136 #[.pointer (some ⟨lb,0,none⟩),.int .i64 a,.int .i64 b] w λe w'=>e=.returned (.int .i64 (endF D (andI (D[a]?.getD 0) (D[b]?.getD 0)) 0 n))/\∃ k,w'=w.drewN k:=by
 have h1:=Gf w lb n a h.n;have h2:=Gf w lb n b h.n;rw[Vr (by omega) (by omega)]at h1 h2;have H1:=Hd h1;have H2:=Hd h2;have k0:=h.n;have k1:=h.down hU hD (show a<8 by omega);have k2:=h.down hU hD (show b<8 by omega);have hx:=hD.get a;have hy:=hD.get b;have b0:=ZaK hx hy;have HE:=Hd (λ(w1:World) (h1:Later w w1)=>Zd3 w1 lb 9 n D (andI (D[a]?.getD 0) (D[b]?.getD 0)) hn (h.later h1).n (λa ha=>(h.later h1).down hU hD ha))
 obtain⟨x,hxe⟩:∃ x,D[a]?.getD 0=x:=⟨_,rfl⟩
 obtain⟨y,hye⟩:∃ y,D[b]?.getD 0=y:=⟨_,rfl⟩
 rw[hxe]at k1 b0 HE hx ⊢;rw[hye]at k2 b0 HE hy ⊢
 obtain⟨z,hz⟩:∃ z,andI x y=z:=⟨_,rfl⟩
 rw[hz]at b0 HE ⊢;have i1:(a:Int)<8:=by omega
 have i2:(b:Int)<8:=by omega
 have i3:(0:Int)<=(a:Int):=by omega
 have i4:(0:Int)<=(b:Int):=by omega
 clear h h1 h2 hU hD hxe hye hz
 go_enter Tryz.func136,Tryz.ntmps136
 go_wp2_with (first
  |(go_at_call 133;(with_reducible refine H1.out.mono ?_);rintro e w' ⟨rfl,rfl⟩)
  |(go_at_call 133;(with_reducible refine H2.out.mono ?_);rintro e w' ⟨rfl,rfl⟩)
  |fail)
 go_quiet ((go_at_call 156;exact Calls.quiet_of_same (HE.out _ (Later.drewN (Later.refl _) _))))
 go_wp2_with fail
 go_ret
 exact⟨rfl,_,rfl⟩
def Ve(n:Int)(U:List Int)(a b:Int):Bool:=levD n a&&(levD n b&&bitR U a.toNat b.toNat)
theorem W4(w:World)(lb n:Nat)(a b:Int)(U D:List Int)(h:LatAt w lb n U D)(hU:Rows8 U)(hn:n<=8) :
 Calls Tryz.prog 116 #[.pointer (some ⟨lb,0,none⟩),.int .i64 a,.int .i64 b] w λe w'=>e=.returned (.bool (Ve n U a b))/\w'=w:=by
 have h1:=Gf w lb n a h.n;have h2:=Gf w lb n b h.n;cases hla:levD n a
 ·have hr:Ve n U a b=false:=by unfold Ve;rw[hla];rfl
  rw[hr];rw[hla]at h1;have H1:=Hd h1;clear h h1 h2 hr hla
  go_enter Tryz.func116,Tryz.ntmps116
  go_wp2_with (first
   |(go_at_call 133;(with_reducible refine H1.out.mono ?_);rintro e w' ⟨rfl,rfl⟩)
   |fail)
  go_ret
  exact⟨rfl,rfl⟩
 ·cases hlb:levD n b
  ·have hr:Ve n U a b=false:=by unfold Ve;rw[hla,hlb];rfl
   rw[hr];rw[hla]at h1;rw[hlb]at h2;have H1:=Hd h1;have H2:=Hd h2;clear h h1 h2 hr hla hlb
   go_enter Tryz.func116,Tryz.ntmps116
   go_wp2_with (first
    |(go_at_call 133;(with_reducible refine H1.out.mono ?_);rintro e w' ⟨rfl,rfl⟩)
    |(go_at_call 133;(with_reducible refine H2.out.mono ?_);rintro e w' ⟨rfl,rfl⟩)
    |fail)
   go_ret
   exact⟨rfl,rfl⟩
  ·rw[hla]at h1;rw[hlb]at h2;have la:=Ew.1 hla;have lb':=Ew.1 hlb;unfold lev at la lb';obtain⟨x,rfl⟩:=Int.eq_ofNat_of_zero_le la.1;obtain⟨y,rfl⟩:=Int.eq_ofNat_of_zero_le lb'.1;have hr:Ve n U (x:Int) (y:Int)=bitR U x y:=by unfold Ve;rw[hla,hlb];simp
   rw[hr];have k1:=h.up hU (show x<8 by omega);have hx:=hU.get x;have ht:=DQ hx y;have a0:bitR U x y=(U[x]?.getD 0).toNat.testBit y:=rfl;rw[<-a0]at ht
   obtain⟨z,hz⟩:∃ z,U[x]?.getD 0=z:=⟨_,rfl⟩
   rw[hz]at k1 ht hx
   obtain⟨bb,hbb⟩:∃ bb,bitR U x y=bb:=⟨_,rfl⟩
   rw[hbb]at ht ⊢;have i1:(x:Int)<8:=by omega
   have i2:(y:Int)<8:=by omega
   have i3:(0:Int)<=(x:Int):=by omega
   have i4:(0:Int)<=(y:Int):=by omega
   have H1:=Hd h1;have H2:=Hd h2;clear h h1 h2 hr hla hlb a0 hz hbb la lb' hU
   go_enter Tryz.func116,Tryz.ntmps116
   go_wp2_with (first
    |(go_at_call 133;(with_reducible refine H1.out.mono ?_);rintro e w' ⟨rfl,rfl⟩)
    |(go_at_call 133;(with_reducible refine H2.out.mono ?_);rintro e w' ⟨rfl,rfl⟩)
    |fail)
   go_ret
   exact⟨rfl,rfl⟩
