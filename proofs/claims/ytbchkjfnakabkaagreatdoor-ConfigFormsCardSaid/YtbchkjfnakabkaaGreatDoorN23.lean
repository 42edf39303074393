import Derived.Test.YtbchkjfnakabkaaGreatDoorYP
import Derived.Test.YtbchkjfnakabkaaGreatDoorB34
import Derived.BigRegion
import Derived.Deep.LoopGhost
import Derived.Deep.QuietTactic
import Derived.BigQuiet
set_option linter.unusedSimpArgs false
set_option linter.unusedVariables false
set_option maxHeartbeats 4000000
set_option maxRecDepth 100000
namespace Go.Proofs.YtbchkjfnakabkaaGreatDoor
open Go.RowKit PX PC
def XZ(r:List Int):List Value:=r.map (Value.int .u8)
def XM(r:List Int):Array Value:=(XZ r).toArray
theorem JW{r:List Int}(h:Rows8 r):(XM r).size=8:=by simp[XM,XZ,h.len]
theorem Zdu:(Tryz.prog.info? 175).map (·.size)=some 8:=by kernel_rfl
theorem Eb{r:List Int}(h:Rows8 r):(Tryz.prog.info? 175).map (·.size)=some (XM r).size:=by rw[JW h];exact Zdu
theorem DA(r:List Int):(XM r).all (·.oneCell')=true:=by simp[XM,XZ,Value.oneCell']
theorem Q8{r:List Int}(h:Rows8 r){a:Nat}(ha:a<8):(XM r)[a]?=some (.int .u8 (r[a]?.getD 0)):=by
 have hl:a<r.length:=by rw[h.len];exact ha
 simp[XM,XZ,List.getElem?_eq_getElem hl,hl]
theorem Zcm(r:List Int)(a:Nat)(x:Int):(XM r).setIfInBounds a (.int .u8 x)=XM (r.set a x):=by
 apply Array.ext';simp[XM,XZ,List.map_set]
theorem ZgF{x y:Int}(hx:0≤x∧x<256)(hy:0≤y∧y<256):Go.bits .or .u8 x y=orI x y:=by
 have ho:=ZcU hx hy;unfold orI at ho ⊢;unfold Go.bits;simp only
 have ha:(BitVec.ofInt IntKind.u8.bits x).toNat=x.toNat:=by
  rw[BitVec.toNat_ofInt];show(x%(2 ^ 8:Nat)).toNat=_;omega
 have hb:(BitVec.ofInt IntKind.u8.bits y).toNat=y.toNat:=by
  rw[BitVec.toNat_ofInt];show(y%(2 ^ 8:Nat)).toNat=_;omega
 rw[BitVec.toNat_or,ha,hb,IntKind.wrap_u8];omega
theorem Zac{x y:Int}(hx:0≤x∧x<256)(hy:0≤y∧y<256):Go.bits .and .u8 x y=andI x y:=by
 have ho:=QE hx hy;unfold andI at ho ⊢;unfold Go.bits;simp only
 have ha:(BitVec.ofInt IntKind.u8.bits x).toNat=x.toNat:=by
  rw[BitVec.toNat_ofInt];show(x%(2 ^ 8:Nat)).toNat=_;omega
 have hb:(BitVec.ofInt IntKind.u8.bits y).toNat=y.toNat:=by
  rw[BitVec.toNat_ofInt];show(y%(2 ^ 8:Nat)).toNat=_;omega
 rw[BitVec.toNat_and,ha,hb,IntKind.wrap_u8];omega
theorem ZhM{b:Nat}(hb:b<8):IntKind.u8.wrap (2 ^ b)=2 ^ b:=by
 have:=GD hb;rw[IntKind.wrap_u8];omega
theorem Ds{x:Int}(hx:0≤x∧x<256)(b:Nat):(Go.bits .and .u8 (x/2 ^ b) 1==1)=x.toNat.testBit b:=by
 obtain⟨m,rfl⟩:=Int.eq_ofNat_of_zero_le hx.1;have e1:((m:Int)/2 ^ b)=((m/2 ^ b:Nat):Int):=by simp
 have hq:m/2 ^ b<256:=Nat.lt_of_le_of_lt (Nat.div_le_self _ _) (by omega);rw[e1,Zac (x:=((m/2 ^ b:Nat):Int)) (y:=1) ⟨Int.natCast_nonneg _,by omega⟩ (by omega),andI];rw[Int.toNat_natCast,Int.toNat_natCast,Nat.testBit_eq_decide_div_mod_eq,show(1:Int).toNat=1 from rfl,Nat.and_one_is_mod,Bool.eq_iff_iff];simp only[beq_iff_eq,decide_eq_true_eq];omega
theorem ZhL(w:World):(sizeOf 5).run Tryz.prog w=.ok 1 w:=by kernel_rfl
theorem Zgw{r s:List Int}(hr:Rows8 r)(hs:Rows8 s)(w:World):(Op.equalIn 10000 175 (.agg (XM r)) (.agg (XM s))).run Tryz.prog w=.ok (decide (r=s)) w:=
 Uj (w:=w) (d:=9998) Tryz.underlying175 Tryz.underlying5 ZhL (XM r) (XM s) r s hr.len hs.len rfl rfl
theorem YK{B q:Nat}{a w:World}(h:Below B a w)(hq:B≤q)(cs:Array Value):Below B a (w.setRow q cs):=
 ⟨h.os,h.tape,h.output,by simpa using h.size,fun k hk=>(setRow_other w q k cs (by omega)).trans (h.block k hk)⟩
theorem Later.setC{a w:World}(h:Later a w){b:Nat}(hb:a.heap.size≤b)(j:Nat)(u:Value):Later a (w.setCell ⟨b,j,none⟩ u):=Below.setCell h hb u
def UT(r:List Int)(w:World)(e:Ending)(w':World):Prop:=
 ∃ q,e=.returned (.agg (XM q))∧Rows8 q∧Jc q 8=q∧subR r q∧(∀n l,Y3 n l r→Y3 n l q)∧Later w w'
theorem Zey(r:List Int):subR r r:=fun _ _ h=>h
theorem Zb9{r s t:List Int}(h:subR r s)(k:subR s t):subR r t:=fun i j hb=>k i j (h i j hb)
theorem ZaE{r:List Int}{a b:Nat}(h:bitR r a b=true):r.set a (orI (r[a]?.getD 0) (r[b]?.getD 0))=VB r a b:=by unfold VB;rw[if_pos h]
theorem Du{r:List Int}{a b:Nat}(h:bitR r a b=false):VB r a b=r:=by unfold VB;rw[if_neg (by rw[h];decide)]
theorem D6(w:World)(r:List Int)(hr:Rows8 r):Calls Tryz.prog 134 #[.agg (XM r)] w (UT r w):=by
 obtain⟨PT,hPT⟩:∃ PT,UT r w=PT:=⟨_,rfl⟩
 rw[hPT];have HPT:=Hd hPT;have HR:=Hd hr
 obtain⟨CS,hCS⟩:∃ CS:Array Value,XM r=CS:=⟨_,rfl⟩
 have HI0:=Hd (Eb hr);rw[hCS]at HI0;rw[hCS];have HCS:=Hd hCS;clear hPT hr hCS
 go_enter Tryz.func134,Tryz.ntmps134
 go_wp2_with fail
 go_loopg [] (Zdk r+1) (fun gk wx=>∃ q,Zdk q<gk∧Rows8 q∧wx.heap[w.heap.size]?=some (.cells (XM q) 175 (0,0))∧wx.heap[w.heap.size+1]?=some (.cells (XM YE) 175 (0,0))∧subR r q∧(∀n l,Y3 n l r→Y3 n l q)∧Later w wx)
 case atStart=>
  refine⟨r,by omega,HR.out,?_,?_,Zey r,fun n l h=>h,((Later.refl w).alloc _).alloc _⟩
  ·rw[HCS.out];exact Zd (Ze w _) _
  ·exact Zt (by simp)
 case round=>
  obtain⟨q,hgk,hq,hub,hrb,hsub,hsnd,hl⟩:=hrel
  obtain⟨g',rfl⟩:∃ g',gk=g'+1:=⟨gk - 1,by omega⟩
  have HQ:=Hd hq;have HI:=Hd (Eb hq);have HUB:=Hd hub;have HRB:=Hd hrb;have HSUB:=Hd hsub;have HSND:=Hd hsnd;have HZ:=Hd (show(XM q).size=(#[Value.int .u8 0,.int .u8 0,.int .u8 0,.int .u8 0,.int .u8 0,.int .u8 0,.int .u8 0,.int .u8 0]:Array Value).size by rw[JW hq];rfl);have hrlt:=Za hrb;have hult:=Za hub;clear hq hub hrb hsub hsnd
  obtain⟨QC,hQC⟩:∃ QC,XM q=QC:=⟨_,rfl⟩
  rw[hQC]at HUB HZ HI;have HQ1:=Hd (show QC.all (·.oneCell')=true by rw[←hQC];exact DA q);have HQC:=Hd hQC;clear hQC
  go_wp2_with (first
   |refine wpList_load_row rfl 175 (.tmp 1) rfl w.heap.size rfl 175 QC (0,0) _ HUB.out Tryz.underlying175 rfl HI.out ?_
   |refine wpList_store_row rfl 175 (.tmp 3) (.tmp 6) rfl wr.heap.size QC rfl rfl 175 _ (Ze wr _) HI.out HZ.out.symm HQ1.out ?_
   |fail)
  obtain⟨wb,hwb⟩:∃ wb,wr.heap.size=wb:=⟨_,rfl⟩
  rw[hwb]
  obtain⟨w1,hw1⟩:∃ w1,(wr.alloc (.cells #[Value.int .u8 0,.int .u8 0,.int .u8 0,.int .u8 0,.int .u8 0,.int .u8 0,.int .u8 0,.int .u8 0] 175)).setRow wb QC=w1:=⟨_,rfl⟩
  rw[hw1];have hu1:w1.heap[w.heap.size]?=some (.cells (XM q) 175 (0,0)):=by rw[←hw1,HQC.out];exact(setRow_other _ _ _ _ (by omega)).trans (Zd HUB.out _)
  have hr1:w1.heap[w.heap.size+1]?=some (.cells (XM YE) 175 (0,0)):=by rw[←hw1];exact(setRow_other _ _ _ _ (by omega)).trans (Zd HRB.out _)
  have hb1:w1.heap[wb]?=some (.cells QC 175 (0,0)):=by rw[←hw1];exact setRow_heap _ _ _ _ _ _ (Zt hwb)
  have hl1:Later w w1:=by rw[←hw1];exact YK (hl.alloc _) (by omega) _
  clear hw1 hl;have HU1:=Hd hu1;have HR1:=Hd hr1;have HB1:=Hd hb1;clear hu1 hr1 hb1
  go_loopw [7] (fun v wx=>∃ a:Nat,a≤8∧v=.int .i64 a∧wx.heap[w.heap.size]?=some (.cells (XM (Jc q a)) 175 (0,0))∧wx.heap[w.heap.size+1]?=some (.cells (XM YE) 175 (0,0))∧wx.heap[wb]?=some (.cells QC 175 (0,0))∧Later w wx) (fun v _=>8 - (intOf v).toNat)
  case atStart=>exact⟨0,by omega,rfl,HU1.out,HR1.out,HB1.out,hl1⟩
  case round=>
   obtain⟨a,ha,rfl,hu2,hr2,hb2,hl2⟩:=hrel
   obtain⟨p,hp⟩:∃ p,Jc q a=p:=⟨_,rfl⟩
   have hpr:Rows8 p:=by rw[←hp];exact XA HQ.out a
   rw[hp]at hu2;have HP:=Hd hp;have HPR:=Hd hpr;have hult2:=Za hu2;have hblt2:=Za hb2;have HU2:=Hd hu2;have HR2:=Hd hr2;have HB2:=Hd hb2;clear hp hpr hu2 hr2 hb2;by_cases hlt:a<8
   ·obtain⟨wo,hwo⟩:∃ wo:World,wo=wr:=⟨_,rfl⟩
    rw[←hwo]at HU2 HR2 HB2 hl2 hult2 hblt2 ⊢;clear hwo
    go_wp2_with fail
    go_loopw [10] (fun v wx=>∃ b:Nat,b≤8∧v=.int .i64 b∧wx.heap[w.heap.size]?=some (.cells (XM (UB p a b)) 175 (0,0))∧wx.heap[w.heap.size+1]?=some (.cells (XM YE) 175 (0,0))∧wx.heap[wb]?=some (.cells QC 175 (0,0))∧Later w wx) (fun v _=>8 - (intOf v).toNat)
    case atStart=>exact⟨0,by omega,rfl,HU2.out,HR2.out,HB2.out,hl2⟩
    case round=>
     obtain⟨b,hb,rfl,hu3,hr3,hb3,hl3⟩:=hrel
     obtain⟨c,hc⟩:∃ c,UB p a b=c:=⟨_,rfl⟩
     have hcr:Rows8 c:=by rw[←hc];exact Yr HPR.out a b
     rw[hc]at hu3;have HC:=Hd hc;by_cases hlb:b<8
     ·have hx:=hcr.get a;have hy:=hcr.get b;have k1:=(Zb hu3 a).trans (Q8 hcr hlt);have k2:=(Zb hu3 b).trans (Q8 hcr hlb);have k3:=Zc hu3 a;have ht:=Ds hx b;have hbit:bitR c a b=(c[a]?.getD 0).toNat.testBit b:=rfl;have hor:=ZgF hx hy;have hult3:=Za hu3;have hset:=fun(x:Int)=>Zf hu3 a (.int .u8 x)
      have HSET:=Hd hset;have HU3:=Hd hu3;have HR3:=Hd hr3;have HB3:=Hd hb3;have hstep:UB p a (b+1)=VB c a b:=by rw[←hc];rfl
      have HSTEP:=Hd hstep
      obtain⟨x,hxe⟩:∃ x,c[a]?.getD 0=x:=⟨_,rfl⟩
      obtain⟨y,hye⟩:∃ y,c[b]?.getD 0=y:=⟨_,rfl⟩
      rw[hxe]at k1 ht hor hbit hx;rw[hye]at k2 hor hy;rw[←hbit]at ht;have HX:=Hd hxe;have HY:=Hd hye;have HBIT:=Hd hbit;have HOR:=Hd hor;clear hc hcr hset hu3 hr3 hb3 hstep hxe hye hbit hor;cases hbb:bitR c a b
      ·rw[hbb]at ht;have HBB:=Hd hbb;clear hbb
       go_wp2_with fail
       refine⟨⟨b+1,by omega,by simp,?_,HR3.out,HB3.out,hl3⟩,by simp only[intOf];omega⟩;rw[HSTEP.out,Du HBB.out];exact HU3.out
      ·rw[hbb]at ht;have HBB:=Hd hbb;clear hbb
       go_wp2_with fail
       go_region
       generalize hWZ:World.drew _=WZ
       have hz1:WZ.heap[w.heap.size]?=some (.cells (XM (UB p a (b+1))) 175 (0,0)):=by
        rw[←hWZ,HOR.out,HSTEP.out,←ZaE HBB.out,HX.out,HY.out,←Zcm];exact HSET.out _
       have hz2:WZ.heap[w.heap.size+1]?=some (.cells (XM YE) 175 (0,0)):=by
        rw[←hWZ];exact(Below.heap_setCell _ _ _ _ (by simp)).trans HR3.out
       have hz3:WZ.heap[wb]?=some (.cells QC 175 (0,0)):=by
        rw[←hWZ];exact(Below.heap_setCell _ _ _ _ (by simp;omega)).trans HB3.out
       have hz4:Later w WZ:=by
        rw[←hWZ];exact Later.drew (Later.setC hl3 (Nat.le_refl _) _ _)
       clear hWZ k1 k2 k3;have Z1:=Hd hz1;have Z2:=Hd hz2;have Z3:=Hd hz3;clear hz1 hz2 hz3
       go_wp2_with fail
       exact⟨⟨b+1,by omega,by simp,Z1.out,Z2.out,Z3.out,hz4⟩,by simp only[intOf];omega⟩
     ·have hb8:b=8:=by omega
      have HU3:=Hd (show wr.heap[w.heap.size]?=some (.cells (XM (Jc q (a+1))) 175 (0,0)) by
       rw[hu3,←hc,hb8,←HP.out];rfl)
      have HR3:=Hd hr3;have HB3:=Hd hb3;clear hu3 hr3 hb3 hc hcr hb8
      go_wp2_with fail
      exact⟨⟨a+1,by omega,by simp,HU3.out,HR3.out,HB3.out,hl3⟩,by simp only[intOf];omega⟩
   ·have ha8:a=8:=by omega
    have he8:Jc q 8=p:=by rw[←HP.out,ha8]
    have HE8:=Hd he8;have heq:=fun w'=>Zgw HPR.out HQ.out w'
    rw[HQC.out]at heq
    obtain⟨PC8,hPC8⟩:∃ PC8,XM p=PC8:=⟨_,rfl⟩
    have HI8:=Hd (Eb HPR.out);rw[hPC8]at heq HU2 HI8;have HPC:=Hd hPC8;have HP1:=Hd (show PC8.all (·.oneCell')=true by rw[←hPC8];exact DA p);have HZ8:=Hd (show(XM YE).size=PC8.size by rw[←hPC8,JW HPR.out];rfl);clear hPC8 he8 ha8;by_cases hpq:p=q
    ·rw[decide_eq_true hpq]at heq;have HPQ:=Hd hpq;clear hpq
     go_wp2_with (first
      |refine wpList_load_row rfl 175 (.tmp 1) rfl w.heap.size rfl 175 PC8 (0,0) _ HU2.out Tryz.underlying175 rfl HI8.out ?_
      |refine wpList_load_row rfl 175 (.tmp 3) rfl wb rfl 175 QC (0,0) _ HB2.out Tryz.underlying175 rfl HI.out ?_
      |refine wpList_store_row rfl 175 (.tmp 2) (.tmp 33) rfl (w.heap.size+1) PC8 rfl rfl 175 _ HR2.out HI8.out HZ8.out HP1.out ?_
      |fail)
     refine bodyPost_ret (results_cell_row rfl _ _ (w.heap.size+1) 175 PC8 (0,0) _ rfl (setRow_heap _ _ _ _ _ _ HR2.out) Tryz.underlying175 rfl HI8.out) rfl ?_;rw[←HPT.out];have hpq:=HPQ.out;refine⟨p,by rw[HPC.out],HPR.out,?_,?_,fun n l h=>?_,YK hl2 (by omega) _⟩
     ·have:=HE8.out;rw[←hpq]at this;exact this
     ·rw[hpq];exact HSUB.out
     ·rw[hpq];exact HSND.out n l h
    ·rw[decide_eq_false hpq]at heq;have HPQ:=Hd hpq;clear hpq
     go_wp2_with (first
      |refine wpList_load_row rfl 175 (.tmp 1) rfl w.heap.size rfl 175 PC8 (0,0) _ HU2.out Tryz.underlying175 rfl HI8.out ?_
      |refine wpList_load_row rfl 175 (.tmp 3) rfl wb rfl 175 QC (0,0) _ HB2.out Tryz.underlying175 rfl HI.out ?_
      |fail)
     go_roundg g'
     case measure=>omega
     case rel=>
      have hless:=Zdj HQ.out (by rw[HE8.out];exact HPQ.out);rw[HE8.out]at hless;refine⟨p,by omega,HPR.out,?_,HR2.out,?_,fun n l h=>?_,hl2⟩
      ·rw[HPC.out];exact HU2.out
      ·rw[←HE8.out];exact Zb9 HSUB.out (Ux HQ.out 0 8 (by omega) (by omega))
      ·rw[←HE8.out];exact EA HQ.out (HSND.out n l h) 8 (by omega)
end Go.Proofs.YtbchkjfnakabkaaGreatDoor
namespace Go.Proofs.YtbchkjfnakabkaaGreatDoor
open Go.RowKit PX PC
def Jm(n:Int)(U D:List Int):List Value:=.int .i64 n::(XZ U++XZ D)
def LatAt(w:World)(lb:Nat)(n:Int)(U D:List Int):Prop:=w.heap[lb]?=some (.cells (Jm n U D).toArray 177 (0,0))
theorem EG{r:List Int}(h:Rows8 r){a:Nat}(ha:a<8):(XZ r)[a]?=some (.int .u8 (r[a]?.getD 0)):=by
 have hl:a<r.length:=by rw[h.len];exact ha
 simp[XZ,List.getElem?_eq_getElem hl,hl]
theorem LatAt.n{w:World}{lb:Nat}{n:Int}{U D:List Int}(h:LatAt w lb n U D):w.cell? ⟨lb,0,none⟩=some (.int .i64 n):=Zb h 0
theorem LatAt.up{w:World}{lb:Nat}{n:Int}{U D:List Int}(h:LatAt w lb n U D)(hU:Rows8 U){a:Nat}(ha:a<8):w.cell? ⟨lb,1+a,none⟩=some (.int .u8 (U[a]?.getD 0)):=by
 rw[Zb h,List.getElem?_toArray,Jm,Nat.add_comm,List.getElem?_cons_succ,List.getElem?_append_left (by simp[XZ,hU.len];exact ha),EG hU ha]
theorem LatAt.down{w:World}{lb:Nat}{n:Int}{U D:List Int}(h:LatAt w lb n U D)(hU:Rows8 U)(hD:Rows8 D){a:Nat}(ha:a<8):w.cell? ⟨lb,9+a,none⟩=some (.int .u8 (D[a]?.getD 0)):=by
 rw[Zb h,List.getElem?_toArray,Jm,show 9+a=(8+a)+1 by omega,List.getElem?_cons_succ,List.getElem?_append_right (by simp[XZ,hU.len]),show 8+a - (XZ U).length=a by simp[XZ,hU.len],EG hD ha]
theorem LatAt.later{w w':World}{lb:Nat}{n:Int}{U D:List Int}(h:LatAt w lb n U D)(hl:Later w w'):LatAt w' lb n U D:=hl.block h
def levD(n a:Int):Bool:=decide (0≤a∧a<n)
theorem J7{n a:Int}(h0:0≤a)(h1:a<n):levD n a=true:=decide_eq_true ⟨h0,h1⟩
theorem Qs{n a:Int}(h:¬ (0≤a∧a<n)):levD n a=false:=decide_eq_false h
theorem Ei{n a:Int}:levD n a=true↔lev n a:=by unfold levD lev;exact decide_eq_true_iff
theorem E4(w:World)(lb:Nat)(n a:Int)(hc:w.cell? ⟨lb,0,none⟩=some (.int .i64 n)) :
 Calls Tryz.prog 133 #[.pointer (some ⟨lb,0,none⟩),.int .i64 a] w fun e w'=>e=.returned (.bool (levD n a))∧w'=w:=by
 by_cases h0:0≤a
 ·by_cases h1:a<n
  ·rw[J7 h0 h1]
   go_enter Tryz.func133,Tryz.ntmps133
   go_wp2_with fail
   go_ret
   exact⟨rfl,rfl⟩
  ·rw[Qs (fun h=>h1 h.2)]
   go_enter Tryz.func133,Tryz.ntmps133
   go_wp2_with fail
   go_ret
   exact⟨rfl,rfl⟩
 ·rw[Qs (fun h=>h0 h.1)]
  go_enter Tryz.func133,Tryz.ntmps133
  go_wp2_with fail
  go_ret
  exact⟨rfl,rfl⟩
def endF(R:List Int)(x:Int):Nat→Nat→Int
 |_,0=>-1
 |c,k+1=>if R[c]?.getD 0=x then(c:Int) else endF R x (c+1) k
theorem B4(R:List Int)(x:Int):∀ (k c:Nat),0≤endF R x c k↔∃ i,c≤i∧i<c+k∧R[i]?.getD 0=x
 |0,c=>by simp[endF];intro i h1 h2;omega
 |k+1,c=>by
  unfold endF;by_cases h:R[c]?.getD 0=x
  ·rw[if_pos h];exact⟨fun _=>⟨c,Nat.le_refl _,by omega,h⟩,fun _=>by omega⟩
  ·rw[if_neg h,B4 R x k (c+1)];constructor
   ·rintro⟨i,h1,h2,h3⟩;exact⟨i,by omega,by omega,h3⟩
   ·rintro⟨i,h1,h2,h3⟩;rcases(by omega:i=c∨c+1≤i) with rfl|h4
    ·exact absurd h3 h
    ·exact⟨i,h4,by omega,h3⟩
theorem B5(R:List Int)(x:Int)(n:Nat):0≤endF R x 0 n↔Vv R n x:=by
 rw[B4];unfold Vv;constructor
 ·rintro⟨i,-, h2,h3⟩;exact⟨i,by omega,h3⟩
 ·rintro⟨i,h2,h3⟩;exact⟨i,by omega,by omega,h3⟩
theorem Zdo(w:World)(lb o n:Nat)(R:List Int)(x:Int)(hn:n≤8)(hc:w.cell? ⟨lb,0,none⟩=some (.int .i64 n))(hR:∀ a,a<8→w.cell? ⟨lb,o+a,none⟩=some (.int .u8 (R[a]?.getD 0))) :
 Calls Tryz.prog 156 #[.pointer (some ⟨lb,0,none⟩),.pointer (some ⟨lb,o,none⟩),.int .u8 x] w fun e w'=>e=.returned (.int .i64 (endF R x 0 n))∧w'=w:=by
 have HR:=Hd hR;clear hR
 obtain⟨v,hv⟩:∃ v,endF R x 0 n=v:=⟨_,rfl⟩
 rw[hv];have HV:=Hd hv;clear hv
 go_enter Tryz.func156,Tryz.ntmps156
 go_wp2_with fail
 go_loop [12] (fun vi=>∃ c:Nat,c≤n∧vi=.int .i64 c∧Hid (endF R x c (n - c)=v)) (fun vi=>n - (intOf vi).toNat)
 case atStart=>exact⟨0,by omega,rfl,HV⟩
 case round=>
  obtain⟨c,hcn,rfl,HF⟩:=hrel;by_cases hlt:c<n
  ·have k1:=HR.out c (by omega)
   obtain⟨y,hy⟩:∃ y,R[c]?.getD 0=y:=⟨_,rfl⟩
   rw[hy]at k1;have HY:=Hd hy;clear hy
   have HE:=Hd (show endF R x c (n - c)=if y=x then(c:Int) else endF R x (c+1) (n - (c+1)) by
    rw[show n - c=(n - (c+1))+1 by omega,endF,HY.out])
   by_cases hyx:y=x
   ·have hb:(y==x)=true:=by simpa using hyx
    have HYX:=Hd hyx;clear hyx
    go_wp2_with fail
    go_ret
    refine⟨ZT ?_,rfl⟩;rw[←HF.out,HE.out,if_pos HYX.out]
   ·have hb:(y==x)=false:=by simpa using hyx
    have HYX:=Hd hyx;clear hyx
    go_wp2_with fail
    refine⟨⟨c+1,by omega,by simp,Hd ?_⟩,by simp only[intOf];omega⟩;rw[←HF.out,HE.out,if_neg HYX.out]
  ·go_wp2_with fail
   go_ret
   refine⟨ZT ?_,rfl⟩;rw[←HF.out,show n - c=0 by omega,endF]
theorem Zfb(w:World)(lb n a b:Nat)(U D:List Int)(h:LatAt w lb n U D)(hU:Rows8 U)(hD:Rows8 D)(hn:n≤8)(ha:a<n)(hb:b<n) :
 Calls Tryz.prog 135 #[.pointer (some ⟨lb,0,none⟩),.int .i64 a,.int .i64 b] w fun e w'=>e=.returned (.int .i64 (endF U (andI (U[a]?.getD 0) (U[b]?.getD 0)) 0 n))∧∃ k,w'=w.drewN k:=by
 have h1:=E4 w lb n a h.n;have h2:=E4 w lb n b h.n;rw[J7 (by omega) (by omega)]at h1 h2;have H1:=Hd h1;have H2:=Hd h2;have k0:=h.n;have k1:=h.up hU (show a<8 by omega);have k2:=h.up hU (show b<8 by omega);have hx:=hU.get a;have hy:=hU.get b;have hand:=Zac hx hy;have HE:=Hd (fun(w1:World) (h1:Later w w1)=>Zdo w1 lb 1 n U (andI (U[a]?.getD 0) (U[b]?.getD 0)) hn (h.later h1).n (fun a ha=>(h.later h1).up hU ha))
 obtain⟨x,hxe⟩:∃ x,U[a]?.getD 0=x:=⟨_,rfl⟩
 obtain⟨y,hye⟩:∃ y,U[b]?.getD 0=y:=⟨_,rfl⟩
 rw[hxe]at k1 hand HE hx ⊢;rw[hye]at k2 hand HE hy ⊢
 obtain⟨z,hz⟩:∃ z,andI x y=z:=⟨_,rfl⟩
 rw[hz]at hand HE ⊢;have i1:(a:Int)<8:=by omega
 have i2:(b:Int)<8:=by omega
 have i3:(0:Int)≤(a:Int):=by omega
 have i4:(0:Int)≤(b:Int):=by omega
 clear h h1 h2 hU hD hxe hye hz
 go_enter Tryz.func135,Tryz.ntmps135
 go_wp2_with (first
  |(go_at_call 133;(with_reducible refine H1.out.mono ?_);rintro e w' ⟨rfl,rfl⟩)
  |(go_at_call 133;(with_reducible refine H2.out.mono ?_);rintro e w' ⟨rfl,rfl⟩)
  |fail)
 go_quiet ((go_at_call 156;exact Calls.quiet_of_same (HE.out _ (Later.drewN (Later.refl _) _))))
 go_wp2_with fail
 go_ret
 exact⟨rfl,_,rfl⟩
theorem Zfa(w:World)(lb n a b:Nat)(U D:List Int)(h:LatAt w lb n U D)(hU:Rows8 U)(hD:Rows8 D)(hn:n≤8)(ha:a<n)(hb:b<n) :
 Calls Tryz.prog 136 #[.pointer (some ⟨lb,0,none⟩),.int .i64 a,.int .i64 b] w fun e w'=>e=.returned (.int .i64 (endF D (andI (D[a]?.getD 0) (D[b]?.getD 0)) 0 n))∧∃ k,w'=w.drewN k:=by
 have h1:=E4 w lb n a h.n;have h2:=E4 w lb n b h.n;rw[J7 (by omega) (by omega)]at h1 h2;have H1:=Hd h1;have H2:=Hd h2;have k0:=h.n;have k1:=h.down hU hD (show a<8 by omega);have k2:=h.down hU hD (show b<8 by omega);have hx:=hD.get a;have hy:=hD.get b;have hand:=Zac hx hy;have HE:=Hd (fun(w1:World) (h1:Later w w1)=>Zdo w1 lb 9 n D (andI (D[a]?.getD 0) (D[b]?.getD 0)) hn (h.later h1).n (fun a ha=>(h.later h1).down hU hD ha))
 obtain⟨x,hxe⟩:∃ x,D[a]?.getD 0=x:=⟨_,rfl⟩
 obtain⟨y,hye⟩:∃ y,D[b]?.getD 0=y:=⟨_,rfl⟩
 rw[hxe]at k1 hand HE hx ⊢;rw[hye]at k2 hand HE hy ⊢
 obtain⟨z,hz⟩:∃ z,andI x y=z:=⟨_,rfl⟩
 rw[hz]at hand HE ⊢;have i1:(a:Int)<8:=by omega
 have i2:(b:Int)<8:=by omega
 have i3:(0:Int)≤(a:Int):=by omega
 have i4:(0:Int)≤(b:Int):=by omega
 clear h h1 h2 hU hD hxe hye hz
 go_enter Tryz.func136,Tryz.ntmps136
 go_wp2_with (first
  |(go_at_call 133;(with_reducible refine H1.out.mono ?_);rintro e w' ⟨rfl,rfl⟩)
  |(go_at_call 133;(with_reducible refine H2.out.mono ?_);rintro e w' ⟨rfl,rfl⟩)
  |fail)
 go_quiet ((go_at_call 156;exact Calls.quiet_of_same (HE.out _ (Later.drewN (Later.refl _) _))))
 go_wp2_with fail
 go_ret
 exact⟨rfl,_,rfl⟩
def JP(n:Int)(U:List Int)(a b:Int):Bool:=levD n a&&(levD n b&&bitR U a.toNat b.toNat)
theorem WC(w:World)(lb n:Nat)(a b:Int)(U D:List Int)(h:LatAt w lb n U D)(hU:Rows8 U)(hn:n≤8) :
 Calls Tryz.prog 116 #[.pointer (some ⟨lb,0,none⟩),.int .i64 a,.int .i64 b] w fun e w'=>e=.returned (.bool (JP n U a b))∧w'=w:=by
 have h1:=E4 w lb n a h.n;have h2:=E4 w lb n b h.n;cases hla:levD n a
 ·have hr:JP n U a b=false:=by unfold JP;rw[hla];rfl
  rw[hr];rw[hla]at h1;have H1:=Hd h1;clear h h1 h2 hr hla
  go_enter Tryz.func116,Tryz.ntmps116
  go_wp2_with (first
   |(go_at_call 133;(with_reducible refine H1.out.mono ?_);rintro e w' ⟨rfl,rfl⟩)
   |fail)
  go_ret
  exact⟨rfl,rfl⟩
 ·cases hlb:levD n b
  ·have hr:JP n U a b=false:=by unfold JP;rw[hla,hlb];rfl
   rw[hr];rw[hla]at h1;rw[hlb]at h2;have H1:=Hd h1;have H2:=Hd h2;clear h h1 h2 hr hla hlb
   go_enter Tryz.func116,Tryz.ntmps116
   go_wp2_with (first
    |(go_at_call 133;(with_reducible refine H1.out.mono ?_);rintro e w' ⟨rfl,rfl⟩)
    |(go_at_call 133;(with_reducible refine H2.out.mono ?_);rintro e w' ⟨rfl,rfl⟩)
    |fail)
   go_ret
   exact⟨rfl,rfl⟩
  ·rw[hla]at h1;rw[hlb]at h2;have la:=Ei.1 hla;have lb':=Ei.1 hlb;unfold lev at la lb';obtain⟨x,rfl⟩:=Int.eq_ofNat_of_zero_le la.1;obtain⟨y,rfl⟩:=Int.eq_ofNat_of_zero_le lb'.1;have hr:JP n U (x:Int) (y:Int)=bitR U x y:=by unfold JP;rw[hla,hlb];simp
   rw[hr];have k1:=h.up hU (show x<8 by omega);have hx:=hU.get x;have ht:=Ds hx y;have hbit:bitR U x y=(U[x]?.getD 0).toNat.testBit y:=rfl;rw[←hbit]at ht
   obtain⟨z,hz⟩:∃ z,U[x]?.getD 0=z:=⟨_,rfl⟩
   rw[hz]at k1 ht hx
   obtain⟨bb,hbb⟩:∃ bb,bitR U x y=bb:=⟨_,rfl⟩
   rw[hbb]at ht ⊢;have i1:(x:Int)<8:=by omega
   have i2:(y:Int)<8:=by omega
   have i3:(0:Int)≤(x:Int):=by omega
   have i4:(0:Int)≤(y:Int):=by omega
   have H1:=Hd h1;have H2:=Hd h2;clear h h1 h2 hr hla hlb hbit hz hbb la lb' hU
   go_enter Tryz.func116,Tryz.ntmps116
   go_wp2_with (first
    |(go_at_call 133;(with_reducible refine H1.out.mono ?_);rintro e w' ⟨rfl,rfl⟩)
    |(go_at_call 133;(with_reducible refine H2.out.mono ?_);rintro e w' ⟨rfl,rfl⟩)
    |fail)
   go_ret
   exact⟨rfl,rfl⟩
end Go.Proofs.YtbchkjfnakabkaaGreatDoor
