import Derived.Test.YtbchkjfnakabkaaGreatDoorB2
import Derived.ProofKit
import Derived.OpenShut
import Derived.SizedLaws
import Derived.BigGuardPart
import Derived.Deep.QuietTactic
import Derived.BigQuiet
set_option linter.unusedSimpArgs false
set_option linter.unusedVariables false
set_option maxHeartbeats 1000000
namespace Go.Proofs.YtbchkjfnakabkaaGreatDoor
open Go.RowKit Go.ChangeShapes Go.WideShapes PX
section
variable {H : Type} {enc : TypeId × Value -> H} {w : World} {sp : Nat -> Bool} {held : Bool}
theorem ZN{n:Int}(h:(Lit.int .i64 n).wf=true):I64 n:=by
 simp[Lit.wf,IntKind.min,IntKind.max,IntKind.signed,IntKind.bits]at h;unfold I64;omega
end
end Go.Proofs.YtbchkjfnakabkaaGreatDoor
namespace Go.Proofs.YtbchkjfnakabkaaGreatDoor
open Go.RowKit PX
mutual
def tame:Rx->Prop
 |.node _ mn mx _ _ _ _ l=>(-15<=mn/\mn<=15)/\(-15<=mx/\mx<=15)/\YR l
def YR:List Rx->Prop
 |[]=>True
 |x::xs=>tame x/\YR xs
end
mutual
theorem U9:∀ x:Rx,x.formB=true->tame x
 |.node k mn mx _ _ _ _ l,h=>by
  simp only[Rx.formB,Bool.and_eq_true]at h;have hl:=JS l h.2;simp only[tame];have h1:=h.1;refine⟨?_,?_,hl⟩
  all_goals
   repeat' split at h1
   all_goals
    simp only[Bool.and_eq_true,decide_eq_true_eq]at h1;omega
theorem JS:∀ l:List Rx,XH l=true->YR l
 |[],_=>trivial
 |x::xs,h=>by
  simp only[XH,Bool.and_eq_true]at h;exact⟨U9 x h.1,JS xs h.2⟩
end
theorem VR{x:RxA}:∀ {l:List RxA},YR (XX l)->x∈l->tame x.bare
 |y::ys,h,hx=>by
  simp only[XX,YR]at h
  cases hx with
  |head=>exact h.1
  |tail _ h'=>exact VR h.2 h'
def JJ(t:Int)(l:List RxA)(k:Nat):Int:=XJ t 1 (XX (l.take k))
theorem GU(t:Int)(l:List RxA)(k:Nat):JJ t l k=XJ t 1 (XX (l.take k)):=rfl
theorem JU(t:Int):∀ (l:List Rx) (n:Int) (x:Rx),XJ t n (l++[x])=min 257 (XJ t n l+t*x.sizeI)
 |[],n,x=>rfl
 |y::ys,n,x=>by simp only[List.cons_append,XJ];rw[JU t ys]
theorem EO(t:Int)(l:List RxA)(k:Nat)(h:k<l.length):JJ t l (k+1)=min 257 (JJ t l k+t*l[k].bare.sizeI):=by
 unfold JJ;rw[List.take_succ_eq_append_getElem h,Vz,Vz,List.map_append];exact JU t _ 1 _
theorem EP(t:Int)(ht:1<=t)(l:List Rx):1<=XJ t 1 l/\XJ t 1 l<=257:=by
 rw[VT t ht l 1 (by omega) (by omega)];have:0<=t*Yp l:=Int.mul_nonneg (by omega) (Yo l);omega
theorem Qv(x:Rx):1<=x.sizeI/\x.sizeI<=257:=by rw[Rx.sizeI_eq];have:=x.big_pos;omega
theorem ZgQ{t s:Int}(h1:1<=t)(h2:t<=15)(h3:1<=s)(h4:s<=257):1<=t*s/\t*s<=3855:=by
 have a:1*1<=t*s:=Int.mul_le_mul h1 h3 (by omega) (by omega);have b:t*s<=15*257:=Int.mul_le_mul h2 h4 (by omega) (by omega);omega
def Zg0(f:Nat):Prop:=∀ (x:RxA) (w:World) (B:Nat),B<=w.heap.size->x.In w B->tame x.bare ->
 Calls Tryz.prog f #[x.val] w λe w'=>e=.returned (.int .i64 x.bare.sizeI)/\Below w.heap.size w w'
theorem Zc2:Zg0 105:=by
 intro x
 induction x using RxA.ind with
 |h k mn mx s0 s1 s2 s3 a cap l ih=>
  intro w B hB hin ht;have b0:=hin;simp only[RxA.In]at b0;obtain⟨⟨bk,bmn,bmx,-⟩,hl1,hl2,hl3,hl⟩:=b0;clear hin;simp only[RxA.bare,tame]at ht;obtain⟨t1,t2,t3⟩:=ht;have t4:∀ x∈l,tame x.bare:=λx hx=>VR t3 hx
  clear t3;unfold maxLen at hl2;have hT:XT k mn mx=if k=3 then max (max 1 mn) mx else 1:=rfl
  have g0:=Uf k mn mx;have q0:XT k mn mx<=15:=by unfold XT;split<;>omega
  have HT:=Hd hT;clear hT;have IH:=Hd ih;clear ih
  have hg:∀ j (h:j<l.length),∃b o,a=some ⟨b,o,none⟩/\b<w.heap.size/\(∀i,i<8->(w.alloc (.cells #[.int .i64 k,.int .i64 mn,.int .i64 mx,.int .u64 s0,.int .u64 s1,.int .u64 s2,.int .u64 s3,.slice a l.length cap] 141)).cell? ⟨b,o+j*8+i,none⟩=l[j].cells[i]?)/\l[j].In w B:=by
   intro j hj;rcases hl with rfl|⟨b,o,rfl,hb,hl⟩
   ·simp at hj
   ·have:=RxA.In.get hl j hj;exact⟨b,o,rfl,by omega,λi hi=>(World.cell?_alloc_past _ _ _ (by show b<w.heap.size;omega)).trans (this.1 i hi),this.2⟩
  have HG:=Hd hg;clear hg hl;have T4:=Hd t4;clear t4
  have c0:∀ t:Int,1<=t->t<=15->XT k mn mx=t->(RxA.node k mn mx s0 s1 s2 s3 a cap l).bare.sizeI=JJ t l l.length:=by
   intro t _ _ h;simp only[RxA.bare,Rx.sizeI,JJ,h,List.take_length]
  have m0:=Hd c0;clear c0;show Calls Tryz.prog 105 #[.agg #[.int .i64 k,.int .i64 mn,.int .i64 mx,.int .u64 s0,.int .u64 s1,.int .u64 s2,.int .u64 s3,.slice a l.length cap]] w _
  have a0:((k==3)=true/\XT k mn mx=max 1 (max mn mx))\/((k==3)=false/\XT k mn mx=1):=by
   by_cases hk:k=3
   ·exact .inl ⟨by simp[hk],by rw[HT.out,if_pos hk];omega⟩
   ·exact .inr ⟨by simp[hk],by rw[HT.out,if_neg hk]⟩
  clear HT;rcases a0 with⟨hk,hT1⟩|⟨hk,hT1⟩
  all_goals
   have f0:=Hd hT1;clear hT1
   go_enter Tryz.func105,Tryz.ntmps105
   go_wp2_with fail
   go_loopw [3,5] (fun n i wr=>∃ j:Nat,j≤l.length∧i=.int .i64 j∧n=.int .i64 (JJ (XT k mn mx) l j) ∧
    Below (w.heap.size+1) (w.alloc (.cells #[.int .i64 k,.int .i64 mn,.int .i64 mx,.int .u64 s0,.int .u64 s1,.int .u64 s2,.int .u64 s3,.slice a l.length cap] 141)) wr) (λ_ i _=>l.length - (intOf i).toNat)
   case atStart=>exact⟨0,Nat.zero_le _,rfl,by simp[JJ,XX,XJ],Below.refl _ _⟩
   case round=>
    obtain⟨j,hj,rfl,rfl,hbel⟩:=hrel;have c7:=W8 hbel (by omega) 7 (.slice a l.length cap) rfl;by_cases hlt:j<l.length
    ·obtain⟨b,o,rfl,hb,hcs,hxin⟩:=HG.out j hlt;have t0:=T4.out l[j] (List.getElem_mem hlt);have i0:=IH.out l[j] (List.getElem_mem hlt);have k0:=EO (XT k mn mx) l j hlt;have h0:=Qv l[j].bare;have l0:=EP (XT k mn mx) g0 (XX (l.take j));have e0:=GU (XT k mn mx) l j;rw[<-e0]at l0;clear e0;generalize hxe:l[j]=x at *;have v0:=Hd hxe;clear hxe;have j0:=Hd k0;clear k0;have p0:=Hd i0;clear i0;obtain⟨k',mn',mx',s0',s1',s2',s3',a',cap',l'⟩:=x;obtain⟨d0,d1,d2,d3,d4,d5,d6,d7⟩:=G3 (o:=o+j*8) (λi hi=>(hbel.cell (p:=⟨b,o+j*8+i,none⟩) (by show b<w.heap.size+1;omega)).trans (hcs i hi));clear hcs;have n0:Below w.heap.size w wr:=((Below.refl _ _).alloc (Nat.le_refl _) _).trans (hbel.mono (by omega));have o0:=hbel.size;simp only[World.size_alloc]at o0;have y0:=ZgQ (t:=max 1 (max mn mx)) (s:=(RxA.node k' mn' mx' s0' s1' s2' s3' a' cap' l').bare.sizeI) (by omega) (by omega) h0.1 h0.2
     go_wp2_with fail
     refine(p0.out wr B (by omega) (hxin.below n0 hB) t0).mono ?_;rintro e w1 ⟨rfl,hb1⟩
     go_wp2_with fail
     go_roundw
     case rel=>exact⟨j+1,by omega,by go_num,by first|(rw[j0.out,f0.out];done)|rw[j0.out,f0.out,Int.one_mul],hbel.trans (hb1.mono (by omega))⟩
     case measure=>simp[intOf];omega
    ·have r0:j=l.length:=by omega
     go_wp2_with fail
     go_ret
     refine⟨ZT ?_,?_⟩
     ·rw[m0.out _ g0 q0 rfl,r0]
     ·exact((Below.refl _ _).alloc (Nat.le_refl _) _).trans (hbel.mono (by omega))
theorem WF:Zg0 175:=by
 intro x
 induction x using RxA.ind with
 |h k mn mx s0 s1 s2 s3 a cap l ih=>
  intro w B hB hin ht;have b0:=hin;simp only[RxA.In]at b0;obtain⟨⟨bk,bmn,bmx,-⟩,hl1,hl2,hl3,hl⟩:=b0;clear hin;simp only[RxA.bare,tame]at ht;obtain⟨t1,t2,t3⟩:=ht;have t4:∀ x∈l,tame x.bare:=λx hx=>VR t3 hx
  clear t3;unfold maxLen at hl2;have hT:XT k mn mx=if k=3 then max (max 1 mn) mx else 1:=rfl
  have g0:=Uf k mn mx;have q0:XT k mn mx<=15:=by unfold XT;split<;>omega
  have HT:=Hd hT;clear hT;have IH:=Hd ih;clear ih
  have hg:∀ j (h:j<l.length),∃b o,a=some ⟨b,o,none⟩/\b<w.heap.size/\(∀i,i<8->(w.alloc (.cells #[.int .i64 k,.int .i64 mn,.int .i64 mx,.int .u64 s0,.int .u64 s1,.int .u64 s2,.int .u64 s3,.slice a l.length cap] 141)).cell? ⟨b,o+j*8+i,none⟩=l[j].cells[i]?)/\l[j].In w B:=by
   intro j hj;rcases hl with rfl|⟨b,o,rfl,hb,hl⟩
   ·simp at hj
   ·have:=RxA.In.get hl j hj;exact⟨b,o,rfl,by omega,λi hi=>(World.cell?_alloc_past _ _ _ (by show b<w.heap.size;omega)).trans (this.1 i hi),this.2⟩
  have HG:=Hd hg;clear hg hl;have T4:=Hd t4;clear t4
  have c0:∀ t:Int,1<=t->t<=15->XT k mn mx=t->(RxA.node k mn mx s0 s1 s2 s3 a cap l).bare.sizeI=JJ t l l.length:=by
   intro t _ _ h;simp only[RxA.bare,Rx.sizeI,JJ,h,List.take_length]
  have m0:=Hd c0;clear c0;show Calls Tryz.prog 175 #[.agg #[.int .i64 k,.int .i64 mn,.int .i64 mx,.int .u64 s0,.int .u64 s1,.int .u64 s2,.int .u64 s3,.slice a l.length cap]] w _
  have a0:((k==3)=true/\XT k mn mx=max 1 (max mn mx))\/((k==3)=false/\XT k mn mx=1):=by
   by_cases hk:k=3
   ·exact .inl ⟨by simp[hk],by rw[HT.out,if_pos hk];omega⟩
   ·exact .inr ⟨by simp[hk],by rw[HT.out,if_neg hk]⟩
  clear HT;rcases a0 with⟨hk,hT1⟩|⟨hk,hT1⟩
  all_goals
   have f0:=Hd hT1;clear hT1
   go_enter Tryz.func175,Tryz.ntmps175
   go_wp2_with fail
   go_loopw [3,18] (fun n i wr=>∃ j:Nat,j≤l.length∧i=.int .i64 j∧n=.int .i64 (JJ (XT k mn mx) l j) ∧
    Below (w.heap.size+1) (w.alloc (.cells #[.int .i64 k,.int .i64 mn,.int .i64 mx,.int .u64 s0,.int .u64 s1,.int .u64 s2,.int .u64 s3,.slice a l.length cap] 141)) wr) (λ_ i _=>l.length - (intOf i).toNat)
   case atStart=>exact⟨0,Nat.zero_le _,rfl,by simp[JJ,XX,XJ],Below.refl _ _⟩
   case round=>
    obtain⟨j,hj,rfl,rfl,hbel⟩:=hrel;have c7:=W8 hbel (by omega) 7 (.slice a l.length cap) rfl;by_cases hlt:j<l.length
    ·obtain⟨b,o,rfl,hb,hcs,hxin⟩:=HG.out j hlt;have t0:=T4.out l[j] (List.getElem_mem hlt);have i0:=IH.out l[j] (List.getElem_mem hlt);have k0:=EO (XT k mn mx) l j hlt;have h0:=Qv l[j].bare;have l0:=EP (XT k mn mx) g0 (XX (l.take j));have e0:=GU (XT k mn mx) l j;rw[<-e0]at l0;clear e0;generalize hxe:l[j]=x at *;have v0:=Hd hxe;clear hxe;have j0:=Hd k0;clear k0;have p0:=Hd i0;clear i0;obtain⟨k',mn',mx',s0',s1',s2',s3',a',cap',l'⟩:=x;obtain⟨d0,d1,d2,d3,d4,d5,d6,d7⟩:=G3 (o:=o+j*8) (λi hi=>(hbel.cell (p:=⟨b,o+j*8+i,none⟩) (by show b<w.heap.size+1;omega)).trans (hcs i hi));clear hcs;have n0:Below w.heap.size w wr:=((Below.refl _ _).alloc (Nat.le_refl _) _).trans (hbel.mono (by omega));have o0:=hbel.size;simp only[World.size_alloc]at o0;have y0:=ZgQ (t:=max 1 (max mn mx)) (s:=(RxA.node k' mn' mx' s0' s1' s2' s3' a' cap' l').bare.sizeI) (by omega) (by omega) h0.1 h0.2
     go_wp2_with fail
     refine(p0.out _ B (by simp;omega) ((hxin.below n0 hB).below ((Below.refl wr.heap.size wr).alloc (Nat.le_refl _) _) (by omega)) t0).mono ?_;rintro e w1 ⟨rfl,hb1⟩
     go_wp2_with fail
     go_roundw
     case rel=>exact⟨j+1,by omega,by go_num,by first|(rw[j0.out,f0.out];done)|rw[j0.out,f0.out,Int.one_mul],(hbel.alloc (by omega) _).trans (hb1.mono (by simp;omega))⟩
     case measure=>simp[intOf];omega
    ·have r0:j=l.length:=by omega
     go_wp2_with fail
     go_ret
     refine⟨ZT ?_,?_⟩
     ·rw[m0.out _ g0 q0 rfl,r0]
     ·exact((Below.refl _ _).alloc (Nat.le_refl _) _).trans (hbel.mono (by omega))
end Go.Proofs.YtbchkjfnakabkaaGreatDoor
namespace Go.Proofs.YtbchkjfnakabkaaGreatDoor
open Go.RowKit PX
end Go.Proofs.YtbchkjfnakabkaaGreatDoor
namespace Go.Proofs.YtbchkjfnakabkaaGreatDoor
open Go.RowKit PX
end Go.Proofs.YtbchkjfnakabkaaGreatDoor
namespace Go.Proofs.YtbchkjfnakabkaaGreatDoor
open Go.RowKit PX
end Go.Proofs.YtbchkjfnakabkaaGreatDoor
namespace Go.Proofs.YtbchkjfnakabkaaGreatDoor
open Go.RowKit PX
