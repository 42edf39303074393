import Derived.Test.YtbchkjfnakabkaaGreatDoorRLx
import Derived.Test.YtbchkjfnakabkaaGreatDoorRP
import Derived.Test.YtbchkjfnakabkaaGreatDoorRFx
import Derived.Test.YtbchkjfnakabkaaGreatDoorRA
import Derived.Test.YtbchkjfnakabkaaGreatDoorYM
set_option linter.unusedSimpArgs false
set_option linter.unusedVariables false
namespace Go.Proofs.YtbchkjfnakabkaaGreatDoor
open Go.RowKit PX PC
def rowI(n:Nat)(f:Nat->Nat):Array Value:=((List.range n).map λk=>Value.int .i64 (f k:Int)).toArray
theorem Jm(n:Nat)(f:Nat->Nat):(rowI n f).size=n:=by simp[rowI]
theorem Jw{n b:Nat}(f:Nat->Nat)(h:b<n):(rowI n f)[b]?=some (.int .i64 (f b:Int)):=by simp[rowI,h]
def Em(f:Nat->Nat)(b:Nat):Nat->Nat:=λk=>f k+(if k=b then 1 else 0)
theorem Zde(n:Nat)(f:Nat->Nat)(b:Nat):(rowI n f).setIfInBounds b (.int .i64 ((f b:Int)+1))=rowI n (Em f b):=by
 apply Array.ext_getElem?;intro i;by_cases h:i<n
 ·by_cases e:b=i
  ·subst e;rw[Array.getElem?_setIfInBounds_self_of_lt (by rw[Jm];exact h),Jw _ h];simp[Em]
  ·rw[Array.getElem?_setIfInBounds_ne e,Jw _ h,Jw _ h];simp[Em,show ¬i=b from λq=>e q.symm]
 ·rw[Array.getElem?_eq_none (by simp[Jm];omega),Array.getElem?_eq_none (by simp[Jm];omega)]
def UsedAt(w:World)(ub n:Nat)(f:Nat->Nat):Prop:=w.heap[ub]?=some (.cells (rowI n f) 3 (0,0))
theorem UsedAt.later{w w':World}{ub n:Nat}{f:Nat->Nat}(h:UsedAt w ub n f)(hl:Later w w'):UsedAt w' ub n f:=hl.block h
theorem UsedAt.cell{w:World}{ub n b:Nat}{f:Nat->Nat}(h:UsedAt w ub n f)(hb:b<n):w.cell? ⟨ub,b,none⟩=some (.int .i64 (f b:Int)):=by
 rw[Zb h,Jw _ hb]
theorem UsedAt.bump{w:World}{ub n:Nat}{f g:Nat->Nat}(h:UsedAt w ub n f)(b:Nat)(hg:Em f b=g):UsedAt (w.setCell ⟨ub,b,none⟩ (.int .i64 ((f b:Int)+1))) ub n g:=by
 unfold UsedAt at h ⊢;rw[Zf h b,Zde,hg]
theorem Zei:(Tryz.prog.info? 3).map (λi=>(i.zero,i.size,i.bytes))=some (some (.int .i64 0),1,8):=by kernel_rfl
theorem W3(W:World)(n:Nat)(hn:n<=4096):(Instr.makeSlice 44 (.int .i64 (n:Int)) (.int .i64 (n:Int))).run Tryz.prog W=.ok (.slice (some ⟨W.heap.size,0,none⟩) n n) (W.alloc (.cells (rowI n λ_=>0) 3)):=by
 obtain⟨i0,hi,hz0,hz1,hz2⟩:=info_parts Zei;have h:=run_makeSlice (P:=Tryz.prog) W 44 3 i0 (.int .i64 0) Tryz.underlying44 hi hz0 .i64 .i64 (n:Int) (n:Int) (by omega) (by omega) (by rw[hz1];omega) (by rw[hz2];omega) (by omega);have e:(n:Int).toNat=n:=by omega
 have e2:madeCells (Value.int .i64 0).cells (n*1)=rowI n λ_=>0:=by
  apply Array.toList_inj.1;rw[show(Value.int .i64 0).cells=#[.int .i64 0] from rfl,toList_madeCells_one,Nat.mul_one];unfold rowI;apply List.ext_getElem?;intro i;by_cases hi:i<n<;>simp[hi]
 rw[hz1,e,e2]at h;exact h
def cntP(l:List Vol)(v:Vol)(m:Nat):Nat->Nat:=λk=>cntS l k+(if ZdC v m k then 1 else 0)
theorem Zco(l:List Vol)(v:Vol){m:Nat}(h:v.first=m):cntS l=cntP l v m:=by
 funext k
 unfold cntP ZdC;rw[h];by_cases h1:(m:Int)<=(k:Int)
 ·rw[decide_eq_false (show ¬k<m by omega)];simp
 ·rw[decide_eq_false h1];simp
theorem ZeM(l:List Vol)(v:Vol){m:Nat}(h:v.first<=(m:Int)):Em (cntP l v m) m=cntP l v (m+1):=by
 funext k
 unfold Em cntP ZdC;by_cases e:k=m
 ·subst e;rw[if_pos rfl,decide_eq_true h,decide_eq_false (Nat.lt_irrefl k),decide_eq_true (Nat.lt_succ_self k)];simp
 ·rw[if_neg e,Nat.add_zero]
  congr 3
  exact congrArg _ (decide_eq_decide.2 (by omega))
theorem DC(l:List Vol)(v:Vol):cntS (l++[v])=λk=>cntS l k+(if hasS v k then 1 else 0):=by
 funext k
 rw[ZgB,UA];rfl
theorem ZgC(l:List Vol)(v:Vol){m:Nat}(h:(m:Int)=v.first+v.count):cntP l v m=cntS (l++[v]):=by
 rw[DC]
 funext k
 unfold cntP;rw[ZdB h]
theorem BJ(l:List Vol)(k:Nat):cntS l k<=l.length:=by unfold cntS;exact List.length_filter_le _ _
theorem Zij(l:List Vol)(v:Vol)(m k:Nat):cntP l v m k<=l.length+1:=by
 have:=BJ l k;unfold cntP;split<;>omega
theorem Zgz(l:List Vol)(b:Nat):Em (Em (cntS l) b) (b+1)=cntS (l++[⟨0,b,2,0⟩]):=by
 rw[DC]
 funext k
 unfold Em hasS;by_cases e:k=b
 ·subst e;simp;omega
 ·by_cases e2:k=b+1
  ·subst e2;simp;omega
  ·rw[if_neg e,if_neg e2,show(decide (((⟨0,(b:Int),2,0⟩:Vol).first)<=(k:Int))&&decide ((k:Int)<(⟨0,(b:Int),2,0⟩:Vol).first+(⟨0,(b:Int),2,0⟩:Vol).count))=false by
    rw[Bool.and_eq_false_iff,decide_eq_false_iff_not,decide_eq_false_iff_not];show ¬(b:Int)<=k\/¬ (k:Int)<(b:Int)+2
    omega]
   simp
def neL(a b:Vol):Bool:=decide (a.level≠b.level)
theorem pairB_snoc{α:Type}(r:α->α->Bool)(l:List α)(x:α):Xa r (l++[x])=(Xa r l&&l.all λy=>r y x):=by
 induction l with
 |nil=>simp[Xa]
 |cons y l ih=>
  simp only[List.cons_append,Xa,ih,List.all_append,List.all_cons,List.all_nil,Bool.and_true];cases l.all (r y)<;>cases r y x<;>cases Xa r l<;>simp
theorem Gb{α:Type}(r:α->α->Bool):∀ (l m:List α),Xa r (l++m)=true->Xa r l=true
 |[],_,_=>rfl
 |x::l,m,h=>by
  simp only[List.cons_append,Xa,List.all_append,Bool.and_eq_true]at h ⊢;exact⟨h.1.1,Gb r l m h.2⟩
theorem ZfO{α:Type}{r:α->α->Bool}{l:List α}{j k:Nat}(hj:j<l.length)(hk:k<j)(h:r (l[k]'(by omega)) l[j]=false):Xa r l=false:=by
 cases e:Xa r l
 ·rfl
 ·exfalso;rw[<-List.take_append_drop (j+1) l]at e;have e1:=Gb r _ _ e;rw[Zr hj,pairB_snoc,Bool.and_eq_true,List.all_eq_true]at e1;have hm:l[k]'(by omega)∈l.take j:=List.mem_take_iff_getElem.2 ⟨k,by omega,rfl⟩;rw[e1.2 _ hm]at h;cases h
def QX(c:Cfg):Bool:=inB c.sectors 1 4096&&(decide (c.volumes.length<=8)&&(X5 c c.audit&&(decide (c.audit.level=0)&&inB c.boot 0 (c.sectors - 2))))
theorem JE(c:Cfg):c.diskB=(QX c&&(c.volumes.all (X5 c)&&(Xa X8 c.exts&&(c.volumes.all (JR c)&&Xa neL c.volumes)))):=by
 unfold Cfg.diskB QX;rw[show(λa b:Vol=>decide (a.level≠b.level))=neL from rfl,List.all_append,List.all_cons,List.all_nil,Bool.and_true];cases inB c.sectors 1 4096<;>cases decide (c.volumes.length<=8)<;>cases X5 c c.audit<;>cases decide (c.audit.level=0)<;>cases inB c.boot 0 (c.sectors - 2)<;>cases c.volumes.all (X5 c)<;>cases Xa X8 c.exts<;>cases c.volumes.all (JR c)<;>cases Xa neL c.volumes<;>rfl
theorem Gp{c:Cfg}:QX c=true↔(1<=c.sectors/\c.sectors<=4096)/\c.volumes.length<=8/\X5 c c.audit=true/\c.audit.level=0/\0<=c.boot/\c.boot<=c.sectors - 2:=by
 unfold QX;simp only[Bool.and_eq_true,decide_eq_true_eq,ZI]
theorem Zgp{c:Cfg}{S:Nat}(hS:c.sectors=S)(hh:QX c=true)(hv:∀ x∈c.volumes,X5 c x=true):(∀k,k<S->cntS c.exts k<=1)↔Xa X8 c.exts=true:=by
 obtain⟨-, -, ha,-, hb⟩:=Gp.1 hh;refine DA λv hm=>?_
 unfold Cfg.exts at hm;rw[List.mem_append,List.mem_cons,List.mem_singleton]at hm;rcases hm with hm|rfl|rfl
 ·have:=Js.1 (hv v hm);rw[hS]at this;exact⟨this.1,this.2.1,this.2.2.1⟩
 ·have:=Js.1 ha;rw[hS]at this;exact⟨this.1,this.2.1,this.2.2.1⟩
 ·rw[hS]at hb;refine⟨hb.1,by show(1:Int)<=2;omega,by show c.boot+2<=(S:Int);omega⟩
end Go.Proofs.YtbchkjfnakabkaaGreatDoor
set_option maxHeartbeats 16000000
set_option maxRecDepth 100000
namespace Go.Proofs.YtbchkjfnakabkaaGreatDoor
open Go.RowKit PX PC
theorem DL{α:Type}{p:α->Bool}{l:List α}{x:α}(hx:x∈l)(h:p x=false):l.all p=false:=List.all_eq_false.2 ⟨x,hx,by rw[h];decide⟩
theorem DM{α:Type}{p:α->Bool}{l:List α}{j:Nat}(hj:j<l.length)(h:∀ x∈l.take j,p x=true)(hx:p l[j]=true):∀ x∈l.take (j+1),p x=true:=by
 intro x hm;rw[Zr hj,List.mem_append]at hm;rcases hm with hm|hm
 ·exact h x hm
 ·rw[List.mem_singleton.1 hm];exact hx
theorem Zdm(w:World)(c:Cfg)(v:V7)(N:Nat)(h:RowsOf w c v)(hI:CfgI c)(hN:c.levels=N)(h1:1<=N)(h8:N<=8) :
 Calls Tryz.prog 74 #[.agg (cfgA c v)] w λe w'=>e=.returned (.bool c.diskB)/\Later w w':=by
 obtain⟨aV,pV,eV,gV1,gV2,gV3⟩:=Zk h.rV;have H2:=h.rV;rw[eV]at H2
 obtain⟨nV,hnV⟩:∃ n,c.volumes.length=n:=⟨_,rfl⟩
 obtain⟨p,hp⟩:∃ p,w.heap.size=p:=⟨_,rfl⟩
 obtain⟨w1,hw1⟩:∃ w1,w.alloc (.cells (cfgA c v) 32)=w1:=⟨_,rfl⟩
 have F0:Later w w1:=by rw[<-hw1];exact(Later.refl w).alloc _
 have l0:VarAt w1 p c v:=by unfold VarAt;rw[<-hw1,<-hp];exact Zd w _
 have r3:p<w1.heap.size:=l0.lt
 obtain⟨sc,hsc⟩:∃ s,c.sectors=s:=⟨_,rfl⟩
 obtain⟨bo,hbo⟩:∃ s,c.boot=s:=⟨_,rfl⟩
 obtain⟨al,haL⟩:∃ s,c.audit.level=s:=⟨_,rfl⟩
 obtain⟨af,haF⟩:∃ s,c.audit.first=s:=⟨_,rfl⟩
 obtain⟨ac,haC⟩:∃ s,c.audit.count=s:=⟨_,rfl⟩
 obtain⟨aj,haJ⟩:∃ s,c.audit.journal=s:=⟨_,rfl⟩
 have J1:c.audit=⟨al,af,ac,aj⟩:=by rw[<-haL,<-haF,<-haC,<-haJ]
 have l4:I64 sc:=by rw[<-hsc];exact hI.sectors
 have I0:=Hd (λ(w':World) (k:Later w1 w')=>l0.later k);have m0:=Hd (λ(w':World) (k:Later w1 w')=>And.intro (show w'.cell? ⟨p,5,none⟩=some (.slice aV nV pV) by rw[Zb (l0.later k) 5,<-hnV,<-eV];rfl) (And.intro (show w'.cell? ⟨p,6,none⟩=some (.int .i64 al) by rw[Zb (l0.later k) 6,<-haL];rfl) (And.intro (show w'.cell? ⟨p,7,none⟩=some (.int .i64 af) by rw[Zb (l0.later k) 7,<-haF];rfl) (And.intro (show w'.cell? ⟨p,8,none⟩=some (.int .i64 ac) by rw[Zb (l0.later k) 8,<-haC];rfl) (And.intro (show w'.cell? ⟨p,9,none⟩=some (.int .i64 aj) by rw[Zb (l0.later k) 9,<-haJ];rfl) (And.intro (show w'.cell? ⟨p,10,none⟩=some (.int .i64 bo) by rw[Zb (l0.later k) 10,<-hbo];rfl) (show w'.cell? ⟨p,11,none⟩=some (.int .i64 sc) by rw[Zb (l0.later k) 11,<-hsc];rfl)))))));have a4:=Hd (λ(w':World) (k:VarAt w' p c v)=>(show w'.cell? ⟨p,0,none⟩=some (.int .i64 (N:Int)) by rw[Zb k 0,<-hN];rfl));have h3:=Hd (λ(w':World) (k:VarAt w' p c v)=>(show w'.cell? ⟨p,5,none⟩=some (.slice aV nV pV) by rw[Zb k 5,<-hnV,<-eV];rfl));have o1:=Hd (λ(w':World) (k:VarAt w' p c v)=>(show w'.cell? ⟨p,10,none⟩=some (.int .i64 bo) by rw[Zb k 10,<-hbo];rfl));have a3:=Hd (λ(w':World) (k:Later w1 w')=>(show RowAt w' 4 (.slice aV nV pV) (c.volumes.map volC) by rw[<-hnV];exact H2.later (F0.trans k)));have s0:=Hd hnV;have hbV:nV*4<=140737488355328:=by omega
 have p4:=Hd hN;have R1:=Hd hsc;have T3:=Hd hbo;have W2:=Hd J1;have s3:=Hd hI;have H3:=Hd hw1;have HP:=Hd hp
 obtain⟨PT,hPT⟩:∃ PT,(λ(e:Ending) (w':World)=>e=.returned (.bool c.diskB)/\Later w w')=PT:=⟨_,rfl⟩
 rw[hPT];have d0:=Hd (λ(w':World) (b:Bool) (hb:c.diskB=b) (k:Later w1 w')=>(show PT (.returned (.bool b)) w' by rw[<-hPT];exact⟨by rw[hb],F0.trans k⟩));have hwl:IntKind.i64.wrap ((N:Int) - 1)=(N:Int) - 1:=by rw[IntKind.wrap_i64];omega
 have h0:=Hd (λ(w':World)=>Zu w' sc 1 4096);have t0:=Hd (λ(w':World)=>Zu w' bo 0 (sc - 2));have i3:=Hd (λ(w':World) (x0 x1 x2 x3:Int) (hx:volI ⟨x0,x1,x2,x3⟩)=>Bb w' c v ⟨x0,x1,x2,x3⟩ hI.sectors hx);have l3:=Hd (show volI ⟨al,af,ac,aj⟩ by rw[<-J1];exact hI.audit)
 obtain⟨s1,hs1⟩:∃ b,inB sc 1 4096=b:=⟨_,rfl⟩
 obtain⟨E1,hE1⟩:∃ b,X5 c ⟨al,af,ac,aj⟩=b:=⟨_,rfl⟩
 obtain⟨b5,r0⟩:∃ b,inB bo 0 (sc - 2)=b:=⟨_,rfl⟩
 have a1:Hid (QX c=(s1&&(decide (nV<=8)&&(E1&&(decide (al=0)&&b5))))):=Hd (by unfold QX;rw[<-hs1,<-hE1,<-r0,J1,hsc,hbo,hnV]);have n4:=Hd hs1;have HE1:=Hd hE1;have L2:=Hd r0;rw[hs1]at h0;rw[r0]at t0;have S0:=Hd (λ(w':World)=>(show Calls Tryz.prog 96 #[.agg (cfgA c v),.agg #[.int .i64 al,.int .i64 af,.int .i64 ac,.int .i64 aj]] w' λe w2=>e=.returned (.bool E1)/\Later w' w2 by rw[<-hE1];exact i3.out w' al af ac aj l3.out));have n1:=Hd (λ(hh:QX c=false)=>show c.diskB=false by rw[JE,hh];rfl);clear h hw1 hp F0 l0 hN hI hPT H2 hnV eV gV1 gV2 gV3 hsc hbo haL haF haC haJ J1 hs1 hE1 r0;obtain⟨k5,k6,k7,k8,k9,k10,k11⟩:=m0.out w1 (Later.refl _)
 go_enter Tryz.func74,Tryz.ntmps74
 go_upto_region 1 with fail
 rw[HP.out,H3.out];cases s1
 ·go_wp2_with (first
   |(go_at_call 25;(first|(with_reducible refine(h0.out _).mono ?_)|(with_reducible refine(t0.out _).mono ?_));rintro e w9 ⟨rfl,b0⟩;have b0:=b0.symm;subst b0)
   |(go_at_call 96;(with_reducible refine(S0.out _).mono ?_);rintro e w2 ⟨rfl,hl2⟩;obtain⟨m5,m6,m7,m8,m9,m10,m11⟩:=m0.out w2 hl2)
   |((with_reducible refine ZT (p:=p) (c:=c) (v:=v) 1 ?_ ?_ ?_ ?_ ?_);rfl;rfl;exact(I0.out _ (Later.refl _));rfl)
   |fail)
  (try go_ret)
  exact d0.out _ false (n1.out (by rw[a1.out];rfl)) (Later.refl _)
 ·have F3:=ZI.1 n4.out;obtain⟨S,rfl⟩:=Int.eq_ofNat_of_zero_le (show 0<=sc by omega);have hS:1<=S/\S<=4096:=by omega
  have hws:IntKind.i64.wrap ((S:Int) - 2)=(S:Int) - 2:=by rw[IntKind.wrap_i64];omega
  clear F3 l4;by_cases n8:nV<=8
  ·have d1:decide ((8:Int)<(nV:Int))=false:=decide_eq_false (by omega);have d2:decide (8<nV)=false:=decide_eq_false (by omega);have o0:=Hd n8;clear n8;cases E1
   ·go_wp2_with (first
     |(go_at_call 25;(first|(with_reducible refine(h0.out _).mono ?_)|(with_reducible refine(t0.out _).mono ?_));rintro e w9 ⟨rfl,b0⟩;have b0:=b0.symm;subst b0)
     |(go_at_call 96;(with_reducible refine(S0.out _).mono ?_);rintro e w2 ⟨rfl,hl2⟩;obtain⟨m5,m6,m7,m8,m9,m10,m11⟩:=m0.out w2 hl2)
     |((with_reducible refine ZT (p:=p) (c:=c) (v:=v) 1 ?_ ?_ ?_ ?_ ?_);rfl;rfl;exact(I0.out _ (Later.refl _));rfl)
     |fail)
    (try go_ret)
    exact d0.out _ false (n1.out (by rw[a1.out];simp)) hl2
   ·by_cases a0:al=0
    ·subst a0;cases b5
     ·go_wp2_with (first
       |(go_at_call 25;(first|(with_reducible refine(h0.out _).mono ?_)|(with_reducible refine(t0.out _).mono ?_));rintro e w9 ⟨rfl,b0⟩;have b0:=b0.symm;subst b0)
       |(go_at_call 96;(with_reducible refine(S0.out _).mono ?_);rintro e w2 ⟨rfl,hl2⟩;obtain⟨m5,m6,m7,m8,m9,m10,m11⟩:=m0.out w2 hl2)
       |((with_reducible refine ZT (p:=p) (c:=c) (v:=v) 1 ?_ ?_ ?_ ?_ ?_);rfl;rfl;exact(I0.out _ (Later.refl _));rfl)
       |fail)
      (try go_ret)
      exact d0.out _ false (n1.out (by rw[a1.out];simp)) hl2
     ·have f2:Hid (QX c=true):=Hd (by rw[a1.out];simp[o0.out]);obtain⟨b,rfl⟩:=Int.eq_ofNat_of_zero_le (show 0<=bo from(ZI.1 L2.out).1);have hbS:b+2<=S:=by have:=(ZI.1 L2.out).2;omega
      have c4:∀ W:World,(Instr.makeSlice 44 (.int .i64 (S:Int)) (.int .i64 (S:Int))).run Tryz.prog W=.ok (.slice (some ⟨W.heap.size,0,none⟩) S S) (W.alloc (.cells (rowI S λ_=>0) 3)):=λW=>W3 W S hS.2
      go_upto_region 3 with(first
       |(go_at_call 25;(first|(with_reducible refine(h0.out _).mono ?_)|(with_reducible refine(t0.out _).mono ?_));rintro e w9 ⟨rfl,b0⟩;have b0:=b0.symm;subst b0)
       |(go_at_call 96;(with_reducible refine(S0.out _).mono ?_);rintro e w2 ⟨rfl,hl2⟩;obtain⟨m5,m6,m7,m8,m9,m10,m11⟩:=m0.out w2 hl2)
       |((with_reducible refine ZT (p:=p) (c:=c) (v:=v) 1 ?_ ?_ ?_ ?_ ?_);rfl;rfl;exact(I0.out _ (Later.refl _));rfl)
       |fail)
      go_upto_region 4 with fail
      clear c4 m5 m6 m7 m8 m9 m10 m11 k5 k6 k7 k8 k9 k10 k11
      obtain⟨ub,hub⟩:∃ g,w2.heap.size=g:=⟨_,rfl⟩
      obtain⟨w3,m1⟩:∃ y,w2.alloc (.cells (rowI S λ_=>0) 3)=y:=⟨_,rfl⟩
      rw[hub,m1];have C2:UsedAt w3 ub S λ_=>0:=by unfold UsedAt;rw[<-m1];exact Zo hub
      have Z1:Later w1 w3:=by rw[<-m1];exact hl2.alloc _
      have K3:w1.heap.size<=ub:=by rw[<-hub];exact hl2.size
      have s4:ub<w3.heap.size:=Za C2;have b3:=Hd C2;have L1:=Hd Z1;have f3:=Hd K3;have hps3:p<w3.heap.size:=by omega
      obtain⟨L,hL⟩:∃ L,c.volumes++[(⟨0,af,ac,aj⟩:Vol)]=L:=⟨_,rfl⟩
      have j3:L.length=nV+1:=by rw[<-hL,List.length_append,s0.out];rfl
      have p0:=Hd j3;have p1:=Hd hL;obtain⟨k5,k6,k7,k8,k9,k10,k11⟩:=m0.out w3 Z1;have a2:=Hd (λ(w':World) (k:Later w3 w')=>a3.out w' (L1.out.trans k));clear m1 hub C2 Z1 hl2 j3 hL
      go_cut [4] from 48 to 55 (λvc wx=>∃ g cap,vc=.slice (some ⟨g,0,none⟩) (nV+1) cap/\w3.heap.size<=g/\RowAt wx 4 (.slice (some ⟨g,0,none⟩) (nV+1) cap) (L.map volC)/\Later w3 wx)
      case first=>
       go_region_law (first
        | (refine Zv X9 rfl (.tmp 48) (.tmp 50) rfl (W0:=w3) La _ [] c.volumes (by rfl) (Xy volC (by first | exact Zd _ _ | exact Zo (by simp) | exact Ze (Zd _ _) _) (by simp)) aV nV pV s0.out (by rfl) (a2.out _ La) (by have:=o0.out;rw [s0.out];simp;omega) ?_
           intro v1 w5 hown1 hl5 hk1;obtain⟨k5,k6,k7,k8,k9,k10,k11⟩:=m0.out w5 (L1.out.trans hl5);have P2:=Hd hown1;have Z3:=Hd hk1
           clear hown1 hk1)
        | (refine Zv X9 rfl (.tmp 51) (.tmp 54) rfl (W0:=w3) La _ c.volumes [(⟨0,af,ac,aj⟩:Vol)] (by rfl) (by first | exact P2.out | exact P2.out.alloc _) _ 1 1 rfl (by rfl) (WG (x:=(⟨0,af,ac,aj⟩:Vol)) (f:=volC) (by first | exact Zd _ _ | exact Zo (by simp) | (exact Z3.out _ _ (by first | exact Zd _ _ | exact Zo (by simp) | exact Ze (Zd _ _) _) (by simp [Value.ownBlock]))) rfl (by decide)) (by have:=o0.out;rw [s0.out];simp;omega) ?_
           intro v2 w6 hown2 hl6 hk2;have v3:=Hd hown2
           clear hown2 hk2)
        |fail)
       all_goals
        go_wp2_with fail
        go_meet
        case rel=>
         have t1:=v3.out;rw[p1.out]at t1;obtain⟨g,cap,rfl,hc1,hc2⟩:=XC t1 (by rw[p0.out];omega);have hg:=(t1.lt g rfl).1;rw[p0.out]at t1 ⊢;exact⟨g,cap,rfl,hg,by rw[<-p0.out];exact Z5 (λ_=>rfl) (by have:=o0.out;rw[p0.out];omega) (by rw[p0.out];exact t1),hl6⟩
      case rest=>
       obtain⟨g,cap,rfl,hg3,hRL,hl4⟩:=hcut
       obtain⟨wa,hwa⟩:∃ y,wc=y:=⟨_,rfl⟩
       rw[hwa]at hRL hl4 ⊢;clear hwa k5 k6 k7 k8 k9 k10 k11;have p2:=I0.out wa (L1.out.trans hl4);have n3:=b3.out.later hl4;have r2:=L1.out.trans hl4;have hpu:p<ub:=Nat.lt_of_lt_of_le r3 f3.out;have hgu:ub<g:=Nat.lt_of_lt_of_le s4 hg3;have O0:=Hd (λ(w':World) (k:Only (λq=>q=ub) wa w')=>(show VarAt w' p c v from(k.block p p2.lt (λe=>by have:p=ub:=e;omega)).trans p2));have m2:=Hd (λ(w':World) (k:Only (λq=>q=ub) wa w')=>(show Later w1 w' from Below.trans r2 (k.below (Below.size r2) λq e=>by rw[e];exact f3.out)))
       have R3:=Hd (λ(w':World) (k:Only (λq=>q=ub) wa w') (j:Nat) (hj:j<L.length) (q:Nat) (hq:q<4)=>(show w'.cell? ⟨g,0+j*4+q,none⟩=(volC L[j])[q]? by
        obtain⟨b',o',he,hb,hc⟩:=Zz hRL hj;injection he with he;injection he with h1' h2' _;subst h1' h2';rw[k.cell (p:=⟨g,0+j*4+q,none⟩) hb (λe=>by have:g=ub:=e;omega)]
        exact hc q hq))
       have K0:=Hd (λ(w':World) (k:Only (λq=>q=ub) wa w')=>a3.out w' (m2.out w' k));have A3:=Hd n3;have hub5:p≠ub:=by omega
       clear hRL p2 n3 r2 hl4 hg3 b3
       go_wp2_with fail
       go_loopw [5] (λvi wx=>∃ j:Nat,j<=nV+1/\vi=.int .i64 (j:Int)/\(∀x∈L.take j,X5 c x=true)/\UsedAt wx ub S (cntS (L.take j))/\Only (λq=>q=ub) wa wx) (λvi _=>nV+1 - (intOf vi).toNat)
       case atStart=>exact⟨0,by omega,rfl,by simp,A3.out,Only.refl _ _⟩
       case round=>
        obtain⟨j,hj,rfl,hok,hU,hO⟩:=hrel;by_cases hlt:j<nV+1
        ·have i1:j<L.length:=by rw[p0.out];exact hlt
         have q0:=R3.out wr hO j i1;have A0:=DM (p:=X5 c) i1 hok;have f0:=List.getElem_mem i1;have H0:=Zr i1
         have q3:∀ y∈L,volI y:=λy hm=>by
          rw[<-p1.out,List.mem_append,List.mem_singleton]at hm;rcases hm with hm|rfl
          ·exact s3.out.volumes _ hm
          ·exact l3.out
         have T1:=q3 _ f0;clear q3
         obtain⟨x,hx⟩:∃ x,L[j]=x:=⟨_,rfl⟩
         rw[hx]at q0 A0 f0 H0 T1;have f1:=Hd A0;have K2:=Hd f0;have P1:=Hd H0;obtain⟨x0,x1,x2,x3⟩:=x;have e0:=q0 0 (by omega);have e1:=q0 1 (by omega);have e2:=q0 2 (by omega);have e3:=q0 3 (by omega);simp only[volC,List.getElem?_cons_zero,List.getElem?_cons_succ,Nat.add_zero,Nat.zero_add]at e0 e1 e2 e3;have g1:(L.take j).length<=9:=by rw[List.length_take];have:=o0.out;omega
         have b4:=Hd g1;have S2:=Hd hU;have HOO:=Hd hO
         obtain⟨E,hE⟩:∃ b,X5 c ⟨x0,x1,x2,x3⟩=b:=⟨_,rfl⟩
         have g3:=Hd (λ(w':World)=>(show Calls Tryz.prog 96 #[.agg (cfgA c v),.agg #[.int .i64 x0,.int .i64 x1,.int .i64 x2,.int .i64 x3]] w' λe w2=>e=.returned (.bool E)/\Later w' w2 by rw[<-hE];exact i3.out w' x0 x1 x2 x3 T1));have H1:=Hd hE;clear q0 A0 f0 H0 T1 hx hok i1 g1 hU hE
         go_upto_region 9 with fail
         obtain⟨bx,hbx⟩:∃ g,wr.heap.size=g:=⟨_,rfl⟩
         obtain⟨wy,hwy⟩:∃ y,wr.alloc (.cells #[.int .i64 x0,.int .i64 x1,.int .i64 x2,.int .i64 x3] 28)=y:=⟨_,rfl⟩
         rw[hbx,hwy];have i0:wy.heap[bx]?=some (.cells #[.int .i64 x0,.int .i64 x1,.int .i64 x2,.int .i64 x3] 28 (0,0)):=by rw[<-hwy];exact Zo hbx
         have E2:Only (λq=>q=ub) wa wy:=by rw[<-hwy];exact hO.alloc _
         have k4:=Hd (show UsedAt wy ub S (cntS (L.take j)) by rw[<-hwy];exact Ze S2.out _);have hbu:ub<bx:=by rw[<-hbx];exact Za S2.out
         have b2:=Hd i0;have N2:=Hd E2;have F1:=Hd (O0.out wy E2);have y0:=Zb i0 0;have y1:=Zb i0 1;have y2:=Zb i0 2;have y3:=Zb i0 3;clear hwy hbx hO e0 e1 e2 e3 i0 E2;cases E
         ·go_wp2_with (first
           |(go_at_call 96;(with_reducible refine(g3.out _).mono ?_);rintro e w5 ⟨rfl,hl5⟩)
           |((with_reducible refine ZT (p:=p) (c:=c) (v:=v) 1 ?_ ?_ ?_ ?_ ?_);rfl;rfl;exact F1.out;rfl)
           |fail)
          (try go_ret)
          refine d0.out _ false ?_ ((m2.out _ N2.out).trans hl5);have hm:=K2.out;rw[<-p1.out,List.mem_append,List.mem_singleton]at hm;rcases hm with hm|hm
          ·rw[JE,DL hm H1.out];simp
          ·have:=Gp.1 f2.out;rw[W2.out,<-hm,H1.out]at this;exact absurd this.2.2.1 (by decide)
         ·go_upto_region 11 with(first
           |(go_at_call 96;(with_reducible refine(g3.out _).mono ?_);rintro e w5 ⟨rfl,hl5⟩)
           |((with_reducible refine ZT (p:=p) (c:=c) (v:=v) 1 ?_ ?_ ?_ ?_ ?_);rfl;rfl;exact F1.out;rfl)
           |fail)
          have j0:=Js.1 H1.out;rw[R1.out]at j0;simp only at j0;obtain⟨f,hf⟩:=Int.eq_ofNat_of_zero_le j0.1;obtain⟨n,hn⟩:=Int.eq_ofNat_of_zero_le (show 0<=x2 by have:=j0.2.1;omega);have hfn:f+n<=S:=by have:=j0.2.2.1;omega
          obtain⟨en,hen⟩:∃ en:Int,((f+n:Nat):Int)=en:=⟨_,rfl⟩
          have hws12:IntKind.i64.wrap (x1+x2)=en:=by rw[IntKind.wrap_i64];omega
          have HF:=Hd (And.intro hf hn);have p3:=Hd hen;have r0:=hl5.block b2.out;have q1:=Zb r0 1;have c3:=k4.out.later hl5;have M2:Only (λq=>q=ub) wa w5:=N2.out.then (Only.of_below hl5);have j1:=Hd r0;have f4:=Hd c3;have m4:=Hd M2;clear y0 y1 y2 y3 j0 hf hn hen r0 c3 M2 hl5
          go_wp2_with fail
          go_loopw [7] (λvk wx=>∃ m:Nat,f<=m/\m<=f+n/\vk=.int .i64 (m:Int)/\UsedAt wx ub S (cntP (L.take j) ⟨x0,x1,x2,x3⟩ m)/\Only (λq=>q=ub) w5 wx) (λvk _=>f+n - (intOf vk).toNat)
          case atStart=>exact⟨f,Nat.le_refl _,by omega,by rw[HF.out.1],by rw[<-Zco (L.take j) ⟨x0,x1,x2,x3⟩ (show x1=(f:Int) from HF.out.1)];exact f4.out,Only.refl _ _⟩
          case round=>
           obtain⟨m,hfm,hmn,rfl,hU,hO⟩:=hrel;have A1:wr.heap[bx]?=some (.cells #[.int .i64 x0,.int .i64 x1,.int .i64 x2,.int .i64 x3] 28 (0,0)):=(hO.block bx (Za j1.out) (λe=>by have:bx=ub:=e;omega)).trans j1.out;have y1:=Zb A1 1;have y2:=Zb A1 2;by_cases hlm:m<f+n
           ·have hd:decide ((m:Int)<en)=true:=decide_eq_true (by have:=p3.out;omega);have j4:m<S:=by omega
            have P3:=Hd hU;have S3:=Hd hO;have Z2:=Zij (L.take j) ⟨x0,x1,x2,x3⟩ m m;have l1:=hU.cell j4;have hfree:=Zc hU m;have K1:=Za hU
            obtain⟨q,hq⟩:∃ q,cntP (L.take j) ⟨x0,x1,x2,x3⟩ m m=q:=⟨_,rfl⟩
            rw[hq]at l1 Z2;have k3:q<=10:=by have:=b4.out;omega
            have I1:IntKind.i64.wrap ((q:Int)+1)=(q:Int)+1:=by rw[IntKind.wrap_i64];omega
            have h4:=Hd hq;clear hq Z2 A1 hU hO
            go_wp2_with fail
            refine⟨⟨m+1,by omega,by omega,by simp,?_,S3.out.setCell (p:=⟨ub,m,none⟩) (.inl rfl) _⟩,by simp only[intOf];omega⟩;have:=P3.out.bump m (ZeM (L.take j) ⟨x0,x1,x2,x3⟩ (show x1<=(m:Int) by have:=HF.out;omega));rw[h4.out]at this;exact this
           ·have hd:decide ((m:Int)<en)=false:=decide_eq_false (by have:=p3.out;omega);have k2:=hU;rw[ZgC (L.take j) ⟨x0,x1,x2,x3⟩ (show(m:Int)=x1+x2 by have:=HF.out;omega),<-P1.out]at k2;have q4:=Hd k2;have L3:=Hd hO;clear A1 hU hO k2
            go_wp2_with fail
            exact⟨⟨j+1,by omega,by simp,f1.out H1.out,q4.out,m4.out.then L3.out⟩,by simp only[intOf];omega⟩
        ·have g2:j=nV+1:=by omega
         subst g2;rw[List.take_of_length_le (by rw[p0.out];exact Nat.le_refl _)]at hok hU;have HOK:=Hd hok;have N1:=Hd (show ∀x∈c.volumes,X5 c x=true from λx hx=>hok x (by rw[<-p1.out];exact List.mem_append_left _ hx));have F2:=o1.out wr (O0.out wr hO);have M0:=hU.cell (show b<S by omega);have A2:=Zc hU b;have K1:=Za hU;have k1:=BJ L b
         obtain⟨q,hq⟩:∃ q,cntS L b=q:=⟨_,rfl⟩
         rw[hq]at M0 k1;have k3:q<=9:=by have C1:=o0.out;have:=p0.out;omega
         have I1:IntKind.i64.wrap ((q:Int)+1)=(q:Int)+1:=by rw[IntKind.wrap_i64];omega
         have hbl:b<S:=by omega
         have h2:=Hd hU;have o2:=Hd hO;have I2:=Hd hq;clear hok hU hO hq k1
         go_upto_region 16 with fail
         generalize hW:World.setCell _ _ _=w7
         have r1:UsedAt w7 ub S (Em (cntS L) b):=by
          have:=h2.out.bump b rfl;rw[I2.out,hW]at this;exact this
         have i2:Only (λq=>q=ub) wa w7:=by rw[<-hW];exact o2.out.setCell (p:=⟨ub,b,none⟩) (.inl rfl) _
         clear hW M0 A2 K1 F2 I1 k3;have F2:=o1.out w7 (O0.out w7 i2);have t2:b+1<S:=by omega
         have M0:=r1.cell t2;have A2:=Zc r1 (b+1);have K1:=Za r1
         obtain⟨q2,hq2⟩:∃ q,Em (cntS L) b (b+1)=q:=⟨_,rfl⟩
         rw[hq2]at M0
         have e4:q2<=9:=by
          have:=BJ L (b+1);have h9:=o0.out;have:=p0.out;rw[<-hq2];unfold Em;rw[if_neg (by omega)];omega
         have I1:IntKind.i64.wrap ((q2:Int)+1)=(q2:Int)+1:=by rw[IntKind.wrap_i64];omega
         have O3:IntKind.i64.wrap ((b:Int)+1)=(b:Int)+1:=by rw[IntKind.wrap_i64];omega
         have h2:=Hd r1;have o2:=Hd i2;have I2:=Hd hq2;clear r1 i2 hq2 e4
         go_upto_region 17 with fail
         generalize hW:World.setCell _ _ _=w8
         have m3:UsedAt w8 ub S (cntS c.exts):=by
          have C1:=h2.out.bump (b+1) rfl;rw[I2.out,hW,Zgz]at C1
          have e:L++[(⟨0,(b:Int),2,0⟩:Vol)]=c.exts:=by
           unfold Cfg.exts;rw[<-p1.out,W2.out,T3.out];simp
          rw[e]at C1;exact C1
         have M1:Only (λq=>q=ub) wa w8:=by rw[<-hW];exact o2.out.setCell (p:=⟨ub,b+1,none⟩) (.inl rfl) _
         clear hW M0 A2 K1 F2 I1 O3;have J3:=Hd m3;have R0:=Hd M1;have P0:=Hd (m2.out w8 M1);have O2:=Hd (Zgp (c:=c) (S:=S) R1.out f2.out N1.out);clear m3 M1
         go_wp2_with fail
         go_loop [8] (λvi=>∃ j:Nat,j<=S/\vi=.int .i64 (j:Int)/\∀ k,k<j->cntS c.exts k<=1) (λvi=>S - (intOf vi).toNat)
         case atStart=>exact⟨0,by omega,rfl,λk hk=>absurd hk (by omega)⟩
         case round=>
          obtain⟨j,hj,rfl,hok⟩:=hrel;by_cases hlt:j<S
          ·have M0:=J3.out.cell hlt
           obtain⟨q,hq⟩:∃ q,cntS c.exts j=q:=⟨_,rfl⟩
           rw[hq]at M0;by_cases q1:q<=1
           ·have d1:decide ((1:Int)<(q:Int))=false:=decide_eq_false (by omega);have d2:decide (1<q)=false:=decide_eq_false (by omega)
            have f1:=Hd (show ∀k,k<j+1->cntS c.exts k<=1 from λk hk=>by
             by_cases e:k=j
             ·subst e;rw[hq];exact q1
             ·exact hok k (by omega))
            clear q1 hq hok
            go_wp2_with fail
            exact⟨⟨j+1,by omega,by simp,f1.out⟩,by simp only[intOf];omega⟩
           ·have d1:decide ((1:Int)<(q:Int))=true:=decide_eq_true (by omega);have d2:decide (1<q)=true:=decide_eq_true (by omega)
            have v0:Hid (Xa X8 c.exts=false):=Hd (by
             cases e:Xa X8 c.exts
             ·rfl
             ·exact absurd (O2.out.2 e j hlt) (by rw[hq];exact q1))
            clear q1 hq hok
            go_wp2_with fail
            (try go_ret)
            exact d0.out _ false (by rw[JE,v0.out];simp) P0.out
          ·have g2:j=S:=by omega
           subst g2;have C3:=Hd (O2.out.1 hok);clear hok
           go_wp2_with fail
           go_loopw [9] (λvi wx=>∃ j:Nat,j<=nV/\vi=.int .i64 (j:Int)/\(∀x∈c.volumes.take j,JR c x=true)/\Xa neL (c.volumes.take j)=true/\Later w8 wx) (λvi _=>nV - (intOf vi).toNat)
           case atStart=>exact⟨0,by omega,rfl,by simp,rfl,Later.refl _⟩
           case round=>
            obtain⟨i,hi,rfl,hok,hpr,hl⟩:=hrel;have W1:=(O0.out w8 R0.out).later hl;have k5:=h3.out wr W1;by_cases hlt:i<nV
            ·have T0:i<c.volumes.length:=by rw[s0.out];exact hlt
             obtain⟨gb,go,hao,hgb,q0⟩:=Zz (K0.out w8 R0.out) T0
             have c0:∀ q,q<4->wr.cell? ⟨gb,go+i*4+q,none⟩=(volC c.volumes[i])[q]?:=λq hq=>by
              obtain⟨gb',go',hao',-, hc'⟩:=Zz ((K0.out w8 R0.out).later hl) T0;rw[hao]at hao';injection hao' with e';injection e' with e1' e2' _;subst e1' e2';exact hc' q hq
             have A0:=DM (p:=JR c) T0 hok;have f0:=List.getElem_mem T0;have H0:=Zr T0;have n2:=N1.out _ f0;have R2:=λ(k:Nat) (hk:k<i)=>ZfO (r:=neL) T0 hk
             obtain⟨x,hx⟩:∃ x,c.volumes[i]=x:=⟨_,rfl⟩
             rw[hx]at c0 A0 f0 H0 n2;have g0:∀ (k:Nat) (hk:k<i),neL (c.volumes[k]'(by omega)) x=false->Xa neL c.volumes=false:=λk hk h'=>R2 k hk (by rw[hx];exact h')
             have f1:=Hd A0;have K2:=Hd f0;have P1:=Hd H0;have t4:=Hd g0;have o4:=Hd hpr;obtain⟨x0,x1,x2,x3⟩:=x;have e0:=c0 0 (by omega);have e1:=c0 1 (by omega);have e2:=c0 2 (by omega);have e3:=c0 3 (by omega);simp only[volC,List.getElem?_cons_zero,List.getElem?_cons_succ,Nat.add_zero]at e0 e1 e2 e3;subst hao;have j0:=Js.1 n2;rw[R1.out]at j0;have T2:=ZI.1 j0.2.2.2;simp only at j0 T2
             obtain⟨cl,k1⟩:∃ cl:Int,x2 - x3=cl:=⟨_,rfl⟩
             obtain⟨t3,ht3⟩:∃ t:Int,x3 - 3=t:=⟨_,rfl⟩
             have hw23:IntKind.i64.wrap (x2 - x3)=cl:=by rw[IntKind.wrap_i64];omega
             have m1:IntKind.i64.wrap (x3 - 3)=t3:=by rw[IntKind.wrap_i64];omega
             have h0:=Hd (λ(w':World)=>Zu w' x0 0 ((N:Int) - 1))
             obtain⟨b1,hb1⟩:∃ b,inB x0 0 ((N:Int) - 1)=b:=⟨_,rfl⟩
             have n0:Hid (JR c ⟨x0,x1,x2,x3⟩=(b1&&(decide (cl<=40)&&decide (cl<=t3)))):=Hd (by rw[<-hb1,<-k1,<-ht3,<-p4.out];rfl);rw[hb1]at h0;have L0:=Hd (λ(hw:JR c ⟨x0,x1,x2,x3⟩=false) (w':World) (k:Later w1 w')=>d0.out w' false (by rw[JE,DL K2.out hw];simp) k);clear q0 c0 hgb A0 f0 H0 n2 R2 g0 hx hok hpr j0 T2 k1 ht3 hb1
             go_upto_region 26 with fail
             obtain⟨bx,hbx⟩:∃ g,wr.heap.size=g:=⟨_,rfl⟩
             obtain⟨wy,hwy⟩:∃ y,wr.alloc (.cells #[.int .i64 x0,.int .i64 x1,.int .i64 x2,.int .i64 x3] 28)=y:=⟨_,rfl⟩
             rw[hbx,hwy];have i0:wy.heap[bx]?=some (.cells #[.int .i64 x0,.int .i64 x1,.int .i64 x2,.int .i64 x3] 28 (0,0)):=by rw[<-hwy];exact Zo hbx
             have s2:Later w8 wy:=by rw[<-hwy];exact hl.alloc _
             have b2:=Hd i0;have N0:=Hd s2;have k0:=a4.out wy ((O0.out w8 R0.out).later s2);have y0:=Zb i0 0;have y2:=Zb i0 2;have y3:=Zb i0 3;clear hwy hbx hl e0 e1 e2 e3 i0 s2 W1 k5;cases b1
             ·go_wp2_with (first
              |(go_at_call 25;(with_reducible refine(h0.out _).mono ?_);rintro e w9 ⟨rfl,b0⟩;have b0:=b0.symm;subst b0)
              |fail)
              (try go_ret)
              exact L0.out (by rw[n0.out];rfl) _ (P0.out.trans N0.out)
             ·by_cases c1:cl<=40
              ·have d1:decide (40<cl)=false:=decide_eq_false (by omega);by_cases c2:cl<=t3
               ·have d2:decide (t3<cl)=false:=decide_eq_false (by omega);have F1:Hid (JR c ⟨x0,x1,x2,x3⟩=true):=Hd (by rw[n0.out,decide_eq_true c1,decide_eq_true c2];rfl);clear c1 c2
                go_wp2_with (first
                 |(go_at_call 25;(with_reducible refine(h0.out _).mono ?_);rintro e w9 ⟨rfl,b0⟩;have b0:=b0.symm;subst b0)
                 |fail)
                go_loopw [12] (λvk wx=>∃ k:Nat,k<=i/\vk=.int .i64 (k:Int)/\(∀y∈c.volumes.take k,neL y ⟨x0,x1,x2,x3⟩=true)/\Later wy wx) (λvk _=>i - (intOf vk).toNat)
                case atStart=>exact⟨0,by omega,rfl,by simp,Later.refl _⟩
                case round=>
                 obtain⟨k,hk,rfl,hne,hlk⟩:=hrel;by_cases hlt2:k<i
                 ·have S1:k<c.volumes.length:=by rw[s0.out];omega
                  have l2:=N0.out.trans hlk;have k5:=h3.out wr ((O0.out w8 R0.out).later l2);have y0:=Zb (hlk.block b2.out) 0;obtain⟨gb2,go2,hao2,hgb2,c0⟩:=Zz ((K0.out w8 R0.out).later l2) S1;injection hao2 with hao2;injection hao2 with ha1 ha2 _;subst ha1 ha2;have C0:=Zr S1;have g0:=t4.out k hlt2
                  obtain⟨z,hz⟩:∃ z,c.volumes[k]'(by rw[s0.out];omega)=z:=⟨_,rfl⟩
                  rw[hz]at c0 C0 g0;obtain⟨z0,z1,z2,z3⟩:=z;have e0:=c0 0 (by omega);simp only[volC,List.getElem?_cons_zero,Nat.add_zero]at e0;have hdk:decide (k<nV)=true:=decide_eq_true (by omega);have v0:=Hd g0;have O1:=Hd C0;have o3:=Hd hlk;have J2:=Hd hne;clear c0 C0 g0 hz hne l2 S1 hgb2 hlk;by_cases e:z0=x0
                  ·have d1:(z0==x0)=true:=by simpa using e
                   have HE:=Hd e;clear e
                   go_upto_region 32 with fail
                   go_quiet (fail)
                   go_wp2_with fail
                   (try go_ret)
                   exact d0.out _ false (by rw[JE,v0.out (by unfold neL;simp[HE.out])];simp) (P0.out.trans (N0.out.trans (Later.drewN o3.out _)))
                  ·have d1:(z0==x0)=false:=by simpa using e
                   have HE:=Hd e;clear e
                   go_upto_region 32 with fail
                   go_quiet (fail)
                   go_wp2_with fail
                   refine⟨⟨k+1,by omega,by simp,λy hy=>?_,Later.drewN o3.out _⟩,by simp only[intOf];omega⟩;rw[O1.out,List.mem_append,List.mem_singleton]at hy;rcases hy with hy|rfl
                   ·exact J2.out y hy
                   ·unfold neL;simp[HE.out]
                 ·have M3:k=i:=by omega
                  subst M3;have I3:=Hd (N0.out.trans hlk);have r4:Hid (Xa neL (c.volumes.take (k+1))=true):=Hd (by rw[P1.out,pairB_snoc,o4.out,List.all_eq_true.2 hne];rfl);clear hne hlk
                  go_wp2_with fail
                  exact⟨⟨k+1,by omega,by simp,f1.out F1.out,r4.out,I3.out⟩,by simp only[intOf];omega⟩
               ·have d2:decide (t3<cl)=true:=decide_eq_true (by omega);have HX:=Hd (decide_eq_false c2);clear c1 c2
                go_wp2_with (first
                 |(go_at_call 25;(with_reducible refine(h0.out _).mono ?_);rintro e w9 ⟨rfl,b0⟩;have b0:=b0.symm;subst b0)
                 |fail)
                (try go_ret)
                exact L0.out (by rw[n0.out,HX.out];simp) _ (P0.out.trans N0.out)
              ·have d1:decide (40<cl)=true:=decide_eq_true (by omega);have HX:=Hd (decide_eq_false c1);clear c1
               go_wp2_with (first
                |(go_at_call 25;(with_reducible refine(h0.out _).mono ?_);rintro e w9 ⟨rfl,b0⟩;have b0:=b0.symm;subst b0)
                |fail)
               (try go_ret)
               exact L0.out (by rw[n0.out,HX.out];simp) _ (P0.out.trans N0.out)
            ·have N3:nV=i:=by omega
             subst N3;rw[List.take_of_length_le (by rw[s0.out];exact Nat.le_refl _)]at hok hpr;have g4:=Hd (P0.out.trans hl)
             have j2:Hid (c.diskB=true):=Hd (by
              rw[JE,f2.out,C3.out,hpr,List.all_eq_true.2 hok,List.all_eq_true.2 N1.out];rfl)
             clear hok hpr hl W1
             go_wp2_with fail
             (try go_ret)
             exact d0.out _ true j2.out g4.out
    ·have d3:(al==0)=false:=by simpa using a0
     have d4:(al != 0)=true:=by rw[bne,d3];rfl
     have i4:=Hd a0;clear a0
     go_wp2_with (first
      |(go_at_call 25;(first|(with_reducible refine(h0.out _).mono ?_)|(with_reducible refine(t0.out _).mono ?_));rintro e w9 ⟨rfl,b0⟩;have b0:=b0.symm;subst b0)
      |(go_at_call 96;(with_reducible refine(S0.out _).mono ?_);rintro e w2 ⟨rfl,hl2⟩;obtain⟨m5,m6,m7,m8,m9,m10,m11⟩:=m0.out w2 hl2)
      |((with_reducible refine ZT (p:=p) (c:=c) (v:=v) 1 ?_ ?_ ?_ ?_ ?_);rfl;rfl;exact(I0.out _ (Later.refl _));rfl)
      |fail)
     (try go_ret)
     exact d0.out _ false (n1.out (by rw[a1.out];simp[i4.out])) hl2
  ·have d1:decide ((8:Int)<(nV:Int))=true:=decide_eq_true (by omega);have d2:decide (8<nV)=true:=decide_eq_true (by omega);have o0:=Hd n8;clear n8
   go_wp2_with (first
    |(go_at_call 25;(first|(with_reducible refine(h0.out _).mono ?_)|(with_reducible refine(t0.out _).mono ?_));rintro e w9 ⟨rfl,b0⟩;have b0:=b0.symm;subst b0)
    |(go_at_call 96;(with_reducible refine(S0.out _).mono ?_);rintro e w2 ⟨rfl,hl2⟩;obtain⟨m5,m6,m7,m8,m9,m10,m11⟩:=m0.out w2 hl2)
    |((with_reducible refine ZT (p:=p) (c:=c) (v:=v) 1 ?_ ?_ ?_ ?_ ?_);rfl;rfl;exact(I0.out _ (Later.refl _));rfl)
    |fail)
   (try go_ret)
   exact d0.out _ false (n1.out (by rw[a1.out];simp[o0.out])) (Later.refl _)
end Go.Proofs.YtbchkjfnakabkaaGreatDoor
