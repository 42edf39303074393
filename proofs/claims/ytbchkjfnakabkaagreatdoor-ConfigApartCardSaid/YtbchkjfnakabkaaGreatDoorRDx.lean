import Derived.Test.YtbchkjfnakabkaaGreatDoorRLx
import Derived.Test.YtbchkjfnakabkaaGreatDoorRFx
import Derived.Test.YtbchkjfnakabkaaGreatDoorRA
set_option linter.unusedSimpArgs false
set_option linter.unusedVariables false
set_option maxHeartbeats 16000000
set_option maxRecDepth 100000
namespace Go.Proofs.YtbchkjfnakabkaaGreatDoor
open Go.RowKit PX PC
def rowI(n:Nat)(f:Nat->Nat):Array Value:=((List.range n).map λk=>Value.int .i64 (f k:Int)).toArray
theorem Jj(n:Nat)(f:Nat->Nat):(rowI n f).size=n:=by simp[rowI]
theorem Jv{n b:Nat}(f:Nat->Nat)(h:b<n):(rowI n f)[b]?=some (.int .i64 (f b:Int)):=by simp[rowI,h]
def Ej(f:Nat->Nat)(b:Nat):Nat->Nat:=λk=>f k+(if k=b then 1 else 0)
theorem Zc7(n:Nat)(f:Nat->Nat)(b:Nat):(rowI n f).setIfInBounds b (.int .i64 ((f b:Int)+1))=rowI n (Ej f b):=by
 apply Array.ext_getElem?;intro i;by_cases h:i<n
 ·by_cases e:b=i
  ·subst e;rw[Array.getElem?_setIfInBounds_self_of_lt (by rw[Jj];exact h),Jv _ h];simp[Ej]
  ·rw[Array.getElem?_setIfInBounds_ne e,Jv _ h,Jv _ h];simp[Ej,show ¬i=b from λq=>e q.symm]
 ·rw[Array.getElem?_eq_none (by simp[Jj];omega),Array.getElem?_eq_none (by simp[Jj];omega)]
def UsedAt(w:World)(ub n:Nat)(f:Nat->Nat):Prop:=w.heap[ub]?=some (.cells (rowI n f) 3 (0,0))
theorem UsedAt.later{w w':World}{ub n:Nat}{f:Nat->Nat}(h:UsedAt w ub n f)(hl:Later w w'):UsedAt w' ub n f:=hl.block h
theorem UsedAt.cell{w:World}{ub n b:Nat}{f:Nat->Nat}(h:UsedAt w ub n f)(hb:b<n):w.cell? ⟨ub,b,none⟩=some (.int .i64 (f b:Int)):=by
 rw[Za h,Jv _ hb]
theorem UsedAt.bump{w:World}{ub n:Nat}{f g:Nat->Nat}(h:UsedAt w ub n f)(b:Nat)(hg:Ej f b=g):UsedAt (w.setCell ⟨ub,b,none⟩ (.int .i64 ((f b:Int)+1))) ub n g:=by
 unfold UsedAt at h ⊢;rw[Zf h b,Zc7,hg]
theorem Zec:(Tryz.prog.info? 3).map (λi=>(i.zero,i.size,i.bytes))=some (some (.int .i64 0),1,8):=by kernel_rfl
theorem WP(W:World)(n:Nat)(hn:n<=4096):(Instr.makeSlice 44 (.int .i64 (n:Int)) (.int .i64 (n:Int))).run Tryz.prog W=.ok (.slice (some ⟨W.heap.size,0,none⟩) n n) (W.alloc (.cells (rowI n λ_=>0) 3)):=by
 obtain⟨i0,hi,hz0,hz1,hz2⟩:=info_parts Zec;have h:=run_makeSlice (P:=Tryz.prog) W 44 3 i0 (.int .i64 0) Tryz.underlying44 hi hz0 .i64 .i64 (n:Int) (n:Int) (by omega) (by omega) (by rw[hz1];omega) (by rw[hz2];omega) (by omega);have e:(n:Int).toNat=n:=by omega
 have e2:madeCells (Value.int .i64 0).cells (n*1)=rowI n λ_=>0:=by
  apply Array.toList_inj.1;rw[show(Value.int .i64 0).cells=#[.int .i64 0] from rfl,toList_madeCells_one,Nat.mul_one];unfold rowI;apply List.ext_getElem?;intro i;by_cases hi:i<n<;>simp[hi]
 rw[hz1,e,e2]at h;exact h
def cntP(l:List Vol)(v:Vol)(m:Nat):Nat->Nat:=λk=>cntS l k+(if Zdv v m k then 1 else 0)
theorem Zce(l:List Vol)(v:Vol){m:Nat}(h:v.first=m):cntS l=cntP l v m:=by
 funext k
 unfold cntP Zdv;rw[h];by_cases h1:(m:Int)<=(k:Int)
 ·rw[decide_eq_false (show ¬k<m by omega)];simp
 ·rw[decide_eq_false h1];simp
theorem ZeG(l:List Vol)(v:Vol){m:Nat}(h:v.first<=(m:Int)):Ej (cntP l v m) m=cntP l v (m+1):=by
 funext k
 unfold Ej cntP Zdv;by_cases e:k=m
 ·subst e;rw[if_pos rfl,decide_eq_true h,decide_eq_false (Nat.lt_irrefl k),decide_eq_true (Nat.lt_succ_self k)];simp
 ·rw[if_neg e,Nat.add_zero]
  congr 3
  exact congrArg _ (decide_eq_decide.2 (by omega))
theorem Ds(l:List Vol)(v:Vol):cntS (l++[v])=λk=>cntS l k+(if hasS v k then 1 else 0):=by
 funext k
 rw[Zgu,Uy];rfl
theorem Zgv(l:List Vol)(v:Vol){m:Nat}(h:(m:Int)=v.first+v.count):cntP l v m=cntS (l++[v]):=by
 rw[Ds]
 funext k
 unfold cntP;rw[Zdu h]
theorem BB(l:List Vol)(k:Nat):cntS l k<=l.length:=by unfold cntS;exact List.length_filter_le _ _
theorem Zic(l:List Vol)(v:Vol)(m k:Nat):cntP l v m k<=l.length+1:=by
 have:=BB l k;unfold cntP;split<;>omega
theorem Zgs(l:List Vol)(b:Nat):Ej (Ej (cntS l) b) (b+1)=cntS (l++[⟨0,b,2,0⟩]):=by
 rw[Ds]
 funext k
 unfold Ej hasS;by_cases e:k=b
 ·subst e;simp;omega
 ·by_cases e2:k=b+1
  ·subst e2;simp;omega
  ·rw[if_neg e,if_neg e2,show(decide (((⟨0,(b:Int),2,0⟩:Vol).first)<=(k:Int))&&decide ((k:Int)<(⟨0,(b:Int),2,0⟩:Vol).first+(⟨0,(b:Int),2,0⟩:Vol).count))=false by
    rw[Bool.and_eq_false_iff,decide_eq_false_iff_not,decide_eq_false_iff_not];show ¬(b:Int)<=k\/¬ (k:Int)<(b:Int)+2
    omega]
   simp
def neL(a b:Vol):Bool:=decide (a.level≠b.level)
theorem pairB_snoc{α:Type}(r:α->α->Bool)(l:List α)(x:α):Z8 r (l++[x])=(Z8 r l&&l.all λy=>r y x):=by
 induction l with
 |nil=>simp[Z8]
 |cons y l ih=>
  simp only[List.cons_append,Z8,ih,List.all_append,List.all_cons,List.all_nil,Bool.and_true];cases l.all (r y)<;>cases r y x<;>cases Z8 r l<;>simp
theorem E6{α:Type}(r:α->α->Bool):∀ (l m:List α),Z8 r (l++m)=true->Z8 r l=true
 |[],_,_=>rfl
 |x::l,m,h=>by
  simp only[List.cons_append,Z8,List.all_append,Bool.and_eq_true]at h ⊢;exact⟨h.1.1,E6 r l m h.2⟩
theorem ZfH{α:Type}{r:α->α->Bool}{l:List α}{j k:Nat}(hj:j<l.length)(hk:k<j)(h:r (l[k]'(by omega)) l[j]=false):Z8 r l=false:=by
 cases e:Z8 r l
 ·rfl
 ·exfalso;rw[<-List.take_append_drop (j+1) l]at e;have e1:=E6 r _ _ e;rw[Zs hj,pairB_snoc,Bool.and_eq_true,List.all_eq_true]at e1;have hm:l[k]'(by omega)∈l.take j:=List.mem_take_iff_getElem.2 ⟨k,by omega,rfl⟩;rw[e1.2 _ hm]at h;cases h
def QQ(c:Cfg):Bool:=inB c.sectors 1 4096&&(decide (c.volumes.length<=8)&&(X1 c c.audit&&(decide (c.audit.level=0)&&inB c.boot 0 (c.sectors - 2))))
theorem JE(c:Cfg):c.diskB=(QQ c&&(c.volumes.all (X1 c)&&(Z8 X4 c.exts&&(c.volumes.all (JR c)&&Z8 neL c.volumes)))):=by
 unfold Cfg.diskB QQ;rw[show(λa b:Vol=>decide (a.level≠b.level))=neL from rfl,List.all_append,List.all_cons,List.all_nil,Bool.and_true];cases inB c.sectors 1 4096<;>cases decide (c.volumes.length<=8)<;>cases X1 c c.audit<;>cases decide (c.audit.level=0)<;>cases inB c.boot 0 (c.sectors - 2)<;>cases c.volumes.all (X1 c)<;>cases Z8 X4 c.exts<;>cases c.volumes.all (JR c)<;>cases Z8 neL c.volumes<;>rfl
theorem Gj{c:Cfg}:QQ c=true↔(1<=c.sectors/\c.sectors<=4096)/\c.volumes.length<=8/\X1 c c.audit=true/\c.audit.level=0/\0<=c.boot/\c.boot<=c.sectors - 2:=by
 unfold QQ;simp only[Bool.and_eq_true,decide_eq_true_eq,ZI]
theorem Zgi{c:Cfg}{S:Nat}(hS:c.sectors=S)(hh:QQ c=true)(hv:∀ x∈c.volumes,X1 c x=true):(∀k,k<S->cntS c.exts k<=1)↔Z8 X4 c.exts=true:=by
 obtain⟨-, -, ha,-, hb⟩:=Gj.1 hh;refine Dq λv hm=>?_
 unfold Cfg.exts at hm;rw[List.mem_append,List.mem_cons,List.mem_singleton]at hm;rcases hm with hm|rfl|rfl
 ·have:=Jr.1 (hv v hm);rw[hS]at this;exact⟨this.1,this.2.1,this.2.2.1⟩
 ·have:=Jr.1 ha;rw[hS]at this;exact⟨this.1,this.2.1,this.2.2.1⟩
 ·rw[hS]at hb;refine⟨hb.1,by show(1:Int)<=2;omega,by show c.boot+2<=(S:Int);omega⟩
end Go.Proofs.YtbchkjfnakabkaaGreatDoor
namespace Go.Proofs.YtbchkjfnakabkaaGreatDoor
open Go.RowKit PX PC
theorem DB{α:Type}{p:α->Bool}{l:List α}{x:α}(hx:x∈l)(h:p x=false):l.all p=false:=List.all_eq_false.2 ⟨x,hx,by rw[h];decide⟩
theorem DC{α:Type}{p:α->Bool}{l:List α}{j:Nat}(hj:j<l.length)(h:∀ x∈l.take j,p x=true)(hx:p l[j]=true):∀ x∈l.take (j+1),p x=true:=by
 intro x hm;rw[Zs hj,List.mem_append]at hm;rcases hm with hm|hm
 ·exact h x hm
 ·rw[List.mem_singleton.1 hm];exact hx
theorem Zdf(w:World)(c:Cfg)(v:V7)(N:Nat)(h:RowsOf w c v)(hI:CfgI c)(hN:c.levels=N)(h1:1<=N)(h8:N<=8) :
 Calls Tryz.prog 74 #[.agg (cfgA c v)] w λe w'=>e=.returned (.bool c.diskB)/\Later w w':=by
 obtain⟨aV,pV,eV,gV1,gV2,gV3⟩:=Zl h.rV;have A2:=h.rV;rw[eV]at A2
 obtain⟨nV,hnV⟩:∃ n,c.volumes.length=n:=⟨_,rfl⟩
 obtain⟨p,hp⟩:∃ p,w.heap.size=p:=⟨_,rfl⟩
 obtain⟨w1,hw1⟩:∃ w1,w.alloc (.cells (cfgA c v) 32)=w1:=⟨_,rfl⟩
 have K0:Later w w1:=by rw[<-hw1];exact(Later.refl w).alloc _
 have m0:VarAt w1 p c v:=by unfold VarAt;rw[<-hw1,<-hp];exact Zd w _
 have s3:p<w1.heap.size:=m0.lt
 obtain⟨sc,hsc⟩:∃ s,c.sectors=s:=⟨_,rfl⟩
 obtain⟨bo,hbo⟩:∃ s,c.boot=s:=⟨_,rfl⟩
 obtain⟨al,haL⟩:∃ s,c.audit.level=s:=⟨_,rfl⟩
 obtain⟨af,haF⟩:∃ s,c.audit.first=s:=⟨_,rfl⟩
 obtain⟨ac,haC⟩:∃ s,c.audit.count=s:=⟨_,rfl⟩
 obtain⟨aj,haJ⟩:∃ s,c.audit.journal=s:=⟨_,rfl⟩
 have K1:c.audit=⟨al,af,ac,aj⟩:=by rw[<-haL,<-haF,<-haC,<-haJ]
 have I3:I64 sc:=by rw[<-hsc];exact hI.sectors
 have v0:=Hd (λ(w':World) (k:Later w1 w')=>m0.later k);have n0:=Hd (λ(w':World) (k:Later w1 w')=>And.intro (show w'.cell? ⟨p,5,none⟩=some (.slice aV nV pV) by rw[Za (m0.later k) 5,<-hnV,<-eV];rfl) (And.intro (show w'.cell? ⟨p,6,none⟩=some (.int .i64 al) by rw[Za (m0.later k) 6,<-haL];rfl) (And.intro (show w'.cell? ⟨p,7,none⟩=some (.int .i64 af) by rw[Za (m0.later k) 7,<-haF];rfl) (And.intro (show w'.cell? ⟨p,8,none⟩=some (.int .i64 ac) by rw[Za (m0.later k) 8,<-haC];rfl) (And.intro (show w'.cell? ⟨p,9,none⟩=some (.int .i64 aj) by rw[Za (m0.later k) 9,<-haJ];rfl) (And.intro (show w'.cell? ⟨p,10,none⟩=some (.int .i64 bo) by rw[Za (m0.later k) 10,<-hbo];rfl) (show w'.cell? ⟨p,11,none⟩=some (.int .i64 sc) by rw[Za (m0.later k) 11,<-hsc];rfl)))))));have a4:=Hd (λ(w':World) (k:VarAt w' p c v)=>(show w'.cell? ⟨p,0,none⟩=some (.int .i64 (N:Int)) by rw[Za k 0,<-hN];rfl));have O2:=Hd (λ(w':World) (k:VarAt w' p c v)=>(show w'.cell? ⟨p,5,none⟩=some (.slice aV nV pV) by rw[Za k 5,<-hnV,<-eV];rfl));have r1:=Hd (λ(w':World) (k:VarAt w' p c v)=>(show w'.cell? ⟨p,10,none⟩=some (.int .i64 bo) by rw[Za k 10,<-hbo];rfl));have g3:=Hd (λ(w':World) (k:Later w1 w')=>(show RowAt w' 4 (.slice aV nV pV) (c.volumes.map volC) by rw[<-hnV];exact A2.later (K0.trans k)));have t0:=Hd hnV;have hbV:nV*4<=140737488355328:=by omega
 have c4:=Hd hN;have E2:=Hd hsc;have M3:=Hd hbo;have o3:=Hd K1;have K3:=Hd hI;have m4:=Hd hw1;have HP:=Hd hp
 obtain⟨PT,hPT⟩:∃ PT,(λ(e:Ending) (w':World)=>e=.returned (.bool c.diskB)/\Later w w')=PT:=⟨_,rfl⟩
 rw[hPT];have d0:=Hd (λ(w':World) (b:Bool) (hb:c.diskB=b) (k:Later w1 w')=>(show PT (.returned (.bool b)) w' by rw[<-hPT];exact⟨by rw[hb],K0.trans k⟩));have hwl:IntKind.i64.wrap ((N:Int) - 1)=(N:Int) - 1:=by rw[IntKind.wrap_i64];omega
 have g0:=Hd (λ(w':World)=>Zv w' sc 1 4096);have I0:=Hd (λ(w':World)=>Zv w' bo 0 (sc - 2));have M2:=Hd (λ(w':World) (x0 x1 x2 x3:Int) (hx:volI ⟨x0,x1,x2,x3⟩)=>D2 w' c v ⟨x0,x1,x2,x3⟩ hI.sectors hx);have n3:=Hd (show volI ⟨al,af,ac,aj⟩ by rw[<-K1];exact hI.audit)
 obtain⟨s1,hs1⟩:∃ b,inB sc 1 4096=b:=⟨_,rfl⟩
 obtain⟨E1,hE1⟩:∃ b,X1 c ⟨al,af,ac,aj⟩=b:=⟨_,rfl⟩
 obtain⟨b5,r0⟩:∃ b,inB bo 0 (sc - 2)=b:=⟨_,rfl⟩
 have a1:Hid (QQ c=(s1&&(decide (nV<=8)&&(E1&&(decide (al=0)&&b5))))):=Hd (by unfold QQ;rw[<-hs1,<-hE1,<-r0,K1,hsc,hbo,hnV]);have T3:=Hd hs1;have HE1:=Hd hE1;have q3:=Hd r0;rw[hs1]at g0;rw[r0]at I0;have T0:=Hd (λ(w':World)=>(show Calls Tryz.prog 96 #[.agg (cfgA c v),.agg #[.int .i64 al,.int .i64 af,.int .i64 ac,.int .i64 aj]] w' λe w2=>e=.returned (.bool E1)/\Later w' w2 by rw[<-hE1];exact M2.out w' al af ac aj n3.out));have t1:=Hd (λ(hh:QQ c=false)=>show c.diskB=false by rw[JE,hh];rfl);clear h hw1 hp K0 m0 hN hI hPT A2 hnV eV gV1 gV2 gV3 hsc hbo haL haF haC haJ K1 hs1 hE1 r0;obtain⟨k5,k6,k7,k8,k9,k10,k11⟩:=n0.out w1 (Later.refl _)
 go_enter Tryz.func74,Tryz.ntmps74
 go_upto_region 1 with fail
 rw[HP.out,m4.out];cases s1
 ·go_wp2_with (first
   |(go_at_call 25;(first|(with_reducible refine(g0.out _).mono ?_)|(with_reducible refine(I0.out _).mono ?_));rintro e w9 ⟨rfl,b0⟩;have b0:=b0.symm;subst b0)
   |(go_at_call 96;(with_reducible refine(T0.out _).mono ?_);rintro e w2 ⟨rfl,hl2⟩;obtain⟨m5,m6,m7,m8,m9,m10,m11⟩:=n0.out w2 hl2)
   |((with_reducible refine Xt (p:=p) (c:=c) (v:=v) 1 ?_ ?_ ?_ ?_ ?_);rfl;rfl;exact(v0.out _ (Later.refl _));rfl)
   |fail)
  (try go_ret)
  exact d0.out _ false (t1.out (by rw[a1.out];rfl)) (Later.refl _)
 ·have J3:=ZI.1 T3.out;obtain⟨S,rfl⟩:=Int.eq_ofNat_of_zero_le (show 0<=sc by omega);have hS:1<=S/\S<=4096:=by omega
  have hws:IntKind.i64.wrap ((S:Int) - 2)=(S:Int) - 2:=by rw[IntKind.wrap_i64];omega
  clear J3 I3;by_cases n8:nV<=8
  ·have d1:decide ((8:Int)<(nV:Int))=false:=decide_eq_false (by omega);have d2:decide (8<nV)=false:=decide_eq_false (by omega);have p0:=Hd n8;clear n8;cases E1
   ·go_wp2_with (first
     |(go_at_call 25;(first|(with_reducible refine(g0.out _).mono ?_)|(with_reducible refine(I0.out _).mono ?_));rintro e w9 ⟨rfl,b0⟩;have b0:=b0.symm;subst b0)
     |(go_at_call 96;(with_reducible refine(T0.out _).mono ?_);rintro e w2 ⟨rfl,hl2⟩;obtain⟨m5,m6,m7,m8,m9,m10,m11⟩:=n0.out w2 hl2)
     |((with_reducible refine Xt (p:=p) (c:=c) (v:=v) 1 ?_ ?_ ?_ ?_ ?_);rfl;rfl;exact(v0.out _ (Later.refl _));rfl)
     |fail)
    (try go_ret)
    exact d0.out _ false (t1.out (by rw[a1.out];simp)) hl2
   ·by_cases a0:al=0
    ·subst a0;cases b5
     ·go_wp2_with (first
       |(go_at_call 25;(first|(with_reducible refine(g0.out _).mono ?_)|(with_reducible refine(I0.out _).mono ?_));rintro e w9 ⟨rfl,b0⟩;have b0:=b0.symm;subst b0)
       |(go_at_call 96;(with_reducible refine(T0.out _).mono ?_);rintro e w2 ⟨rfl,hl2⟩;obtain⟨m5,m6,m7,m8,m9,m10,m11⟩:=n0.out w2 hl2)
       |((with_reducible refine Xt (p:=p) (c:=c) (v:=v) 1 ?_ ?_ ?_ ?_ ?_);rfl;rfl;exact(v0.out _ (Later.refl _));rfl)
       |fail)
      (try go_ret)
      exact d0.out _ false (t1.out (by rw[a1.out];simp)) hl2
     ·have W1:Hid (QQ c=true):=Hd (by rw[a1.out];simp[p0.out]);obtain⟨b,rfl⟩:=Int.eq_ofNat_of_zero_le (show 0<=bo from(ZI.1 q3.out).1);have hbS:b+2<=S:=by have:=(ZI.1 q3.out).2;omega
      have q4:∀ W:World,(Instr.makeSlice 44 (.int .i64 (S:Int)) (.int .i64 (S:Int))).run Tryz.prog W=.ok (.slice (some ⟨W.heap.size,0,none⟩) S S) (W.alloc (.cells (rowI S λ_=>0) 3)):=λW=>WP W S hS.2
      go_upto_region 3 with(first
       |(go_at_call 25;(first|(with_reducible refine(g0.out _).mono ?_)|(with_reducible refine(I0.out _).mono ?_));rintro e w9 ⟨rfl,b0⟩;have b0:=b0.symm;subst b0)
       |(go_at_call 96;(with_reducible refine(T0.out _).mono ?_);rintro e w2 ⟨rfl,hl2⟩;obtain⟨m5,m6,m7,m8,m9,m10,m11⟩:=n0.out w2 hl2)
       |((with_reducible refine Xt (p:=p) (c:=c) (v:=v) 1 ?_ ?_ ?_ ?_ ?_);rfl;rfl;exact(v0.out _ (Later.refl _));rfl)
       |fail)
      go_upto_region 4 with fail
      clear q4 m5 m6 m7 m8 m9 m10 m11 k5 k6 k7 k8 k9 k10 k11
      obtain⟨ub,hub⟩:∃ g,w2.heap.size=g:=⟨_,rfl⟩
      obtain⟨w3,p1⟩:∃ y,w2.alloc (.cells (rowI S λ_=>0) 3)=y:=⟨_,rfl⟩
      rw[hub,p1];have I2:UsedAt w3 ub S λ_=>0:=by unfold UsedAt;rw[<-p1];exact Zq hub
      have C2:Later w1 w3:=by rw[<-p1];exact hl2.alloc _
      have p4:w1.heap.size<=ub:=by rw[<-hub];exact hl2.size
      have h4:ub<w3.heap.size:=Zb I2;have r3:=Hd I2;have M1:=Hd C2;have Z2:=Hd p4;have hps3:p<w3.heap.size:=by omega
      obtain⟨L,hL⟩:∃ L,c.volumes++[(⟨0,af,ac,aj⟩:Vol)]=L:=⟨_,rfl⟩
      have m3:L.length=nV+1:=by rw[<-hL,List.length_append,t0.out];rfl
      have q0:=Hd m3;have o1:=Hd hL;obtain⟨k5,k6,k7,k8,k9,k10,k11⟩:=n0.out w3 C2;have f2:=Hd (λ(w':World) (k:Later w3 w')=>g3.out w' (M1.out.trans k));clear p1 hub I2 C2 hl2 m3 hL
      go_cut [4] from 48 to 55 (λvc wx=>∃ g cap,vc=.slice (some ⟨g,0,none⟩) (nV+1) cap/\w3.heap.size<=g/\RowAt wx 4 (.slice (some ⟨g,0,none⟩) (nV+1) cap) (L.map volC)/\Later w3 wx)
      case first=>
       go_region_law (first
        | (refine Xn Y8 rfl (.tmp 48) (.tmp 50) rfl (W0:=w3) La _ [] c.volumes (by rfl) (Jo volC (by first | exact Zd _ _ | exact Zq (by simp) | exact Ze (Zd _ _) _) (by simp)) aV nV pV t0.out (by rfl) (f2.out _ La) (by have:=p0.out;rw [t0.out];simp;omega) ?_
           intro v1 w5 hown1 hl5 hk1;obtain⟨k5,k6,k7,k8,k9,k10,k11⟩:=n0.out w5 (M1.out.trans hl5);have S2:=Hd hown1;have l4:=Hd hk1
           clear hown1 hk1)
        | (refine Xn Y8 rfl (.tmp 51) (.tmp 54) rfl (W0:=w3) La _ c.volumes [(⟨0,af,ac,aj⟩:Vol)] (by rfl) (by first | exact S2.out | exact S2.out.alloc _) _ 1 1 rfl (by rfl) (Wx (x:=(⟨0,af,ac,aj⟩:Vol)) (f:=volC) (by first | exact Zd _ _ | exact Zq (by simp) | (exact l4.out _ _ (by first | exact Zd _ _ | exact Zq (by simp) | exact Ze (Zd _ _) _) (by simp [Value.ownBlock]))) rfl (by decide)) (by have:=p0.out;rw [t0.out];simp;omega) ?_
           intro v2 w6 hown2 hl6 hk2;have v4:=Hd hown2
           clear hown2 hk2)
        |fail)
       all_goals
        go_wp2_with fail
        go_meet
        case rel=>
         have l1:=v4.out;rw[o1.out]at l1;obtain⟨g,cap,rfl,hc1,hc2⟩:=Xz l1 (by rw[q0.out];omega);have hg:=(l1.lt g rfl).1;rw[q0.out]at l1 ⊢;exact⟨g,cap,rfl,hg,by rw[<-q0.out];exact Jh (λ_=>rfl) (by have:=p0.out;rw[q0.out];omega) (by rw[q0.out];exact l1),hl6⟩
      case rest=>
       obtain⟨g,cap,rfl,hg3,hRL,hl4⟩:=hcut
       obtain⟨wa,hwa⟩:∃ y,wc=y:=⟨_,rfl⟩
       rw[hwa]at hRL hl4 ⊢;clear hwa k5 k6 k7 k8 k9 k10 k11;have p2:=v0.out wa (M1.out.trans hl4);have f3:=r3.out.later hl4;have N1:=M1.out.trans hl4;have hpu:p<ub:=Nat.lt_of_lt_of_le s3 Z2.out;have hgu:ub<g:=Nat.lt_of_lt_of_le h4 hg3;have R0:=Hd (λ(w':World) (k:Only (λq=>q=ub) wa w')=>(show VarAt w' p c v from(k.block p p2.lt (λe=>by have:p=ub:=e;omega)).trans p2));have T1:=Hd (λ(w':World) (k:Only (λq=>q=ub) wa w')=>(show Later w1 w' from Below.trans N1 (k.below (Below.size N1) λq e=>by rw[e];exact Z2.out)))
       have e4:=Hd (λ(w':World) (k:Only (λq=>q=ub) wa w') (j:Nat) (hj:j<L.length) (q:Nat) (hq:q<4)=>(show w'.cell? ⟨g,0+j*4+q,none⟩=(volC L[j])[q]? by
        obtain⟨b',o',he,hb,hc⟩:=Zz hRL hj;injection he with he;injection he with h1' h2' _;subst h1' h2';rw[k.cell (p:=⟨g,0+j*4+q,none⟩) hb (λe=>by have:g=ub:=e;omega)]
        exact hc q hq))
       have M0:=Hd (λ(w':World) (k:Only (λq=>q=ub) wa w')=>g3.out w' (T1.out w' k));have s4:=Hd f3;have hub5:p≠ub:=by omega
       clear hRL p2 f3 N1 hl4 hg3 r3
       go_wp2_with fail
       go_loopw [5] (λvi wx=>∃ j:Nat,j<=nV+1/\vi=.int .i64 (j:Int)/\(∀x∈L.take j,X1 c x=true)/\UsedAt wx ub S (cntS (L.take j))/\Only (λq=>q=ub) wa wx) (λvi _=>nV+1 - (intOf vi).toNat)
       case atStart=>exact⟨0,by omega,rfl,by simp,s4.out,Only.refl _ _⟩
       case round=>
        obtain⟨j,hj,rfl,hok,hU,hO⟩:=hrel;by_cases hlt:j<nV+1
        ·have g1:j<L.length:=by rw[q0.out];exact hlt
         have s0:=e4.out wr hO j g1;have C0:=DC (p:=X1 c) g1 hok;have f0:=List.getElem_mem g1;have L0:=Zs g1
         have b3:∀ y∈L,volI y:=λy hm=>by
          rw[<-o1.out,List.mem_append,List.mem_singleton]at hm;rcases hm with hm|rfl
          ·exact K3.out.volumes _ hm
          ·exact n3.out
         have b2:=b3 _ f0;clear b3
         obtain⟨x,hx⟩:∃ x,L[j]=x:=⟨_,rfl⟩
         rw[hx]at s0 C0 f0 L0 b2;have i1:=Hd C0;have r2:=Hd f0;have F2:=Hd L0;obtain⟨x0,x1,x2,x3⟩:=x;have e0:=s0 0 (by omega);have e1:=s0 1 (by omega);have e2:=s0 2 (by omega);have e3:=s0 3 (by omega);simp only[volC,List.getElem?_cons_zero,List.getElem?_cons_succ,Nat.add_zero,Nat.zero_add]at e0 e1 e2 e3;have m1:(L.take j).length<=9:=by rw[List.length_take];have:=p0.out;omega
         have o4:=Hd m1;have W2:=Hd hU;have HOO:=Hd hO
         obtain⟨E,hE⟩:∃ b,X1 c ⟨x0,x1,x2,x3⟩=b:=⟨_,rfl⟩
         have p3:=Hd (λ(w':World)=>(show Calls Tryz.prog 96 #[.agg (cfgA c v),.agg #[.int .i64 x0,.int .i64 x1,.int .i64 x2,.int .i64 x3]] w' λe w2=>e=.returned (.bool E)/\Later w' w2 by rw[<-hE];exact M2.out w' x0 x1 x2 x3 b2));have H1:=Hd hE;clear s0 C0 f0 L0 b2 hx hok g1 m1 hU hE
         go_upto_region 9 with fail
         obtain⟨bx,hbx⟩:∃ g,wr.heap.size=g:=⟨_,rfl⟩
         obtain⟨wy,hwy⟩:∃ y,wr.alloc (.cells #[.int .i64 x0,.int .i64 x1,.int .i64 x2,.int .i64 x3] 28)=y:=⟨_,rfl⟩
         rw[hbx,hwy];have j0:wy.heap[bx]?=some (.cells #[.int .i64 x0,.int .i64 x1,.int .i64 x2,.int .i64 x3] 28 (0,0)):=by rw[<-hwy];exact Zq hbx
         have n2:Only (λq=>q=ub) wa wy:=by rw[<-hwy];exact hO.alloc _
         have F3:=Hd (show UsedAt wy ub S (cntS (L.take j)) by rw[<-hwy];exact Ze W2.out _);have hbu:ub<bx:=by rw[<-hbx];exact Zb W2.out
         have t2:=Hd j0;have T2:=Hd n2;have I1:=Hd (R0.out wy n2);have y0:=Za j0 0;have y1:=Za j0 1;have y2:=Za j0 2;have y3:=Za j0 3;clear hwy hbx hO e0 e1 e2 e3 j0 n2;cases E
         ·go_wp2_with (first
           |(go_at_call 96;(with_reducible refine(p3.out _).mono ?_);rintro e w5 ⟨rfl,hl5⟩)
           |((with_reducible refine Xt (p:=p) (c:=c) (v:=v) 1 ?_ ?_ ?_ ?_ ?_);rfl;rfl;exact I1.out;rfl)
           |fail)
          (try go_ret)
          refine d0.out _ false ?_ ((T1.out _ T2.out).trans hl5);have hm:=r2.out;rw[<-o1.out,List.mem_append,List.mem_singleton]at hm;rcases hm with hm|hm
          ·rw[JE,DB hm H1.out];simp
          ·have:=Gj.1 W1.out;rw[o3.out,<-hm,H1.out]at this;exact absurd this.2.2.1 (by decide)
         ·go_upto_region 11 with(first
           |(go_at_call 96;(with_reducible refine(p3.out _).mono ?_);rintro e w5 ⟨rfl,hl5⟩)
           |((with_reducible refine Xt (p:=p) (c:=c) (v:=v) 1 ?_ ?_ ?_ ?_ ?_);rfl;rfl;exact I1.out;rfl)
           |fail)
          have l0:=Jr.1 H1.out;rw[E2.out]at l0;simp only at l0;obtain⟨f,hf⟩:=Int.eq_ofNat_of_zero_le l0.1;obtain⟨n,hn⟩:=Int.eq_ofNat_of_zero_le (show 0<=x2 by have:=l0.2.1;omega);have hfn:f+n<=S:=by have:=l0.2.2.1;omega
          obtain⟨en,hen⟩:∃ en:Int,((f+n:Nat):Int)=en:=⟨_,rfl⟩
          have hws12:IntKind.i64.wrap (x1+x2)=en:=by rw[IntKind.wrap_i64];omega
          have HF:=Hd (And.intro hf hn);have a3:=Hd hen;have r0:=hl5.block t2.out;have q1:=Za r0 1;have h3:=F3.out.later hl5;have k3:Only (λq=>q=ub) wa w5:=T2.out.then (Only.of_below hl5);have n1:=Hd r0;have S3:=Hd h3;have g4:=Hd k3;clear y0 y1 y2 y3 l0 hf hn hen r0 h3 k3 hl5
          go_wp2_with fail
          go_loopw [7] (λvk wx=>∃ m:Nat,f<=m/\m<=f+n/\vk=.int .i64 (m:Int)/\UsedAt wx ub S (cntP (L.take j) ⟨x0,x1,x2,x3⟩ m)/\Only (λq=>q=ub) w5 wx) (λvk _=>f+n - (intOf vk).toNat)
          case atStart=>exact⟨f,Nat.le_refl _,by omega,by rw[HF.out.1],by rw[<-Zce (L.take j) ⟨x0,x1,x2,x3⟩ (show x1=(f:Int) from HF.out.1)];exact S3.out,Only.refl _ _⟩
          case round=>
           obtain⟨m,hfm,hmn,rfl,hU,hO⟩:=hrel;have L1:wr.heap[bx]?=some (.cells #[.int .i64 x0,.int .i64 x1,.int .i64 x2,.int .i64 x3] 28 (0,0)):=(hO.block bx (Zb n1.out) (λe=>by have:bx=ub:=e;omega)).trans n1.out;have y1:=Za L1 1;have y2:=Za L1 2;by_cases hlm:m<f+n
           ·have hd:decide ((m:Int)<en)=true:=decide_eq_true (by have:=a3.out;omega);have v3:m<S:=by omega
            have k4:=Hd hU;have R3:=Hd hO;have i3:=Zic (L.take j) ⟨x0,x1,x2,x3⟩ m m;have A1:=hU.cell v3;have hfree:=Zc hU m;have C1:=Zb hU
            obtain⟨q,hq⟩:∃ q,cntP (L.take j) ⟨x0,x1,x2,x3⟩ m m=q:=⟨_,rfl⟩
            rw[hq]at A1 i3;have N2:q<=10:=by have:=o4.out;omega
            have F1:IntKind.i64.wrap ((q:Int)+1)=(q:Int)+1:=by rw[IntKind.wrap_i64];omega
            have H3:=Hd hq;clear hq i3 L1 hU hO
            go_wp2_with fail
            refine⟨⟨m+1,by omega,by omega,by simp,?_,R3.out.setCell (p:=⟨ub,m,none⟩) (.inl rfl) _⟩,by simp only[intOf];omega⟩;have:=k4.out.bump m (ZeG (L.take j) ⟨x0,x1,x2,x3⟩ (show x1<=(m:Int) by have:=HF.out;omega));rw[H3.out]at this;exact this
           ·have hd:decide ((m:Int)<en)=false:=decide_eq_false (by have:=a3.out;omega);have k2:=hU;rw[Zgv (L.take j) ⟨x0,x1,x2,x3⟩ (show(m:Int)=x1+x2 by have:=HF.out;omega),<-F2.out]at k2;have A3:=Hd k2;have f4:=Hd hO;clear L1 hU hO k2
            go_wp2_with fail
            exact⟨⟨j+1,by omega,by simp,i1.out H1.out,A3.out,g4.out.then f4.out⟩,by simp only[intOf];omega⟩
        ·have K2:j=nV+1:=by omega
         subst K2;rw[List.take_of_length_le (by rw[q0.out];exact Nat.le_refl _)]at hok hU;have HOK:=Hd hok;have l2:=Hd (show ∀x∈c.volumes,X1 c x=true from λx hx=>hok x (by rw[<-o1.out];exact List.mem_append_left _ hx));have Z1:=r1.out wr (R0.out wr hO);have A0:=hU.cell (show b<S by omega);have j2:=Zc hU b;have C1:=Zb hU;have j1:=BB L b
         obtain⟨q,hq⟩:∃ q,cntS L b=q:=⟨_,rfl⟩
         rw[hq]at A0 j1;have N2:q<=9:=by have J1:=p0.out;have:=q0.out;omega
         have F1:IntKind.i64.wrap ((q:Int)+1)=(q:Int)+1:=by rw[IntKind.wrap_i64];omega
         have hbl:b<S:=by omega
         have H2:=Hd hU;have h2:=Hd hO;have R1:=Hd hq;clear hok hU hO hq j1
         go_upto_region 16 with fail
         generalize hW:World.setCell _ _ _=w7
         have k1:UsedAt w7 ub S (Ej (cntS L) b):=by
          have:=H2.out.bump b rfl;rw[R1.out,hW]at this;exact this
         have P1:Only (λq=>q=ub) wa w7:=by rw[<-hW];exact h2.out.setCell (p:=⟨ub,b,none⟩) (.inl rfl) _
         clear hW A0 j2 C1 Z1 F1 N2;have Z1:=r1.out w7 (R0.out w7 P1);have J2:b+1<S:=by omega
         have A0:=k1.cell J2;have j2:=Zc k1 (b+1);have C1:=Zb k1
         obtain⟨q2,hq2⟩:∃ q,Ej (cntS L) b (b+1)=q:=⟨_,rfl⟩
         rw[hq2]at A0
         have n4:q2<=9:=by
          have:=BB L (b+1);have h9:=p0.out;have:=q0.out;rw[<-hq2];unfold Ej;rw[if_neg (by omega)];omega
         have F1:IntKind.i64.wrap ((q2:Int)+1)=(q2:Int)+1:=by rw[IntKind.wrap_i64];omega
         have L3:IntKind.i64.wrap ((b:Int)+1)=(b:Int)+1:=by rw[IntKind.wrap_i64];omega
         have H2:=Hd k1;have h2:=Hd P1;have R1:=Hd hq2;clear k1 P1 hq2 n4
         go_upto_region 17 with fail
         generalize hW:World.setCell _ _ _=w8
         have P2:UsedAt w8 ub S (cntS c.exts):=by
          have J1:=H2.out.bump (b+1) rfl;rw[R1.out,hW,Zgs]at J1
          have e:L++[(⟨0,(b:Int),2,0⟩:Vol)]=c.exts:=by
           unfold Cfg.exts;rw[<-o1.out,o3.out,M3.out];simp
          rw[e]at J1;exact J1
         have S1:Only (λq=>q=ub) wa w8:=by rw[<-hW];exact h2.out.setCell (p:=⟨ub,b+1,none⟩) (.inl rfl) _
         clear hW A0 j2 C1 Z1 F1 L3;have C3:=Hd P2;have O0:=Hd S1;have P0:=Hd (T1.out w8 S1);have R2:=Hd (Zgi (c:=c) (S:=S) E2.out W1.out l2.out);clear P2 S1
         go_wp2_with fail
         go_loop [8] (λvi=>∃ j:Nat,j<=S/\vi=.int .i64 (j:Int)/\∀ k,k<j->cntS c.exts k<=1) (λvi=>S - (intOf vi).toNat)
         case atStart=>exact⟨0,by omega,rfl,λk hk=>absurd hk (by omega)⟩
         case round=>
          obtain⟨j,hj,rfl,hok⟩:=hrel;by_cases hlt:j<S
          ·have A0:=C3.out.cell hlt
           obtain⟨q,hq⟩:∃ q,cntS c.exts j=q:=⟨_,rfl⟩
           rw[hq]at A0;by_cases q1:q<=1
           ·have d1:decide ((1:Int)<(q:Int))=false:=decide_eq_false (by omega);have d2:decide (1<q)=false:=decide_eq_false (by omega)
            have i1:=Hd (show ∀k,k<j+1->cntS c.exts k<=1 from λk hk=>by
             by_cases e:k=j
             ·subst e;rw[hq];exact q1
             ·exact hok k (by omega))
            clear q1 hq hok
            go_wp2_with fail
            exact⟨⟨j+1,by omega,by simp,i1.out⟩,by simp only[intOf];omega⟩
           ·have d1:decide ((1:Int)<(q:Int))=true:=decide_eq_true (by omega);have d2:decide (1<q)=true:=decide_eq_true (by omega)
            have F0:Hid (Z8 X4 c.exts=false):=Hd (by
             cases e:Z8 X4 c.exts
             ·rfl
             ·exact absurd (R2.out.2 e j hlt) (by rw[hq];exact q1))
            clear q1 hq hok
            go_wp2_with fail
            (try go_ret)
            exact d0.out _ false (by rw[JE,F0.out];simp) P0.out
          ·have K2:j=S:=by omega
           subst K2;have N3:=Hd (R2.out.1 hok);clear hok
           go_wp2_with fail
           go_loopw [9] (λvi wx=>∃ j:Nat,j<=nV/\vi=.int .i64 (j:Int)/\(∀x∈c.volumes.take j,JR c x=true)/\Z8 neL (c.volumes.take j)=true/\Later w8 wx) (λvi _=>nV - (intOf vi).toNat)
           case atStart=>exact⟨0,by omega,rfl,by simp,rfl,Later.refl _⟩
           case round=>
            obtain⟨i,hi,rfl,hok,hpr,hl⟩:=hrel;have o2:=(R0.out w8 O0.out).later hl;have k5:=O2.out wr o2;by_cases hlt:i<nV
            ·have S0:i<c.volumes.length:=by rw[t0.out];exact hlt
             obtain⟨gb,go,hao,hgb,s0⟩:=Zz (M0.out w8 O0.out) S0
             have c0:∀ q,q<4->wr.cell? ⟨gb,go+i*4+q,none⟩=(volC c.volumes[i])[q]?:=λq hq=>by
              obtain⟨gb',go',hao',-, hc'⟩:=Zz ((M0.out w8 O0.out).later hl) S0;rw[hao]at hao';injection hao' with e';injection e' with e1' e2' _;subst e1' e2';exact hc' q hq
             have C0:=DC (p:=JR c) S0 hok;have f0:=List.getElem_mem S0;have L0:=Zs S0;have s2:=l2.out _ f0;have c3:=λ(k:Nat) (hk:k<i)=>ZfH (r:=neL) S0 hk
             obtain⟨x,hx⟩:∃ x,c.volumes[i]=x:=⟨_,rfl⟩
             rw[hx]at c0 C0 f0 L0 s2;have h0:∀ (k:Nat) (hk:k<i),neL (c.volumes[k]'(by omega)) x=false->Z8 neL c.volumes=false:=λk hk h'=>c3 k hk (by rw[hx];exact h')
             have i1:=Hd C0;have r2:=Hd f0;have F2:=Hd L0;have r4:=Hd h0;have O3:=Hd hpr;obtain⟨x0,x1,x2,x3⟩:=x;have e0:=c0 0 (by omega);have e1:=c0 1 (by omega);have e2:=c0 2 (by omega);have e3:=c0 3 (by omega);simp only[volC,List.getElem?_cons_zero,List.getElem?_cons_succ,Nat.add_zero]at e0 e1 e2 e3;subst hao;have l0:=Jr.1 s2;rw[E2.out]at l0;have l3:=ZI.1 l0.2.2.2;simp only at l0 l3
             obtain⟨cl,j1⟩:∃ cl:Int,x2 - x3=cl:=⟨_,rfl⟩
             obtain⟨t3,ht3⟩:∃ t:Int,x3 - 3=t:=⟨_,rfl⟩
             have hw23:IntKind.i64.wrap (x2 - x3)=cl:=by rw[IntKind.wrap_i64];omega
             have p1:IntKind.i64.wrap (x3 - 3)=t3:=by rw[IntKind.wrap_i64];omega
             have g0:=Hd (λ(w':World)=>Zv w' x0 0 ((N:Int) - 1))
             obtain⟨b1,hb1⟩:∃ b,inB x0 0 ((N:Int) - 1)=b:=⟨_,rfl⟩
             have o0:Hid (JR c ⟨x0,x1,x2,x3⟩=(b1&&(decide (cl<=40)&&decide (cl<=t3)))):=Hd (by rw[<-hb1,<-j1,<-ht3,<-c4.out];rfl);rw[hb1]at g0;have H0:=Hd (λ(hw:JR c ⟨x0,x1,x2,x3⟩=false) (w':World) (k:Later w1 w')=>d0.out w' false (by rw[JE,DB r2.out hw];simp) k);clear s0 c0 hgb C0 f0 L0 s2 c3 h0 hx hok hpr l0 l3 j1 ht3 hb1
             go_upto_region 26 with fail
             obtain⟨bx,hbx⟩:∃ g,wr.heap.size=g:=⟨_,rfl⟩
             obtain⟨wy,hwy⟩:∃ y,wr.alloc (.cells #[.int .i64 x0,.int .i64 x1,.int .i64 x2,.int .i64 x3] 28)=y:=⟨_,rfl⟩
             rw[hbx,hwy];have j0:wy.heap[bx]?=some (.cells #[.int .i64 x0,.int .i64 x1,.int .i64 x2,.int .i64 x3] 28 (0,0)):=by rw[<-hwy];exact Zq hbx
             have a2:Later w8 wy:=by rw[<-hwy];exact hl.alloc _
             have t2:=Hd j0;have f1:=Hd a2;have k0:=a4.out wy ((R0.out w8 O0.out).later a2);have y0:=Za j0 0;have y2:=Za j0 2;have y3:=Za j0 3;clear hwy hbx hl e0 e1 e2 e3 j0 a2 o2 k5;cases b1
             ·go_wp2_with (first
              |(go_at_call 25;(with_reducible refine(g0.out _).mono ?_);rintro e w9 ⟨rfl,b0⟩;have b0:=b0.symm;subst b0)
              |fail)
              (try go_ret)
              exact H0.out (by rw[o0.out];rfl) _ (P0.out.trans f1.out)
             ·by_cases c1:cl<=40
              ·have d1:decide (40<cl)=false:=decide_eq_false (by omega);by_cases c2:cl<=t3
               ·have d2:decide (t3<cl)=false:=decide_eq_false (by omega);have I1:Hid (JR c ⟨x0,x1,x2,x3⟩=true):=Hd (by rw[o0.out,decide_eq_true c1,decide_eq_true c2];rfl);clear c1 c2
                go_wp2_with (first
                 |(go_at_call 25;(with_reducible refine(g0.out _).mono ?_);rintro e w9 ⟨rfl,b0⟩;have b0:=b0.symm;subst b0)
                 |fail)
                go_loopw [12] (λvk wx=>∃ k:Nat,k<=i/\vk=.int .i64 (k:Int)/\(∀y∈c.volumes.take k,neL y ⟨x0,x1,x2,x3⟩=true)/\Later wy wx) (λvk _=>i - (intOf vk).toNat)
                case atStart=>exact⟨0,by omega,rfl,by simp,Later.refl _⟩
                case round=>
                 obtain⟨k,hk,rfl,hne,hlk⟩:=hrel;by_cases hlt2:k<i
                 ·have O1:k<c.volumes.length:=by rw[t0.out];omega
                  have i2:=f1.out.trans hlk;have k5:=O2.out wr ((R0.out w8 O0.out).later i2);have y0:=Za (hlk.block t2.out) 0;obtain⟨gb2,go2,hao2,hgb2,c0⟩:=Zz ((M0.out w8 O0.out).later i2) O1;injection hao2 with hao2;injection hao2 with ha1 ha2 _;subst ha1 ha2;have N0:=Zs O1;have h0:=r4.out k hlt2
                  obtain⟨z,hz⟩:∃ z,c.volumes[k]'(by rw[t0.out];omega)=z:=⟨_,rfl⟩
                  rw[hz]at c0 N0 h0;obtain⟨z0,z1,z2,z3⟩:=z;have e0:=c0 0 (by omega);simp only[volC,List.getElem?_cons_zero,Nat.add_zero]at e0;have hdk:decide (k<nV)=true:=decide_eq_true (by omega);have F0:=Hd h0;have g2:=Hd N0;have j3:=Hd hlk;have L2:=Hd hne;clear c0 N0 h0 hz hne i2 O1 hgb2 hlk;by_cases e:z0=x0
                  ·have d1:(z0==x0)=true:=by simpa using e
                   have HE:=Hd e;clear e
                   go_upto_region 32 with fail
                   go_quiet (fail)
                   go_wp2_with fail
                   (try go_ret)
                   exact d0.out _ false (by rw[JE,F0.out (by unfold neL;simp[HE.out])];simp) (P0.out.trans (f1.out.trans (Later.drewN j3.out _)))
                  ·have d1:(z0==x0)=false:=by simpa using e
                   have HE:=Hd e;clear e
                   go_upto_region 32 with fail
                   go_quiet (fail)
                   go_wp2_with fail
                   refine⟨⟨k+1,by omega,by simp,λy hy=>?_,Later.drewN j3.out _⟩,by simp only[intOf];omega⟩;rw[g2.out,List.mem_append,List.mem_singleton]at hy;rcases hy with hy|rfl
                   ·exact L2.out y hy
                   ·unfold neL;simp[HE.out]
                 ·have t4:k=i:=by omega
                  subst t4;have Z3:=Hd (f1.out.trans hlk);have j4:Hid (Z8 neL (c.volumes.take (k+1))=true):=Hd (by rw[F2.out,pairB_snoc,O3.out,List.all_eq_true.2 hne];rfl);clear hne hlk
                  go_wp2_with fail
                  exact⟨⟨k+1,by omega,by simp,i1.out I1.out,j4.out,Z3.out⟩,by simp only[intOf];omega⟩
               ·have d2:decide (t3<cl)=true:=decide_eq_true (by omega);have HX:=Hd (decide_eq_false c2);clear c1 c2
                go_wp2_with (first
                 |(go_at_call 25;(with_reducible refine(g0.out _).mono ?_);rintro e w9 ⟨rfl,b0⟩;have b0:=b0.symm;subst b0)
                 |fail)
                (try go_ret)
                exact H0.out (by rw[o0.out,HX.out];simp) _ (P0.out.trans f1.out)
              ·have d1:decide (40<cl)=true:=decide_eq_true (by omega);have HX:=Hd (decide_eq_false c1);clear c1
               go_wp2_with (first
                |(go_at_call 25;(with_reducible refine(g0.out _).mono ?_);rintro e w9 ⟨rfl,b0⟩;have b0:=b0.symm;subst b0)
                |fail)
               (try go_ret)
               exact H0.out (by rw[o0.out,HX.out];simp) _ (P0.out.trans f1.out)
            ·have P3:nV=i:=by omega
             subst P3;rw[List.take_of_length_le (by rw[t0.out];exact Nat.le_refl _)]at hok hpr;have i4:=Hd (P0.out.trans hl)
             have m2:Hid (c.diskB=true):=Hd (by
              rw[JE,W1.out,N3.out,hpr,List.all_eq_true.2 hok,List.all_eq_true.2 l2.out];rfl)
             clear hok hpr hl o2
             go_wp2_with fail
             (try go_ret)
             exact d0.out _ true m2.out i4.out
    ·have d3:(al==0)=false:=by simpa using a0
     have d4:(al != 0)=true:=by rw[bne,d3];rfl
     have b4:=Hd a0;clear a0
     go_wp2_with (first
      |(go_at_call 25;(first|(with_reducible refine(g0.out _).mono ?_)|(with_reducible refine(I0.out _).mono ?_));rintro e w9 ⟨rfl,b0⟩;have b0:=b0.symm;subst b0)
      |(go_at_call 96;(with_reducible refine(T0.out _).mono ?_);rintro e w2 ⟨rfl,hl2⟩;obtain⟨m5,m6,m7,m8,m9,m10,m11⟩:=n0.out w2 hl2)
      |((with_reducible refine Xt (p:=p) (c:=c) (v:=v) 1 ?_ ?_ ?_ ?_ ?_);rfl;rfl;exact(v0.out _ (Later.refl _));rfl)
      |fail)
     (try go_ret)
     exact d0.out _ false (t1.out (by rw[a1.out];simp[b4.out])) hl2
  ·have d1:decide ((8:Int)<(nV:Int))=true:=decide_eq_true (by omega);have d2:decide (8<nV)=true:=decide_eq_true (by omega);have p0:=Hd n8;clear n8
   go_wp2_with (first
    |(go_at_call 25;(first|(with_reducible refine(g0.out _).mono ?_)|(with_reducible refine(I0.out _).mono ?_));rintro e w9 ⟨rfl,b0⟩;have b0:=b0.symm;subst b0)
    |(go_at_call 96;(with_reducible refine(T0.out _).mono ?_);rintro e w2 ⟨rfl,hl2⟩;obtain⟨m5,m6,m7,m8,m9,m10,m11⟩:=n0.out w2 hl2)
    |((with_reducible refine Xt (p:=p) (c:=c) (v:=v) 1 ?_ ?_ ?_ ?_ ?_);rfl;rfl;exact(v0.out _ (Later.refl _));rfl)
    |fail)
   (try go_ret)
   exact d0.out _ false (t1.out (by rw[a1.out];simp[p0.out])) (Later.refl _)
