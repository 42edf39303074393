import Derived.Test.YtbchkjfnakabkaaGreatDoorRFx
import Derived.Test.YtbchkjfnakabkaaGreatDoorRLx
import Derived.Test.YtbchkjfnakabkaaGreatDoorQd
set_option linter.unusedSimpArgs false
set_option linter.unusedVariables false
set_option maxHeartbeats 16000000
set_option maxRecDepth 100000
namespace Go.Proofs.YtbchkjfnakabkaaGreatDoor
open Go.RowKit PX PC
noncomputable def JN(c:Cfg):Bool:=c.partsB&&(c.portsB&&(c.rulesB&&c.textsB))
theorem JI{α:Type}{p:α->Bool}{l:List α}{x:α}(hx:x∈l)(h:p x=false):l.all p=false:=List.all_eq_false.2 ⟨x,hx,by rw[h];decide⟩
theorem EB{α:Type}{p:α->Bool}{l:List α}{j:Nat}(hj:j<l.length)(h:∀ x∈l.take j,p x=true)(hx:p l[j]=true):∀ x∈l.take (j+1),p x=true:=by
 intro x hm;rw[Zs hj,List.mem_append]at hm;rcases hm with hm|hm
 ·exact h x hm
 ·rw[List.mem_singleton.1 hm];exact hx
theorem Bs{c:Cfg}{M:Mat}{N:Nat}{a b:Int}(hM:∀ a b:Nat,a<N->b<N->M a b=rchB c.flows a b)(hN:c.levels=N)(h1:c.lvl a=true)(h2:c.lvl b=true):flE M N a b=rchB c.flows a b:=by
 unfold Cfg.lvl at h1 h2;rw[hN,ZI]at h1 h2;obtain⟨x,rfl⟩:=Int.eq_ofNat_of_zero_le h1.1;obtain⟨y,rfl⟩:=Int.eq_ofNat_of_zero_le h2.1;unfold flE;rw[QM (by omega),QM (by omega),Bool.true_and,Bool.true_and];exact hM x y (by omega) (by omega)
theorem Jn{c:Cfg}{a b:Int}(h:YU c ⟨a,b⟩=true):c.lvl a=true:=by
 unfold YU at h;rw[Bool.and_eq_true]at h;exact h.2
theorem Zfp(w:World)(S:ByteArray):Calls Tryz.prog 95 #[.string S] w (ZeY S w):=by
 refine(Zbk w S).mono λe w' ⟨hb,h⟩=>?_
 rcases h with⟨X,hp,rfl,-⟩|⟨n,hp,rfl⟩
 ·exact⟨X,0,rfl,by rw[G6.2 ⟨_,hp⟩];rfl,hb⟩
 ·refine⟨_,n,rfl,?_,hb⟩;rw[Ed.2 ⟨_,hp⟩];rcases G1 hp with rfl|rfl<;>rfl
theorem Zeg(S:ByteArray)(i:Nat)(hi:i<S.size)(w:World):(Instr.index 9 (.string S) (.int .i64 i)).run Tryz.prog w=.ok (.int .u8 ((S.data.toList.getD i 0).toNat:Int)) w:=by
 have hl:i<S.data.toList.length:=by rw[Array.length_toList];exact hi
 have h:(0:Int)<=(i:Int)/\(i:Int)<(S.size:Int):=by omega
 rw[run_index_string (h:=Tryz.underlying9),dif_pos h,List.getD_eq_getElem?_getD,List.getElem?_eq_getElem hl];rfl
theorem Zc3(w:World)(c:Cfg)(v:V7)(lb N:Nat)(M:Mat)(h:RowsOf w c v)(hI:CfgI c)(hN:c.levels=N)(h1:1<=N)(h8:N<=8)(hD:DocLat w lb N M)(hM:∀ a b:Nat,a<N->b<N->M a b=rchB c.flows a b) :
 Calls Tryz.prog 72 #[.agg (cfgA c v),.pointer (some ⟨lb,0,none⟩)] w λe w'=>e=.returned (.bool (JN c))/\Later w w':=by
 obtain⟨aP,pP,eP,gP1,gP2,gP3⟩:=Zl h.rP;have p1:=h.rP;rw[eP]at p1
 obtain⟨nP,hnP⟩:∃ n,c.parts.length=n:=⟨_,rfl⟩
 obtain⟨aO,pO,eO,gO1,gO2,gO3⟩:=Zl h.rO;have O1:=h.rO;rw[eO]at O1
 obtain⟨nO,hnO⟩:∃ n,c.ports.length=n:=⟨_,rfl⟩
 obtain⟨aR,pR,eR,gR1,gR2,gR3⟩:=Zl h.rR;have l1:=h.rR;rw[eR]at l1
 obtain⟨nR,hnR⟩:∃ n,c.rules.length=n:=⟨_,rfl⟩
 obtain⟨aK,pK,eK,gK1,gK2,gK3⟩:=Zl h.rK;have t1:=h.rK;rw[eK]at t1
 obtain⟨nK,hnK⟩:∃ n,c.keys.length=n:=⟨_,rfl⟩
 obtain⟨p,hp⟩:∃ p,w.heap.size=p:=⟨_,rfl⟩
 obtain⟨w1,hw1⟩:∃ w1,w.alloc (.cells (cfgA c v) 32)=w1:=⟨_,rfl⟩
 have l0:Later w w1:=by rw[<-hw1];exact(Later.refl w).alloc _
 have F0:VarAt w1 p c v:=by unfold VarAt;rw[<-hw1,<-hp];exact Zd w _
 have M0:=Hd (λ(w':World) (k:Later w1 w')=>(show w'.cell? ⟨p,0,none⟩=some (.int .i64 (N:Int)) by rw[Za (F0.later k) 0,<-hN];rfl));have r1:=Hd (λ(w':World) (k:Later w1 w')=>(show w'.cell? ⟨p,2,none⟩=some (.slice aP nP pP) by rw[Za (F0.later k) 2,<-hnP,<-eP];rfl));have m1:=Hd (λ(w':World) (k:Later w1 w')=>(show RowAt w' 2 (.slice aP nP pP) (c.parts.map XQ) by rw[<-hnP];exact p1.later (l0.trans k)));have h0:=Hd hnP;have hbP:nP<=140737488355328:=by omega
 have f2:=Hd (λ(w':World) (k:Later w1 w')=>(show w'.cell? ⟨p,4,none⟩=some (.slice aO nO pO) by rw[Za (F0.later k) 4,<-hnO,<-eO];rfl));have m2:=Hd (λ(w':World) (k:Later w1 w')=>(show RowAt w' 5 (.slice aO nO pO) (c.ports.map porC) by rw[<-hnO];exact O1.later (l0.trans k)));have P0:=Hd hnO;have hbO:nO<=140737488355328:=by omega
 have P1:=Hd (λ(w':World) (k:Later w1 w')=>(show w'.cell? ⟨p,12,none⟩=some (.slice aR nR pR) by rw[Za (F0.later k) 12,<-hnR,<-eR];rfl));have p2:=Hd (λ(w':World) (k:Later w1 w')=>(show RowAt w' 5 (.slice aR nR pR) (c.rules.map ruC) by rw[<-hnR];exact l1.later (l0.trans k)));have I0:=Hd hnR;have hbR:nR<=140737488355328:=by omega
 have S1:=Hd (λ(w':World) (k:Later w1 w')=>(show w'.cell? ⟨p,13,none⟩=some (.slice aK nK pK) by rw[Za (F0.later k) 13,<-hnK,<-eK];rfl));have r2:=Hd (λ(w':World) (k:Later w1 w')=>(show RowAt w' 1 (.slice aK nK pK) (c.keys.map keyC) by rw[<-hnK];exact t1.later (l0.trans k)));have K0:=Hd hnK;have hbK:nK<=140737488355328:=by omega
 have y0:=Hd hN
 obtain⟨lg,hlg⟩:∃ x,c.login=x:=⟨_,rfl⟩
 have hLb:lg.size<=9223372036854775807:=by rw[<-hlg];exact hI.login
 have j2:=Hd hlg;have N1:=Hd (λ(w':World) (k:Later w1 w')=>(show w'.cell? ⟨p,14,none⟩=some (.string lg) by rw[Za (F0.later k) 14,<-hlg];rfl));have F1:=Hd hM;have HII:=Hd hI;have a2:=Hd (λ(w':World) (k:Later w1 w') (a b:Int)=>GY w' lb N M (hD.later (l0.trans k)) a b);have s2:=Hd hw1;have HP:=Hd hp
 obtain⟨PT,hPT⟩:∃ PT,(λ(e:Ending) (w':World)=>e=.returned (.bool (JN c))/\Later w w')=PT:=⟨_,rfl⟩
 rw[hPT];have f0:=Hd (λ(w':World) (b:Bool) (hb:JN c=b) (k:Later w1 w')=>(show PT (.returned (.bool b)) w' by rw[<-hPT];exact⟨by rw[hb],l0.trans k⟩));have hwl:IntKind.i64.wrap ((N:Int) - 1)=(N:Int) - 1:=by rw[IntKind.wrap_i64];omega
 have hwp:IntKind.i64.wrap ((nP:Int) - 1)=(nP:Int) - 1:=by rw[IntKind.wrap_i64];omega
 clear h hw1 hp l0 F0 hN hM hI hD hPT hlg p1 hnP eP gP1 gP2 gP3 O1 hnO eO gO1 gO2 gO3 l1 hnR eR gR1 gR2 gR3 t1 hnK eK gK1 gK2 gK3
 go_enter Tryz.func72,Tryz.ntmps72
 go_wp2_with fail
 rw[HP.out,s2.out]
 go_loopw [5] (λvi wx=>∃ j:Nat,j<=nP/\vi=.int .i64 (j:Int)/\(∀x∈c.parts.take j,YU c x=true)/\Later w1 wx) (λvi _=>nP - (intOf vi).toNat)
 case atStart=>exact⟨0,by omega,rfl,by simp,Later.refl _⟩
 case round=>
  obtain⟨j,hj,rfl,hok,hl⟩:=hrel;have k0:=M0.out _ hl;have kk:=r1.out _ hl;by_cases hlt:j<nP
  ·obtain⟨b,o,hao,hb',hcc⟩:=Zz (m1.out _ hl) (show j<c.parts.length by rw[h0.out];exact hlt);have j0:=EB (p:=YU c) (show j<c.parts.length by rw[h0.out];exact hlt) hok;have b0:=List.getElem_mem (show j<c.parts.length by rw[h0.out];exact hlt)
   obtain⟨x,hx⟩:∃ x,c.parts[j]'(by rw[h0.out];exact hlt)=x:=⟨_,rfl⟩
   rw[hx]at hcc j0 b0;have o0:=Hd j0
   have a0:=Hd (λ(hw:YU c x=false) (w':World) (k:Later w1 w')=>f0.out w' false (show JN c=false by
    unfold JN Cfg.partsB
    rw[show c.parts.all (YU c)=false from JI b0 hw];simp) k)
   obtain⟨x0,x1⟩:=x;have e0:=hcc 0 (by omega);have e1:=hcc 1 (by omega);simp only[XQ,List.getElem?_cons_zero,List.getElem?_cons_succ,Nat.add_zero]at e0 e1;subst hao;clear hcc hb' hx hok j0 b0;have c0:=Hd (λ(w':World)=>Zv w' x1 1 16);have d0:=Hd (λ(w':World)=>Zv w' x0 0 ((N:Int) - 1))
   obtain⟨b1,h1'⟩:∃ b,inB x1 1 16=b:=⟨_,rfl⟩
   obtain⟨b2,h2'⟩:∃ b,inB x0 0 ((N:Int) - 1)=b:=⟨_,rfl⟩
   have T0:Hid (YU c ⟨x0,x1⟩=(b1&&b2)):=Hd (by rw[<-h1',<-h2',<-y0.out];rfl);rw[h1']at c0;rw[h2']at d0;clear h1' h2';have hdn:decide (j<nP)=true:=decide_eq_true hlt;have HQ:=Hd hl
   go_upto_region 4 with fail
   cases b1
   ·go_quiet ((first
     |(go_at_call 25;exact Calls.quiet_of_same (c0.out _))
     |fail))
    go_wp2_with fail
    (try go_ret)
    exact a0.out (by rw[T0.out];rfl) _ (Later.drewN HQ.out _)
   ·cases b2
    ·go_quiet ((first
      |(go_at_call 25;(first|with_reducible exact Calls.quiet_of_same (c0.out _)|with_reducible exact Calls.quiet_of_same (d0.out _)))
      |fail))
     go_wp2_with fail
     (try go_ret)
     exact a0.out (by rw[T0.out];rfl) _ (Later.drewN HQ.out _)
    ·go_quiet ((first
      |(go_at_call 25;(first|with_reducible exact Calls.quiet_of_same (c0.out _)|with_reducible exact Calls.quiet_of_same (d0.out _)))
      |fail))
     go_wp2_with fail
     exact⟨⟨j+1,by omega,by simp,o0.out (by rw[T0.out];rfl),Later.drewN HQ.out _⟩,by simp only[intOf];omega⟩
  ·have q0:nP=j:=by omega
   subst q0;rw[List.take_of_length_le (by rw[h0.out];exact Nat.le_refl _)]at hok;have v1:=Hd hok;clear hok
   go_wp2_with fail
   go_loopw [6] (λvi wx=>∃ j:Nat,j<=nO/\vi=.int .i64 (j:Int)/\(∀x∈c.ports.take j,JZ c x=true)/\Later w1 wx) (λvi _=>nO - (intOf vi).toNat)
   case atStart=>exact⟨0,by omega,rfl,by simp,hl⟩
   case round=>
    obtain⟨j,hj,rfl,hok,hl⟩:=hrel;have k0:=M0.out _ hl;have kk:=f2.out _ hl;by_cases hlt:j<nO
    ·obtain⟨b,o,hao,hb',hcc⟩:=Zz (m2.out _ hl) (show j<c.ports.length by rw[P0.out];exact hlt);have j0:=EB (p:=JZ c) (show j<c.ports.length by rw[P0.out];exact hlt) hok;have b0:=List.getElem_mem (show j<c.ports.length by rw[P0.out];exact hlt)
     obtain⟨x,hx⟩:∃ x,c.ports[j]'(by rw[P0.out];exact hlt)=x:=⟨_,rfl⟩
     rw[hx]at hcc j0 b0;have o0:=Hd j0
     have a0:=Hd (λ(hw:JZ c x=false) (w':World) (k:Later w1 w')=>f0.out w' false (show JN c=false by
      unfold JN Cfg.portsB
      rw[show c.ports.all (JZ c)=false from JI b0 hw];simp) k)
     obtain⟨x0,x1,x2,x3,x4⟩:=x;have e0:=hcc 0 (by omega);have e1:=hcc 1 (by omega);have e2:=hcc 2 (by omega);have e3:=hcc 3 (by omega);have e4:=hcc 4 (by omega);simp only[porC,List.getElem?_cons_zero,List.getElem?_cons_succ,Nat.add_zero]at e0 e1 e2 e3 e4;subst hao;clear hcc hb' hx hok j0 b0;have c0:=Hd (λ(w':World)=>Zv w' x1 0 ((nP:Int) - 1));have d0:=Hd (λ(w':World)=>Zv w' x2 0 ((nP:Int) - 1))
     obtain⟨b1,h1'⟩:∃ b,c.prt x1=b:=⟨_,rfl⟩
     obtain⟨b2,h2'⟩:∃ b,c.prt x2=b:=⟨_,rfl⟩
     have s0:=Hd (And.intro h1' h2');rw[show inB x1 0 ((nP:Int) - 1)=b1 by rw[<-h1',<-h0.out];rfl]at c0;rw[show inB x2 0 ((nP:Int) - 1)=b2 by rw[<-h2',<-h0.out];rfl]at d0;clear h1' h2'
     go_upto_region 10 with fail
     obtain⟨bx,hbx⟩:∃ g,wr.heap.size=g:=⟨_,rfl⟩
     obtain⟨wy,hwy⟩:∃ y,wr.alloc (.cells #[.int .i64 x0,.int .i64 x1,.int .i64 x2,.int .i64 x3,.int .i64 x4] 51)=y:=⟨_,rfl⟩
     rw[hbx,hwy];have r0:wy.heap[bx]?=some (.cells #[.int .i64 x0,.int .i64 x1,.int .i64 x2,.int .i64 x3,.int .i64 x4] 51 (0,0)):=by rw[<-hwy];exact Zq hbx
     have H0:Later w1 wy:=by rw[<-hwy];exact hl.alloc _
     have HQ:=Hd H0;have i1:=Hd r0;have y1:=Za r0 1;have y2:=Za r0 2;have kp:=r1.out _ H0;clear hwy hbx hl kk k0 e0 e1 e2 e3 e4 r0 H0;cases b1
     ·go_quiet ((first
       |(go_at_call 25;with_reducible exact Calls.quiet_of_same (c0.out _))
       |fail))
      go_wp2_with fail
      (try go_ret)
      exact a0.out (by simp[JZ,s0.out.1]) _ (Later.drewN HQ.out _)
     ·cases b2
      ·go_quiet ((first
        |(go_at_call 25;(first|with_reducible exact Calls.quiet_of_same (c0.out _)|with_reducible exact Calls.quiet_of_same (d0.out _)))
        |fail))
       go_wp2_with fail
       (try go_ret)
       exact a0.out (by simp[JZ,s0.out.1,s0.out.2]) _ (Later.drewN HQ.out _)
      ·have n1:=s0.out.1;have n2:=s0.out.2;unfold Cfg.prt at n1 n2;rw[h0.out,ZI]at n1 n2;obtain⟨f,hf⟩:=Int.eq_ofNat_of_zero_le n1.1;obtain⟨t,ht⟩:=Int.eq_ofNat_of_zero_le n2.1;have L0:f<nP:=by omega
       have N0:t<nP:=by omega
       obtain⟨bP,oP,haP,-, hcf⟩:=Zz (m1.out _ HQ.out) (show f<c.parts.length by rw[h0.out];exact L0);obtain⟨bP2,oP2,haP2,-, hct⟩:=Zz (m1.out _ HQ.out) (show t<c.parts.length by rw[h0.out];exact N0);have H1:c.levelOf x1=(c.parts[f]'(by rw[h0.out];exact L0)).level:=by unfold Cfg.levelOf;rw[hf,Int.toNat_natCast,List.getElem?_eq_getElem (by rw[h0.out];exact L0)];rfl
       have t0:c.levelOf x2=(c.parts[t]'(by rw[h0.out];exact N0)).level:=by unfold Cfg.levelOf;rw[ht,Int.toNat_natCast,List.getElem?_eq_getElem (by rw[h0.out];exact N0)];rfl
       have J1:=v1.out _ (List.getElem_mem (show f<c.parts.length by rw[h0.out];exact L0));have o1:=v1.out _ (List.getElem_mem (show t<c.parts.length by rw[h0.out];exact N0))
       obtain⟨pf,hpf1⟩:∃ x,c.parts[f]'(by rw[h0.out];exact L0)=x:=⟨_,rfl⟩
       obtain⟨pt,hpt1⟩:∃ x,c.parts[t]'(by rw[h0.out];exact N0)=x:=⟨_,rfl⟩
       rw[hpf1]at hcf H1 J1;rw[hpt1]at hct t0 o1;obtain⟨lf,gf⟩:=pf;obtain⟨lt,gt⟩:=pt;have ef:=hcf 0 (by omega);have et:=hct 0 (by omega);simp only[XQ,List.getElem?_cons_zero,Nat.add_zero]at ef et;rw[haP]at haP2;cases haP2;subst haP;subst hf ht;have p0:=Hd (And.intro H1 t0);have j1:=Hd (And.intro J1 o1);have hdn1:decide (f<nP)=true:=decide_eq_true L0;have hdn2:decide (t<nP)=true:=decide_eq_true N0;have m0:=Hd (λ(w':World) (k:Later wy w')=>a2.out w' (HQ.out.trans k) lf lt)
       obtain⟨fl,hfx⟩:∃ b,flE M N lf lt=b:=⟨_,rfl⟩
       rw[hfx]at m0;have T1:=Hd hfx;clear hcf hct H1 t0 J1 o1 hpf1 hpt1 n1 n2 hfx;by_cases e:f=t
       ·have hq:((f:Int)==(t:Int))=true:=by rw[e];simp
        have HE:=Hd e;clear e
        go_quiet ((first
         |(go_at_call 25;(first|with_reducible exact Calls.quiet_of_same (c0.out _)|with_reducible exact Calls.quiet_of_same (d0.out _)))
         |fail))
        go_wp2_with fail
        (try go_ret)
        exact a0.out (by have:=HE.out;subst this;simp[JZ]) _ (Later.drewN HQ.out _)
       ·have hq:((f:Int)==(t:Int))=false:=by simp;omega
        have HE:=Hd e;clear e;cases fl
        ·go_quiet ((first
          |(go_at_call 25;(first|with_reducible exact Calls.quiet_of_same (c0.out _)|with_reducible exact Calls.quiet_of_same (d0.out _)))
          |(go_at_call 94;with_reducible exact Calls.quiet_of_same (m0.out _ (Later.drewN (Later.refl _) _)))
          |fail))
         go_wp2_with fail
         (try go_ret)
         have h3:=Bs F1.out y0.out (Jn j1.out.1) (Jn j1.out.2);rw[T1.out]at h3;exact a0.out (by simp[JZ,p0.out.1,p0.out.2,h3.symm]) _ (Later.drewN HQ.out _)
        ·have v0:=Hd (λ(w':World)=>Zv w' x0 0 1);have C0:=Hd (λ(w':World)=>Zv w' x3 1 255);have A0:=Hd (λ(w':World)=>Zv w' x4 1 8)
         obtain⟨K,hK⟩:∃ b,inB x0 0 1=b:=⟨_,rfl⟩
         obtain⟨S3,hS3⟩:∃ b,inB x3 1 255=b:=⟨_,rfl⟩
         obtain⟨D,hD⟩:∃ b,inB x4 1 8=b:=⟨_,rfl⟩
         have O0:Hid (JZ c ⟨x0,(f:Int),(t:Int),x3,x4⟩=(K&&(S3&&(D&&(decide (x0=1) || decide (x4=1)))))):=Hd (by
          have h3:=Bs F1.out y0.out (Jn j1.out.1) (Jn j1.out.2);rw[T1.out]at h3;have o2:¬ (f:Int)=(t:Int):=by have:=HE.out;omega
          simp[JZ,s0.out.1,s0.out.2,p0.out.1,p0.out.2,h3.symm,hK,hS3,hD,o2,HE.out])
         have i2:=Hd (And.intro hK hD);rw[hK]at v0;rw[hS3]at C0;rw[hD]at A0;clear hK hS3 hD
         go_upto_region 10 with fail
         go_quiet ((first
          |(go_at_call 25;(first|with_reducible exact Calls.quiet_of_same (c0.out _)|with_reducible exact Calls.quiet_of_same (d0.out _)))
          |(go_at_call 94;with_reducible exact Calls.quiet_of_same (m0.out _ (Later.drewN (Later.refl _) _)))
          |fail))
         generalize hW:World.drewN _ _=W;have I1:Later wy W:=by rw[<-hW];exact Later.drewN (Later.refl _) _
         have k1:=I1.block i1.out;have z0:=Za k1 0;have z3:=Za k1 3;have z4:=Za k1 4;have i0:=Hd (HQ.out.trans I1);clear hW I1 k1 y1 y2 kp ef et;cases K
         ·go_wp2_with (first
           |(go_at_call 25;(first|(with_reducible refine(v0.out _).mono ?_)|(with_reducible refine(C0.out _).mono ?_)|(with_reducible refine(A0.out _).mono ?_));rintro e w3 ⟨rfl,hw3⟩;subst hw3)
           |fail)
          (try go_ret)
          exact a0.out (by rw[O0.out];rfl) _ i0.out
         ·cases S3
          ·go_wp2_with (first
            |(go_at_call 25;(first|(with_reducible refine(v0.out _).mono ?_)|(with_reducible refine(C0.out _).mono ?_)|(with_reducible refine(A0.out _).mono ?_));rintro e w3 ⟨rfl,hw3⟩;subst hw3)
            |fail)
           (try go_ret)
           exact a0.out (by rw[O0.out];rfl) _ i0.out
          ·cases D
           ·go_wp2_with (first
             |(go_at_call 25;(first|(with_reducible refine(v0.out _).mono ?_)|(with_reducible refine(C0.out _).mono ?_)|(with_reducible refine(A0.out _).mono ?_));rintro e w3 ⟨rfl,hw3⟩;subst hw3)
             |fail)
            (try go_ret)
            exact a0.out (by rw[O0.out];rfl) _ i0.out
           ·have C1:=ZI.1 i2.out.1;have A1:=ZI.1 i2.out.2;by_cases u0:x0=0
            ·have u1:(x0==0)=true:=by simpa using u0
             by_cases u2:1<x4
             ·have u3:decide (1<x4)=true:=decide_eq_true u2;have HX:=Hd (show(decide (x0=1) || decide (x4=1))=false by rw[decide_eq_false (by omega),decide_eq_false (by omega)];rfl);clear u0 u2 C1 A1
              go_wp2_with (first
               |(go_at_call 25;(first|(with_reducible refine(v0.out _).mono ?_)|(with_reducible refine(C0.out _).mono ?_)|(with_reducible refine(A0.out _).mono ?_));rintro e w3 ⟨rfl,hw3⟩;subst hw3)
               |fail)
              (try go_ret)
              exact a0.out (by rw[O0.out,HX.out];rfl) _ i0.out
             ·have u3:decide (1<x4)=false:=decide_eq_false u2;have HX:=Hd (show(decide (x0=1) || decide (x4=1))=true by rw[show decide (x4=1)=true from decide_eq_true (by omega),Bool.or_true]);clear u0 u2 C1 A1
              go_wp2_with (first
               |(go_at_call 25;(first|(with_reducible refine(v0.out _).mono ?_)|(with_reducible refine(C0.out _).mono ?_)|(with_reducible refine(A0.out _).mono ?_));rintro e w3 ⟨rfl,hw3⟩;subst hw3)
               |fail)
              exact⟨⟨j+1,by omega,by simp,o0.out (by rw[O0.out,HX.out];rfl),i0.out⟩,by simp only[intOf];omega⟩
            ·have u1:(x0==0)=false:=by simpa using u0
             have HX:=Hd (show(decide (x0=1) || decide (x4=1))=true by rw[show decide (x0=1)=true from decide_eq_true (by omega),Bool.true_or]);clear u0 C1 A1
             go_wp2_with (first
              |(go_at_call 25;(first|(with_reducible refine(v0.out _).mono ?_)|(with_reducible refine(C0.out _).mono ?_)|(with_reducible refine(A0.out _).mono ?_));rintro e w3 ⟨rfl,hw3⟩;subst hw3)
              |fail)
             exact⟨⟨j+1,by omega,by simp,o0.out (by rw[O0.out,HX.out];rfl),i0.out⟩,by simp only[intOf];omega⟩
    ·have q0:nO=j:=by omega
     subst q0;rw[List.take_of_length_le (by rw[P0.out];exact Nat.le_refl _)]at hok;have l2:=Hd hok;clear hok
     go_wp2_with fail
     go_loopw [8] (λvi wx=>∃ j:Nat,j<=nR/\vi=.int .i64 (j:Int)/\(∀x∈c.rules.take j,ruOK c x=true)/\Later w1 wx) (λvi _=>nR - (intOf vi).toNat)
     case atStart=>exact⟨0,by omega,rfl,by simp,hl⟩
     case round=>
      obtain⟨j,hj,rfl,hok,hl⟩:=hrel;have k0:=M0.out _ hl;have kk:=P1.out _ hl;by_cases hlt:j<nR
      ·obtain⟨b,o,hao,hb',hcc⟩:=Zz (p2.out _ hl) (show j<c.rules.length by rw[I0.out];exact hlt);have j0:=EB (p:=ruOK c) (show j<c.rules.length by rw[I0.out];exact hlt) hok;have b0:=List.getElem_mem (show j<c.rules.length by rw[I0.out];exact hlt)
       obtain⟨x,hx⟩:∃ x,c.rules[j]'(by rw[I0.out];exact hlt)=x:=⟨_,rfl⟩
       rw[hx]at hcc j0 b0;have o0:=Hd j0
       have a0:=Hd (λ(hw:ruOK c x=false) (w':World) (k:Later w1 w')=>f0.out w' false (show JN c=false by
        unfold JN Cfg.rulesB
        rw[show c.rules.all (ruOK c)=false from JI b0 hw];simp) k)
       obtain⟨x0,x1,x2,x3,x4⟩:=x;have e0:=hcc 0 (by omega);have e1:=hcc 1 (by omega);have e2:=hcc 2 (by omega);have e3:=hcc 3 (by omega);have e4:=hcc 4 (by omega);simp only[ruC,List.getElem?_cons_zero,List.getElem?_cons_succ,Nat.add_zero]at e0 e1 e2 e3 e4;subst hao;clear hcc hb' hx hok j0 b0;have R1:=Hd Zfp;have g2:=Hd (λ(Y:RxA)=>show(#[.int .i64 0,.int .i64 0,.int .i64 0,.int .u64 0,.int .u64 0,.int .u64 0,.int .u64 0,.slice none 0 0]:Array Value).size=(Zh Y).size by rw[Zi];rfl)
       go_upto_region 18 with fail
       obtain⟨bx,hbx⟩:∃ g,wr.heap.size=g:=⟨_,rfl⟩
       obtain⟨wy,hwy⟩:∃ y,wr.alloc (.cells #[.int .i64 x0,.int .i64 x1,.int .i64 x2,.string x3,.string x4] 53)=y:=⟨_,rfl⟩
       rw[hbx,hwy];have r0:wy.heap[bx]?=some (.cells #[.int .i64 x0,.int .i64 x1,.int .i64 x2,.string x3,.string x4] 53 (0,0)):=by rw[<-hwy];exact Zq hbx
       have H0:Later w1 wy:=by rw[<-hwy];exact hl.alloc _
       have HQ:=Hd H0;have i1:=Hd r0;have y3:=Za r0 3;clear hwy hbx hl kk k0 e0 e1 e2 e3 e4 r0 H0
       go_upto_region 19 with(first
        |(go_at_call 95;(with_reducible refine(R1.out _ x3).mono ?_);rintro e wq ⟨Y,n3,rfl,hq3,hlq⟩)
        |refine wpList_store_row rfl 141 (.tmp 10) (.tmp 142) rfl wq.heap.size (Zh Y) rfl rfl 141 _ (Zd wq _) (Zj Y) (g2.out Y) (Zm Y) ?_
        |fail)
       generalize hW:World.setRow _ _ _=w3;have L1:Later wy w3:=by rw[<-hW];exact YQ (hlq.alloc _) hlq.size _
       have v2:=Hd L1;have y4:=Za (L1.block i1.out) 4;clear hW hlq y3 L1
       go_upto_region 20 with(first
        |(go_at_call 95;(with_reducible refine(R1.out _ x4).mono ?_);rintro e wq ⟨Y,n4,rfl,hq4,hlq⟩)
        |refine wpList_store_row rfl 141 (.tmp 12) (.tmp 148) rfl wq.heap.size (Zh Y) rfl rfl 141 _ (Zd wq _) (Zj Y) (g2.out Y) (Zm Y) ?_
        |fail)
       generalize hW:World.setRow _ _ _=w5;have Z1:Later w3 w5:=by rw[<-hW];exact YQ (hlq.alloc _) hlq.size _
       have f1:=v2.out.trans Z1;have S0:=f1.block i1.out;have z0:=Za S0 0;have z1:=Za S0 1;have z2:=Za S0 2;have z4:=Za S0 4;have k0:=M0.out w5 (HQ.out.trans f1);have i0:=Hd (HQ.out.trans f1);clear hW hlq y4 Z1 S0 f1;have c0:=Hd (λ(w':World)=>Zv w' x0 0 ((N:Int) - 1));have d0:=Hd (λ(w':World)=>Zv w' x1 0 ((N:Int) - 1));have n0:=Hd (λ(w':World)=>Zv w' x2 0 2);have m0:=Hd (λ(w':World) (k:Later w5 w')=>a2.out w' (i0.out.trans k) x0 x1)
       obtain⟨b1,h1'⟩:∃ b,inB x0 0 ((N:Int) - 1)=b:=⟨_,rfl⟩
       obtain⟨b2,h2'⟩:∃ b,inB x1 0 ((N:Int) - 1)=b:=⟨_,rfl⟩
       obtain⟨b3,h3'⟩:∃ b,inB x2 0 2=b:=⟨_,rfl⟩
       obtain⟨fl,h4'⟩:∃ b,flE M N x0 x1=b:=⟨_,rfl⟩
       obtain⟨rp,h5'⟩:∃ b,Ys x3.data.toList=b:=⟨_,rfl⟩
       obtain⟨rw',h6'⟩:∃ b,Ys x4.data.toList=b:=⟨_,rfl⟩
       have g0:Hid (ruOK c ⟨x0,x1,x2,x3,x4⟩=((b1&&(b2&&!fl))&&(b3&&(rp&&if x2=2 then rw' else x4.data.toList.isEmpty)))):=Hd (by
        rw[<-h1',<-h2',<-h3',<-h4',<-h5',<-h6'];have q1:c.lvl x0=inB x0 0 ((N:Int) - 1):=by unfold Cfg.lvl;rw[y0.out]
        have q2:c.lvl x1=inB x1 0 ((N:Int) - 1):=by unfold Cfg.lvl;rw[y0.out]
        show(((c.lvl x0&&c.lvl x1)&&!rchB c.flows x0 x1)&&(inB x2 0 2&&(Ys x3.data.toList&&(if x2=2 then Ys x4.data.toList else x4.data.toList.isEmpty))))=_;rw[<-q1,<-q2,Bool.and_assoc (c.lvl x0)];cases u1:c.lvl x0
        ·rfl
        ·cases u2:c.lvl x1
         ·rfl
         ·rw[Bs F1.out y0.out u1 u2])
       rw[h1']at c0;rw[h2']at d0;rw[h3']at n0;rw[h4']at m0;rw[h5']at hq3;rw[h6']at hq4;clear h1' h2' h3' h4' h5' h6';cases b1
       ·go_wp2_with (first
         |(go_at_call 25;(first|(with_reducible refine(c0.out _).mono ?_)|(with_reducible refine(d0.out _).mono ?_)|(with_reducible refine(n0.out _).mono ?_));rintro e w9 ⟨rfl,hw9⟩;subst hw9)
         |(go_at_call 94;(with_reducible refine(m0.out _ (Later.refl _)).mono ?_);rintro e w9 ⟨rfl,hw9⟩;subst hw9)
         |fail)
        (try go_ret)
        exact a0.out (by rw[g0.out];simp) _ i0.out
       ·cases b2
        ·go_wp2_with (first
          |(go_at_call 25;(first|(with_reducible refine(c0.out _).mono ?_)|(with_reducible refine(d0.out _).mono ?_)|(with_reducible refine(n0.out _).mono ?_));rintro e w9 ⟨rfl,hw9⟩;subst hw9)
          |(go_at_call 94;(with_reducible refine(m0.out _ (Later.refl _)).mono ?_);rintro e w9 ⟨rfl,hw9⟩;subst hw9)
          |fail)
         (try go_ret)
         exact a0.out (by rw[g0.out];simp) _ i0.out
        ·cases fl
         case true=>
          go_wp2_with (first
           |(go_at_call 25;(first|(with_reducible refine(c0.out _).mono ?_)|(with_reducible refine(d0.out _).mono ?_)|(with_reducible refine(n0.out _).mono ?_));rintro e w9 ⟨rfl,hw9⟩;subst hw9)
           |(go_at_call 94;(with_reducible refine(m0.out _ (Later.refl _)).mono ?_);rintro e w9 ⟨rfl,hw9⟩;subst hw9)
           |fail)
          (try go_ret)
          exact a0.out (by rw[g0.out];simp) _ i0.out
         case false=>
          cases b3
          ·go_wp2_with (first
            |(go_at_call 25;(first|(with_reducible refine(c0.out _).mono ?_)|(with_reducible refine(d0.out _).mono ?_)|(with_reducible refine(n0.out _).mono ?_));rintro e w9 ⟨rfl,hw9⟩;subst hw9)
            |(go_at_call 94;(with_reducible refine(m0.out _ (Later.refl _)).mono ?_);rintro e w9 ⟨rfl,hw9⟩;subst hw9)
            |fail)
           (try go_ret)
           exact a0.out (by rw[g0.out];simp) _ i0.out
          ·cases rp
           ·have E1:(n3 != 0)=true:=by rw[bne,hq3];rfl
            go_wp2_with (first
             |(go_at_call 25;(first|(with_reducible refine(c0.out _).mono ?_)|(with_reducible refine(d0.out _).mono ?_)|(with_reducible refine(n0.out _).mono ?_));rintro e w9 ⟨rfl,hw9⟩;subst hw9)
             |(go_at_call 94;(with_reducible refine(m0.out _ (Later.refl _)).mono ?_);rintro e w9 ⟨rfl,hw9⟩;subst hw9)
             |fail)
            (try go_ret)
            exact a0.out (by rw[g0.out];simp) _ i0.out
           ·have E1:(n3 != 0)=false:=by rw[bne,hq3];rfl
            by_cases u0:x2=2
            ·have u1:(x2==2)=true:=by simpa using u0
             have u2:(x2 != 2)=false:=by rw[bne,u1];rfl
             have HU:=Hd u0;clear u0;cases rw'
             ·have s1:(n4 != 0)=true:=by rw[bne,hq4];rfl
              go_wp2_with (first
               |(go_at_call 25;(first|(with_reducible refine(c0.out _).mono ?_)|(with_reducible refine(d0.out _).mono ?_)|(with_reducible refine(n0.out _).mono ?_));rintro e w9 ⟨rfl,hw9⟩;subst hw9)
               |(go_at_call 94;(with_reducible refine(m0.out _ (Later.refl _)).mono ?_);rintro e w9 ⟨rfl,hw9⟩;subst hw9)
               |fail)
              (try go_ret)
              exact a0.out (by rw[g0.out,if_pos HU.out];rfl) _ i0.out
             ·have s1:(n4 != 0)=false:=by rw[bne,hq4];rfl
              go_wp2_with (first
               |(go_at_call 25;(first|(with_reducible refine(c0.out _).mono ?_)|(with_reducible refine(d0.out _).mono ?_)|(with_reducible refine(n0.out _).mono ?_));rintro e w9 ⟨rfl,hw9⟩;subst hw9)
               |(go_at_call 94;(with_reducible refine(m0.out _ (Later.refl _)).mono ?_);rintro e w9 ⟨rfl,hw9⟩;subst hw9)
               |fail)
              exact⟨⟨j+1,by omega,by simp,o0.out (by rw[g0.out,if_pos HU.out];rfl),i0.out⟩,by simp only[intOf];omega⟩
            ·have u1:(x2==2)=false:=by simpa using u0
             have u2:(x2 != 2)=true:=by rw[bne,u1];rfl
             have HU:=Hd u0;clear u0
             obtain⟨em,hem⟩:∃ b,x4.toList.isEmpty=b:=⟨_,rfl⟩
             have HV:Hid (x4.data.toList.isEmpty=em):=Hd (by rw[<-hem,ByteArray.toList_eq]);cases em
             ·go_wp2_with (first
               |(go_at_call 25;(first|(with_reducible refine(c0.out _).mono ?_)|(with_reducible refine(d0.out _).mono ?_)|(with_reducible refine(n0.out _).mono ?_));rintro e w9 ⟨rfl,hw9⟩;subst hw9)
               |(go_at_call 94;(with_reducible refine(m0.out _ (Later.refl _)).mono ?_);rintro e w9 ⟨rfl,hw9⟩;subst hw9)
               |fail)
              (try go_ret)
              exact a0.out (by rw[g0.out,if_neg HU.out,HV.out];simp) _ i0.out
             ·go_wp2_with (first
               |(go_at_call 25;(first|(with_reducible refine(c0.out _).mono ?_)|(with_reducible refine(d0.out _).mono ?_)|(with_reducible refine(n0.out _).mono ?_));rintro e w9 ⟨rfl,hw9⟩;subst hw9)
               |(go_at_call 94;(with_reducible refine(m0.out _ (Later.refl _)).mono ?_);rintro e w9 ⟨rfl,hw9⟩;subst hw9)
               |fail)
              exact⟨⟨j+1,by omega,by simp,o0.out (by rw[g0.out,if_neg HU.out,HV.out];rfl),i0.out⟩,by simp only[intOf];omega⟩
      ·have q0:nR=j:=by omega
       subst q0;rw[List.take_of_length_le (by rw[I0.out];exact Nat.le_refl _)]at hok;have A2:=Hd hok;clear hok
       go_wp2_with fail
       go_loopw [14] (λvi wx=>∃ j:Nat,j<=nK/\vi=.int .i64 (j:Int)/\(∀x∈c.keys.take j,(λk=>inB k.size 1 64) x=true)/\Later w1 wx) (λvi _=>nK - (intOf vi).toNat)
       case atStart=>exact⟨0,by omega,rfl,by simp,hl⟩
       case round=>
        obtain⟨j,hj,rfl,hok,hl⟩:=hrel;have k0:=M0.out _ hl;have kk:=S1.out _ hl;by_cases hlt:j<nK
        ·obtain⟨b,o,hao,hb',hcc⟩:=Zz (r2.out _ hl) (show j<c.keys.length by rw[K0.out];exact hlt);have j0:=EB (p:=(λk=>inB k.size 1 64)) (show j<c.keys.length by rw[K0.out];exact hlt) hok;have b0:=List.getElem_mem (show j<c.keys.length by rw[K0.out];exact hlt)
         obtain⟨x,hx⟩:∃ x,c.keys[j]'(by rw[K0.out];exact hlt)=x:=⟨_,rfl⟩
         rw[hx]at hcc j0 b0;have o0:=Hd j0
         have a0:=Hd (λ(hw:(λk=>inB k.size 1 64) x=false) (w':World) (k:Later w1 w')=>f0.out w' false (show JN c=false by
          unfold JN Cfg.textsB
          rw[show c.keys.all ((λk=>inB k.size 1 64))=false from JI b0 hw];simp) k)
         have e0:=hcc 0 (by omega);simp only[keyC,List.getElem?_cons_zero,List.getElem?_cons_succ,Nat.add_zero,Nat.mul_one]at e0;subst hao;clear hcc hb' hx hok j0 b0;have c0:=Hd (λ(w':World)=>Zv w' (x.size:Int) 1 64)
         obtain⟨b1,h1'⟩:∃ b,inB (x.size:Int) 1 64=b:=⟨_,rfl⟩
         rw[h1']at c0;have W1:=Hd h1';have HL:=Hd hl;clear hl h1';cases b1
         ·go_wp2_with (first
           |(go_at_call 25;(with_reducible refine(c0.out _).mono ?_);rintro e w9 ⟨rfl,hw9⟩;subst hw9)
           |fail)
          (try go_ret)
          exact a0.out W1.out _ HL.out
         ·go_wp2_with (first
           |(go_at_call 25;(with_reducible refine(c0.out _).mono ?_);rintro e w9 ⟨rfl,hw9⟩;subst hw9)
           |fail)
          exact⟨⟨j+1,by omega,by simp,o0.out W1.out,HL.out⟩,by simp only[intOf];omega⟩
        ·have q0:nK=j:=by omega
         subst q0;rw[List.take_of_length_le (by rw[K0.out];exact Nat.le_refl _)]at hok;have k2:=Hd hok;clear hok
         go_wp2_with fail
         go_loopw [15] (λvi wx=>∃ j:Nat,j<=lg.size/\vi=.int .i64 (j:Int)/\(∀x∈lg.data.toList.take j,(decide (x.toNat<33) || decide (126<x.toNat))=false)/\Later w1 wx) (λvi _=>lg.size - (intOf vi).toNat)
         case atStart=>exact⟨0,by omega,rfl,by simp,hl⟩
         case round=>
          obtain⟨j,hj,rfl,hok,hl⟩:=hrel;have k14:=N1.out _ hl;by_cases hlt:j<lg.size
          ·have g1:j<lg.data.toList.length:=by rw[UE];exact hlt
           have M1:=Zs g1;have K1:=Zeg lg j hlt;have hg:lg.data.toList.getD j 0=lg.data.toList[j]:=by rw[List.getD_eq_getElem?_getD,List.getElem?_eq_getElem g1];rfl
           have b0:=List.getElem_mem g1;rw[hg]at K1
           obtain⟨u,hu⟩:∃ u,lg.data.toList[j]=u:=⟨_,rfl⟩
           rw[hu]at K1 M1 b0
           obtain⟨z,hz⟩:∃ z:Int,(u.toNat:Int)=z:=⟨_,rfl⟩
           rw[hz]at K1;have t2:=Hd M1;have T0:=Hd hok;have HMEM:=Hd b0;have HZ:=Hd hz;have HL:=Hd hl
           have a0:=Hd (λ(hw:(decide (u.toNat<33) || decide (126<u.toNat))=true) (w':World) (k:Later w1 w')=>f0.out w' false (show JN c=false by
            unfold JN Cfg.textsB
            rw[show oddB c.login=true by rw[j2.out];exact List.any_eq_true.2 ⟨u,b0,hw⟩];simp) k)
           clear M1 hok b0 hz hl hg hu g1;by_cases q1:z<33
           ·have d1:decide (z<33)=true:=decide_eq_true q1;have W0:=Hd q1;clear q1
            go_wp2_with fail
            (try go_ret)
            exact a0.out (by have:=W0.out;have:=HZ.out;rw[decide_eq_true (show u.toNat<33 by omega)];rfl) _ HL.out
           ·have d1:decide (z<33)=false:=decide_eq_false q1;by_cases q2:126<z
            ·have d2:decide (126<z)=true:=decide_eq_true q2;have W0:=Hd q2;clear q1 q2
             go_wp2_with fail
             (try go_ret)
             exact a0.out (by have:=W0.out;have:=HZ.out;rw[decide_eq_true (show 126<u.toNat by omega),Bool.or_true]) _ HL.out
            ·have d2:decide (126<z)=false:=decide_eq_false q2;have W0:=Hd (And.intro q1 q2);clear q1 q2
             go_wp2_with fail
             refine⟨⟨j+1,by omega,by simp,λx hx=>?_,HL.out⟩,by simp only[intOf];omega⟩;rw[t2.out,List.mem_append,List.mem_singleton]at hx;rcases hx with hx|rfl
             ·exact T0.out x hx
             ·have:=W0.out;have:=HZ.out;rw[decide_eq_false (show ¬x.toNat<33 by omega),decide_eq_false (show ¬126<x.toNat by omega)];rfl
          ·have q0:j=lg.size:=by omega
           subst q0;rw[List.take_of_length_le (by rw[UE];exact Nat.le_refl _)]at hok;have a1:oddB lg=false:=List.any_eq_false.2 (λx hx=>by rw[hok x hx];decide);have HL:=Hd hl;have kP:=r1.out _ hl;have kO:=f2.out _ hl;have kR:=P1.out _ hl;have kK:=S1.out _ hl;have k0:=M0.out _ hl;have c0:=Hd (λ(w':World)=>Zv w' (nP:Int) 1 8);have d0:=Hd (λ(w':World)=>Zv w' (lg.size:Int) 1 16)
           obtain⟨b1,h1'⟩:∃ b,inB (nP:Int) 1 8=b:=⟨_,rfl⟩
           obtain⟨b2,h2'⟩:∃ b,inB (lg.size:Int) 1 16=b:=⟨_,rfl⟩
           have R0:Hid (JN c=(b1&&(decide (nO≤16)&&(decide (nR≤32)&&(decide (nK=N)&&b2))))):=Hd (by
            unfold JN Cfg.partsB Cfg.portsB Cfg.rulesB Cfg.textsB;rw[j2.out,List.all_eq_true.2 v1.out,List.all_eq_true.2 l2.out,List.all_eq_true.2 A2.out,List.all_eq_true.2 k2.out,a1,h0.out,P0.out,I0.out,K0.out,y0.out,h1',h2',show decide ((nK:Int)=(N:Int))=decide (nK=N) from decide_eq_decide.2 (by omega)]
            simp[Bool.and_assoc])
           rw[h1']at c0;rw[h2']at d0;clear hok a1 hl h1' h2';cases b1
           ·go_wp2_with (first
             |(go_at_call 25;(first|(with_reducible refine(c0.out _).mono ?_)|(with_reducible refine(d0.out _).mono ?_));rintro e w9 ⟨rfl,hw9⟩;subst hw9)
             |fail)
            (try go_ret)
            exact f0.out _ false (by rw[R0.out];rfl) HL.out
           ·by_cases q1:nO<=16
            ·have c1:decide ((nO:Int)<=16)=true:=decide_eq_true (by omega);have d1:=decide_eq_true q1;by_cases q2:nR<=32
             ·have c2:decide ((nR:Int)<=32)=true:=decide_eq_true (by omega);have d2:=decide_eq_true q2;by_cases q3:nK=N
              ·have c3:((nK:Int)==(N:Int))=true:=by simp;omega
               have c4:decide ((nK:Int)=(N:Int))=true:=decide_eq_true (by omega);have c5:(nK==N)=true:=by simpa using q3
               have d3:=decide_eq_true q3;have HD:=Hd (And.intro d1 (And.intro d2 d3));clear q1 q2 q3
               go_wp2_with (first
                |(go_at_call 25;(first|(with_reducible refine(c0.out _).mono ?_)|(with_reducible refine(d0.out _).mono ?_));rintro e w9 ⟨rfl,hw9⟩;subst hw9)
                |fail)
               (try go_ret)
               exact f0.out _ b2 (by rw[R0.out,HD.out.1,HD.out.2.1,HD.out.2.2];rfl) HL.out
              ·have c3:((nK:Int)==(N:Int))=false:=by simp;omega
               have c4:decide ((nK:Int)=(N:Int))=false:=decide_eq_false (by omega);have c5:(nK==N)=false:=by simpa using q3
               have d3:=decide_eq_false q3;have HD:=Hd d3;clear q1 q2 q3
               go_wp2_with (first
                |(go_at_call 25;(first|(with_reducible refine(c0.out _).mono ?_)|(with_reducible refine(d0.out _).mono ?_));rintro e w9 ⟨rfl,hw9⟩;subst hw9)
                |fail)
               (try go_ret)
               exact f0.out _ false (by rw[R0.out];rw[HD.out];simp) HL.out
             ·have c2:decide ((nR:Int)<=32)=false:=decide_eq_false (by omega);have d2:=decide_eq_false q2;have HD:=Hd d2;clear q1 q2
              go_wp2_with (first
               |(go_at_call 25;(first|(with_reducible refine(c0.out _).mono ?_)|(with_reducible refine(d0.out _).mono ?_));rintro e w9 ⟨rfl,hw9⟩;subst hw9)
               |fail)
              (try go_ret)
              exact f0.out _ false (by rw[R0.out];rw[HD.out];simp) HL.out
            ·have c1:decide ((nO:Int)<=16)=false:=decide_eq_false (by omega);have d1:=decide_eq_false q1;have HD:=Hd d1;clear q1
             go_wp2_with (first
              |(go_at_call 25;(first|(with_reducible refine(c0.out _).mono ?_)|(with_reducible refine(d0.out _).mono ?_));rintro e w9 ⟨rfl,hw9⟩;subst hw9)
              |fail)
             (try go_ret)
             exact f0.out _ false (by rw[R0.out];rw[HD.out];simp) HL.out
