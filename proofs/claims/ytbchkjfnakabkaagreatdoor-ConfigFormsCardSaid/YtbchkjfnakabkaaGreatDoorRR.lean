import Derived.Test.YtbchkjfnakabkaaGreatDoorRFx
import Derived.Test.YtbchkjfnakabkaaGreatDoorRLx
import Derived.Test.YtbchkjfnakabkaaGreatDoorQd
set_option linter.unusedSimpArgs false
set_option linter.unusedVariables false
set_option maxHeartbeats 16000000
set_option maxRecDepth 100000
namespace Go.Proofs.YtbchkjfnakabkaaGreatDoor
open Go.RowKit PX PC
noncomputable def Jx(c:Cfg):Bool:=c.partsB&&(c.portsB&&(c.rulesB&&c.textsB))
theorem Jt{α:Type}{p:α→Bool}{l:List α}{x:α}(hx:x∈l)(h:p x=false):l.all p=false:=List.all_eq_false.2 ⟨x,hx,by rw[h];decide⟩
theorem Ep{α:Type}{p:α→Bool}{l:List α}{j:Nat}(hj:j<l.length)(h:∀ x∈l.take j,p x=true)(hx:p l[j]=true):∀ x∈l.take (j+1),p x=true:=by
 intro x hm;rw[Zx hj,List.mem_append]at hm;rcases hm with hm|hm
 ·exact h x hm
 ·rw[List.mem_singleton.1 hm];exact hx
theorem DX{c:Cfg}{M:Mat}{N:Nat}{a b:Int}(hM:∀ a b:Nat,a<N→b<N→M a b=rchB c.flows a b)(hN:c.levels=N)(h1:c.lvl a=true)(h2:c.lvl b=true):flE M N a b=rchB c.flows a b:=by
 unfold Cfg.lvl at h1 h2;rw[hN,ZR]at h1 h2;obtain⟨x,rfl⟩:=Int.eq_ofNat_of_zero_le h1.1;obtain⟨y,rfl⟩:=Int.eq_ofNat_of_zero_le h2.1;unfold flE;rw[Qr (by omega),Qr (by omega),Bool.true_and,Bool.true_and];exact hM x y (by omega) (by omega)
theorem JZ{c:Cfg}{a b:Int}(h:YX c ⟨a,b⟩=true):c.lvl a=true:=by
 unfold YX at h;rw[Bool.and_eq_true]at h;exact h.2
theorem ZeF(w:World)(S:ByteArray):Calls Tryz.prog 95 #[.string S] w (Zeg S w):=by
 refine(ZaM w S).mono fun e w' ⟨hb,h⟩=>?_
 rcases h with⟨X,hp,rfl,-⟩|⟨n,hp,rfl⟩
 ·exact⟨X,0,rfl,by rw[GQ.2 ⟨_,hp⟩];rfl,hb⟩
 ·refine⟨_,n,rfl,?_,hb⟩;rw[UY.2 ⟨_,hp⟩];rcases GM hp with rfl|rfl<;>rfl
theorem ZdA(S:ByteArray)(i:Nat)(hi:i<S.size)(w:World):(Instr.index 9 (.string S) (.int .i64 i)).run Tryz.prog w=.ok (.int .u8 ((S.data.toList.getD i 0).toNat:Int)) w:=by
 have hl:i<S.data.toList.length:=by rw[Array.length_toList];exact hi
 have h:(0:Int)≤(i:Int)∧(i:Int)<(S.size:Int):=by omega
 rw[run_index_string (h:=Tryz.underlying9),dif_pos h,List.getD_eq_getElem?_getD,List.getElem?_eq_getElem hl];rfl
theorem Zck(w:World)(c:Cfg)(v:V7)(lb N:Nat)(M:Mat)(h:RowsOf w c v)(hI:CfgI c)(hN:c.levels=N)(h1:1≤N)(h8:N≤8)(hD:DocLat w lb N M)(hM:∀ a b:Nat,a<N→b<N→M a b=rchB c.flows a b) :
 Calls Tryz.prog 72 #[.agg (cfgA c v),.pointer (some ⟨lb,0,none⟩)] w fun e w'=>e=.returned (.bool (Jx c))∧Later w w':=by
 obtain⟨aP,pP,eP,gP1,gP2,gP3⟩:=Zm h.rP;have hrP:=h.rP;rw[eP]at hrP
 obtain⟨nP,hnP⟩:∃ n,c.parts.length=n:=⟨_,rfl⟩
 obtain⟨aO,pO,eO,gO1,gO2,gO3⟩:=Zm h.rO;have hrO:=h.rO;rw[eO]at hrO
 obtain⟨nO,hnO⟩:∃ n,c.ports.length=n:=⟨_,rfl⟩
 obtain⟨aR,pR,eR,gR1,gR2,gR3⟩:=Zm h.rR;have hrR:=h.rR;rw[eR]at hrR
 obtain⟨nR,hnR⟩:∃ n,c.rules.length=n:=⟨_,rfl⟩
 obtain⟨aK,pK,eK,gK1,gK2,gK3⟩:=Zm h.rK;have hrK:=h.rK;rw[eK]at hrK
 obtain⟨nK,hnK⟩:∃ n,c.keys.length=n:=⟨_,rfl⟩
 obtain⟨p,hp⟩:∃ p,w.heap.size=p:=⟨_,rfl⟩
 obtain⟨w1,hw1⟩:∃ w1,w.alloc (.cells (cfgA c v) 32)=w1:=⟨_,rfl⟩
 have hl1':Later w w1:=by rw[←hw1];exact(Later.refl w).alloc _
 have hv1:VarAt w1 p c v:=by unfold VarAt;rw[←hw1,←hp];exact Ze w _
 have HK0:=Hd (fun(w':World) (k:Later w1 w')=>(show w'.cell? ⟨p,0,none⟩=some (.int .i64 (N:Int)) by rw[Zb (hv1.later k) 0,←hN];rfl));have HKP:=Hd (fun(w':World) (k:Later w1 w')=>(show w'.cell? ⟨p,2,none⟩=some (.slice aP nP pP) by rw[Zb (hv1.later k) 2,←hnP,←eP];rfl));have HRP:=Hd (fun(w':World) (k:Later w1 w')=>(show RowAt w' 2 (.slice aP nP pP) (c.parts.map X9) by rw[←hnP];exact hrP.later (hl1'.trans k)));have HNP:=Hd hnP;have hbP:nP≤140737488355328:=by omega
 have HKO:=Hd (fun(w':World) (k:Later w1 w')=>(show w'.cell? ⟨p,4,none⟩=some (.slice aO nO pO) by rw[Zb (hv1.later k) 4,←hnO,←eO];rfl));have HRO:=Hd (fun(w':World) (k:Later w1 w')=>(show RowAt w' 5 (.slice aO nO pO) (c.ports.map porC) by rw[←hnO];exact hrO.later (hl1'.trans k)));have HNO:=Hd hnO;have hbO:nO≤140737488355328:=by omega
 have HKR:=Hd (fun(w':World) (k:Later w1 w')=>(show w'.cell? ⟨p,12,none⟩=some (.slice aR nR pR) by rw[Zb (hv1.later k) 12,←hnR,←eR];rfl));have HRR:=Hd (fun(w':World) (k:Later w1 w')=>(show RowAt w' 5 (.slice aR nR pR) (c.rules.map ruC) by rw[←hnR];exact hrR.later (hl1'.trans k)));have HNR:=Hd hnR;have hbR:nR≤140737488355328:=by omega
 have HKK:=Hd (fun(w':World) (k:Later w1 w')=>(show w'.cell? ⟨p,13,none⟩=some (.slice aK nK pK) by rw[Zb (hv1.later k) 13,←hnK,←eK];rfl));have HRK:=Hd (fun(w':World) (k:Later w1 w')=>(show RowAt w' 1 (.slice aK nK pK) (c.keys.map keyC) by rw[←hnK];exact hrK.later (hl1'.trans k)));have HNK:=Hd hnK;have hbK:nK≤140737488355328:=by omega
 have HLV:=Hd hN
 obtain⟨lg,hlg⟩:∃ x,c.login=x:=⟨_,rfl⟩
 have hLb:lg.size≤9223372036854775807:=by rw[←hlg];exact hI.login
 have HLG:=Hd hlg;have HK14:=Hd (fun(w':World) (k:Later w1 w')=>(show w'.cell? ⟨p,14,none⟩=some (.string lg) by rw[Zb (hv1.later k) 14,←hlg];rfl));have HMM:=Hd hM;have HII:=Hd hI;have HFL:=Hd (fun(w':World) (k:Later w1 w') (a b:Int)=>GK w' lb N M (hD.later (hl1'.trans k)) a b);have HW1:=Hd hw1;have HP:=Hd hp
 obtain⟨PT,hPT⟩:∃ PT,(fun(e:Ending) (w':World)=>e=.returned (.bool (Jx c))∧Later w w')=PT:=⟨_,rfl⟩
 rw[hPT];have HEND:=Hd (fun(w':World) (b:Bool) (hb:Jx c=b) (k:Later w1 w')=>(show PT (.returned (.bool b)) w' by rw[←hPT];exact⟨by rw[hb],hl1'.trans k⟩));have hwl:IntKind.i64.wrap ((N:Int) - 1)=(N:Int) - 1:=by rw[IntKind.wrap_i64];omega
 have hwp:IntKind.i64.wrap ((nP:Int) - 1)=(nP:Int) - 1:=by rw[IntKind.wrap_i64];omega
 clear h hw1 hp hl1' hv1 hN hM hI hD hPT hlg hrP hnP eP gP1 gP2 gP3 hrO hnO eO gO1 gO2 gO3 hrR hnR eR gR1 gR2 gR3 hrK hnK eK gK1 gK2 gK3
 go_enter Tryz.func72,Tryz.ntmps72
 go_wp2_with fail
 rw[HP.out,HW1.out]
 go_loopw [5] (fun vi wx=>∃ j:Nat,j≤nP∧vi=.int .i64 (j:Int)∧(∀x∈c.parts.take j,YX c x=true)∧Later w1 wx) (fun vi _=>nP - (intOf vi).toNat)
 case atStart=>exact⟨0,by omega,rfl,by simp,Later.refl _⟩
 case round=>
  obtain⟨j,hj,rfl,hok,hl⟩:=hrel;have k0:=HK0.out _ hl;have kk:=HKP.out _ hl;by_cases hlt:j<nP
  ·obtain⟨b,o,hao,hb',hcc⟩:=ZG (HRP.out _ hl) (show j<c.parts.length by rw[HNP.out];exact hlt);have hnx:=Ep (p:=YX c) (show j<c.parts.length by rw[HNP.out];exact hlt) hok;have hmem:=List.getElem_mem (show j<c.parts.length by rw[HNP.out];exact hlt)
   obtain⟨x,hx⟩:∃ x,c.parts[j]'(by rw[HNP.out];exact hlt)=x:=⟨_,rfl⟩
   rw[hx]at hcc hnx hmem;have HNX:=Hd hnx
   have HBAD:=Hd (fun(hw:YX c x=false) (w':World) (k:Later w1 w')=>HEND.out w' false (show Jx c=false by
    unfold Jx Cfg.partsB
    rw[show c.parts.all (YX c)=false from Jt hmem hw];simp) k)
   obtain⟨x0,x1⟩:=x;have e0:=hcc 0 (by omega);have e1:=hcc 1 (by omega);simp only[X9,List.getElem?_cons_zero,List.getElem?_cons_succ,Nat.add_zero]at e0 e1;subst hao;clear hcc hb' hx hok hnx hmem;have HB1:=Hd (fun(w':World)=>Zw w' x1 1 16);have HB2:=Hd (fun(w':World)=>Zw w' x0 0 ((N:Int) - 1))
   obtain⟨b1,h1'⟩:∃ b,inB x1 1 16=b:=⟨_,rfl⟩
   obtain⟨b2,h2'⟩:∃ b,inB x0 0 ((N:Int) - 1)=b:=⟨_,rfl⟩
   have HOK:Hid (YX c ⟨x0,x1⟩=(b1&&b2)):=Hd (by rw[←h1',←h2',←HLV.out];rfl);rw[h1']at HB1;rw[h2']at HB2;clear h1' h2';have hdn:decide (j<nP)=true:=decide_eq_true hlt;have HQ:=Hd hl
   go_upto_region 4 with fail
   cases b1
   ·go_quiet ((first
     |(go_at_call 25;exact Calls.quiet_of_same (HB1.out _))
     |fail))
    go_wp2_with fail
    (try go_ret)
    exact HBAD.out (by rw[HOK.out];rfl) _ (Later.drewN HQ.out _)
   ·cases b2
    ·go_quiet ((first
      |(go_at_call 25;(first|with_reducible exact Calls.quiet_of_same (HB1.out _)|with_reducible exact Calls.quiet_of_same (HB2.out _)))
      |fail))
     go_wp2_with fail
     (try go_ret)
     exact HBAD.out (by rw[HOK.out];rfl) _ (Later.drewN HQ.out _)
    ·go_quiet ((first
      |(go_at_call 25;(first|with_reducible exact Calls.quiet_of_same (HB1.out _)|with_reducible exact Calls.quiet_of_same (HB2.out _)))
      |fail))
     go_wp2_with fail
     exact⟨⟨j+1,by omega,by simp,HNX.out (by rw[HOK.out];rfl),Later.drewN HQ.out _⟩,by simp only[intOf];omega⟩
  ·have hjn:nP=j:=by omega
   subst hjn;rw[List.take_of_length_le (by rw[HNP.out];exact Nat.le_refl _)]at hok;have HAP:=Hd hok;clear hok
   go_wp2_with fail
   go_loopw [6] (fun vi wx=>∃ j:Nat,j≤nO∧vi=.int .i64 (j:Int)∧(∀x∈c.ports.take j,Vl c x=true)∧Later w1 wx) (fun vi _=>nO - (intOf vi).toNat)
   case atStart=>exact⟨0,by omega,rfl,by simp,hl⟩
   case round=>
    obtain⟨j,hj,rfl,hok,hl⟩:=hrel;have k0:=HK0.out _ hl;have kk:=HKO.out _ hl;by_cases hlt:j<nO
    ·obtain⟨b,o,hao,hb',hcc⟩:=ZG (HRO.out _ hl) (show j<c.ports.length by rw[HNO.out];exact hlt);have hnx:=Ep (p:=Vl c) (show j<c.ports.length by rw[HNO.out];exact hlt) hok;have hmem:=List.getElem_mem (show j<c.ports.length by rw[HNO.out];exact hlt)
     obtain⟨x,hx⟩:∃ x,c.ports[j]'(by rw[HNO.out];exact hlt)=x:=⟨_,rfl⟩
     rw[hx]at hcc hnx hmem;have HNX:=Hd hnx
     have HBAD:=Hd (fun(hw:Vl c x=false) (w':World) (k:Later w1 w')=>HEND.out w' false (show Jx c=false by
      unfold Jx Cfg.portsB
      rw[show c.ports.all (Vl c)=false from Jt hmem hw];simp) k)
     obtain⟨x0,x1,x2,x3,x4⟩:=x;have e0:=hcc 0 (by omega);have e1:=hcc 1 (by omega);have e2:=hcc 2 (by omega);have e3:=hcc 3 (by omega);have e4:=hcc 4 (by omega);simp only[porC,List.getElem?_cons_zero,List.getElem?_cons_succ,Nat.add_zero]at e0 e1 e2 e3 e4;subst hao;clear hcc hb' hx hok hnx hmem;have HB1:=Hd (fun(w':World)=>Zw w' x1 0 ((nP:Int) - 1));have HB2:=Hd (fun(w':World)=>Zw w' x2 0 ((nP:Int) - 1))
     obtain⟨b1,h1'⟩:∃ b,c.prt x1=b:=⟨_,rfl⟩
     obtain⟨b2,h2'⟩:∃ b,c.prt x2=b:=⟨_,rfl⟩
     have HQB:=Hd (And.intro h1' h2');rw[show inB x1 0 ((nP:Int) - 1)=b1 by rw[←h1',←HNP.out];rfl]at HB1;rw[show inB x2 0 ((nP:Int) - 1)=b2 by rw[←h2',←HNP.out];rfl]at HB2;clear h1' h2'
     go_upto_region 10 with fail
     obtain⟨bx,hbx⟩:∃ g,wr.heap.size=g:=⟨_,rfl⟩
     obtain⟨wy,hwy⟩:∃ y,wr.alloc (.cells #[.int .i64 x0,.int .i64 x1,.int .i64 x2,.int .i64 x3,.int .i64 x4] 51)=y:=⟨_,rfl⟩
     rw[hbx,hwy];have hby:wy.heap[bx]?=some (.cells #[.int .i64 x0,.int .i64 x1,.int .i64 x2,.int .i64 x3,.int .i64 x4] 51 (0,0)):=by rw[←hwy];exact Zt hbx
     have hly:Later w1 wy:=by rw[←hwy];exact hl.alloc _
     have HQ:=Hd hly
     have HBY:=Hd hby;have y1:=Zb hby 1;have y2:=Zb hby 2;have kp:=HKP.out _ hly;clear hwy hbx hl kk k0 e0 e1 e2 e3 e4 hby hly;cases b1
     ·go_quiet ((first
       |(go_at_call 25;with_reducible exact Calls.quiet_of_same (HB1.out _))
       |fail))
      go_wp2_with fail
      (try go_ret)
      exact HBAD.out (by simp[Vl,HQB.out.1]) _ (Later.drewN HQ.out _)
     ·cases b2
      ·go_quiet ((first
        |(go_at_call 25;(first|with_reducible exact Calls.quiet_of_same (HB1.out _)|with_reducible exact Calls.quiet_of_same (HB2.out _)))
        |fail))
       go_wp2_with fail
       (try go_ret)
       exact HBAD.out (by simp[Vl,HQB.out.1,HQB.out.2]) _ (Later.drewN HQ.out _)
      ·have n1:=HQB.out.1;have n2:=HQB.out.2;unfold Cfg.prt at n1 n2;rw[HNP.out,ZR]at n1 n2;obtain⟨f,hf⟩:=Int.eq_ofNat_of_zero_le n1.1;obtain⟨t,ht⟩:=Int.eq_ofNat_of_zero_le n2.1;have hfl:f<nP:=by omega
       have htl:t<nP:=by omega
       obtain⟨bP,oP,haP,-, hcf⟩:=ZG (HRP.out _ HQ.out) (show f<c.parts.length by rw[HNP.out];exact hfl);obtain⟨bP2,oP2,haP2,-, hct⟩:=ZG (HRP.out _ HQ.out) (show t<c.parts.length by rw[HNP.out];exact htl);have hlf:c.levelOf x1=(c.parts[f]'(by rw[HNP.out];exact hfl)).level:=by unfold Cfg.levelOf;rw[hf,Int.toNat_natCast,List.getElem?_eq_getElem (by rw[HNP.out];exact hfl)];rfl
       have hlt2:c.levelOf x2=(c.parts[t]'(by rw[HNP.out];exact htl)).level:=by unfold Cfg.levelOf;rw[ht,Int.toNat_natCast,List.getElem?_eq_getElem (by rw[HNP.out];exact htl)];rfl
       have hpf:=HAP.out _ (List.getElem_mem (show f<c.parts.length by rw[HNP.out];exact hfl));have hpt:=HAP.out _ (List.getElem_mem (show t<c.parts.length by rw[HNP.out];exact htl))
       obtain⟨pf,hpf1⟩:∃ x,c.parts[f]'(by rw[HNP.out];exact hfl)=x:=⟨_,rfl⟩
       obtain⟨pt,hpt1⟩:∃ x,c.parts[t]'(by rw[HNP.out];exact htl)=x:=⟨_,rfl⟩
       rw[hpf1]at hcf hlf hpf;rw[hpt1]at hct hlt2 hpt;obtain⟨lf,gf⟩:=pf;obtain⟨lt,gt⟩:=pt;have ef:=hcf 0 (by omega);have et:=hct 0 (by omega);simp only[X9,List.getElem?_cons_zero,Nat.add_zero]at ef et;rw[haP]at haP2;cases haP2;subst haP;subst hf ht;have HLV2:=Hd (And.intro hlf hlt2);have HPP:=Hd (And.intro hpf hpt);have hdn1:decide (f<nP)=true:=decide_eq_true hfl;have hdn2:decide (t<nP)=true:=decide_eq_true htl;have HFX:=Hd (fun(w':World) (k:Later wy w')=>HFL.out w' (HQ.out.trans k) lf lt)
       obtain⟨fl,hfx⟩:∃ b,flE M N lf lt=b:=⟨_,rfl⟩
       rw[hfx]at HFX;have HFE:=Hd hfx;clear hcf hct hlf hlt2 hpf hpt hpf1 hpt1 n1 n2 hfx;by_cases e:f=t
       ·have hq:((f:Int)==(t:Int))=true:=by rw[e];simp
        have HE:=Hd e;clear e
        go_quiet ((first
         |(go_at_call 25;(first|with_reducible exact Calls.quiet_of_same (HB1.out _)|with_reducible exact Calls.quiet_of_same (HB2.out _)))
         |fail))
        go_wp2_with fail
        (try go_ret)
        exact HBAD.out (by have:=HE.out;subst this;simp[Vl]) _ (Later.drewN HQ.out _)
       ·have hq:((f:Int)==(t:Int))=false:=by simp;omega
        have HE:=Hd e;clear e;cases fl
        ·go_quiet ((first
          |(go_at_call 25;(first|with_reducible exact Calls.quiet_of_same (HB1.out _)|with_reducible exact Calls.quiet_of_same (HB2.out _)))
          |(go_at_call 94;with_reducible exact Calls.quiet_of_same (HFX.out _ (Later.drewN (Later.refl _) _)))
          |fail))
         go_wp2_with fail
         (try go_ret)
         have h3:=DX HMM.out HLV.out (JZ HPP.out.1) (JZ HPP.out.2);rw[HFE.out]at h3;exact HBAD.out (by simp[Vl,HLV2.out.1,HLV2.out.2,h3.symm]) _ (Later.drewN HQ.out _)
        ·have HBK:=Hd (fun(w':World)=>Zw w' x0 0 1);have HBS:=Hd (fun(w':World)=>Zw w' x3 1 255);have HBD:=Hd (fun(w':World)=>Zw w' x4 1 8)
         obtain⟨K,hK⟩:∃ b,inB x0 0 1=b:=⟨_,rfl⟩
         obtain⟨S3,hS3⟩:∃ b,inB x3 1 255=b:=⟨_,rfl⟩
         obtain⟨D,hD⟩:∃ b,inB x4 1 8=b:=⟨_,rfl⟩
         have HPO:Hid (Vl c ⟨x0,(f:Int),(t:Int),x3,x4⟩=(K&&(S3&&(D&&(decide (x0=1) || decide (x4=1)))))):=Hd (by
          have h3:=DX HMM.out HLV.out (JZ HPP.out.1) (JZ HPP.out.2);rw[HFE.out]at h3;have hne:¬ (f:Int)=(t:Int):=by have:=HE.out;omega
          simp[Vl,HQB.out.1,HQB.out.2,HLV2.out.1,HLV2.out.2,h3.symm,hK,hS3,hD,hne,HE.out])
         have HKD:=Hd (And.intro hK hD);rw[hK]at HBK;rw[hS3]at HBS;rw[hD]at HBD;clear hK hS3 hD
         go_upto_region 10 with fail
         go_quiet ((first
          |(go_at_call 25;(first|with_reducible exact Calls.quiet_of_same (HB1.out _)|with_reducible exact Calls.quiet_of_same (HB2.out _)))
          |(go_at_call 94;with_reducible exact Calls.quiet_of_same (HFX.out _ (Later.drewN (Later.refl _) _)))
          |fail))
         generalize hW:World.drewN _ _=W;have hlW:Later wy W:=by rw[←hW];exact Later.drewN (Later.refl _) _
         have hbW:=hlW.block HBY.out;have z0:=Zb hbW 0;have z3:=Zb hbW 3;have z4:=Zb hbW 4;have HLW:=Hd (HQ.out.trans hlW);clear hW hlW hbW y1 y2 kp ef et;cases K
         ·go_wp2_with (first
           |(go_at_call 25;(first|(with_reducible refine(HBK.out _).mono ?_)|(with_reducible refine(HBS.out _).mono ?_)|(with_reducible refine(HBD.out _).mono ?_));rintro e w3 ⟨rfl,hw3⟩;subst hw3)
           |fail)
          (try go_ret)
          exact HBAD.out (by rw[HPO.out];rfl) _ HLW.out
         ·cases S3
          ·go_wp2_with (first
            |(go_at_call 25;(first|(with_reducible refine(HBK.out _).mono ?_)|(with_reducible refine(HBS.out _).mono ?_)|(with_reducible refine(HBD.out _).mono ?_));rintro e w3 ⟨rfl,hw3⟩;subst hw3)
            |fail)
           (try go_ret)
           exact HBAD.out (by rw[HPO.out];rfl) _ HLW.out
          ·cases D
           ·go_wp2_with (first
             |(go_at_call 25;(first|(with_reducible refine(HBK.out _).mono ?_)|(with_reducible refine(HBS.out _).mono ?_)|(with_reducible refine(HBD.out _).mono ?_));rintro e w3 ⟨rfl,hw3⟩;subst hw3)
             |fail)
            (try go_ret)
            exact HBAD.out (by rw[HPO.out];rfl) _ HLW.out
           ·have hk1:=ZR.1 HKD.out.1;have hd1:=ZR.1 HKD.out.2;by_cases u0:x0=0
            ·have u1:(x0==0)=true:=by simpa using u0
             by_cases u2:1<x4
             ·have u3:decide (1<x4)=true:=decide_eq_true u2;have HX:=Hd (show(decide (x0=1) || decide (x4=1))=false by rw[decide_eq_false (by omega),decide_eq_false (by omega)];rfl);clear u0 u2 hk1 hd1
              go_wp2_with (first
               |(go_at_call 25;(first|(with_reducible refine(HBK.out _).mono ?_)|(with_reducible refine(HBS.out _).mono ?_)|(with_reducible refine(HBD.out _).mono ?_));rintro e w3 ⟨rfl,hw3⟩;subst hw3)
               |fail)
              (try go_ret)
              exact HBAD.out (by rw[HPO.out,HX.out];rfl) _ HLW.out
             ·have u3:decide (1<x4)=false:=decide_eq_false u2;have HX:=Hd (show(decide (x0=1) || decide (x4=1))=true by rw[show decide (x4=1)=true from decide_eq_true (by omega),Bool.or_true]);clear u0 u2 hk1 hd1
              go_wp2_with (first
               |(go_at_call 25;(first|(with_reducible refine(HBK.out _).mono ?_)|(with_reducible refine(HBS.out _).mono ?_)|(with_reducible refine(HBD.out _).mono ?_));rintro e w3 ⟨rfl,hw3⟩;subst hw3)
               |fail)
              exact⟨⟨j+1,by omega,by simp,HNX.out (by rw[HPO.out,HX.out];rfl),HLW.out⟩,by simp only[intOf];omega⟩
            ·have u1:(x0==0)=false:=by simpa using u0
             have HX:=Hd (show(decide (x0=1) || decide (x4=1))=true by rw[show decide (x0=1)=true from decide_eq_true (by omega),Bool.true_or]);clear u0 hk1 hd1
             go_wp2_with (first
              |(go_at_call 25;(first|(with_reducible refine(HBK.out _).mono ?_)|(with_reducible refine(HBS.out _).mono ?_)|(with_reducible refine(HBD.out _).mono ?_));rintro e w3 ⟨rfl,hw3⟩;subst hw3)
              |fail)
             exact⟨⟨j+1,by omega,by simp,HNX.out (by rw[HPO.out,HX.out];rfl),HLW.out⟩,by simp only[intOf];omega⟩
    ·have hjn:nO=j:=by omega
     subst hjn;rw[List.take_of_length_le (by rw[HNO.out];exact Nat.le_refl _)]at hok;have HAO:=Hd hok;clear hok
     go_wp2_with fail
     go_loopw [8] (fun vi wx=>∃ j:Nat,j≤nR∧vi=.int .i64 (j:Int)∧(∀x∈c.rules.take j,ruOK c x=true)∧Later w1 wx) (fun vi _=>nR - (intOf vi).toNat)
     case atStart=>exact⟨0,by omega,rfl,by simp,hl⟩
     case round=>
      obtain⟨j,hj,rfl,hok,hl⟩:=hrel;have k0:=HK0.out _ hl;have kk:=HKR.out _ hl;by_cases hlt:j<nR
      ·obtain⟨b,o,hao,hb',hcc⟩:=ZG (HRR.out _ hl) (show j<c.rules.length by rw[HNR.out];exact hlt);have hnx:=Ep (p:=ruOK c) (show j<c.rules.length by rw[HNR.out];exact hlt) hok;have hmem:=List.getElem_mem (show j<c.rules.length by rw[HNR.out];exact hlt)
       obtain⟨x,hx⟩:∃ x,c.rules[j]'(by rw[HNR.out];exact hlt)=x:=⟨_,rfl⟩
       rw[hx]at hcc hnx hmem;have HNX:=Hd hnx
       have HBAD:=Hd (fun(hw:ruOK c x=false) (w':World) (k:Later w1 w')=>HEND.out w' false (show Jx c=false by
        unfold Jx Cfg.rulesB
        rw[show c.rules.all (ruOK c)=false from Jt hmem hw];simp) k)
       obtain⟨x0,x1,x2,x3,x4⟩:=x;have e0:=hcc 0 (by omega);have e1:=hcc 1 (by omega);have e2:=hcc 2 (by omega);have e3:=hcc 3 (by omega);have e4:=hcc 4 (by omega);simp only[ruC,List.getElem?_cons_zero,List.getElem?_cons_succ,Nat.add_zero]at e0 e1 e2 e3 e4;subst hao;clear hcc hb' hx hok hnx hmem;have HPT:=Hd ZeF;have HSZ:=Hd (fun(Y:RxA)=>show(#[.int .i64 0,.int .i64 0,.int .i64 0,.int .u64 0,.int .u64 0,.int .u64 0,.int .u64 0,.slice none 0 0]:Array Value).size=(Zh Y).size by rw[Zi];rfl)
       go_upto_region 18 with fail
       obtain⟨bx,hbx⟩:∃ g,wr.heap.size=g:=⟨_,rfl⟩
       obtain⟨wy,hwy⟩:∃ y,wr.alloc (.cells #[.int .i64 x0,.int .i64 x1,.int .i64 x2,.string x3,.string x4] 53)=y:=⟨_,rfl⟩
       rw[hbx,hwy];have hby:wy.heap[bx]?=some (.cells #[.int .i64 x0,.int .i64 x1,.int .i64 x2,.string x3,.string x4] 53 (0,0)):=by rw[←hwy];exact Zt hbx
       have hly:Later w1 wy:=by rw[←hwy];exact hl.alloc _
       have HQ:=Hd hly
       have HBY:=Hd hby;have y3:=Zb hby 3;clear hwy hbx hl kk k0 e0 e1 e2 e3 e4 hby hly
       go_upto_region 19 with(first
        |(go_at_call 95;(with_reducible refine(HPT.out _ x3).mono ?_);rintro e wq ⟨Y,n3,rfl,hq3,hlq⟩)
        |refine wpList_store_row rfl 141 (.tmp 10) (.tmp 142) rfl wq.heap.size (Zh Y) rfl rfl 141 _ (Ze wq _) (Zj Y) (HSZ.out Y) (Zl Y) ?_
        |fail)
       generalize hW:World.setRow _ _ _=w3;have hl3:Later wy w3:=by rw[←hW];exact YK (hlq.alloc _) hlq.size _
       have HL3:=Hd hl3;have y4:=Zb (hl3.block HBY.out) 4;clear hW hlq y3 hl3
       go_upto_region 20 with(first
        |(go_at_call 95;(with_reducible refine(HPT.out _ x4).mono ?_);rintro e wq ⟨Y,n4,rfl,hq4,hlq⟩)
        |refine wpList_store_row rfl 141 (.tmp 12) (.tmp 148) rfl wq.heap.size (Zh Y) rfl rfl 141 _ (Ze wq _) (Zj Y) (HSZ.out Y) (Zl Y) ?_
        |fail)
       generalize hW:World.setRow _ _ _=w5;have hl5:Later w3 w5:=by rw[←hW];exact YK (hlq.alloc _) hlq.size _
       have hl6:=HL3.out.trans hl5;have hb5:=hl6.block HBY.out;have z0:=Zb hb5 0;have z1:=Zb hb5 1;have z2:=Zb hb5 2;have z4:=Zb hb5 4;have k0:=HK0.out w5 (HQ.out.trans hl6);have HLW:=Hd (HQ.out.trans hl6);clear hW hlq y4 hl5 hb5 hl6;have HB1:=Hd (fun(w':World)=>Zw w' x0 0 ((N:Int) - 1));have HB2:=Hd (fun(w':World)=>Zw w' x1 0 ((N:Int) - 1));have HB3:=Hd (fun(w':World)=>Zw w' x2 0 2);have HFX:=Hd (fun(w':World) (k:Later w5 w')=>HFL.out w' (HLW.out.trans k) x0 x1)
       obtain⟨b1,h1'⟩:∃ b,inB x0 0 ((N:Int) - 1)=b:=⟨_,rfl⟩
       obtain⟨b2,h2'⟩:∃ b,inB x1 0 ((N:Int) - 1)=b:=⟨_,rfl⟩
       obtain⟨b3,h3'⟩:∃ b,inB x2 0 2=b:=⟨_,rfl⟩
       obtain⟨fl,h4'⟩:∃ b,flE M N x0 x1=b:=⟨_,rfl⟩
       obtain⟨rp,h5'⟩:∃ b,Yo x3.data.toList=b:=⟨_,rfl⟩
       obtain⟨rw',h6'⟩:∃ b,Yo x4.data.toList=b:=⟨_,rfl⟩
       have HOKR:Hid (ruOK c ⟨x0,x1,x2,x3,x4⟩=((b1&&(b2&&!fl))&&(b3&&(rp&&if x2=2 then rw' else x4.data.toList.isEmpty)))):=Hd (by
        rw[←h1',←h2',←h3',←h4',←h5',←h6'];have q1:c.lvl x0=inB x0 0 ((N:Int) - 1):=by unfold Cfg.lvl;rw[HLV.out]
        have q2:c.lvl x1=inB x1 0 ((N:Int) - 1):=by unfold Cfg.lvl;rw[HLV.out]
        show(((c.lvl x0&&c.lvl x1)&&!rchB c.flows x0 x1)&&(inB x2 0 2&&(Yo x3.data.toList&&(if x2=2 then Yo x4.data.toList else x4.data.toList.isEmpty))))=_;rw[←q1,←q2,Bool.and_assoc (c.lvl x0)];cases u1:c.lvl x0
        ·rfl
        ·cases u2:c.lvl x1
         ·rfl
         ·rw[DX HMM.out HLV.out u1 u2])
       rw[h1']at HB1;rw[h2']at HB2;rw[h3']at HB3;rw[h4']at HFX;rw[h5']at hq3;rw[h6']at hq4;clear h1' h2' h3' h4' h5' h6';cases b1
       ·go_wp2_with (first
         |(go_at_call 25;(first|(with_reducible refine(HB1.out _).mono ?_)|(with_reducible refine(HB2.out _).mono ?_)|(with_reducible refine(HB3.out _).mono ?_));rintro e w9 ⟨rfl,hw9⟩;subst hw9)
         |(go_at_call 94;(with_reducible refine(HFX.out _ (Later.refl _)).mono ?_);rintro e w9 ⟨rfl,hw9⟩;subst hw9)
         |fail)
        (try go_ret)
        exact HBAD.out (by rw[HOKR.out];simp) _ HLW.out
       ·cases b2
        ·go_wp2_with (first
          |(go_at_call 25;(first|(with_reducible refine(HB1.out _).mono ?_)|(with_reducible refine(HB2.out _).mono ?_)|(with_reducible refine(HB3.out _).mono ?_));rintro e w9 ⟨rfl,hw9⟩;subst hw9)
          |(go_at_call 94;(with_reducible refine(HFX.out _ (Later.refl _)).mono ?_);rintro e w9 ⟨rfl,hw9⟩;subst hw9)
          |fail)
         (try go_ret)
         exact HBAD.out (by rw[HOKR.out];simp) _ HLW.out
        ·cases fl
         case true=>
          go_wp2_with (first
           |(go_at_call 25;(first|(with_reducible refine(HB1.out _).mono ?_)|(with_reducible refine(HB2.out _).mono ?_)|(with_reducible refine(HB3.out _).mono ?_));rintro e w9 ⟨rfl,hw9⟩;subst hw9)
           |(go_at_call 94;(with_reducible refine(HFX.out _ (Later.refl _)).mono ?_);rintro e w9 ⟨rfl,hw9⟩;subst hw9)
           |fail)
          (try go_ret)
          exact HBAD.out (by rw[HOKR.out];simp) _ HLW.out
         case false=>
          cases b3
          ·go_wp2_with (first
            |(go_at_call 25;(first|(with_reducible refine(HB1.out _).mono ?_)|(with_reducible refine(HB2.out _).mono ?_)|(with_reducible refine(HB3.out _).mono ?_));rintro e w9 ⟨rfl,hw9⟩;subst hw9)
            |(go_at_call 94;(with_reducible refine(HFX.out _ (Later.refl _)).mono ?_);rintro e w9 ⟨rfl,hw9⟩;subst hw9)
            |fail)
           (try go_ret)
           exact HBAD.out (by rw[HOKR.out];simp) _ HLW.out
          ·cases rp
           ·have hq3':(n3 != 0)=true:=by rw[bne,hq3];rfl
            go_wp2_with (first
             |(go_at_call 25;(first|(with_reducible refine(HB1.out _).mono ?_)|(with_reducible refine(HB2.out _).mono ?_)|(with_reducible refine(HB3.out _).mono ?_));rintro e w9 ⟨rfl,hw9⟩;subst hw9)
             |(go_at_call 94;(with_reducible refine(HFX.out _ (Later.refl _)).mono ?_);rintro e w9 ⟨rfl,hw9⟩;subst hw9)
             |fail)
            (try go_ret)
            exact HBAD.out (by rw[HOKR.out];simp) _ HLW.out
           ·have hq3':(n3 != 0)=false:=by rw[bne,hq3];rfl
            by_cases u0:x2=2
            ·have u1:(x2==2)=true:=by simpa using u0
             have u2:(x2 != 2)=false:=by rw[bne,u1];rfl
             have HU:=Hd u0;clear u0;cases rw'
             ·have hq4':(n4 != 0)=true:=by rw[bne,hq4];rfl
              go_wp2_with (first
               |(go_at_call 25;(first|(with_reducible refine(HB1.out _).mono ?_)|(with_reducible refine(HB2.out _).mono ?_)|(with_reducible refine(HB3.out _).mono ?_));rintro e w9 ⟨rfl,hw9⟩;subst hw9)
               |(go_at_call 94;(with_reducible refine(HFX.out _ (Later.refl _)).mono ?_);rintro e w9 ⟨rfl,hw9⟩;subst hw9)
               |fail)
              (try go_ret)
              exact HBAD.out (by rw[HOKR.out,if_pos HU.out];rfl) _ HLW.out
             ·have hq4':(n4 != 0)=false:=by rw[bne,hq4];rfl
              go_wp2_with (first
               |(go_at_call 25;(first|(with_reducible refine(HB1.out _).mono ?_)|(with_reducible refine(HB2.out _).mono ?_)|(with_reducible refine(HB3.out _).mono ?_));rintro e w9 ⟨rfl,hw9⟩;subst hw9)
               |(go_at_call 94;(with_reducible refine(HFX.out _ (Later.refl _)).mono ?_);rintro e w9 ⟨rfl,hw9⟩;subst hw9)
               |fail)
              exact⟨⟨j+1,by omega,by simp,HNX.out (by rw[HOKR.out,if_pos HU.out];rfl),HLW.out⟩,by simp only[intOf];omega⟩
            ·have u1:(x2==2)=false:=by simpa using u0
             have u2:(x2 != 2)=true:=by rw[bne,u1];rfl
             have HU:=Hd u0;clear u0
             obtain⟨em,hem⟩:∃ b,x4.toList.isEmpty=b:=⟨_,rfl⟩
             have HV:Hid (x4.data.toList.isEmpty=em):=Hd (by rw[←hem,ByteArray.toList_eq]);cases em
             ·go_wp2_with (first
               |(go_at_call 25;(first|(with_reducible refine(HB1.out _).mono ?_)|(with_reducible refine(HB2.out _).mono ?_)|(with_reducible refine(HB3.out _).mono ?_));rintro e w9 ⟨rfl,hw9⟩;subst hw9)
               |(go_at_call 94;(with_reducible refine(HFX.out _ (Later.refl _)).mono ?_);rintro e w9 ⟨rfl,hw9⟩;subst hw9)
               |fail)
              (try go_ret)
              exact HBAD.out (by rw[HOKR.out,if_neg HU.out,HV.out];simp) _ HLW.out
             ·go_wp2_with (first
               |(go_at_call 25;(first|(with_reducible refine(HB1.out _).mono ?_)|(with_reducible refine(HB2.out _).mono ?_)|(with_reducible refine(HB3.out _).mono ?_));rintro e w9 ⟨rfl,hw9⟩;subst hw9)
               |(go_at_call 94;(with_reducible refine(HFX.out _ (Later.refl _)).mono ?_);rintro e w9 ⟨rfl,hw9⟩;subst hw9)
               |fail)
              exact⟨⟨j+1,by omega,by simp,HNX.out (by rw[HOKR.out,if_neg HU.out,HV.out];rfl),HLW.out⟩,by simp only[intOf];omega⟩
      ·have hjn:nR=j:=by omega
       subst hjn;rw[List.take_of_length_le (by rw[HNR.out];exact Nat.le_refl _)]at hok;have HAR:=Hd hok;clear hok
       go_wp2_with fail
       go_loopw [14] (fun vi wx=>∃ j:Nat,j≤nK∧vi=.int .i64 (j:Int)∧(∀x∈c.keys.take j,(fun k=>inB k.size 1 64) x=true)∧Later w1 wx) (fun vi _=>nK - (intOf vi).toNat)
       case atStart=>exact⟨0,by omega,rfl,by simp,hl⟩
       case round=>
        obtain⟨j,hj,rfl,hok,hl⟩:=hrel;have k0:=HK0.out _ hl;have kk:=HKK.out _ hl;by_cases hlt:j<nK
        ·obtain⟨b,o,hao,hb',hcc⟩:=ZG (HRK.out _ hl) (show j<c.keys.length by rw[HNK.out];exact hlt);have hnx:=Ep (p:=(fun k=>inB k.size 1 64)) (show j<c.keys.length by rw[HNK.out];exact hlt) hok;have hmem:=List.getElem_mem (show j<c.keys.length by rw[HNK.out];exact hlt)
         obtain⟨x,hx⟩:∃ x,c.keys[j]'(by rw[HNK.out];exact hlt)=x:=⟨_,rfl⟩
         rw[hx]at hcc hnx hmem;have HNX:=Hd hnx
         have HBAD:=Hd (fun(hw:(fun k=>inB k.size 1 64) x=false) (w':World) (k:Later w1 w')=>HEND.out w' false (show Jx c=false by
          unfold Jx Cfg.textsB
          rw[show c.keys.all ((fun k=>inB k.size 1 64))=false from Jt hmem hw];simp) k)
         have e0:=hcc 0 (by omega);simp only[keyC,List.getElem?_cons_zero,List.getElem?_cons_succ,Nat.add_zero,Nat.mul_one]at e0;subst hao;clear hcc hb' hx hok hnx hmem;have HB1:=Hd (fun(w':World)=>Zw w' (x.size:Int) 1 64)
         obtain⟨b1,h1'⟩:∃ b,inB (x.size:Int) 1 64=b:=⟨_,rfl⟩
         rw[h1']at HB1;have HX1:=Hd h1';have HL:=Hd hl;clear hl h1';cases b1
         ·go_wp2_with (first
           |(go_at_call 25;(with_reducible refine(HB1.out _).mono ?_);rintro e w9 ⟨rfl,hw9⟩;subst hw9)
           |fail)
          (try go_ret)
          exact HBAD.out HX1.out _ HL.out
         ·go_wp2_with (first
           |(go_at_call 25;(with_reducible refine(HB1.out _).mono ?_);rintro e w9 ⟨rfl,hw9⟩;subst hw9)
           |fail)
          exact⟨⟨j+1,by omega,by simp,HNX.out HX1.out,HL.out⟩,by simp only[intOf];omega⟩
        ·have hjn:nK=j:=by omega
         subst hjn;rw[List.take_of_length_le (by rw[HNK.out];exact Nat.le_refl _)]at hok;have HAK:=Hd hok;clear hok
         go_wp2_with fail
         go_loopw [15] (fun vi wx=>∃ j:Nat,j≤lg.size∧vi=.int .i64 (j:Int)∧(∀x∈lg.data.toList.take j,(decide (x.toNat<33) || decide (126<x.toNat))=false)∧Later w1 wx) (fun vi _=>lg.size - (intOf vi).toNat)
         case atStart=>exact⟨0,by omega,rfl,by simp,hl⟩
         case round=>
          obtain⟨j,hj,rfl,hok,hl⟩:=hrel;have k14:=HK14.out _ hl;by_cases hlt:j<lg.size
          ·have hjl:j<lg.data.toList.length:=by rw[Us];exact hlt
           have htk:=Zx hjl;have hix:=ZdA lg j hlt;have hg:lg.data.toList.getD j 0=lg.data.toList[j]:=by rw[List.getD_eq_getElem?_getD,List.getElem?_eq_getElem hjl];rfl
           have hmem:=List.getElem_mem hjl;rw[hg]at hix
           obtain⟨u,hu⟩:∃ u,lg.data.toList[j]=u:=⟨_,rfl⟩
           rw[hu]at hix htk hmem
           obtain⟨z,hz⟩:∃ z:Int,(u.toNat:Int)=z:=⟨_,rfl⟩
           rw[hz]at hix;have HTK:=Hd htk;have HOK:=Hd hok;have HMEM:=Hd hmem;have HZ:=Hd hz;have HL:=Hd hl
           have HBAD:=Hd (fun(hw:(decide (u.toNat<33) || decide (126<u.toNat))=true) (w':World) (k:Later w1 w')=>HEND.out w' false (show Jx c=false by
            unfold Jx Cfg.textsB
            rw[show oddB c.login=true by rw[HLG.out];exact List.any_eq_true.2 ⟨u,hmem,hw⟩];simp) k)
           clear htk hok hmem hz hl hg hu hjl;by_cases q1:z<33
           ·have d1:decide (z<33)=true:=decide_eq_true q1;have HQ1:=Hd q1;clear q1
            go_wp2_with fail
            (try go_ret)
            exact HBAD.out (by have:=HQ1.out;have:=HZ.out;rw[decide_eq_true (show u.toNat<33 by omega)];rfl) _ HL.out
           ·have d1:decide (z<33)=false:=decide_eq_false q1;by_cases q2:126<z
            ·have d2:decide (126<z)=true:=decide_eq_true q2;have HQ1:=Hd q2;clear q1 q2
             go_wp2_with fail
             (try go_ret)
             exact HBAD.out (by have:=HQ1.out;have:=HZ.out;rw[decide_eq_true (show 126<u.toNat by omega),Bool.or_true]) _ HL.out
            ·have d2:decide (126<z)=false:=decide_eq_false q2;have HQ1:=Hd (And.intro q1 q2);clear q1 q2
             go_wp2_with fail
             refine⟨⟨j+1,by omega,by simp,fun x hx=>?_,HL.out⟩,by simp only[intOf];omega⟩;rw[HTK.out,List.mem_append,List.mem_singleton]at hx;rcases hx with hx|rfl
             ·exact HOK.out x hx
             ·have:=HQ1.out;have:=HZ.out;rw[decide_eq_false (show ¬x.toNat<33 by omega),decide_eq_false (show ¬126<x.toNat by omega)];rfl
          ·have hjn:j=lg.size:=by omega
           subst hjn;rw[List.take_of_length_le (by rw[Us];exact Nat.le_refl _)]at hok;have hodd:oddB lg=false:=List.any_eq_false.2 (fun x hx=>by rw[hok x hx];decide);have HL:=Hd hl;have kP:=HKP.out _ hl;have kO:=HKO.out _ hl;have kR:=HKR.out _ hl;have kK:=HKK.out _ hl;have k0:=HK0.out _ hl;have HB1:=Hd (fun(w':World)=>Zw w' (nP:Int) 1 8);have HB2:=Hd (fun(w':World)=>Zw w' (lg.size:Int) 1 16)
           obtain⟨b1,h1'⟩:∃ b,inB (nP:Int) 1 8=b:=⟨_,rfl⟩
           obtain⟨b2,h2'⟩:∃ b,inB (lg.size:Int) 1 16=b:=⟨_,rfl⟩
           have HRB:Hid (Jx c=(b1&&(decide (nO≤16)&&(decide (nR≤32)&&(decide (nK=N)&&b2))))):=Hd (by
            unfold Jx Cfg.partsB Cfg.portsB Cfg.rulesB Cfg.textsB;rw[HLG.out,List.all_eq_true.2 HAP.out,List.all_eq_true.2 HAO.out,List.all_eq_true.2 HAR.out,List.all_eq_true.2 HAK.out,hodd,HNP.out,HNO.out,HNR.out,HNK.out,HLV.out,h1',h2',show decide ((nK:Int)=(N:Int))=decide (nK=N) from decide_eq_decide.2 (by omega)]
            simp[Bool.and_assoc])
           rw[h1']at HB1;rw[h2']at HB2;clear hok hodd hl h1' h2';cases b1
           ·go_wp2_with (first
             |(go_at_call 25;(first|(with_reducible refine(HB1.out _).mono ?_)|(with_reducible refine(HB2.out _).mono ?_));rintro e w9 ⟨rfl,hw9⟩;subst hw9)
             |fail)
            (try go_ret)
            exact HEND.out _ false (by rw[HRB.out];rfl) HL.out
           ·by_cases q1:nO≤16
            ·have c1:decide ((nO:Int)≤16)=true:=decide_eq_true (by omega);have d1:=decide_eq_true q1;by_cases q2:nR≤32
             ·have c2:decide ((nR:Int)≤32)=true:=decide_eq_true (by omega);have d2:=decide_eq_true q2;by_cases q3:nK=N
              ·have c3:((nK:Int)==(N:Int))=true:=by simp;omega
               have c4:decide ((nK:Int)=(N:Int))=true:=decide_eq_true (by omega);have c5:(nK==N)=true:=by simpa using q3
               have d3:=decide_eq_true q3;have HD:=Hd (And.intro d1 (And.intro d2 d3));clear q1 q2 q3
               go_wp2_with (first
                |(go_at_call 25;(first|(with_reducible refine(HB1.out _).mono ?_)|(with_reducible refine(HB2.out _).mono ?_));rintro e w9 ⟨rfl,hw9⟩;subst hw9)
                |fail)
               (try go_ret)
               exact HEND.out _ b2 (by rw[HRB.out,HD.out.1,HD.out.2.1,HD.out.2.2];rfl) HL.out
              ·have c3:((nK:Int)==(N:Int))=false:=by simp;omega
               have c4:decide ((nK:Int)=(N:Int))=false:=decide_eq_false (by omega);have c5:(nK==N)=false:=by simpa using q3
               have d3:=decide_eq_false q3;have HD:=Hd d3;clear q1 q2 q3
               go_wp2_with (first
                |(go_at_call 25;(first|(with_reducible refine(HB1.out _).mono ?_)|(with_reducible refine(HB2.out _).mono ?_));rintro e w9 ⟨rfl,hw9⟩;subst hw9)
                |fail)
               (try go_ret)
               exact HEND.out _ false (by rw[HRB.out];rw[HD.out];simp) HL.out
             ·have c2:decide ((nR:Int)≤32)=false:=decide_eq_false (by omega);have d2:=decide_eq_false q2;have HD:=Hd d2;clear q1 q2
              go_wp2_with (first
               |(go_at_call 25;(first|(with_reducible refine(HB1.out _).mono ?_)|(with_reducible refine(HB2.out _).mono ?_));rintro e w9 ⟨rfl,hw9⟩;subst hw9)
               |fail)
              (try go_ret)
              exact HEND.out _ false (by rw[HRB.out];rw[HD.out];simp) HL.out
            ·have c1:decide ((nO:Int)≤16)=false:=decide_eq_false (by omega);have d1:=decide_eq_false q1;have HD:=Hd d1;clear q1
             go_wp2_with (first
              |(go_at_call 25;(first|(with_reducible refine(HB1.out _).mono ?_)|(with_reducible refine(HB2.out _).mono ?_));rintro e w9 ⟨rfl,hw9⟩;subst hw9)
              |fail)
             (try go_ret)
             exact HEND.out _ false (by rw[HRB.out];rw[HD.out];simp) HL.out
end Go.Proofs.YtbchkjfnakabkaaGreatDoor
