import Derived.Test.YtbchkjfnakabkaaGreatDoorRFx
import Derived.Test.YtbchkjfnakabkaaGreatDoorRD2
import Derived.Test.YtbchkjfnakabkaaGreatDoorRA
import Derived.Test.YtbchkjfnakabkaaGreatDoorYM
set_option linter.unusedSimpArgs false
set_option linter.unusedVariables false
set_option maxHeartbeats 16000000
set_option maxRecDepth 100000
namespace Go.Proofs.YtbchkjfnakabkaaGreatDoor
open Go.RowKit PX PC
theorem Dc{α:Type}{p:α→Bool}{l:List α}{x:α}(hx:x∈l)(h:p x=false):l.all p=false:=List.all_eq_false.2 ⟨x,hx,by rw[h];decide⟩
theorem Dd{α:Type}{p:α→Bool}{l:List α}{j:Nat}(hj:j<l.length)(h:∀ x∈l.take j,p x=true)(hx:p l[j]=true):∀ x∈l.take (j+1),p x=true:=by
 intro x hm;rw[Zx hj,List.mem_append]at hm;rcases hm with hm|hm
 ·exact h x hm
 ·rw[List.mem_singleton.1 hm];exact hx
theorem onlyD_later{B ub:Nat}{w a b:World}(h:Later w a)(hB:w.heap.size≤ub)(k:Only (fun q=>q=ub) a b):Later w b:=
 Below.trans h (k.below (Below.size h) fun q e=>by rw[e];exact hB)
theorem Zcx(w:World)(c:Cfg)(v:V7)(N:Nat)(h:RowsOf w c v)(hI:CfgI c)(hN:c.levels=N)(h1:1≤N)(h8:N≤8) :
 Calls Tryz.prog 74 #[.agg (cfgA c v)] w fun e w'=>e=.returned (.bool c.diskB)∧Later w w':=by
 obtain⟨aV,pV,eV,gV1,gV2,gV3⟩:=Zm h.rV;have hrV:=h.rV;rw[eV]at hrV
 obtain⟨nV,hnV⟩:∃ n,c.volumes.length=n:=⟨_,rfl⟩
 obtain⟨p,hp⟩:∃ p,w.heap.size=p:=⟨_,rfl⟩
 obtain⟨w1,hw1⟩:∃ w1,w.alloc (.cells (cfgA c v) 32)=w1:=⟨_,rfl⟩
 have hl1':Later w w1:=by rw[←hw1];exact(Later.refl w).alloc _
 have hv1:VarAt w1 p c v:=by unfold VarAt;rw[←hw1,←hp];exact Ze w _
 have hps:p<w1.heap.size:=hv1.lt
 obtain⟨sc,hsc⟩:∃ s,c.sectors=s:=⟨_,rfl⟩
 obtain⟨bo,hbo⟩:∃ s,c.boot=s:=⟨_,rfl⟩
 obtain⟨al,haL⟩:∃ s,c.audit.level=s:=⟨_,rfl⟩
 obtain⟨af,haF⟩:∃ s,c.audit.first=s:=⟨_,rfl⟩
 obtain⟨ac,haC⟩:∃ s,c.audit.count=s:=⟨_,rfl⟩
 obtain⟨aj,haJ⟩:∃ s,c.audit.journal=s:=⟨_,rfl⟩
 have hau:c.audit=⟨al,af,ac,aj⟩:=by rw[←haL,←haF,←haC,←haJ]
 have hsI:I64 sc:=by rw[←hsc];exact hI.sectors
 have HV1:=Hd (fun(w':World) (k:Later w1 w')=>hv1.later k);have HKA:=Hd (fun(w':World) (k:Later w1 w')=>And.intro (show w'.cell? ⟨p,5,none⟩=some (.slice aV nV pV) by rw[Zb (hv1.later k) 5,←hnV,←eV];rfl) (And.intro (show w'.cell? ⟨p,6,none⟩=some (.int .i64 al) by rw[Zb (hv1.later k) 6,←haL];rfl) (And.intro (show w'.cell? ⟨p,7,none⟩=some (.int .i64 af) by rw[Zb (hv1.later k) 7,←haF];rfl) (And.intro (show w'.cell? ⟨p,8,none⟩=some (.int .i64 ac) by rw[Zb (hv1.later k) 8,←haC];rfl) (And.intro (show w'.cell? ⟨p,9,none⟩=some (.int .i64 aj) by rw[Zb (hv1.later k) 9,←haJ];rfl) (And.intro (show w'.cell? ⟨p,10,none⟩=some (.int .i64 bo) by rw[Zb (hv1.later k) 10,←hbo];rfl) (show w'.cell? ⟨p,11,none⟩=some (.int .i64 sc) by rw[Zb (hv1.later k) 11,←hsc];rfl)))))));have HK0:=Hd (fun(w':World) (k:VarAt w' p c v)=>(show w'.cell? ⟨p,0,none⟩=some (.int .i64 (N:Int)) by rw[Zb k 0,←hN];rfl));have HK5:=Hd (fun(w':World) (k:VarAt w' p c v)=>(show w'.cell? ⟨p,5,none⟩=some (.slice aV nV pV) by rw[Zb k 5,←hnV,←eV];rfl));have HK10:=Hd (fun(w':World) (k:VarAt w' p c v)=>(show w'.cell? ⟨p,10,none⟩=some (.int .i64 bo) by rw[Zb k 10,←hbo];rfl));have HRV:=Hd (fun(w':World) (k:Later w1 w')=>(show RowAt w' 4 (.slice aV nV pV) (c.volumes.map volC) by rw[←hnV];exact hrV.later (hl1'.trans k)));have HNV:=Hd hnV;have hbV:nV*4≤140737488355328:=by omega
 have HLV:=Hd hN;have HSC:=Hd hsc;have HBO:=Hd hbo;have HAU:=Hd hau;have HII:=Hd hI;have HW1:=Hd hw1;have HP:=Hd hp
 obtain⟨PT,hPT⟩:∃ PT,(fun(e:Ending) (w':World)=>e=.returned (.bool c.diskB)∧Later w w')=PT:=⟨_,rfl⟩
 rw[hPT];have HEND:=Hd (fun(w':World) (b:Bool) (hb:c.diskB=b) (k:Later w1 w')=>(show PT (.returned (.bool b)) w' by rw[←hPT];exact⟨by rw[hb],hl1'.trans k⟩));have hwl:IntKind.i64.wrap ((N:Int) - 1)=(N:Int) - 1:=by rw[IntKind.wrap_i64];omega
 have HB1:=Hd (fun(w':World)=>Zw w' sc 1 4096);have HB5:=Hd (fun(w':World)=>Zw w' bo 0 (sc - 2));have HEX:=Hd (fun(w':World) (x0 x1 x2 x3:Int) (hx:volI ⟨x0,x1,x2,x3⟩)=>DD w' c v ⟨x0,x1,x2,x3⟩ hI.sectors hx);have HAI:=Hd (show volI ⟨al,af,ac,aj⟩ by rw[←hau];exact hI.audit)
 obtain⟨s1,hs1⟩:∃ b,inB sc 1 4096=b:=⟨_,rfl⟩
 obtain⟨E1,hE1⟩:∃ b,XW c ⟨al,af,ac,aj⟩=b:=⟨_,rfl⟩
 obtain⟨b5,hb5⟩:∃ b,inB bo 0 (sc - 2)=b:=⟨_,rfl⟩
 have HHD:Hid (Qv c=(s1&&(decide (nV≤8)&&(E1&&(decide (al=0)&&b5))))):=Hd (by unfold Qv;rw[←hs1,←hE1,←hb5,hau,hsc,hbo,hnV]);have HS1:=Hd hs1;have HE1:=Hd hE1;have HH5:=Hd hb5;rw[hs1]at HB1;rw[hb5]at HB5;have HEA:=Hd (fun(w':World)=>(show Calls Tryz.prog 96 #[.agg (cfgA c v),.agg #[.int .i64 al,.int .i64 af,.int .i64 ac,.int .i64 aj]] w' fun e w2=>e=.returned (.bool E1)∧Later w' w2 by rw[←hE1];exact HEX.out w' al af ac aj HAI.out));have HNO:=Hd (fun(hh:Qv c=false)=>show c.diskB=false by rw[Ve,hh];rfl);clear h hw1 hp hl1' hv1 hN hI hPT hrV hnV eV gV1 gV2 gV3 hsc hbo haL haF haC haJ hau hs1 hE1 hb5;obtain⟨k5,k6,k7,k8,k9,k10,k11⟩:=HKA.out w1 (Later.refl _)
 go_enter Tryz.func74,Tryz.ntmps74
 go_upto_region 1 with fail
 rw[HP.out,HW1.out];cases s1
 ·go_wp2_with (first
   |(go_at_call 25;(first|(with_reducible refine(HB1.out _).mono ?_)|(with_reducible refine(HB5.out _).mono ?_));rintro e w9 ⟨rfl,hw9⟩;have hw9:=hw9.symm;subst hw9)
   |(go_at_call 96;(with_reducible refine(HEA.out _).mono ?_);rintro e w2 ⟨rfl,hl2⟩;obtain⟨m5,m6,m7,m8,m9,m10,m11⟩:=HKA.out w2 hl2)
   |((with_reducible refine Xn (p:=p) (c:=c) (v:=v) 1 ?_ ?_ ?_ ?_ ?_);rfl;rfl;exact(HV1.out _ (Later.refl _));rfl)
   |fail)
  (try go_ret)
  exact HEND.out _ false (HNO.out (by rw[HHD.out];rfl)) (Later.refl _)
 ·have hS1:=ZR.1 HS1.out;obtain⟨S,rfl⟩:=Int.eq_ofNat_of_zero_le (show 0≤sc by omega);have hS:1≤S∧S≤4096:=by omega
  have hws:IntKind.i64.wrap ((S:Int) - 2)=(S:Int) - 2:=by rw[IntKind.wrap_i64];omega
  clear hS1 hsI;by_cases n8:nV≤8
  ·have d1:decide ((8:Int)<(nV:Int))=false:=decide_eq_false (by omega);have d2:decide (8<nV)=false:=decide_eq_false (by omega);have HN8:=Hd n8;clear n8;cases E1
   ·go_wp2_with (first
     |(go_at_call 25;(first|(with_reducible refine(HB1.out _).mono ?_)|(with_reducible refine(HB5.out _).mono ?_));rintro e w9 ⟨rfl,hw9⟩;have hw9:=hw9.symm;subst hw9)
     |(go_at_call 96;(with_reducible refine(HEA.out _).mono ?_);rintro e w2 ⟨rfl,hl2⟩;obtain⟨m5,m6,m7,m8,m9,m10,m11⟩:=HKA.out w2 hl2)
     |((with_reducible refine Xn (p:=p) (c:=c) (v:=v) 1 ?_ ?_ ?_ ?_ ?_);rfl;rfl;exact(HV1.out _ (Later.refl _));rfl)
     |fail)
    (try go_ret)
    exact HEND.out _ false (HNO.out (by rw[HHD.out];simp)) hl2
   ·by_cases a0:al=0
    ·subst a0;cases b5
     ·go_wp2_with (first
       |(go_at_call 25;(first|(with_reducible refine(HB1.out _).mono ?_)|(with_reducible refine(HB5.out _).mono ?_));rintro e w9 ⟨rfl,hw9⟩;have hw9:=hw9.symm;subst hw9)
       |(go_at_call 96;(with_reducible refine(HEA.out _).mono ?_);rintro e w2 ⟨rfl,hl2⟩;obtain⟨m5,m6,m7,m8,m9,m10,m11⟩:=HKA.out w2 hl2)
       |((with_reducible refine Xn (p:=p) (c:=c) (v:=v) 1 ?_ ?_ ?_ ?_ ?_);rfl;rfl;exact(HV1.out _ (Later.refl _));rfl)
       |fail)
      (try go_ret)
      exact HEND.out _ false (HNO.out (by rw[HHD.out];simp)) hl2
     ·have HHT:Hid (Qv c=true):=Hd (by rw[HHD.out];simp[HN8.out]);obtain⟨b,rfl⟩:=Int.eq_ofNat_of_zero_le (show 0≤bo from(ZR.1 HH5.out).1);have hbS:b+2≤S:=by have:=(ZR.1 HH5.out).2;omega
      have hmk:∀ W:World,(Instr.makeSlice 44 (.int .i64 (S:Int)) (.int .i64 (S:Int))).run Tryz.prog W=.ok (.slice (some ⟨W.heap.size,0,none⟩) S S) (W.alloc (.cells (rowI S fun _=>0) 3)):=fun W=>Zdb W S hS.2
      go_upto_region 3 with(first
       |(go_at_call 25;(first|(with_reducible refine(HB1.out _).mono ?_)|(with_reducible refine(HB5.out _).mono ?_));rintro e w9 ⟨rfl,hw9⟩;have hw9:=hw9.symm;subst hw9)
       |(go_at_call 96;(with_reducible refine(HEA.out _).mono ?_);rintro e w2 ⟨rfl,hl2⟩;obtain⟨m5,m6,m7,m8,m9,m10,m11⟩:=HKA.out w2 hl2)
       |((with_reducible refine Xn (p:=p) (c:=c) (v:=v) 1 ?_ ?_ ?_ ?_ ?_);rfl;rfl;exact(HV1.out _ (Later.refl _));rfl)
       |fail)
      go_upto_region 4 with fail
      clear hmk m5 m6 m7 m8 m9 m10 m11 k5 k6 k7 k8 k9 k10 k11
      obtain⟨ub,hub⟩:∃ g,w2.heap.size=g:=⟨_,rfl⟩
      obtain⟨w3,hw3⟩:∃ y,w2.alloc (.cells (rowI S fun _=>0) 3)=y:=⟨_,rfl⟩
      rw[hub,hw3];have hU0:UsedAt w3 ub S fun _=>0:=by unfold UsedAt;rw[←hw3];exact Zt hub
      have hl3:Later w1 w3:=by rw[←hw3];exact hl2.alloc _
      have hu1:w1.heap.size≤ub:=by rw[←hub];exact hl2.size
      have hu3:ub<w3.heap.size:=Za hU0;have HU0:=Hd hU0;have HL3:=Hd hl3;have HU1:=Hd hu1;have hps3:p<w3.heap.size:=by omega
      obtain⟨L,hL⟩:∃ L,c.volumes++[(⟨0,af,ac,aj⟩:Vol)]=L:=⟨_,rfl⟩
      have hLn:L.length=nV+1:=by rw[←hL,List.length_append,HNV.out];rfl
      have HLN:=Hd hLn;have HLL:=Hd hL;obtain⟨k5,k6,k7,k8,k9,k10,k11⟩:=HKA.out w3 hl3;have HRV3:=Hd (fun(w':World) (k:Later w3 w')=>HRV.out w' (HL3.out.trans k));clear hw3 hub hU0 hl3 hl2 hLn hL
      go_cut [4] from 48 to 55 (fun vc wx=>∃ g cap,vc=.slice (some ⟨g,0,none⟩) (nV+1) cap∧w3.heap.size≤g∧RowAt wx 4 (.slice (some ⟨g,0,none⟩) (nV+1) cap) (L.map volC)∧Later w3 wx)
      case first=>
       go_region_law (first
        | (refine VY B7 rfl (.tmp 48) (.tmp 50) rfl (W0:=w3) La _ [] c.volumes (by rfl) (UD volC (by first | exact Ze _ _ | exact Zt (by simp) | exact Zd (Ze _ _) _) (by simp)) aV nV pV HNV.out (by rfl) (HRV3.out _ La) (by have:=HN8.out;rw [HNV.out];simp;omega) ?_
           intro v1 w5 hown1 hl5 hk1;obtain⟨k5,k6,k7,k8,k9,k10,k11⟩:=HKA.out w5 (HL3.out.trans hl5);have HO1:=Hd hown1;have HK1:=Hd hk1
           clear hown1 hk1)
        | (refine VY B7 rfl (.tmp 51) (.tmp 54) rfl (W0:=w3) La _ c.volumes [(⟨0,af,ac,aj⟩:Vol)] (by rfl) (by first | exact HO1.out | exact HO1.out.alloc _) _ 1 1 rfl (by rfl) (Zco (x:=(⟨0,af,ac,aj⟩:Vol)) (f:=volC) (by first | exact Ze _ _ | exact Zt (by simp) | (exact HK1.out _ _ (by first | exact Ze _ _ | exact Zt (by simp) | exact Zd (Ze _ _) _) (by simp [Value.ownBlock]))) rfl (by decide)) (by have:=HN8.out;rw [HNV.out];simp;omega) ?_
           intro v2 w6 hown2 hl6 hk2;have HO2:=Hd hown2
           clear hown2 hk2)
        |fail)
       all_goals
        go_wp2_with fail
        go_meet
        case rel=>
         have ho2:=HO2.out;rw[HLL.out]at ho2;obtain⟨g,cap,rfl,hc1,hc2⟩:=Ys ho2 (by rw[HLN.out];omega);have hg:=(ho2.lt g rfl).1;rw[HLN.out]at ho2 ⊢;exact⟨g,cap,rfl,hg,by rw[←HLN.out];exact V1 (fun _=>rfl) (by have:=HN8.out;rw[HLN.out];omega) (by rw[HLN.out];exact ho2),hl6⟩
      case rest=>
       obtain⟨g,cap,rfl,hg3,hRL,hl4⟩:=hcut
       obtain⟨wa,hwa⟩:∃ y,wc=y:=⟨_,rfl⟩
       rw[hwa]at hRL hl4 ⊢;clear hwa k5 k6 k7 k8 k9 k10 k11;have hva:=HV1.out wa (HL3.out.trans hl4);have hUa:=HU0.out.later hl4;have hLa:=HL3.out.trans hl4;have hpu:p<ub:=Nat.lt_of_lt_of_le hps HU1.out;have hgu:ub<g:=Nat.lt_of_lt_of_le hu3 hg3;have HVO:=Hd (fun(w':World) (k:Only (fun q=>q=ub) wa w')=>(show VarAt w' p c v from(k.block p hva.lt (fun e=>by have:p=ub:=e;omega)).trans hva));have HLO:=Hd (fun(w':World) (k:Only (fun q=>q=ub) wa w')=>(show Later w1 w' from Below.trans hLa (k.below (Below.size hLa) fun q e=>by rw[e];exact HU1.out)))
       have HCL:=Hd (fun(w':World) (k:Only (fun q=>q=ub) wa w') (j:Nat) (hj:j<L.length) (q:Nat) (hq:q<4)=>(show w'.cell? ⟨g,0+j*4+q,none⟩=(volC L[j])[q]? by
        obtain⟨b',o',he,hb,hc⟩:=ZG hRL hj;injection he with he;injection he with h1' h2' _;subst h1' h2';rw[k.cell (p:=⟨g,0+j*4+q,none⟩) hb (fun e=>by have:g=ub:=e;omega)]
        exact hc q hq))
       have HRV4:=Hd (fun(w':World) (k:Only (fun q=>q=ub) wa w')=>HRV.out w' (HLO.out w' k));have HUA:=Hd hUa;have hub5:p≠ub:=by omega
       clear hRL hva hUa hLa hl4 hg3 HU0
       go_wp2_with fail
       go_loopw [5] (fun vi wx=>∃ j:Nat,j≤nV+1∧vi=.int .i64 (j:Int)∧(∀x∈L.take j,XW c x=true)∧UsedAt wx ub S (cntS (L.take j))∧Only (fun q=>q=ub) wa wx) (fun vi _=>nV+1 - (intOf vi).toNat)
       case atStart=>exact⟨0,by omega,rfl,by simp,HUA.out,Only.refl _ _⟩
       case round=>
        obtain⟨j,hj,rfl,hok,hU,hO⟩:=hrel;by_cases hlt:j<nV+1
        ·have hjL:j<L.length:=by rw[HLN.out];exact hlt
         have hcc:=HCL.out wr hO j hjL;have hnx:=Dd (p:=XW c) hjL hok;have hmem:=List.getElem_mem hjL;have htk:=Zx hjL
         have hvA:∀ y∈L,volI y:=fun y hm=>by
          rw[←HLL.out,List.mem_append,List.mem_singleton]at hm;rcases hm with hm|rfl
          ·exact HII.out.volumes _ hm
          ·exact HAI.out
         have hvI:=hvA _ hmem;clear hvA
         obtain⟨x,hx⟩:∃ x,L[j]=x:=⟨_,rfl⟩
         rw[hx]at hcc hnx hmem htk hvI;have HNX:=Hd hnx;have HMM:=Hd hmem;have HTK:=Hd htk;obtain⟨x0,x1,x2,x3⟩:=x;have e0:=hcc 0 (by omega);have e1:=hcc 1 (by omega);have e2:=hcc 2 (by omega);have e3:=hcc 3 (by omega);simp only[volC,List.getElem?_cons_zero,List.getElem?_cons_succ,Nat.add_zero,Nat.zero_add]at e0 e1 e2 e3;have hlen:(L.take j).length≤9:=by rw[List.length_take];have:=HN8.out;omega
         have HLE:=Hd hlen;have HUU:=Hd hU;have HOO:=Hd hO
         obtain⟨E,hE⟩:∃ b,XW c ⟨x0,x1,x2,x3⟩=b:=⟨_,rfl⟩
         have HEC:=Hd (fun(w':World)=>(show Calls Tryz.prog 96 #[.agg (cfgA c v),.agg #[.int .i64 x0,.int .i64 x1,.int .i64 x2,.int .i64 x3]] w' fun e w2=>e=.returned (.bool E)∧Later w' w2 by rw[←hE];exact HEX.out w' x0 x1 x2 x3 hvI));have HXE:=Hd hE;clear hcc hnx hmem htk hvI hx hok hjL hlen hU hE
         go_upto_region 9 with fail
         obtain⟨bx,hbx⟩:∃ g,wr.heap.size=g:=⟨_,rfl⟩
         obtain⟨wy,hwy⟩:∃ y,wr.alloc (.cells #[.int .i64 x0,.int .i64 x1,.int .i64 x2,.int .i64 x3] 28)=y:=⟨_,rfl⟩
         rw[hbx,hwy];have hby:wy.heap[bx]?=some (.cells #[.int .i64 x0,.int .i64 x1,.int .i64 x2,.int .i64 x3] 28 (0,0)):=by rw[←hwy];exact Zt hbx
         have hOy:Only (fun q=>q=ub) wa wy:=by rw[←hwy];exact hO.alloc _
         have HUY:=Hd (show UsedAt wy ub S (cntS (L.take j)) by rw[←hwy];exact Zd HUU.out _);have hbu:ub<bx:=by rw[←hbx];exact Za HUU.out
         have HBY:=Hd hby;have HOY:=Hd hOy;have HVY:=Hd (HVO.out wy hOy);have y0:=Zb hby 0;have y1:=Zb hby 1;have y2:=Zb hby 2;have y3:=Zb hby 3;clear hwy hbx hO e0 e1 e2 e3 hby hOy;cases E
         ·go_wp2_with (first
           |(go_at_call 96;(with_reducible refine(HEC.out _).mono ?_);rintro e w5 ⟨rfl,hl5⟩)
           |((with_reducible refine Xn (p:=p) (c:=c) (v:=v) 1 ?_ ?_ ?_ ?_ ?_);rfl;rfl;exact HVY.out;rfl)
           |fail)
          (try go_ret)
          refine HEND.out _ false ?_ ((HLO.out _ HOY.out).trans hl5);have hm:=HMM.out;rw[←HLL.out,List.mem_append,List.mem_singleton]at hm;rcases hm with hm|hm
          ·rw[Ve,Dc hm HXE.out];simp
          ·have:=WG.1 HHT.out;rw[HAU.out,←hm,HXE.out]at this;exact absurd this.2.2.1 (by decide)
         ·go_upto_region 11 with(first
           |(go_at_call 96;(with_reducible refine(HEC.out _).mono ?_);rintro e w5 ⟨rfl,hl5⟩)
           |((with_reducible refine Xn (p:=p) (c:=c) (v:=v) 1 ?_ ?_ ?_ ?_ ?_);rfl;rfl;exact HVY.out;rfl)
           |fail)
          have hxx:=Ui.1 HXE.out;rw[HSC.out]at hxx;simp only at hxx;obtain⟨f,hf⟩:=Int.eq_ofNat_of_zero_le hxx.1;obtain⟨n,hn⟩:=Int.eq_ofNat_of_zero_le (show 0≤x2 by have:=hxx.2.1;omega);have hfn:f+n≤S:=by have:=hxx.2.2.1;omega
          obtain⟨en,hen⟩:∃ en:Int,((f+n:Nat):Int)=en:=⟨_,rfl⟩
          have hws12:IntKind.i64.wrap (x1+x2)=en:=by rw[IntKind.wrap_i64];omega
          have HF:=Hd (And.intro hf hn);have HEN:=Hd hen;have hb5:=hl5.block HBY.out;have q1:=Zb hb5 1;have hU5:=HUY.out.later hl5;have hO5:Only (fun q=>q=ub) wa w5:=HOY.out.then (Only.of_below hl5);have HB5':=Hd hb5;have HU5:=Hd hU5;have HO5:=Hd hO5;clear y0 y1 y2 y3 hxx hf hn hen hb5 hU5 hO5 hl5
          go_wp2_with fail
          go_loopw [7] (fun vk wx=>∃ m:Nat,f≤m∧m≤f+n∧vk=.int .i64 (m:Int)∧UsedAt wx ub S (cntP (L.take j) ⟨x0,x1,x2,x3⟩ m)∧Only (fun q=>q=ub) w5 wx) (fun vk _=>f+n - (intOf vk).toNat)
          case atStart=>exact⟨f,Nat.le_refl _,by omega,by rw[HF.out.1],by rw[←Zbz (L.take j) ⟨x0,x1,x2,x3⟩ (show x1=(f:Int) from HF.out.1)];exact HU5.out,Only.refl _ _⟩
          case round=>
           obtain⟨m,hfm,hmn,rfl,hU,hO⟩:=hrel;have hbb:wr.heap[bx]?=some (.cells #[.int .i64 x0,.int .i64 x1,.int .i64 x2,.int .i64 x3] 28 (0,0)):=(hO.block bx (Za HB5'.out) (fun e=>by have:bx=ub:=e;omega)).trans HB5'.out;have y1:=Zb hbb 1;have y2:=Zb hbb 2;by_cases hlm:m<f+n
           ·have hd:decide ((m:Int)<en)=true:=decide_eq_true (by have:=HEN.out;omega);have hmS:m<S:=by omega
            have HUM:=Hd hU;have HOM:=Hd hO;have hqb:=Zhr (L.take j) ⟨x0,x1,x2,x3⟩ m m;have hcell:=hU.cell hmS;have hfree:=Zc hU m;have hul:=Za hU
            obtain⟨q,hq⟩:∃ q,cntP (L.take j) ⟨x0,x1,x2,x3⟩ m m=q:=⟨_,rfl⟩
            rw[hq]at hcell hqb;have hq1:q≤10:=by have:=HLE.out;omega
            have hwq:IntKind.i64.wrap ((q:Int)+1)=(q:Int)+1:=by rw[IntKind.wrap_i64];omega
            have HQQ:=Hd hq;clear hq hqb hbb hU hO
            go_wp2_with fail
            refine⟨⟨m+1,by omega,by omega,by simp,?_,HOM.out.setCell (p:=⟨ub,m,none⟩) (.inl rfl) _⟩,by simp only[intOf];omega⟩;have:=HUM.out.bump m (ZdY (L.take j) ⟨x0,x1,x2,x3⟩ (show x1≤(m:Int) by have:=HF.out;omega));rw[HQQ.out]at this;exact this
           ·have hd:decide ((m:Int)<en)=false:=decide_eq_false (by have:=HEN.out;omega);have hUe:=hU;rw[ZfJ (L.take j) ⟨x0,x1,x2,x3⟩ (show(m:Int)=x1+x2 by have:=HF.out;omega),←HTK.out]at hUe;have HUE:=Hd hUe;have HOE:=Hd hO;clear hbb hU hO hUe
            go_wp2_with fail
            exact⟨⟨j+1,by omega,by simp,HNX.out HXE.out,HUE.out,HO5.out.then HOE.out⟩,by simp only[intOf];omega⟩
        ·have hjn:j=nV+1:=by omega
         subst hjn;rw[List.take_of_length_le (by rw[HLN.out];exact Nat.le_refl _)]at hok hU;have HOK:=Hd hok;have HXV:=Hd (show ∀x∈c.volumes,XW c x=true from fun x hx=>hok x (by rw[←HLL.out];exact List.mem_append_left _ hx));have hkb:=HK10.out wr (HVO.out wr hO);have hcb:=hU.cell (show b<S by omega);have hfb:=Zc hU b;have hul:=Za hU;have hcl:=D5 L b
         obtain⟨q,hq⟩:∃ q,cntS L b=q:=⟨_,rfl⟩
         rw[hq]at hcb hcl;have hq1:q≤9:=by have h8':=HN8.out;have:=HLN.out;omega
         have hwq:IntKind.i64.wrap ((q:Int)+1)=(q:Int)+1:=by rw[IntKind.wrap_i64];omega
         have hbl:b<S:=by omega
         have HUX:=Hd hU;have HOX:=Hd hO;have HQX:=Hd hq;clear hok hU hO hq hcl
         go_upto_region 16 with fail
         generalize hW:World.setCell _ _ _=w7
         have hU7:UsedAt w7 ub S (U5 (cntS L) b):=by
          have:=HUX.out.bump b rfl;rw[HQX.out,hW]at this;exact this
         have hO7:Only (fun q=>q=ub) wa w7:=by rw[←hW];exact HOX.out.setCell (p:=⟨ub,b,none⟩) (.inl rfl) _
         clear hW hcb hfb hul hkb hwq hq1;have hkb:=HK10.out w7 (HVO.out w7 hO7);have hbl1:b+1<S:=by omega
         have hcb:=hU7.cell hbl1;have hfb:=Zc hU7 (b+1);have hul:=Za hU7
         obtain⟨q2,hq2⟩:∃ q,U5 (cntS L) b (b+1)=q:=⟨_,rfl⟩
         rw[hq2]at hcb
         have hq3:q2≤9:=by
          have:=D5 L (b+1);have h9:=HN8.out;have:=HLN.out;rw[←hq2];unfold U5;rw[if_neg (by omega)];omega
         have hwq:IntKind.i64.wrap ((q2:Int)+1)=(q2:Int)+1:=by rw[IntKind.wrap_i64];omega
         have hwb:IntKind.i64.wrap ((b:Int)+1)=(b:Int)+1:=by rw[IntKind.wrap_i64];omega
         have HUX:=Hd hU7;have HOX:=Hd hO7;have HQX:=Hd hq2;clear hU7 hO7 hq2 hq3
         go_upto_region 17 with fail
         generalize hW:World.setCell _ _ _=w8
         have hU8:UsedAt w8 ub S (cntS c.exts):=by
          have h8':=HUX.out.bump (b+1) rfl;rw[HQX.out,hW,ZfG]at h8'
          have e:L++[(⟨0,(b:Int),2,0⟩:Vol)]=c.exts:=by
           unfold Cfg.exts;rw[←HLL.out,HAU.out,HBO.out];simp
          rw[e]at h8';exact h8'
         have hO8:Only (fun q=>q=ub) wa w8:=by rw[←hW];exact HOX.out.setCell (p:=⟨ub,b+1,none⟩) (.inl rfl) _
         clear hW hcb hfb hul hkb hwq hwb;have HU8:=Hd hU8;have HO8:=Hd hO8;have HL8:=Hd (HLO.out w8 hO8);have HCX:=Hd (Zfv (c:=c) (S:=S) HSC.out HHT.out HXV.out);clear hU8 hO8
         go_wp2_with fail
         go_loop [8] (fun vi=>∃ j:Nat,j≤S∧vi=.int .i64 (j:Int)∧∀ k,k<j→cntS c.exts k≤1) (fun vi=>S - (intOf vi).toNat)
         case atStart=>exact⟨0,by omega,rfl,fun k hk=>absurd hk (by omega)⟩
         case round=>
          obtain⟨j,hj,rfl,hok⟩:=hrel;by_cases hlt:j<S
          ·have hcb:=HU8.out.cell hlt
           obtain⟨q,hq⟩:∃ q,cntS c.exts j=q:=⟨_,rfl⟩
           rw[hq]at hcb;by_cases q1:q≤1
           ·have d1:decide ((1:Int)<(q:Int))=false:=decide_eq_false (by omega);have d2:decide (1<q)=false:=decide_eq_false (by omega)
            have HNX:=Hd (show ∀k,k<j+1→cntS c.exts k≤1 from fun k hk=>by
             by_cases e:k=j
             ·subst e;rw[hq];exact q1
             ·exact hok k (by omega))
            clear q1 hq hok
            go_wp2_with fail
            exact⟨⟨j+1,by omega,by simp,HNX.out⟩,by simp only[intOf];omega⟩
           ·have d1:decide ((1:Int)<(q:Int))=true:=decide_eq_true (by omega);have d2:decide (1<q)=true:=decide_eq_true (by omega)
            have HNO2:Hid (Xc Yk c.exts=false):=Hd (by
             cases e:Xc Yk c.exts
             ·rfl
             ·exact absurd (HCX.out.2 e j hlt) (by rw[hq];exact q1))
            clear q1 hq hok
            go_wp2_with fail
            (try go_ret)
            exact HEND.out _ false (by rw[Ve,HNO2.out];simp) HL8.out
          ·have hjn:j=S:=by omega
           subst hjn;have HAP:=Hd (HCX.out.1 hok);clear hok
           go_wp2_with fail
           go_loopw [9] (fun vi wx=>∃ j:Nat,j≤nV∧vi=.int .i64 (j:Int)∧(∀x∈c.volumes.take j,JB c x=true)∧Xc neL (c.volumes.take j)=true∧Later w8 wx) (fun vi _=>nV - (intOf vi).toNat)
           case atStart=>exact⟨0,by omega,rfl,by simp,rfl,Later.refl _⟩
           case round=>
            obtain⟨i,hi,rfl,hok,hpr,hl⟩:=hrel;have hvw:=(HVO.out w8 HO8.out).later hl;have k5:=HK5.out wr hvw;by_cases hlt:i<nV
            ·have hiV:i<c.volumes.length:=by rw[HNV.out];exact hlt
             obtain⟨gb,go,hao,hgb,hcc⟩:=ZG (HRV4.out w8 HO8.out) hiV
             have hcc2:∀ q,q<4→wr.cell? ⟨gb,go+i*4+q,none⟩=(volC c.volumes[i])[q]?:=fun q hq=>by
              obtain⟨gb',go',hao',-, hc'⟩:=ZG ((HRV4.out w8 HO8.out).later hl) hiV;rw[hao]at hao';injection hao' with e';injection e' with e1' e2' _;subst e1' e2';exact hc' q hq
             have hnx:=Dd (p:=JB c) hiV hok;have hmem:=List.getElem_mem hiV;have htk:=Zx hiV;have hxe:=HXV.out _ hmem;have hno:=fun(k:Nat) (hk:k<i)=>ZeW (r:=neL) hiV hk
             obtain⟨x,hx⟩:∃ x,c.volumes[i]=x:=⟨_,rfl⟩
             rw[hx]at hcc2 hnx hmem htk hxe;have hno2:∀ (k:Nat) (hk:k<i),neL (c.volumes[k]'(by omega)) x=false→Xc neL c.volumes=false:=fun k hk h'=>hno k hk (by rw[hx];exact h')
             have HNX:=Hd hnx;have HMM:=Hd hmem;have HTK:=Hd htk;have HNE:=Hd hno2;have HPR:=Hd hpr;obtain⟨x0,x1,x2,x3⟩:=x;have e0:=hcc2 0 (by omega);have e1:=hcc2 1 (by omega);have e2:=hcc2 2 (by omega);have e3:=hcc2 3 (by omega);simp only[volC,List.getElem?_cons_zero,List.getElem?_cons_succ,Nat.add_zero]at e0 e1 e2 e3;subst hao;have hxx:=Ui.1 hxe;rw[HSC.out]at hxx;have hx3:=ZR.1 hxx.2.2.2;simp only at hxx hx3
             obtain⟨cl,hcl⟩:∃ cl:Int,x2 - x3=cl:=⟨_,rfl⟩
             obtain⟨t3,ht3⟩:∃ t:Int,x3 - 3=t:=⟨_,rfl⟩
             have hw23:IntKind.i64.wrap (x2 - x3)=cl:=by rw[IntKind.wrap_i64];omega
             have hw3:IntKind.i64.wrap (x3 - 3)=t3:=by rw[IntKind.wrap_i64];omega
             have HB1:=Hd (fun(w':World)=>Zw w' x0 0 ((N:Int) - 1))
             obtain⟨b1,hb1⟩:∃ b,inB x0 0 ((N:Int) - 1)=b:=⟨_,rfl⟩
             have HVOK:Hid (JB c ⟨x0,x1,x2,x3⟩=(b1&&(decide (cl≤40)&&decide (cl≤t3)))):=Hd (by rw[←hb1,←hcl,←ht3,←HLV.out];rfl);rw[hb1]at HB1;have HBAD:=Hd (fun(hw:JB c ⟨x0,x1,x2,x3⟩=false) (w':World) (k:Later w1 w')=>HEND.out w' false (by rw[Ve,Dc HMM.out hw];simp) k);clear hcc hcc2 hgb hnx hmem htk hxe hno hno2 hx hok hpr hxx hx3 hcl ht3 hb1
             go_upto_region 26 with fail
             obtain⟨bx,hbx⟩:∃ g,wr.heap.size=g:=⟨_,rfl⟩
             obtain⟨wy,hwy⟩:∃ y,wr.alloc (.cells #[.int .i64 x0,.int .i64 x1,.int .i64 x2,.int .i64 x3] 28)=y:=⟨_,rfl⟩
             rw[hbx,hwy];have hby:wy.heap[bx]?=some (.cells #[.int .i64 x0,.int .i64 x1,.int .i64 x2,.int .i64 x3] 28 (0,0)):=by rw[←hwy];exact Zt hbx
             have hly:Later w8 wy:=by rw[←hwy];exact hl.alloc _
             have HBY:=Hd hby;have HLY:=Hd hly;have k0:=HK0.out wy ((HVO.out w8 HO8.out).later hly);have y0:=Zb hby 0;have y2:=Zb hby 2;have y3:=Zb hby 3;clear hwy hbx hl e0 e1 e2 e3 hby hly hvw k5;cases b1
             ·go_wp2_with (first
              |(go_at_call 25;(with_reducible refine(HB1.out _).mono ?_);rintro e w9 ⟨rfl,hw9⟩;have hw9:=hw9.symm;subst hw9)
              |fail)
              (try go_ret)
              exact HBAD.out (by rw[HVOK.out];rfl) _ (HL8.out.trans HLY.out)
             ·by_cases c1:cl≤40
              ·have d1:decide (40<cl)=false:=decide_eq_false (by omega);by_cases c2:cl≤t3
               ·have d2:decide (t3<cl)=false:=decide_eq_false (by omega);have HVY:Hid (JB c ⟨x0,x1,x2,x3⟩=true):=Hd (by rw[HVOK.out,decide_eq_true c1,decide_eq_true c2];rfl);clear c1 c2
                go_wp2_with (first
                 |(go_at_call 25;(with_reducible refine(HB1.out _).mono ?_);rintro e w9 ⟨rfl,hw9⟩;have hw9:=hw9.symm;subst hw9)
                 |fail)
                go_loopw [12] (fun vk wx=>∃ k:Nat,k≤i∧vk=.int .i64 (k:Int)∧(∀y∈c.volumes.take k,neL y ⟨x0,x1,x2,x3⟩=true)∧Later wy wx) (fun vk _=>i - (intOf vk).toNat)
                case atStart=>exact⟨0,by omega,rfl,by simp,Later.refl _⟩
                case round=>
                 obtain⟨k,hk,rfl,hne,hlk⟩:=hrel;by_cases hlt2:k<i
                 ·have hkV:k<c.volumes.length:=by rw[HNV.out];omega
                  have hlr:=HLY.out.trans hlk;have k5:=HK5.out wr ((HVO.out w8 HO8.out).later hlr);have y0:=Zb (hlk.block HBY.out) 0;obtain⟨gb2,go2,hao2,hgb2,hcc2⟩:=ZG ((HRV4.out w8 HO8.out).later hlr) hkV;injection hao2 with hao2;injection hao2 with ha1 ha2 _;subst ha1 ha2;have htk2:=Zx hkV;have hno2:=HNE.out k hlt2
                  obtain⟨z,hz⟩:∃ z,c.volumes[k]'(by rw[HNV.out];omega)=z:=⟨_,rfl⟩
                  rw[hz]at hcc2 htk2 hno2;obtain⟨z0,z1,z2,z3⟩:=z;have e0:=hcc2 0 (by omega);simp only[volC,List.getElem?_cons_zero,Nat.add_zero]at e0;have hdk:decide (k<nV)=true:=decide_eq_true (by omega);have HNO2:=Hd hno2;have HTK2:=Hd htk2;have HLR:=Hd hlk;have HNEK:=Hd hne;clear hcc2 htk2 hno2 hz hne hlr hkV hgb2 hlk;by_cases e:z0=x0
                  ·have d1:(z0==x0)=true:=by simpa using e
                   have HE:=Hd e;clear e
                   go_upto_region 32 with fail
                   go_quiet (fail)
                   go_wp2_with fail
                   (try go_ret)
                   exact HEND.out _ false (by rw[Ve,HNO2.out (by unfold neL;simp[HE.out])];simp) (HL8.out.trans (HLY.out.trans (Later.drewN HLR.out _)))
                  ·have d1:(z0==x0)=false:=by simpa using e
                   have HE:=Hd e;clear e
                   go_upto_region 32 with fail
                   go_quiet (fail)
                   go_wp2_with fail
                   refine⟨⟨k+1,by omega,by simp,fun y hy=>?_,Later.drewN HLR.out _⟩,by simp only[intOf];omega⟩;rw[HTK2.out,List.mem_append,List.mem_singleton]at hy;rcases hy with hy|rfl
                   ·exact HNEK.out y hy
                   ·unfold neL;simp[HE.out]
                 ·have hkn:k=i:=by omega
                  subst hkn;have HLK:=Hd (HLY.out.trans hlk);have HPN:Hid (Xc neL (c.volumes.take (k+1))=true):=Hd (by rw[HTK.out,pairB_snoc,HPR.out,List.all_eq_true.2 hne];rfl);clear hne hlk
                  go_wp2_with fail
                  exact⟨⟨k+1,by omega,by simp,HNX.out HVY.out,HPN.out,HLK.out⟩,by simp only[intOf];omega⟩
               ·have d2:decide (t3<cl)=true:=decide_eq_true (by omega);have HX:=Hd (decide_eq_false c2);clear c1 c2
                go_wp2_with (first
                 |(go_at_call 25;(with_reducible refine(HB1.out _).mono ?_);rintro e w9 ⟨rfl,hw9⟩;have hw9:=hw9.symm;subst hw9)
                 |fail)
                (try go_ret)
                exact HBAD.out (by rw[HVOK.out,HX.out];simp) _ (HL8.out.trans HLY.out)
              ·have d1:decide (40<cl)=true:=decide_eq_true (by omega);have HX:=Hd (decide_eq_false c1);clear c1
               go_wp2_with (first
                |(go_at_call 25;(with_reducible refine(HB1.out _).mono ?_);rintro e w9 ⟨rfl,hw9⟩;have hw9:=hw9.symm;subst hw9)
                |fail)
               (try go_ret)
               exact HBAD.out (by rw[HVOK.out,HX.out];simp) _ (HL8.out.trans HLY.out)
            ·have hin:nV=i:=by omega
             subst hin;rw[List.take_of_length_le (by rw[HNV.out];exact Nat.le_refl _)]at hok hpr;have HLW:=Hd (HL8.out.trans hl)
             have HYES:Hid (c.diskB=true):=Hd (by
              rw[Ve,HHT.out,HAP.out,hpr,List.all_eq_true.2 hok,List.all_eq_true.2 HXV.out];rfl)
             clear hok hpr hl hvw
             go_wp2_with fail
             (try go_ret)
             exact HEND.out _ true HYES.out HLW.out
    ·have d3:(al==0)=false:=by simpa using a0
     have d4:(al != 0)=true:=by rw[bne,d3];rfl
     have HA0:=Hd a0;clear a0
     go_wp2_with (first
      |(go_at_call 25;(first|(with_reducible refine(HB1.out _).mono ?_)|(with_reducible refine(HB5.out _).mono ?_));rintro e w9 ⟨rfl,hw9⟩;have hw9:=hw9.symm;subst hw9)
      |(go_at_call 96;(with_reducible refine(HEA.out _).mono ?_);rintro e w2 ⟨rfl,hl2⟩;obtain⟨m5,m6,m7,m8,m9,m10,m11⟩:=HKA.out w2 hl2)
      |((with_reducible refine Xn (p:=p) (c:=c) (v:=v) 1 ?_ ?_ ?_ ?_ ?_);rfl;rfl;exact(HV1.out _ (Later.refl _));rfl)
      |fail)
     (try go_ret)
     exact HEND.out _ false (HNO.out (by rw[HHD.out];simp[HA0.out])) hl2
  ·have d1:decide ((8:Int)<(nV:Int))=true:=decide_eq_true (by omega);have d2:decide (8<nV)=true:=decide_eq_true (by omega);have HN8:=Hd n8;clear n8
   go_wp2_with (first
    |(go_at_call 25;(first|(with_reducible refine(HB1.out _).mono ?_)|(with_reducible refine(HB5.out _).mono ?_));rintro e w9 ⟨rfl,hw9⟩;have hw9:=hw9.symm;subst hw9)
    |(go_at_call 96;(with_reducible refine(HEA.out _).mono ?_);rintro e w2 ⟨rfl,hl2⟩;obtain⟨m5,m6,m7,m8,m9,m10,m11⟩:=HKA.out w2 hl2)
    |((with_reducible refine Xn (p:=p) (c:=c) (v:=v) 1 ?_ ?_ ?_ ?_ ?_);rfl;rfl;exact(HV1.out _ (Later.refl _));rfl)
    |fail)
   (try go_ret)
   exact HEND.out _ false (HNO.out (by rw[HHD.out];simp[HN8.out])) (Later.refl _)
end Go.Proofs.YtbchkjfnakabkaaGreatDoor
