import Derived.Test.YtbchkjfnakabkaaGreatDoorNK
import Derived.Test.YtbchkjfnakabkaaGreatDoorNP
import Derived.Test.YtbchkjfnakabkaaGreatDoorYP
import Derived.Test.YtbchkjfnakabkaaGreatDoorYCD
import Derived.Deep.RegionHeld3
import Derived.Test.YtbchkjfnakabkaaGreatDoorYM
set_option linter.unusedSimpArgs false
set_option linter.unusedVariables false
set_option maxHeartbeats 8000000
set_option maxRecDepth 100000
namespace Go.Proofs.YtbchkjfnakabkaaGreatDoor
open Go.RowKit PX PC Go.Maps
theorem Za5{l:List Ru}(hl:∀ r∈l,lev 8 r.fr∧lev 8 r.tu)(hne:l≠[]):1≤YY l:=by
 cases l with
 |nil=>exact absurd rfl hne
 |cons r l=>
  obtain⟨⟨a0,a1⟩,b0,b1⟩:=hl r (List.mem_cons_self ..);unfold YY;refine List.length_pos_iff.2 (List.ne_nil_of_mem (a:=r.fr.toNat*8+r.tu.toNat) (List.mem_filter.2 ⟨by simp;omega,?_⟩));rw[List.any_cons,Bool.or_eq_true,Bool.and_eq_true,decide_eq_true_eq,decide_eq_true_eq];refine .inl ⟨?_,?_⟩<;>omega
theorem ZcR(l:List Ru):YY l≤64:=by
 unfold YY;exact Nat.le_trans (List.length_filter_le ..) (by simp)
theorem ZfX{a b:Int}(ha:0≤a)(hb:0<b):upI a b≤a:=by
 unfold upI;have h1:=Int.ediv_mul_le (a+b - 1) (show b≠0 by omega)
 obtain⟨q,hq⟩:∃ q,(a+b - 1)/b=q:=⟨_,rfl⟩
 rw[hq]at h1 ⊢;rcases(by omega:q≤a∨a+1≤q) with h|h
 ·exact h
 ·exfalso;have h2:(a+1)*b≤q*b:=Int.mul_le_mul_of_nonneg_right h (by omega);have e:(a+1)*b=a*b+b:=by rw[Int.add_mul,Int.one_mul]
  have h3:a*1≤a*b:=Int.mul_le_mul_of_nonneg_left (by omega) ha;omega
theorem EW(W:List Win)(l:List Prt)(h:∀ q∈l,0<sumT W 2 q.level):0≤JL W l∧JL W l≤l.length:=by
 refine⟨X5 _,Eh (by omega) fun x hx=>?_⟩;obtain⟨q,hq,rfl⟩:=List.mem_map.1 hx;have h1:=ZfX (a:=(cntL l q.level:Int)) (by omega) (h q hq);have h2:=Zd0 l q.level;omega
theorem Zd1:(fun _:Int=>(0:Int))=fun k=>(cntL [] k:Int):=by funext k;rfl
theorem Zd2(l:List Prt)(p:Prt):(fun k=>if k=p.level then(cntL l p.level:Int)+1 else(cntL l k:Int))=fun k=>(cntL (l++[p]) k:Int):=by
 funext k
 rw[Un];by_cases h:k=p.level
 ·subst h;simp
 ·rw[if_neg h,if_neg (fun e=>h e.symm)];simp
structure NeedOK (c:Cfg):Prop where
 wins:UQ c
 parts:1≤c.parts.length∧c.parts.length≤8
 ticks:∀ q∈c.parts,0<sumT c.windows 2 q.level
 plev:∀ q∈c.parts,lev 8 q.level
 few:c.rules.length≤32
 levs:∀ r∈c.rules,lev 8 r.fr∧lev 8 r.tu
 guard:c.rules≠[]→0<c.tk 4 0
theorem EU{c:Cfg}(h:c.fine=true):NeedOK c:=by
 obtain⟨h1,h2,h3,h4,h5,h6,h7⟩:=YJ h;have L:=Y1.1 h1;have hlo:=L.lo;have hhi:=L.hi
 have hw:UQ c:=by
  have h3':=h3;unfold Cfg.windowsB at h3';rw[Bool.and_eq_true,Bool.and_eq_true]at h3';exact Bo h3'.1.1 h3'.1.2
 refine⟨hw,?_,EQ h3,(fun q hq=>by have:=Wf h2 q hq;unfold lev at this ⊢;omega),?_,?_,fun hne=>Jh h3 hne⟩
 ·unfold Cfg.partsB at h2;rw[Bool.and_eq_true,ZR]at h2;omega
 ·unfold Cfg.rulesB at h6;rw[Bool.and_eq_true,decide_eq_true_eq]at h6;exact h6.1
 ·intro r hr;unfold Cfg.rulesB at h6;rw[Bool.and_eq_true,List.all_eq_true]at h6;have:=h6.2 r hr;unfold ruOK at this;simp only[Bool.and_eq_true]at this;have a:=EX this.1.1.1;have b:=EX this.1.1.2;unfold lev at a b ⊢;omega
theorem ZfL(c:Cfg)(h:NeedOK c):c.need=2+(if c.rules=[] then JL c.windows c.parts else max (JL c.windows c.parts) (upI (4*(YY c.rules:Int)) (c.tk 4 0))):=by
 unfold Cfg.need Cfg.mostR;rw[←Za9];have:=(EW c.windows c.parts h.ticks).1;by_cases e:c.rules=[]
 ·rw[if_pos e,e];simp;omega
 ·rw[if_neg e,if_neg (by simpa using e)]
theorem Qp(w:World)(fb:Nat)(c:Cfg)(vF vP vW vO vV vR vK lv:Value)(h:FormIn w fb c vF vP vW vO vV vR vK lv)(hN:NeedOK c) :
 Calls Tryz.prog 24 #[.pointer (some ⟨fb,0,none⟩)] w fun e w'=>e=.returned (.int .i64 c.need)∧Later w w':=by
 have hmm:=@run_makeMap Tryz.prog;obtain⟨aP,cP,rfl,p1,p2,p3⟩:=Zm h.rP;obtain⟨aW,cW,rfl,q1,q2,q3⟩:=Zm h.rW;obtain⟨aR,cR,rfl,r1,r2,r3⟩:=Zm h.rR;have HF:=Hd h;have HC:=Hd (fun(w':World) (hl:Later w w')=>And.intro (show w'.cell? ⟨fb,2,none⟩=some (.slice aP c.parts.length cP) from(h.later hl).cell 2) (show w'.cell? ⟨fb,12,none⟩=some (.slice aR c.rules.length cR) from(h.later hl).cell 12));have HTK:=Hd (fun(w':World) (hl:Later w w') (k i:Int)=>GS w' fb c _ k i (show w'.cell? ⟨fb,3,none⟩=some (.slice aW c.windows.length cW) from(h.later hl).cell 3) (h.rW.later hl) hN.wins);have HNO:=Hd hN;have hp8:=hN.parts.2;have hr32:=hN.few;have hlP:=h.rP;have hlR:=h.rR
 obtain⟨n,hn⟩:∃ n,c.parts.length=n:=⟨_,rfl⟩
 obtain⟨m,hm⟩:∃ n,c.rules.length=n:=⟨_,rfl⟩
 have HPR:=Hd (fun(w':World) (hl:Later w w')=>hlP.later hl);have HRR:=Hd (fun(w':World) (hl:Later w w')=>hlR.later hl);have HNN:=Hd (And.intro hn hm);rw[hn]at hp8 p1 p3 HC HPR;rw[hm]at hr32 r1 r3 HC HRR
 obtain⟨mb,hmb⟩:∃ mb,w.heap.size=mb:=⟨_,rfl⟩
 obtain⟨w1,hw1⟩:∃ w1,w.alloc (.map #[] 0)=w1:=⟨_,rfl⟩
 have hl1:Later w w1:=by rw[←hw1];exact(Later.refl _).alloc _
 have hi0:IMap w1 mb 0 (fun k=>(cntL (c.parts.take 0) k:Int)):=by rw[←hw1,←hmb,show(fun k=>(cntL (c.parts.take 0) k:Int))=fun _:Int=>(0:Int) from Zd1.symm];exact IMap.made w
 have HMB:=Hd hmb;have HMB2:=Hd (show w.heap.size≤mb by omega);have HW1:=Hd hw1;obtain⟨k0,k1⟩:=HC.out w1 hl1;clear h hN hlP hlR hn hm hmb hw1
 go_enter Tryz.func24,Tryz.ntmps24
 go_upto_region 3 with fail
 rw[HW1.out,HMB.out]
 go_wp2_with fail
 go_loopw [3,17] (fun vm vi wr=>∃ j:Nat,j≤n∧vi=.int .i64 (j:Int)∧vm=.int .i64 (JL c.windows (c.parts.take j))∧IMap wr mb j (fun k=>(cntL (c.parts.take j) k:Int))∧Later w wr) (fun _ vi _=>n - (intOf vi).toNat)
 case atStart=>exact⟨0,by omega,rfl,rfl,hi0,hl1⟩
 case round=>
  obtain⟨j,hj,rfl,rfl,him,hb⟩:=hrel;clear hi0 k0 k1;by_cases hlt:j<n
  ·have hlt2:j<c.parts.length:=by rw[HNN.out.1];exact hlt
   obtain⟨b,o,rfl,hb',hcc⟩:=ZG (HPR.out wr hb) hlt2;have hsn:=Zx hlt2;have hmo:=DO c.windows (c.parts.take j) c.parts[j] (fun q hq=>HNO.out.ticks q (by rw[←hsn]at hq;exact List.mem_of_mem_take hq));have hcf:=Zd2 (c.parts.take j) c.parts[j];have htk:=HNO.out.ticks _ (List.getElem_mem hlt2);have hbd:=EW c.windows (c.parts.take j) (fun q hq=>HNO.out.ticks q (List.mem_of_mem_take hq));have htb:=Qa c.windows 2 c.parts[j].level HNO.out.wins.2;have hcn:=Zd0 (c.parts.take j) c.parts[j].level;have hcn2:=Un (c.parts.take j) c.parts[j] c.parts[j].level;rw[if_pos rfl]at hcn2;rw[List.length_take]at hbd hcn;rw[←hsn]at hmo hcf hcn2;rw[hcn2]at hmo
   obtain⟨x,hx⟩:∃ x,c.parts[j]=x:=⟨_,rfl⟩
   rw[hx]at hcc hmo hcf htk htb hcn hcn2;have HXE:=Hd hx;clear hx hsn;obtain⟨x1,x2⟩:=x;have c0:=hcc 0 (by omega);have c1:=hcc 1 (by omega);simp only[X9,List.getElem?_cons_zero,List.getElem?_cons_succ,Nat.add_zero]at c0 c1;clear hcc;have hw64:=HNO.out.wins.1
   obtain⟨mo,hmo1⟩:∃ mo,JL c.windows (c.parts.take j)=mo:=⟨_,rfl⟩
   obtain⟨mo2,hmo2⟩:∃ mo,JL c.windows (c.parts.take (j+1))=mo:=⟨_,rfl⟩
   obtain⟨cn,hcn1⟩:∃ cn,cntL (c.parts.take j) x1=cn:=⟨_,rfl⟩
   obtain⟨tk,htk1⟩:∃ tk,sumT c.windows 2 x1=tk:=⟨_,rfl⟩
   simp only at hcf hmo htk htb hcn hcn2;rw[hmo1,hmo2,hcn1,htk1]at hmo;rw[htk1]at htk htb;rw[hmo1]at hbd ⊢;rw[hcn1]at hcn hcf hcn2;have HCN1:=Hd (show((cntL (c.parts.take j) x1:Nat):Int)=(cn:Int) by rw[hcn1]);have hcw:IntKind.i64.wrap ((cn:Int)+1)=(cn:Int)+1:=by rw[IntKind.wrap_i64];omega
   have HMO:=Hd (And.intro hmo1 (And.intro hmo2 (And.intro hmo hcf)));have hpl:=HNO.out.plev _ (List.getElem_mem hlt2)
   obtain⟨pb,hpb⟩:∃ pb,wr.heap.size=pb:=⟨_,rfl⟩
   obtain⟨w2,hw2⟩:∃ w2,wr.alloc (.cells #[.int .i64 x1,.int .i64 x2] 49)=w2:=⟨_,rfl⟩
   have hl2:Later wr w2:=by rw[←hw2];exact(Later.refl _).alloc _
   have hpk:w2.heap[pb]?=some (.cells #[.int .i64 x1,.int .i64 x2] 49 (0,0)):=by rw[←hw2,←hpb];exact Ze wr _
   have hmlt:=him.lt;have hmp:¬ (some pb=some mb):=fun e=>by have:=Option.some.inj e;omega
   have hpb2:pb<w2.heap.size:=Za hpk;have him2:=him.later hl2;have HIM2:=Hd him2;have HPK:=Hd hpk;have hw64:=HNO.out.wins.1;have HUP:=Hd (fun w'=>ZfW w' ((cn:Int)+1) tk (by omega) (by omega) htk (by omega));have HT2:=Hd (fun(w':World) (hl:Later w w')=>HTK.out w' hl 2 x1);rw[show c.tk 2 x1=tk from htk1]at HT2;have HW2:=Hd hw2;have HPB:=Hd hpb;have hx8:-9223372036854775808≤x1∧x1≤9223372036854775807:=by unfold lev at hpl;rw[HXE.out]at hpl;simp only at hpl;omega
   have HXX:=Hd hx8;have k0:=Zb hpk 0;have hcn8:cn≤8:=by omega
   have hwn:=Later.trans hb hl2;clear him him2 hmo hmo1 hmo2 hcf hcn1 htk1 hw2 hpb hpk htb hbd hcn hcn2 hmlt
   go_upto_region 6 with fail
   rw[HW2.out,HPB.out]
   go_upto_region 7 with(first
    |(at_lookup;refine VU rfl _ _ 121 rfl Tryz.underlying121 mb j _ rfl HIM2.out x1 rfl hx8 ?_;rw[HCN1.out])
    |(at_mapUpdate;refine VS rfl _ _ _ 121 rfl Tryz.underlying121 mb j _ rfl HIM2.out (by unfold maxLen;omega) x1 ((cn:Int)+1) rfl rfl hx8 (by omega) ?_;intro w3 him3 hg3)
    |fail)
   have him3':IMap w3 mb (j+1) (fun k=>(cntL (c.parts.take (j+1)) k:Int)):=(congrArg (IMap w3 mb (j+1)) HMO.out.2.2.2).mp him3;have hw3:Later w w3:=Later.grown hwn hg3 (fun k e=>by cases e;exact HMB2.out);have hpk3:w3.heap[pb]?=some (.cells #[.int .i64 x1,.int .i64 x2] 49 (0,0)):=(hg3.block pb hpb2 hmp).trans HPK.out
   have hcnt:((cntL (c.parts.take (j+1)) x1:Nat):Int)=(cn:Int)+1:=by
    have:=congrFun HMO.out.2.2.2 x1;simp only[if_true]at this;exact this.symm
   have HS:=Hd (fun(w':World) (hl:Later w3 w')=>And.intro (Zb (hl.block hpk3) 0) (show(Instr.lookup 121 (.map (some mb)) (.int .i64 x1) false).run Tryz.prog w'=.ok (.int .i64 ((cn:Int)+1)) w' from(((him3'.later hl).lookup Tryz.underlying121 HXX.out).trans (by rw[hcnt]))));have HIM3:=Hd him3';clear him3 him3' hg3 hpk3 hcnt
   go_region_held3 (fun w'=>w'.cell? ⟨pb,0,none⟩=some (.int .i64 x1)∧(Instr.lookup 121 (.map (some mb)) (.int .i64 x1) false).run Tryz.prog w'=.ok (.int .i64 ((cn:Int)+1)) w')
    (exact(fun hl=>(HS.out _ hl)) La)
    (first
     |(go_at_call 77;(with_reducible refine(HT2.out _ La).mono ?_);rintro e w4 ⟨rfl,hl4⟩)
     |(go_at_call 76;(with_reducible refine(HUP.out _).mono ?_);rintro e w5 ⟨rfl,hw5⟩;obtain rfl:=hw5.symm)
     |fail)
   all_goals (
    go_wp2_with fail
    refine⟨⟨j+1,by omega,by simp,?_,HIM3.out.later La,La⟩,by simp only[intOf];omega⟩;rw[HMO.out.2.1,HMO.out.2.2.1,Int.natCast_add]
    rfl)
  ·obtain rfl:j=n:=by omega
   have hall:c.parts.take j=c.parts:=by rw[←HNN.out.1,List.take_length]
   rw[hall];have hbd:=EW c.windows c.parts HNO.out.ticks;rw[HNN.out.1]at hbd;have hnd:=ZfL c HNO.out
   obtain⟨mo,hmo⟩:∃ mo,JL c.windows c.parts=mo:=⟨_,rfl⟩
   rw[hmo]at hbd hnd ⊢;have HND:=Hd hnd
   obtain⟨mb2,hmb2⟩:∃ mb,wr.heap.size=mb:=⟨_,rfl⟩
   obtain⟨w2,hw2⟩:∃ w2,wr.alloc (.map #[] 0)=w2:=⟨_,rfl⟩
   have hl2:Later wr w2:=by rw[←hw2];exact(Later.refl _).alloc _
   have hi0:PMap w2 mb2 0 (c.rules.take 0):=by rw[←hw2,←hmb2];exact PMap.made wr
   have HM2:=Hd hmb2;have HW2:=Hd hw2;have hms:w.heap.size≤mb2:=by have:=hb.out.size;omega
   have hbw:Later w w2:=hb.trans hl2;obtain⟨k0,k1⟩:=HC.out w2 hbw;clear him hall hmo hnd hmb2 hw2
   go_upto_region 10 with fail
   rw[HW2.out,HM2.out]
   go_wp2_with fail
   go_loopw [45] (fun vi wq=>∃ i:Nat,i≤m∧vi=.int .i64 (i:Int)∧PMap wq mb2 i (c.rules.take i)∧Later w wq) (fun vi _=>m - (intOf vi).toNat)
   case atStart=>exact⟨0,by omega,rfl,hi0,hbw⟩
   case round=>
    obtain⟨i,hi,rfl,hpm,hbq⟩:=hrel;clear hi0 k0 k1;by_cases hlt2:i<m
    ·have hlt3:i<c.rules.length:=by rw[HNN.out.2];exact hlt2
     obtain⟨b,o,rfl,hb',hcc⟩:=ZG (HRR.out _ hbq) hlt3;have hsn:=Zx hlt3;have hlv:=HNO.out.levs _ (List.getElem_mem hlt3)
     obtain⟨x,hx⟩:∃ x,c.rules[i]=x:=⟨_,rfl⟩
     rw[hx]at hcc hsn hlv;have HSN:=Hd hsn;clear hx hsn;obtain⟨x1,x2,x3,x4,x5⟩:=x;have c0:=hcc 0 (by omega);have c1:=hcc 1 (by omega);have c2:=hcc 2 (by omega);have c3:=hcc 3 (by omega);have c4:=hcc 4 (by omega);simp only[ruC,List.getElem?_cons_zero,List.getElem?_cons_succ,Nat.add_zero]at c0 c1 c2 c3 c4;clear hcc;unfold lev at hlv;simp only at hlv;have hx1:-9223372036854775808≤x1∧x1≤9223372036854775807:=by omega
     have hx2:-9223372036854775808≤x2∧x2≤9223372036854775807:=by omega
     have HPM:=Hd (hpm.later ((Later.refl _).alloc (.cells #[.int .i64 x1,.int .i64 x2,.int .i64 x3,.string x4,.string x5] 53)));clear hpm hlv
     go_wp2_with (first
      |(at_mapUpdate;refine VR rfl _ _ _ 122 rfl Tryz.underlying122 mb2 i _ rfl HPM.out (by unfold maxLen;omega) ⟨x1,x2,x3,x4,x5⟩ rfl rfl hx1 hx2 ?_;intro w7 hpm7 hg7)
      |fail)
     refine⟨⟨i+1,by omega,by simp,?_,Later.grown (hbq.alloc _) hg7 (fun k e=>by cases e;exact hms)⟩,by simp only[intOf];omega⟩;rw[HSN.out];exact hpm7
    ·obtain rfl:i=m:=by omega
     have hpm2:=hpm;rw[show c.rules.take i=c.rules by rw[←HNN.out.2,List.take_length]]at hpm2;have HPM:=Hd hpm2;have HTG:=Hd (fun(w':World) (hl:Later w w')=>HTK.out w' hl 4 0);have hp64:=ZcR c.rules
     obtain⟨pn,hpn⟩:∃ pn,YY c.rules=pn:=⟨_,rfl⟩
     have HPN:=Hd hpn;rw[hpn]at hp64;by_cases hr:c.rules=[]
     ·have hp0:pn=0:=by rw[←hpn,hr];rfl
      have hnn:c.need=2+mo:=by rw[HND.out,if_pos hr]
      subst hp0;have hsw:IntKind.i64.wrap (2+mo)=2+mo:=by rw[IntKind.wrap_i64];omega
      clear hpn hr hpm hpm2
      go_wp2_with (first
       |(at_len;refine JA rfl _ 122 rfl Tryz.underlying122 mb2 i c.rules rfl HPM.out HNO.out.levs ?_;rw[HPN.out])
       |fail)
      go_ret
      exact⟨ZT hnn.symm,hbq⟩
     ·have hp1:1≤pn:=by rw[←hpn];exact Za5 HNO.out.levs hr
      have hg:=HNO.out.guard hr;have htb:=Qa c.windows 4 0 HNO.out.wins.2;have hw64:=HNO.out.wins.1;have hnn:c.need=2+max mo (upI (4*(pn:Int)) (c.tk 4 0)):=by rw[HND.out,if_neg hr,hpn]
      obtain⟨tk,htk⟩:∃ tk,c.tk 4 0=tk:=⟨_,rfl⟩
      rw[show sumT c.windows 4 0=tk from htk]at htb;rw[htk]at hg hnn HTG;have HUP:=Hd (fun w'=>ZfW w' (4*(pn:Int)) tk (by omega) (by omega) hg (by omega));have hul:=ZfX (a:=4*(pn:Int)) (by omega) hg;have hun:=GC (a:=4*(pn:Int)) (by omega) hg
      obtain⟨u,hu⟩:∃ u,upI (4*(pn:Int)) tk=u:=⟨_,rfl⟩
      rw[hu]at HUP hul hun hnn;have hdd:decide ((0:Int)<(pn:Int))=true:=decide_eq_true (by omega);have hmw:IntKind.i64.wrap (4*(pn:Int))=4*(pn:Int):=by rw[IntKind.wrap_i64];omega
      obtain⟨mx,hmx⟩:∃ mx,max mo u=mx:=⟨_,rfl⟩
      have hmx2:0≤mx∧mx≤1000:=by omega
      rw[hmx]at hnn;have hsw:IntKind.i64.wrap (2+mx)=2+mx:=by rw[IntKind.wrap_i64];omega
      clear hpn hr hpm hpm2 hu htk hp64 htb hul hun hg
      go_wp2_with (first
       |(at_len;refine JA rfl _ 122 rfl Tryz.underlying122 mb2 i c.rules rfl HPM.out HNO.out.levs ?_;rw[HPN.out])
       |(go_at_call 77;(with_reducible refine(HTG.out _ La).mono ?_);rintro e w4 ⟨rfl,hl4⟩)
       |(go_at_call 76;(with_reducible refine(HUP.out _).mono ?_);rintro e w5 ⟨rfl,hw5⟩;obtain rfl:=hw5.symm)
       |fail)
      go_ret
      exact⟨ZT hnn.symm,hbq.trans hl4⟩
end Go.Proofs.YtbchkjfnakabkaaGreatDoor
namespace Go.Proofs.YtbchkjfnakabkaaGreatDoor
open Go.RowKit PX PC
open Go.Act renaming put → p0
open List renaming getElem_toArray → p1, getElem_cons_succ → p2, getElem_cons_zero → p3, setIfInBounds_toArray → p4, set_cons_zero → p5, set_cons_succ → p6
theorem UG:(Tryz.prog.info? 32).map (·.size)=some 17:=by kernel_rfl
theorem BX{α:Type}:∀ (l pre old tail:List α),old.length=l.length→(l.zipIdx pre.length).foldl (fun(m:List α) (x:α × Nat)=>m.set x.snd x.fst) (pre++(old++tail))=pre++(l++tail)
 |[],pre,[],tail,_=>by simp
 |a::l,pre,o::old,tail,h=>by
  rw[List.zipIdx_cons,List.foldl_cons];have e:(pre++(o::old++tail)).set pre.length a=(pre++[a])++(old++tail):=by simp
  rw[e];have:=BX l (pre++[a]) old tail (by simpa using h);rw[List.length_append]at this
  simpa using this
 |[],pre,o::old,tail,h=>by simp at h
 |a::l,pre,[],tail,h=>by simp at h
theorem GT{α:Type}(cs:Array α)(old tail:List α)(n:Nat)(h:old.length=n)(hn:cs.size=n):Array.foldl (fun(l:Array α) (x:α × Nat)=>l.setIfInBounds x.snd x.fst) (old++tail).toArray cs.zipIdx 0 n=(cs.toList++tail).toArray:=by
 have e:∀ (l:List (α × Nat)) (a:Array α),(List.foldl (fun(l:Array α) (x:α × Nat)=>l.setIfInBounds x.snd x.fst) a l).toList=List.foldl (fun(l:List α) (x:α × Nat)=>l.set x.snd x.fst) a.toList l:=by
  intro l
  induction l with
  |nil=>intro a;rfl
  |cons x l ih=>intro a;rw[List.foldl_cons,List.foldl_cons,ih];simp
 apply Array.toList_inj.1;have hz:n=cs.zipIdx.size:=by simp[hn]
 rw[hz,←Array.foldl_toList,e];have:=BX cs.toList [] old tail (by simpa [hn] using h)
 simpa using this
def Zfr:List Value:=[.int .i64 0,.slice none 0 0,.slice none 0 0,.slice none 0 0,.slice none 0 0,.slice none 0 0,.int .i64 0,.int .i64 0,.int .i64 0,.int .i64 0,.int .i64 0,.int .i64 0,.slice none 0 0,.slice none 0 0,.string ⟨#[]⟩,.int .i64 0,.int .i64 0]
-- WALKS
noncomputable def chkI(c:Cfg):Int:=if c.checkB then 0 else 111
theorem ZbC(w:World)(C:Array Value)(c:Cfg)(vF vP vW vO vV vR vK:Value)(hC:C=#[.int .i64 c.levels,vF,vP,vW,vO,vV,.int .i64 c.audit.level,.int .i64 c.audit.first,.int .i64 c.audit.count,.int .i64 c.audit.journal,.int .i64 c.boot,.int .i64 c.sectors,vR,vK,.string c.login,.int .i64 c.recovery,.int .i64 c.bound])
 (hr:Rows7 w c vF vP vW vO vV vR vK) (hI:CfgI c) (hW:CfgW c) :
 Calls Tryz.prog 12 #[.agg C] w fun e w'=>e=.returned (.int .i64 c.needB)∧Later w w':=by
 have hC17:C.size=17:=by rw[hC];rfl
 have hin:(Tryz.prog.info? 32).map (·.size)=some C.size:=by rw[hC17];exact UG
 have hfold:=GT C Zfr [Value.pointer none] 17 rfl hC17;have hfm:(C.toList++[Value.pointer none]).toArray=WJ c vF vP vW vO vV vR vK (.pointer none):=by rw[hC];rfl
 rw[hfm]at hfold;simp only[Zfr,List.cons_append,List.nil_append]at hfold
 obtain⟨p,hp⟩:∃ p,w.heap.size=p:=⟨_,rfl⟩
 obtain⟨w1,hw1⟩:∃ w1,w.alloc (.cells C 32)=w1:=⟨_,rfl⟩
 have hl1:Later w w1:=by rw[←hw1];exact(Later.refl _).alloc _
 have hbd:w1.heap[p]?=some (.cells C 32 (0,0)):=by rw[←hw1,←hp];exact Ze w _
 have HC:=Hd (fun(w':World) (h:Later w1 w')=>And.intro (show w'.cell? ⟨p,15,none⟩=some (.int .i64 c.recovery) from by rw[Zb (h.block hbd) 15,hC];rfl) (show w'.cell? ⟨p,16,none⟩=some (.int .i64 c.bound) from by rw[Zb (h.block hbd) 16,hC];rfl));have hr1:=hr.later hl1
 obtain⟨fb,hfb⟩:∃ fb,w1.heap.size=fb:=⟨_,rfl⟩
 obtain⟨w2,hw2⟩:∃ w2,w1.alloc (.cells (WJ c vF vP vW vO vV vR vK (.pointer none)) 61)=w2:=⟨_,rfl⟩
 have hl2:Later w1 w2:=by rw[←hw2];exact(Later.refl _).alloc _
 have hfi:FineIn w1 fb c vF vP vW vO vV vR vK 0 w2:=⟨.pointer none,by rw[←hw2,←hfb];exact Ze w1 _,hl2,fun h=>by omega⟩
 have HFI:=Hd (fun(w':World) (h:Later w2 w')=>B1 w1 w' fb c vF vP vW vO vV vR vK (hfi.later h) hr1 hI hW (by omega));have HRW:=Hd hr1
 obtain⟨b,hb⟩:∃ b,c.fine=b:=⟨_,rfl⟩
 have HB:=Hd hb;rw[hb]at HFI;have HW1:=Hd hw1;have HP:=Hd hp;have HW2:=Hd hw2;have HFB:=Hd hfb;clear hw1 hp hw2 hfb hfm hC hr hfi hb hr1 hI hW;cases b
 ·go_enter Tryz.func12,Tryz.ntmps12
  go_upto_region 1 with fail
  rw[HW1.out,HP.out]
  go_upto_region 2 with(first
   |refine wpList_load_row rfl 32 (.tmp 1) rfl p rfl 32 C (0,0) _ hbd Tryz.underlying32 rfl hin ?_
   |fail)
  (try rw[hfold])
  rw[HW2.out,HFB.out];clear hfold hbd
  go_wp2_with (first
   |(go_at_call 22;(with_reducible refine(HFI.out _ La).mono ?_);rintro e w3 ⟨rfl,hl3,hn3⟩)
   |fail)
  go_ret
  refine⟨ZT ?_,hl1.trans hl3⟩;unfold Cfg.needB;rw[HB.out];rfl
 ·go_enter Tryz.func12,Tryz.ntmps12
  go_upto_region 1 with fail
  rw[HW1.out,HP.out]
  go_upto_region 2 with(first
   |refine wpList_load_row rfl 32 (.tmp 1) rfl p rfl 32 C (0,0) _ hbd Tryz.underlying32 rfl hin ?_
   |fail)
  (try rw[hfold])
  rw[HW2.out,HFB.out];clear hfold hbd
  go_wp2_with (first
   |(go_at_call 22;(with_reducible refine(HFI.out _ La).mono ?_);rintro e w3 ⟨rfl,hl3,hn3⟩;obtain⟨lv',hform,-⟩:=FineIn.form (hn3 rfl) HRW.out;have HND:=Hd (fun(w':World) (h:Later w3 w')=>Qp w' fb c vF vP vW vO vV vR vK lv' (hform.later h) (EU HB.out));clear hform hn3)
   |(go_at_call 24;(with_reducible refine(HND.out _ La).mono ?_);rintro e w4 ⟨rfl,hl4⟩)
   |fail)
  go_ret
  refine⟨ZT ?_,(hl1.trans hl3).trans hl4⟩;unfold Cfg.needB;rw[HB.out];rfl
theorem Ba(w:World)(C:Array Value)(c:Cfg)(vF vP vW vO vV vR vK:Value)(hC:C=#[.int .i64 c.levels,vF,vP,vW,vO,vV,.int .i64 c.audit.level,.int .i64 c.audit.first,.int .i64 c.audit.count,.int .i64 c.audit.journal,.int .i64 c.boot,.int .i64 c.sectors,vR,vK,.string c.login,.int .i64 c.recovery,.int .i64 c.bound])
 (hr:Rows7 w c vF vP vW vO vV vR vK) (hI:CfgI c) (hW:CfgW c) :
 Calls Tryz.prog 10 #[.agg C] w fun e w'=>e=.returned (.int .i64 (chkI c))∧Later w w':=by
 have hC17:C.size=17:=by rw[hC];rfl
 have hin:(Tryz.prog.info? 32).map (·.size)=some C.size:=by rw[hC17];exact UG
 have hfold:=GT C Zfr [Value.pointer none] 17 rfl hC17;have hfm:(C.toList++[Value.pointer none]).toArray=WJ c vF vP vW vO vV vR vK (.pointer none):=by rw[hC];rfl
 rw[hfm]at hfold;simp only[Zfr,List.cons_append,List.nil_append]at hfold
 obtain⟨p,hp⟩:∃ p,w.heap.size=p:=⟨_,rfl⟩
 obtain⟨w1,hw1⟩:∃ w1,w.alloc (.cells C 32)=w1:=⟨_,rfl⟩
 have hl1:Later w w1:=by rw[←hw1];exact(Later.refl _).alloc _
 have hbd:w1.heap[p]?=some (.cells C 32 (0,0)):=by rw[←hw1,←hp];exact Ze w _
 have HC:=Hd (fun(w':World) (h:Later w1 w')=>And.intro (show w'.cell? ⟨p,15,none⟩=some (.int .i64 c.recovery) from by rw[Zb (h.block hbd) 15,hC];rfl) (show w'.cell? ⟨p,16,none⟩=some (.int .i64 c.bound) from by rw[Zb (h.block hbd) 16,hC];rfl));have hr1:=hr.later hl1
 obtain⟨fb,hfb⟩:∃ fb,w1.heap.size=fb:=⟨_,rfl⟩
 obtain⟨w2,hw2⟩:∃ w2,w1.alloc (.cells (WJ c vF vP vW vO vV vR vK (.pointer none)) 61)=w2:=⟨_,rfl⟩
 have hl2:Later w1 w2:=by rw[←hw2];exact(Later.refl _).alloc _
 have hfi:FineIn w1 fb c vF vP vW vO vV vR vK 0 w2:=⟨.pointer none,by rw[←hw2,←hfb];exact Ze w1 _,hl2,fun h=>by omega⟩
 have HFI:=Hd (fun(w':World) (h:Later w2 w')=>B1 w1 w' fb c vF vP vW vO vV vR vK (hfi.later h) hr1 hI hW (by omega));have HRW:=Hd hr1
 obtain⟨b,hb⟩:∃ b,c.fine=b:=⟨_,rfl⟩
 have HB:=Hd hb;rw[hb]at HFI;have HW1:=Hd hw1;have HP:=Hd hp;have HW2:=Hd hw2;have HFB:=Hd hfb;clear hw1 hp hw2 hfb hfm hC hr hfi hb hr1 hI hW;have HIR:=Hd (fun(w':World)=>Xw w' c.recovery 1 65535);have HIB:=Hd (fun(w':World)=>Xw w' c.bound c.need 65535)
 obtain⟨br,hbr⟩:∃ b,inB c.recovery 1 65535=b:=⟨_,rfl⟩
 obtain⟨bb,hbb⟩:∃ b,inB c.bound c.need 65535=b:=⟨_,rfl⟩
 have HBB:=Hd (And.intro hbr hbb);rw[hbr]at HIR;rw[hbb]at HIB;clear hbr hbb;cases b
 ·go_enter Tryz.func10,Tryz.ntmps10
  go_upto_region 1 with fail
  rw[HW1.out,HP.out]
  go_upto_region 2 with(first
   |refine wpList_load_row rfl 32 (.tmp 1) rfl p rfl 32 C (0,0) _ hbd Tryz.underlying32 rfl hin ?_
   |fail)
  (try rw[hfold])
  rw[HW2.out,HFB.out];clear hfold hbd;refine wp_region_held_drew (S:=fun w'=>w'.cell? ⟨p,15,none⟩=some (.int .i64 c.recovery)∧w'.cell? ⟨p,16,none⟩=some (.int .i64 c.bound)) (by kernel_rfl) (HC.out _ La) (fun hHeld=>?_);refine tkS 0 hHeld ?_;refine wpAnyH_ready (rs:=[1]) (by kernel_rfl) (by simp) ?_;refine AllReadyH.cons rfl (fun K hK=>?_) AllReadyH.nil
  go_simp
  refine(HFI.out _ La).mono ?_;rintro e w3 ⟨rfl,hl3,hn3⟩;refine hK.out _ _ ?_ (fun hHeld=>?_)
  ·exact HC.out _ La
  clear hK K
  (try simp only[p0,p1,p2,p3,p4,p5,p6])
  refine tkS 2 hHeld ?_;refine tkS 3 hHeld ?_;refine tkV 4 hHeld ?_;refine tkV 5 hHeld ?_;refine tkV 6 hHeld ?_;refine tkV 7 hHeld ?_;refine tkS 8 hHeld ?_;refine tkS 9 hHeld ?_;refine tkV 10 hHeld ?_;refine tkV 11 hHeld ?_;refine tkV 12 hHeld ?_;refine tkV 13 hHeld ?_;refine tkV 14 hHeld ?_;refine tkV 15 hHeld ?_;refine tkS 16 hHeld ?_;refine wpAnyH_done (by kernel_rfl) ?_ _
  go_wp2_with fail
  go_ret
  refine⟨ZT ?_,hl1.trans hl3⟩;unfold chkI Cfg.checkB;rw[HB.out];rfl
 ·cases br
  ·go_enter Tryz.func10,Tryz.ntmps10
   go_upto_region 1 with fail
   rw[HW1.out,HP.out]
   go_upto_region 2 with(first
    |refine wpList_load_row rfl 32 (.tmp 1) rfl p rfl 32 C (0,0) _ hbd Tryz.underlying32 rfl hin ?_
    |fail)
   (try rw[hfold])
   rw[HW2.out,HFB.out];clear hfold hbd;refine wp_region_held_drew (S:=fun w'=>w'.cell? ⟨p,15,none⟩=some (.int .i64 c.recovery)∧w'.cell? ⟨p,16,none⟩=some (.int .i64 c.bound)) (by kernel_rfl) (HC.out _ La) (fun hHeld=>?_);refine tkS 0 hHeld ?_;refine wpAnyH_ready (rs:=[1]) (by kernel_rfl) (by simp) ?_;refine AllReadyH.cons rfl (fun K hK=>?_) AllReadyH.nil
   go_simp
   refine(HFI.out _ La).mono ?_;rintro e w3 ⟨rfl,hl3,hn3⟩;refine hK.out _ _ ?_ (fun hHeld=>?_)
   ·exact HC.out _ La
   clear hK K
   (try simp only[p0,p1,p2,p3,p4,p5,p6])
   refine tkS 2 hHeld ?_;refine tkS 3 hHeld ?_;refine tkS 4 hHeld ?_;refine tkS 5 hHeld ?_;refine wpAnyH_ready (rs:=[6]) (by kernel_rfl) (by simp) ?_;refine AllReadyH.cons rfl (fun K hK=>?_) AllReadyH.nil
   go_simp
   refine(HIR.out _).mono ?_;rintro e w9 ⟨rfl,hw9⟩;obtain rfl:=hw9.symm;refine hK.out _ _ ?_ (fun hHeld=>?_)
   ·exact HC.out _ La
   clear hK K
   (try simp only[p0,p1,p2,p3,p4,p5,p6])
   refine tkS 7 hHeld ?_;refine tkS 8 hHeld ?_;refine tkS 9 hHeld ?_;refine tkV 10 hHeld ?_;refine tkV 11 hHeld ?_;refine tkV 12 hHeld ?_;refine tkV 13 hHeld ?_;refine tkV 14 hHeld ?_;refine tkV 15 hHeld ?_;refine tkS 16 hHeld ?_;refine wpAnyH_done (by kernel_rfl) ?_ _
   go_wp2_with fail
   go_ret
   refine⟨ZT ?_,hl1.trans hl3⟩;unfold chkI Cfg.checkB;rw[HB.out,HBB.out.1];rfl
  ·cases bb
   ·go_enter Tryz.func10,Tryz.ntmps10
    go_upto_region 1 with fail
    rw[HW1.out,HP.out]
    go_upto_region 2 with(first
     |refine wpList_load_row rfl 32 (.tmp 1) rfl p rfl 32 C (0,0) _ hbd Tryz.underlying32 rfl hin ?_
     |fail)
    (try rw[hfold])
    rw[HW2.out,HFB.out];clear hfold hbd;refine wp_region_held_drew (S:=fun w'=>w'.cell? ⟨p,15,none⟩=some (.int .i64 c.recovery)∧w'.cell? ⟨p,16,none⟩=some (.int .i64 c.bound)) (by kernel_rfl) (HC.out _ La) (fun hHeld=>?_);refine tkS 0 hHeld ?_;refine wpAnyH_ready (rs:=[1]) (by kernel_rfl) (by simp) ?_;refine AllReadyH.cons rfl (fun K hK=>?_) AllReadyH.nil
    go_simp
    refine(HFI.out _ La).mono ?_;rintro e w3 ⟨rfl,hl3,hn3⟩;obtain⟨lv',hform,-⟩:=FineIn.form (hn3 rfl) HRW.out;have HND:=Hd (fun(w':World) (h:Later w3 w')=>Qp w' fb c vF vP vW vO vV vR vK lv' (hform.later h) (EU HB.out));clear hform hn3;refine hK.out _ _ ?_ (fun hHeld=>?_)
    ·exact HC.out _ La
    clear hK K
    (try simp only[p0,p1,p2,p3,p4,p5,p6])
    refine tkS 2 hHeld ?_;refine tkS 3 hHeld ?_;refine tkS 4 hHeld ?_;refine tkS 5 hHeld ?_;refine wpAnyH_ready (rs:=[6]) (by kernel_rfl) (by simp) ?_;refine AllReadyH.cons rfl (fun K hK=>?_) AllReadyH.nil
    go_simp
    refine(HIR.out _).mono ?_;rintro e w9 ⟨rfl,hw9⟩;obtain rfl:=hw9.symm;refine hK.out _ _ ?_ (fun hHeld=>?_)
    ·exact HC.out _ La
    clear hK K
    (try simp only[p0,p1,p2,p3,p4,p5,p6])
    refine tkS 7 hHeld ?_;refine tkS 8 hHeld ?_;refine tkS 9 hHeld ?_;refine tkS 10 hHeld ?_;refine tkS 11 hHeld ?_;refine tkS 12 hHeld ?_;refine wpAnyH_ready (rs:=[13]) (by kernel_rfl) (by simp) ?_;refine AllReadyH.cons rfl (fun K hK=>?_) AllReadyH.nil
    go_simp
    refine(HND.out _ La).mono ?_;rintro e w4 ⟨rfl,hl4⟩;refine hK.out _ _ ?_ (fun hHeld=>?_)
    ·exact HC.out _ La
    clear hK K
    (try simp only[p0,p1,p2,p3,p4,p5,p6])
    refine wpAnyH_ready (rs:=[14]) (by kernel_rfl) (by simp) ?_;refine AllReadyH.cons rfl (fun K hK=>?_) AllReadyH.nil
    go_simp
    refine(HIB.out _).mono ?_;rintro e w8 ⟨rfl,hw8⟩;obtain rfl:=hw8.symm;refine hK.out _ _ ?_ (fun hHeld=>?_)
    ·exact HC.out _ La
    clear hK K
    (try simp only[p0,p1,p2,p3,p4,p5,p6])
    refine tkS 15 hHeld ?_;refine tkS 16 hHeld ?_;refine wpAnyH_done (by kernel_rfl) ?_ _
    go_wp2_with fail
    go_ret
    refine⟨ZT ?_,(hl1.trans hl3).trans hl4⟩;unfold chkI Cfg.checkB;rw[HB.out,HBB.out.1,HBB.out.2];rfl
   ·go_enter Tryz.func10,Tryz.ntmps10
    go_upto_region 1 with fail
    rw[HW1.out,HP.out]
    go_upto_region 2 with(first
     |refine wpList_load_row rfl 32 (.tmp 1) rfl p rfl 32 C (0,0) _ hbd Tryz.underlying32 rfl hin ?_
     |fail)
    (try rw[hfold])
    rw[HW2.out,HFB.out];clear hfold hbd;refine wp_region_held_drew (S:=fun w'=>w'.cell? ⟨p,15,none⟩=some (.int .i64 c.recovery)∧w'.cell? ⟨p,16,none⟩=some (.int .i64 c.bound)) (by kernel_rfl) (HC.out _ La) (fun hHeld=>?_);refine tkS 0 hHeld ?_;refine wpAnyH_ready (rs:=[1]) (by kernel_rfl) (by simp) ?_;refine AllReadyH.cons rfl (fun K hK=>?_) AllReadyH.nil
    go_simp
    refine(HFI.out _ La).mono ?_;rintro e w3 ⟨rfl,hl3,hn3⟩;obtain⟨lv',hform,-⟩:=FineIn.form (hn3 rfl) HRW.out;have HND:=Hd (fun(w':World) (h:Later w3 w')=>Qp w' fb c vF vP vW vO vV vR vK lv' (hform.later h) (EU HB.out));clear hform hn3;refine hK.out _ _ ?_ (fun hHeld=>?_)
    ·exact HC.out _ La
    clear hK K
    (try simp only[p0,p1,p2,p3,p4,p5,p6])
    refine tkS 2 hHeld ?_;refine tkS 3 hHeld ?_;refine tkS 4 hHeld ?_;refine tkS 5 hHeld ?_;refine wpAnyH_ready (rs:=[6]) (by kernel_rfl) (by simp) ?_;refine AllReadyH.cons rfl (fun K hK=>?_) AllReadyH.nil
    go_simp
    refine(HIR.out _).mono ?_;rintro e w9 ⟨rfl,hw9⟩;obtain rfl:=hw9.symm;refine hK.out _ _ ?_ (fun hHeld=>?_)
    ·exact HC.out _ La
    clear hK K
    (try simp only[p0,p1,p2,p3,p4,p5,p6])
    refine tkS 7 hHeld ?_;refine tkS 8 hHeld ?_;refine tkS 9 hHeld ?_;refine tkS 10 hHeld ?_;refine tkS 11 hHeld ?_;refine tkS 12 hHeld ?_;refine wpAnyH_ready (rs:=[13]) (by kernel_rfl) (by simp) ?_;refine AllReadyH.cons rfl (fun K hK=>?_) AllReadyH.nil
    go_simp
    refine(HND.out _ La).mono ?_;rintro e w4 ⟨rfl,hl4⟩;refine hK.out _ _ ?_ (fun hHeld=>?_)
    ·exact HC.out _ La
    clear hK K
    (try simp only[p0,p1,p2,p3,p4,p5,p6])
    refine wpAnyH_ready (rs:=[14]) (by kernel_rfl) (by simp) ?_;refine AllReadyH.cons rfl (fun K hK=>?_) AllReadyH.nil
    go_simp
    refine(HIB.out _).mono ?_;rintro e w8 ⟨rfl,hw8⟩;obtain rfl:=hw8.symm;refine hK.out _ _ ?_ (fun hHeld=>?_)
    ·exact HC.out _ La
    clear hK K
    (try simp only[p0,p1,p2,p3,p4,p5,p6])
    refine tkS 15 hHeld ?_;refine tkS 16 hHeld ?_;refine wpAnyH_done (by kernel_rfl) ?_ _
    go_wp2_with fail
    go_ret
    refine⟨ZT ?_,(hl1.trans hl3).trans hl4⟩;unfold chkI Cfg.checkB;rw[HB.out,HBB.out.1,HBB.out.2];rfl
theorem CfgIn.rows7{w:World}{cs:List Value}{c:Cfg}(h:CfgIn w cs c):∃ vF vP vW vO vV vR vK:Value,cs=[.int .i64 c.levels,vF,vP,vW,vO,vV,.int .i64 c.audit.level,.int .i64 c.audit.first,.int .i64 c.audit.count,.int .i64 c.audit.journal,.int .i64 c.boot,.int .i64 c.sectors,vR,vK,.string c.login,.int .i64 c.recovery,.int .i64 c.bound]∧Rows7 w c vF vP vW vO vV vR vK:=by
 obtain⟨vF,vP,vW,vO,vV,vR,vK,h0,h1,h2,h3,h4,h5,h6,h7⟩:=h.rows;exact⟨vF,vP,vW,vO,vV,vR,vK,h0,⟨h1,h2,h3,h4,h5,h6,h7⟩⟩
end Go.Proofs.YtbchkjfnakabkaaGreatDoor
