import Derived.Test.YtbchkjfnakabkaaGreatDoorNK
import Derived.Test.YtbchkjfnakabkaaGreatDoorNP
import Derived.Test.YtbchkjfnakabkaaGreatDoorYP
import Derived.Test.YtbchkjfnakabkaaGreatDoorYCD
import Derived.Deep.RegionHeld3
import Derived.Test.YtbchkjfnakabkaaGreatDoorYM
set_option linter.unusedSimpArgs false
set_option linter.unusedVariables false
set_option maxHeartbeats 8000000
set_option maxRecDepth 100000
namespace Go.Proofs.YtbchkjfnakabkaaGreatDoor
open Go.RowKit PX PC Go.Maps
theorem ZbP{l:List Ru}(hl:∀ r∈l,lev 8 r.fr/\lev 8 r.tu)(hne:l≠[]):1<=XZ l:=by
 cases l with
 |nil=>exact absurd rfl hne
 |cons r l=>
  obtain⟨⟨a0,a1⟩,b0,b1⟩:=hl r (List.mem_cons_self ..);unfold XZ;refine List.length_pos_iff.2 (List.ne_nil_of_mem (a:=r.fr.toNat*8+r.tu.toNat) (List.mem_filter.2 ⟨by simp;omega,?_⟩));rw[List.any_cons,Bool.or_eq_true,Bool.and_eq_true,decide_eq_true_eq,decide_eq_true_eq];refine .inl ⟨?_,?_⟩<;>omega
theorem WQ(l:List Ru):XZ l<=64:=by
 unfold XZ;exact Nat.le_trans (List.length_filter_le ..) (by simp)
theorem B5{a b:Int}(ha:0<=a)(hb:0<b):upI a b<=a:=by
 unfold upI;have h1:=Int.ediv_mul_le (a+b - 1) (show b≠0 by omega)
 obtain⟨q,hq⟩:∃ q,(a+b - 1)/b=q:=⟨_,rfl⟩
 rw[hq]at h1 ⊢;rcases(by omega:q<=a\/a+1<=q) with h|h
 ·exact h
 ·exfalso;have h2:(a+1)*b<=q*b:=Int.mul_le_mul_of_nonneg_right h (by omega);have e:(a+1)*b=a*b+b:=by rw[Int.add_mul,Int.one_mul]
  have h3:a*1<=a*b:=Int.mul_le_mul_of_nonneg_left (by omega) ha;omega
theorem Ge(W:List Win)(l:List Prt)(h:∀ q∈l,0<sumT W 2 q.level):0<=J7 W l/\J7 W l<=l.length:=by
 refine⟨YI _,Ey (by omega) λx hx=>?_⟩;obtain⟨q,hq,rfl⟩:=List.mem_map.1 hx;have h1:=B5 (a:=(cntL l q.level:Int)) (by omega) (h q hq);have h2:=GF l q.level;omega
theorem ZeO:(λ_:Int=>(0:Int))=λk=>(cntL [] k:Int):=by funext k;rfl
theorem ZeP(l:List Prt)(p:Prt):(λk=>if k=p.level then(cntL l p.level:Int)+1 else(cntL l k:Int))=λk=>(cntL (l++[p]) k:Int):=by
 funext k
 rw[Vh];by_cases h:k=p.level
 ·subst h;simp
 ·rw[if_neg h,if_neg (λe=>h e.symm)];simp
structure NeedOK (c:Cfg):Prop where
 wins:U7 c
 parts:1<=c.parts.length/\c.parts.length<=8
 ticks:∀ q∈c.parts,0<sumT c.windows 2 q.level
 plev:∀ q∈c.parts,lev 8 q.level
 few:c.rules.length<=32
 levs:∀ r∈c.rules,lev 8 r.fr/\lev 8 r.tu
 guard:c.rules≠[]->0<c.tk 4 0
theorem Uo{c:Cfg}(h:c.fine=true):NeedOK c:=by
 obtain⟨h1,h2,h3,h4,h5,h6,h7⟩:=XY h;have L:=YE.1 h1;have hlo:=L.lo;have hhi:=L.hi
 have hw:U7 c:=by
  have m1:=h3;unfold Cfg.windowsB at m1;rw[Bool.and_eq_true,Bool.and_eq_true]at m1;exact B2 m1.1.1 m1.1.2
 refine⟨hw,?_,E7 h3,(λq hq=>by have:=WP h2 q hq;unfold lev at this ⊢;omega),?_,?_,λhne=>VV h3 hne⟩
 ·unfold Cfg.partsB at h2;rw[Bool.and_eq_true,ZI]at h2;omega
 ·unfold Cfg.rulesB at h6;rw[Bool.and_eq_true,decide_eq_true_eq]at h6;exact h6.1
 ·intro r hr;unfold Cfg.rulesB at h6;rw[Bool.and_eq_true,List.all_eq_true]at h6;have:=h6.2 r hr;unfold ruOK at this;simp only[Bool.and_eq_true]at this;have a:=Gf this.1.1.1;have b:=Gf this.1.1.2;unfold lev at a b ⊢;omega
theorem ZgE(c:Cfg)(h:NeedOK c):c.need=2+(if c.rules=[] then J7 c.windows c.parts else max (J7 c.windows c.parts) (upI (4*(XZ c.rules:Int)) (c.tk 4 0))):=by
 unfold Cfg.need Cfg.mostR;rw[<-ZbU];have:=(Ge c.windows c.parts h.ticks).1;by_cases e:c.rules=[]
 ·rw[if_pos e,e];simp;omega
 ·rw[if_neg e,if_neg (by simpa using e)]
theorem QQ(w:World)(fb:Nat)(c:Cfg)(vF vP vW vO vV vR vK lv:Value)(h:FormIn w fb c vF vP vW vO vV vR vK lv)(hN:NeedOK c) :
 Calls Tryz.prog 24 #[.pointer (some ⟨fb,0,none⟩)] w λe w'=>e=.returned (.int .i64 c.need)/\Later w w':=by
 have hmm:=@run_makeMap Tryz.prog;obtain⟨aP,cP,rfl,p1,p2,p3⟩:=Zk h.rP;obtain⟨aW,cW,rfl,q1,q2,q3⟩:=Zk h.rW;obtain⟨aR,cR,rfl,r1,r2,r3⟩:=Zk h.rR;have HF:=Hd h;have HC:=Hd (λ(w':World) (hl:Later w w')=>And.intro (show w'.cell? ⟨fb,2,none⟩=some (.slice aP c.parts.length cP) from(h.later hl).cell 2) (show w'.cell? ⟨fb,12,none⟩=some (.slice aR c.rules.length cR) from(h.later hl).cell 12));have M1:=Hd (λ(w':World) (hl:Later w w') (k i:Int)=>Qf w' fb c _ k i (show w'.cell? ⟨fb,3,none⟩=some (.slice aW c.windows.length cW) from(h.later hl).cell 3) (h.rW.later hl) hN.wins);have g0:=Hd hN;have s2:=hN.parts.2;have z1:=hN.few;have O1:=h.rP;have b2:=h.rR
 obtain⟨n,hn⟩:∃ n,c.parts.length=n:=⟨_,rfl⟩
 obtain⟨m,hm⟩:∃ n,c.rules.length=n:=⟨_,rfl⟩
 have Z1:=Hd (λ(w':World) (hl:Later w w')=>O1.later hl);have R1:=Hd (λ(w':World) (hl:Later w w')=>b2.later hl);have g1:=Hd (And.intro hn hm);rw[hn]at s2 p1 p3 HC Z1;rw[hm]at z1 r1 r3 HC R1
 obtain⟨mb,hmb⟩:∃ mb,w.heap.size=mb:=⟨_,rfl⟩
 obtain⟨w1,hw1⟩:∃ w1,w.alloc (.map #[] 0)=w1:=⟨_,rfl⟩
 have l0:Later w w1:=by rw[<-hw1];exact(Later.refl _).alloc _
 have W0:IMap w1 mb 0 (λk=>(cntL (c.parts.take 0) k:Int)):=by rw[<-hw1,<-hmb,show(λk=>(cntL (c.parts.take 0) k:Int))=λ_:Int=>(0:Int) from ZeO.symm];exact IMap.made w
 have l2:=Hd hmb;have K1:=Hd (show w.heap.size<=mb by omega);have r0:=Hd hw1;obtain⟨k0,k1⟩:=HC.out w1 l0;clear h hN O1 b2 hn hm hmb hw1
 go_enter Tryz.func24,Tryz.ntmps24
 go_upto_region 3 with fail
 rw[r0.out,l2.out]
 go_wp2_with fail
 go_loopw [3,17] (λvm vi wr=>∃ j:Nat,j<=n/\vi=.int .i64 (j:Int)/\vm=.int .i64 (J7 c.windows (c.parts.take j))/\IMap wr mb j (λk=>(cntL (c.parts.take j) k:Int))/\Later w wr) (λ_ vi _=>n - (intOf vi).toNat)
 case atStart=>exact⟨0,by omega,rfl,rfl,W0,l0⟩
 case round=>
  obtain⟨j,hj,rfl,rfl,him,hb⟩:=hrel;clear W0 k0 k1;by_cases hlt:j<n
  ·have j0:j<c.parts.length:=by rw[g1.out.1];exact hlt
   obtain⟨b,o,rfl,hb',hcc⟩:=Zz (Z1.out wr hb) j0;have C0:=Zr j0;have q0:=Bp c.windows (c.parts.take j) c.parts[j] (λq hq=>g0.out.ticks q (by rw[<-C0]at hq;exact List.mem_of_mem_take hq));have L0:=ZeP (c.parts.take j) c.parts[j];have z0:=g0.out.ticks _ (List.getElem_mem j0);have f0:=Ge c.windows (c.parts.take j) (λq hq=>g0.out.ticks q (List.mem_of_mem_take hq));have H0:=Qy c.windows 2 c.parts[j].level g0.out.wins.2;have f1:=GF (c.parts.take j) c.parts[j].level;have i0:=Vh (c.parts.take j) c.parts[j] c.parts[j].level;rw[if_pos rfl]at i0;rw[List.length_take]at f0 f1;rw[<-C0]at q0 L0 i0;rw[i0]at q0
   obtain⟨x,hx⟩:∃ x,c.parts[j]=x:=⟨_,rfl⟩
   rw[hx]at hcc q0 L0 z0 H0 f1 i0;have g2:=Hd hx;clear hx C0;obtain⟨x1,x2⟩:=x;have c0:=hcc 0 (by omega);have c1:=hcc 1 (by omega);simp only[XT,List.getElem?_cons_zero,List.getElem?_cons_succ,Nat.add_zero]at c0 c1;clear hcc;have d1:=g0.out.wins.1
   obtain⟨mo,hmo1⟩:∃ mo,J7 c.windows (c.parts.take j)=mo:=⟨_,rfl⟩
   obtain⟨mo2,hmo2⟩:∃ mo,J7 c.windows (c.parts.take (j+1))=mo:=⟨_,rfl⟩
   obtain⟨cn,hcn1⟩:∃ cn,cntL (c.parts.take j) x1=cn:=⟨_,rfl⟩
   obtain⟨tk,htk1⟩:∃ tk,sumT c.windows 2 x1=tk:=⟨_,rfl⟩
   simp only at L0 q0 z0 H0 f1 i0;rw[hmo1,hmo2,hcn1,htk1]at q0;rw[htk1]at z0 H0;rw[hmo1]at f0 ⊢;rw[hcn1]at f1 L0 i0;have L1:=Hd (show((cntL (c.parts.take j) x1:Nat):Int)=(cn:Int) by rw[hcn1]);have hcw:IntKind.i64.wrap ((cn:Int)+1)=(cn:Int)+1:=by rw[IntKind.wrap_i64];omega
   have s1:=Hd (And.intro hmo1 (And.intro hmo2 (And.intro q0 L0)));have I1:=g0.out.plev _ (List.getElem_mem j0)
   obtain⟨pb,hpb⟩:∃ pb,wr.heap.size=pb:=⟨_,rfl⟩
   obtain⟨w2,hw2⟩:∃ w2,wr.alloc (.cells #[.int .i64 x1,.int .i64 x2] 49)=w2:=⟨_,rfl⟩
   have y0:Later wr w2:=by rw[<-hw2];exact(Later.refl _).alloc _
   have n1:w2.heap[pb]?=some (.cells #[.int .i64 x1,.int .i64 x2] 49 (0,0)):=by rw[<-hw2,<-hpb];exact Zd wr _
   have H1:=him.lt;have d2:¬ (some pb=some mb):=λe=>by have:=Option.some.inj e;omega
   have F1:pb<w2.heap.size:=Za n1;have T0:=him.later y0;have j1:=Hd T0;have v2:=Hd n1;have d1:=g0.out.wins.1;have t1:=Hd (λw'=>ZgQ w' ((cn:Int)+1) tk (by omega) (by omega) z0 (by omega));have N1:=Hd (λ(w':World) (hl:Later w w')=>M1.out w' hl 2 x1);rw[show c.tk 2 x1=tk from htk1]at N1;have o0:=Hd hw2;have y2:=Hd hpb;have C1:-9223372036854775808<=x1/\x1<=9223372036854775807:=by unfold lev at I1;rw[g2.out]at I1;simp only at I1;omega
   have t2:=Hd C1;have k0:=Zb n1 0;have hcn8:cn<=8:=by omega
   have e2:=Later.trans hb y0;clear him T0 q0 hmo1 hmo2 L0 hcn1 htk1 hw2 hpb n1 H0 f0 f1 i0 H1
   go_upto_region 6 with fail
   rw[o0.out,y2.out]
   go_upto_region 7 with(first
    |(at_lookup;refine Uf rfl _ _ 121 rfl Tryz.underlying121 mb j _ rfl j1.out x1 rfl C1 ?_;rw[L1.out])
    |(at_mapUpdate;refine Ud rfl _ _ _ 121 rfl Tryz.underlying121 mb j _ rfl j1.out (by unfold maxLen;omega) x1 ((cn:Int)+1) rfl rfl C1 (by omega) ?_;intro w3 him3 hg3)
    |fail)
   have m0:IMap w3 mb (j+1) (λk=>(cntL (c.parts.take (j+1)) k:Int)):=(congrArg (IMap w3 mb (j+1)) s1.out.2.2.2).mp him3;have hw3:Later w w3:=Later.grown e2 hg3 (λk e=>by cases e;exact K1.out);have e1:w3.heap[pb]?=some (.cells #[.int .i64 x1,.int .i64 x2] 49 (0,0)):=(hg3.block pb F1 d2).trans v2.out
   have R0:((cntL (c.parts.take (j+1)) x1:Nat):Int)=(cn:Int)+1:=by
    have:=congrFun s1.out.2.2.2 x1;simp only[if_true]at this;exact this.symm
   have HS:=Hd (λ(w':World) (hl:Later w3 w')=>And.intro (Zb (hl.block e1) 0) (show(Instr.lookup 121 (.map (some mb)) (.int .i64 x1) false).run Tryz.prog w'=.ok (.int .i64 ((cn:Int)+1)) w' from(((m0.later hl).lookup Tryz.underlying121 t2.out).trans (by rw[R0]))));have A1:=Hd m0;clear him3 m0 hg3 e1 R0
   go_region_held3 (fun w'=>w'.cell? ⟨pb,0,none⟩=some (.int .i64 x1)∧(Instr.lookup 121 (.map (some mb)) (.int .i64 x1) false).run Tryz.prog w'=.ok (.int .i64 ((cn:Int)+1)) w')
    (exact(λhl=>(HS.out _ hl)) La)
    (first
     |(go_at_call 77;(with_reducible refine(N1.out _ La).mono ?_);rintro e w4 ⟨rfl,hl4⟩)
     |(go_at_call 76;(with_reducible refine(t1.out _).mono ?_);rintro e w5 ⟨rfl,hw5⟩;obtain rfl:=hw5.symm)
     |fail)
   all_goals (
    go_wp2_with fail
    refine⟨⟨j+1,by omega,by simp,?_,A1.out.later La,La⟩,by simp only[intOf];omega⟩;rw[s1.out.2.1,s1.out.2.2.1,Int.natCast_add]
    rfl)
  ·obtain rfl:j=n:=by omega
   have i1:c.parts.take j=c.parts:=by rw[<-g1.out.1,List.take_length]
   rw[i1];have f0:=Ge c.windows c.parts g0.out.ticks;rw[g1.out.1]at f0;have E1:=ZgE c g0.out
   obtain⟨mo,q0⟩:∃ mo,J7 c.windows c.parts=mo:=⟨_,rfl⟩
   rw[q0]at f0 E1 ⊢;have v0:=Hd E1
   obtain⟨mb2,hmb2⟩:∃ mb,wr.heap.size=mb:=⟨_,rfl⟩
   obtain⟨w2,hw2⟩:∃ w2,wr.alloc (.map #[] 0)=w2:=⟨_,rfl⟩
   have y0:Later wr w2:=by rw[<-hw2];exact(Later.refl _).alloc _
   have W0:PMap w2 mb2 0 (c.rules.take 0):=by rw[<-hw2,<-hmb2];exact PMap.made wr
   have j2:=Hd hmb2;have o0:=Hd hw2;have n2:w.heap.size<=mb2:=by have:=hb.out.size;omega
   have S1:Later w w2:=hb.trans y0;obtain⟨k0,k1⟩:=HC.out w2 S1;clear him i1 q0 E1 hmb2 hw2
   go_upto_region 10 with fail
   rw[o0.out,j2.out]
   go_wp2_with fail
   go_loopw [45] (λvi wq=>∃ i:Nat,i<=m/\vi=.int .i64 (i:Int)/\PMap wq mb2 i (c.rules.take i)/\Later w wq) (λvi _=>m - (intOf vi).toNat)
   case atStart=>exact⟨0,by omega,rfl,W0,S1⟩
   case round=>
    obtain⟨i,hi,rfl,hpm,hbq⟩:=hrel;clear W0 k0 k1;by_cases j0:i<m
    ·have I0:i<c.rules.length:=by rw[g1.out.2];exact j0
     obtain⟨b,o,rfl,hb',hcc⟩:=Zz (R1.out _ hbq) I0;have C0:=Zr I0;have v1:=g0.out.levs _ (List.getElem_mem I0)
     obtain⟨x,hx⟩:∃ x,c.rules[i]=x:=⟨_,rfl⟩
     rw[hx]at hcc C0 v1;have k2:=Hd C0;clear hx C0;obtain⟨x1,x2,x3,x4,x5⟩:=x;have c0:=hcc 0 (by omega);have c1:=hcc 1 (by omega);have c2:=hcc 2 (by omega);have c3:=hcc 3 (by omega);have c4:=hcc 4 (by omega);simp only[ruC,List.getElem?_cons_zero,List.getElem?_cons_succ,Nat.add_zero]at c0 c1 c2 c3 c4;clear hcc;unfold lev at v1;simp only at v1;have m2:-9223372036854775808<=x1/\x1<=9223372036854775807:=by omega
     have f2:-9223372036854775808<=x2/\x2<=9223372036854775807:=by omega
     have y1:=Hd (hpm.later ((Later.refl _).alloc (.cells #[.int .i64 x1,.int .i64 x2,.int .i64 x3,.string x4,.string x5] 53)));clear hpm v1
     go_wp2_with (first
      |(at_mapUpdate;refine Uc rfl _ _ _ 122 rfl Tryz.underlying122 mb2 i _ rfl y1.out (by unfold maxLen;omega) ⟨x1,x2,x3,x4,x5⟩ rfl rfl m2 f2 ?_;intro w7 hpm7 hg7)
      |fail)
     refine⟨⟨i+1,by omega,by simp,?_,Later.grown (hbq.alloc _) hg7 (λk e=>by cases e;exact n2)⟩,by simp only[intOf];omega⟩;rw[k2.out];exact hpm7
    ·obtain rfl:i=m:=by omega
     have t0:=hpm;rw[show c.rules.take i=c.rules by rw[<-g1.out.2,List.take_length]]at t0;have y1:=Hd t0;have W1:=Hd (λ(w':World) (hl:Later w w')=>M1.out w' hl 4 0);have S0:=WQ c.rules
     obtain⟨pn,hpn⟩:∃ pn,XZ c.rules=pn:=⟨_,rfl⟩
     have a2:=Hd hpn;rw[hpn]at S0;by_cases hr:c.rules=[]
     ·have i2:pn=0:=by rw[<-hpn,hr];rfl
      have M0:c.need=2+mo:=by rw[v0.out,if_pos hr]
      subst i2;have o2:IntKind.i64.wrap (2+mo)=2+mo:=by rw[IntKind.wrap_i64];omega
      clear hpn hr hpm t0
      go_wp2_with (first
       |(at_len;refine JP rfl _ 122 rfl Tryz.underlying122 mb2 i c.rules rfl y1.out g0.out.levs ?_;rw[a2.out])
       |fail)
      go_ret
      exact⟨ZU M0.symm,hbq⟩
     ·have hp1:1<=pn:=by rw[<-hpn];exact ZbP g0.out.levs hr
      have hg:=g0.out.guard hr;have H0:=Qy c.windows 4 0 g0.out.wins.2;have d1:=g0.out.wins.1;have M0:c.need=2+max mo (upI (4*(pn:Int)) (c.tk 4 0)):=by rw[v0.out,if_neg hr,hpn]
      obtain⟨tk,z0⟩:∃ tk,c.tk 4 0=tk:=⟨_,rfl⟩
      rw[show sumT c.windows 4 0=tk from z0]at H0;rw[z0]at hg M0 W1;have t1:=Hd (λw'=>ZgQ w' (4*(pn:Int)) tk (by omega) (by omega) hg (by omega));have T1:=B5 (a:=4*(pn:Int)) (by omega) hg;have P1:=UJ (a:=4*(pn:Int)) (by omega) hg
      obtain⟨u,hu⟩:∃ u,upI (4*(pn:Int)) tk=u:=⟨_,rfl⟩
      rw[hu]at t1 T1 P1 M0;have hdd:decide ((0:Int)<(pn:Int))=true:=decide_eq_true (by omega);have hmw:IntKind.i64.wrap (4*(pn:Int))=4*(pn:Int):=by rw[IntKind.wrap_i64];omega
      obtain⟨mx,hmx⟩:∃ mx,max mo u=mx:=⟨_,rfl⟩
      have hmx2:0<=mx/\mx<=1000:=by omega
      rw[hmx]at M0;have o2:IntKind.i64.wrap (2+mx)=2+mx:=by rw[IntKind.wrap_i64];omega
      clear hpn hr hpm t0 hu z0 S0 H0 T1 P1 hg
      go_wp2_with (first
       |(at_len;refine JP rfl _ 122 rfl Tryz.underlying122 mb2 i c.rules rfl y1.out g0.out.levs ?_;rw[a2.out])
       |(go_at_call 77;(with_reducible refine(W1.out _ La).mono ?_);rintro e w4 ⟨rfl,hl4⟩)
       |(go_at_call 76;(with_reducible refine(t1.out _).mono ?_);rintro e w5 ⟨rfl,hw5⟩;obtain rfl:=hw5.symm)
       |fail)
      go_ret
      exact⟨ZU M0.symm,hbq.trans hl4⟩
end Go.Proofs.YtbchkjfnakabkaaGreatDoor
namespace Go.Proofs.YtbchkjfnakabkaaGreatDoor
open Go.RowKit PX PC
open Go.Act renaming put -> p0
open List renaming getElem_toArray -> p1, getElem_cons_succ -> p2, getElem_cons_zero -> p3, setIfInBounds_toArray -> p4, set_cons_zero -> p5, set_cons_succ -> p6
theorem UT:(Tryz.prog.info? 32).map (·.size)=some 17:=by kernel_rfl
theorem ZaE{α:Type}:∀ (l pre old tail:List α),old.length=l.length->(l.zipIdx pre.length).foldl (λ(m:List α) (x:α × Nat)=>m.set x.snd x.fst) (pre++(old++tail))=pre++(l++tail)
 |[],pre,[],tail,_=>by simp
 |a::l,pre,o::old,tail,h=>by
  rw[List.zipIdx_cons,List.foldl_cons];have e:(pre++(o::old++tail)).set pre.length a=(pre++[a])++(old++tail):=by simp
  rw[e];have:=ZaE l (pre++[a]) old tail (by simpa using h);rw[List.length_append]at this
  simpa using this
 |[],pre,o::old,tail,h=>by simp at h
 |a::l,pre,[],tail,h=>by simp at h
theorem Qg{α:Type}(cs:Array α)(old tail:List α)(n:Nat)(h:old.length=n)(hn:cs.size=n):Array.foldl (λ(l:Array α) (x:α × Nat)=>l.setIfInBounds x.snd x.fst) (old++tail).toArray cs.zipIdx 0 n=(cs.toList++tail).toArray:=by
 have e:∀ (l:List (α × Nat)) (a:Array α),(List.foldl (λ(l:Array α) (x:α × Nat)=>l.setIfInBounds x.snd x.fst) a l).toList=List.foldl (λ(l:List α) (x:α × Nat)=>l.set x.snd x.fst) a.toList l:=by
  intro l
  induction l with
  |nil=>intro a;rfl
  |cons x l ih=>intro a;rw[List.foldl_cons,List.foldl_cons,ih];simp
 apply Array.toList_inj.1;have hz:n=cs.zipIdx.size:=by simp[hn]
 rw[hz,<-Array.foldl_toList,e];have:=ZaE cs.toList [] old tail (by simpa [hn] using h)
 simpa using this
def Zgl:List Value:=[.int .i64 0,.slice none 0 0,.slice none 0 0,.slice none 0 0,.slice none 0 0,.slice none 0 0,.int .i64 0,.int .i64 0,.int .i64 0,.int .i64 0,.int .i64 0,.int .i64 0,.slice none 0 0,.slice none 0 0,.string ⟨#[]⟩,.int .i64 0,.int .i64 0]
-- WALKS
noncomputable def chkI(c:Cfg):Int:=if c.checkB then 0 else 111
theorem Zcp(w:World)(C:Array Value)(c:Cfg)(vF vP vW vO vV vR vK:Value)(hC:C=#[.int .i64 c.levels,vF,vP,vW,vO,vV,.int .i64 c.audit.level,.int .i64 c.audit.first,.int .i64 c.audit.count,.int .i64 c.audit.journal,.int .i64 c.boot,.int .i64 c.sectors,vR,vK,.string c.login,.int .i64 c.recovery,.int .i64 c.bound])
 (hr:Rows7 w c vF vP vW vO vV vR vK) (hI:CfgI c) (hW:CfgW c) :
 Calls Tryz.prog 12 #[.agg C] w λe w'=>e=.returned (.int .i64 c.needB)/\Later w w':=by
 have n0:C.size=17:=by rw[hC];rfl
 have F0:(Tryz.prog.info? 32).map (·.size)=some C.size:=by rw[n0];exact UT
 have e0:=Qg C Zgl [Value.pointer none] 17 rfl n0;have N0:(C.toList++[Value.pointer none]).toArray=Dn c vF vP vW vO vV vR vK (.pointer none):=by rw[hC];rfl
 rw[N0]at e0;simp only[Zgl,List.cons_append,List.nil_append]at e0
 obtain⟨p,hp⟩:∃ p,w.heap.size=p:=⟨_,rfl⟩
 obtain⟨w1,hw1⟩:∃ w1,w.alloc (.cells C 32)=w1:=⟨_,rfl⟩
 have l0:Later w w1:=by rw[<-hw1];exact(Later.refl _).alloc _
 have f0:w1.heap[p]?=some (.cells C 32 (0,0)):=by rw[<-hw1,<-hp];exact Zd w _
 have HC:=Hd (λ(w':World) (h:Later w1 w')=>And.intro (show w'.cell? ⟨p,15,none⟩=some (.int .i64 c.recovery) from by rw[Zb (h.block f0) 15,hC];rfl) (show w'.cell? ⟨p,16,none⟩=some (.int .i64 c.bound) from by rw[Zb (h.block f0) 16,hC];rfl));have A0:=hr.later l0
 obtain⟨fb,hfb⟩:∃ fb,w1.heap.size=fb:=⟨_,rfl⟩
 obtain⟨w2,hw2⟩:∃ w2,w1.alloc (.cells (Dn c vF vP vW vO vV vR vK (.pointer none)) 61)=w2:=⟨_,rfl⟩
 have y0:Later w1 w2:=by rw[<-hw2];exact(Later.refl _).alloc _
 have P0:FineIn w1 fb c vF vP vW vO vV vR vK 0 w2:=⟨.pointer none,by rw[<-hw2,<-hfb];exact Zd w1 _,y0,λh=>by omega⟩
 have s0:=Hd (λ(w':World) (h:Later w2 w')=>ZaI w1 w' fb c vF vP vW vO vV vR vK (P0.later h) A0 hI hW (by omega));have o1:=Hd A0
 obtain⟨b,hb⟩:∃ b,c.fine=b:=⟨_,rfl⟩
 have HB:=Hd hb;rw[hb]at s0;have r0:=Hd hw1;have HP:=Hd hp;have o0:=Hd hw2;have K0:=Hd hfb;clear hw1 hp hw2 hfb N0 hC hr P0 hb A0 hI hW;cases b
 ·go_enter Tryz.func12,Tryz.ntmps12
  go_upto_region 1 with fail
  rw[r0.out,HP.out]
  go_upto_region 2 with(first
   |refine wpList_load_row rfl 32 (.tmp 1) rfl p rfl 32 C (0,0) _ f0 Tryz.underlying32 rfl F0 ?_
   |fail)
  (try rw[e0])
  rw[o0.out,K0.out];clear e0 f0
  go_wp2_with (first
   |(go_at_call 22;(with_reducible refine(s0.out _ La).mono ?_);rintro e w3 ⟨rfl,hl3,hn3⟩)
   |fail)
  go_ret
  refine⟨ZU ?_,l0.trans hl3⟩;unfold Cfg.needB;rw[HB.out];rfl
 ·go_enter Tryz.func12,Tryz.ntmps12
  go_upto_region 1 with fail
  rw[r0.out,HP.out]
  go_upto_region 2 with(first
   |refine wpList_load_row rfl 32 (.tmp 1) rfl p rfl 32 C (0,0) _ f0 Tryz.underlying32 rfl F0 ?_
   |fail)
  (try rw[e0])
  rw[o0.out,K0.out];clear e0 f0
  go_wp2_with (first
   |(go_at_call 22;(with_reducible refine(s0.out _ La).mono ?_);rintro e w3 ⟨rfl,hl3,hn3⟩;obtain⟨lv',hform,-⟩:=FineIn.form (hn3 rfl) o1.out;have v0:=Hd (λ(w':World) (h:Later w3 w')=>QQ w' fb c vF vP vW vO vV vR vK lv' (hform.later h) (Uo HB.out));clear hform hn3)
   |(go_at_call 24;(with_reducible refine(v0.out _ La).mono ?_);rintro e w4 ⟨rfl,hl4⟩)
   |fail)
  go_ret
  refine⟨ZU ?_,(l0.trans hl3).trans hl4⟩;unfold Cfg.needB;rw[HB.out];rfl
theorem BO(w:World)(C:Array Value)(c:Cfg)(vF vP vW vO vV vR vK:Value)(hC:C=#[.int .i64 c.levels,vF,vP,vW,vO,vV,.int .i64 c.audit.level,.int .i64 c.audit.first,.int .i64 c.audit.count,.int .i64 c.audit.journal,.int .i64 c.boot,.int .i64 c.sectors,vR,vK,.string c.login,.int .i64 c.recovery,.int .i64 c.bound])
 (hr:Rows7 w c vF vP vW vO vV vR vK) (hI:CfgI c) (hW:CfgW c) :
 Calls Tryz.prog 10 #[.agg C] w λe w'=>e=.returned (.int .i64 (chkI c))/\Later w w':=by
 have n0:C.size=17:=by rw[hC];rfl
 have F0:(Tryz.prog.info? 32).map (·.size)=some C.size:=by rw[n0];exact UT
 have e0:=Qg C Zgl [Value.pointer none] 17 rfl n0;have N0:(C.toList++[Value.pointer none]).toArray=Dn c vF vP vW vO vV vR vK (.pointer none):=by rw[hC];rfl
 rw[N0]at e0;simp only[Zgl,List.cons_append,List.nil_append]at e0
 obtain⟨p,hp⟩:∃ p,w.heap.size=p:=⟨_,rfl⟩
 obtain⟨w1,hw1⟩:∃ w1,w.alloc (.cells C 32)=w1:=⟨_,rfl⟩
 have l0:Later w w1:=by rw[<-hw1];exact(Later.refl _).alloc _
 have f0:w1.heap[p]?=some (.cells C 32 (0,0)):=by rw[<-hw1,<-hp];exact Zd w _
 have HC:=Hd (λ(w':World) (h:Later w1 w')=>And.intro (show w'.cell? ⟨p,15,none⟩=some (.int .i64 c.recovery) from by rw[Zb (h.block f0) 15,hC];rfl) (show w'.cell? ⟨p,16,none⟩=some (.int .i64 c.bound) from by rw[Zb (h.block f0) 16,hC];rfl));have A0:=hr.later l0
 obtain⟨fb,hfb⟩:∃ fb,w1.heap.size=fb:=⟨_,rfl⟩
 obtain⟨w2,hw2⟩:∃ w2,w1.alloc (.cells (Dn c vF vP vW vO vV vR vK (.pointer none)) 61)=w2:=⟨_,rfl⟩
 have y0:Later w1 w2:=by rw[<-hw2];exact(Later.refl _).alloc _
 have P0:FineIn w1 fb c vF vP vW vO vV vR vK 0 w2:=⟨.pointer none,by rw[<-hw2,<-hfb];exact Zd w1 _,y0,λh=>by omega⟩
 have s0:=Hd (λ(w':World) (h:Later w2 w')=>ZaI w1 w' fb c vF vP vW vO vV vR vK (P0.later h) A0 hI hW (by omega));have o1:=Hd A0
 obtain⟨b,hb⟩:∃ b,c.fine=b:=⟨_,rfl⟩
 have HB:=Hd hb;rw[hb]at s0;have r0:=Hd hw1;have HP:=Hd hp;have o0:=Hd hw2;have K0:=Hd hfb;clear hw1 hp hw2 hfb N0 hC hr P0 hb A0 hI hW;have l1:=Hd (λ(w':World)=>XD w' c.recovery 1 65535);have J1:=Hd (λ(w':World)=>XD w' c.bound c.need 65535)
 obtain⟨br,hbr⟩:∃ b,inB c.recovery 1 65535=b:=⟨_,rfl⟩
 obtain⟨bb,hbb⟩:∃ b,inB c.bound c.need 65535=b:=⟨_,rfl⟩
 have O0:=Hd (And.intro hbr hbb);rw[hbr]at l1;rw[hbb]at J1;clear hbr hbb;cases b
 ·go_enter Tryz.func10,Tryz.ntmps10
  go_upto_region 1 with fail
  rw[r0.out,HP.out]
  go_upto_region 2 with(first
   |refine wpList_load_row rfl 32 (.tmp 1) rfl p rfl 32 C (0,0) _ f0 Tryz.underlying32 rfl F0 ?_
   |fail)
  (try rw[e0])
  rw[o0.out,K0.out];clear e0 f0;refine wp_region_held_drew (S:=λw'=>w'.cell? ⟨p,15,none⟩=some (.int .i64 c.recovery)/\w'.cell? ⟨p,16,none⟩=some (.int .i64 c.bound)) (by kernel_rfl) (HC.out _ La) (λd0=>?_);refine tkS 0 d0 ?_;refine wpAnyH_ready (rs:=[1]) (by kernel_rfl) (by simp) ?_;refine AllReadyH.cons rfl (λK hK=>?_) AllReadyH.nil
  go_simp
  refine(s0.out _ La).mono ?_;rintro e w3 ⟨rfl,hl3,hn3⟩;refine hK.out _ _ ?_ (λd0=>?_)
  ·exact HC.out _ La
  clear hK K
  (try simp only[p0,p1,p2,p3,p4,p5,p6])
  refine tkS 2 d0 ?_;refine tkS 3 d0 ?_;refine tkV 4 d0 ?_;refine tkV 5 d0 ?_;refine tkV 6 d0 ?_;refine tkV 7 d0 ?_;refine tkS 8 d0 ?_;refine tkS 9 d0 ?_;refine tkV 10 d0 ?_;refine tkV 11 d0 ?_;refine tkV 12 d0 ?_;refine tkV 13 d0 ?_;refine tkV 14 d0 ?_;refine tkV 15 d0 ?_;refine tkS 16 d0 ?_;refine wpAnyH_done (by kernel_rfl) ?_ _
  go_wp2_with fail
  go_ret
  refine⟨ZU ?_,l0.trans hl3⟩;unfold chkI Cfg.checkB;rw[HB.out];rfl
 ·cases br
  ·go_enter Tryz.func10,Tryz.ntmps10
   go_upto_region 1 with fail
   rw[r0.out,HP.out]
   go_upto_region 2 with(first
    |refine wpList_load_row rfl 32 (.tmp 1) rfl p rfl 32 C (0,0) _ f0 Tryz.underlying32 rfl F0 ?_
    |fail)
   (try rw[e0])
   rw[o0.out,K0.out];clear e0 f0;refine wp_region_held_drew (S:=λw'=>w'.cell? ⟨p,15,none⟩=some (.int .i64 c.recovery)/\w'.cell? ⟨p,16,none⟩=some (.int .i64 c.bound)) (by kernel_rfl) (HC.out _ La) (λd0=>?_);refine tkS 0 d0 ?_;refine wpAnyH_ready (rs:=[1]) (by kernel_rfl) (by simp) ?_;refine AllReadyH.cons rfl (λK hK=>?_) AllReadyH.nil
   go_simp
   refine(s0.out _ La).mono ?_;rintro e w3 ⟨rfl,hl3,hn3⟩;refine hK.out _ _ ?_ (λd0=>?_)
   ·exact HC.out _ La
   clear hK K
   (try simp only[p0,p1,p2,p3,p4,p5,p6])
   refine tkS 2 d0 ?_;refine tkS 3 d0 ?_;refine tkS 4 d0 ?_;refine tkS 5 d0 ?_;refine wpAnyH_ready (rs:=[6]) (by kernel_rfl) (by simp) ?_;refine AllReadyH.cons rfl (λK hK=>?_) AllReadyH.nil
   go_simp
   refine(l1.out _).mono ?_;rintro e w9 ⟨rfl,hw9⟩;obtain rfl:=hw9.symm;refine hK.out _ _ ?_ (λd0=>?_)
   ·exact HC.out _ La
   clear hK K
   (try simp only[p0,p1,p2,p3,p4,p5,p6])
   refine tkS 7 d0 ?_;refine tkS 8 d0 ?_;refine tkS 9 d0 ?_;refine tkV 10 d0 ?_;refine tkV 11 d0 ?_;refine tkV 12 d0 ?_;refine tkV 13 d0 ?_;refine tkV 14 d0 ?_;refine tkV 15 d0 ?_;refine tkS 16 d0 ?_;refine wpAnyH_done (by kernel_rfl) ?_ _
   go_wp2_with fail
   go_ret
   refine⟨ZU ?_,l0.trans hl3⟩;unfold chkI Cfg.checkB;rw[HB.out,O0.out.1];rfl
  ·cases bb
   ·go_enter Tryz.func10,Tryz.ntmps10
    go_upto_region 1 with fail
    rw[r0.out,HP.out]
    go_upto_region 2 with(first
     |refine wpList_load_row rfl 32 (.tmp 1) rfl p rfl 32 C (0,0) _ f0 Tryz.underlying32 rfl F0 ?_
     |fail)
    (try rw[e0])
    rw[o0.out,K0.out];clear e0 f0;refine wp_region_held_drew (S:=λw'=>w'.cell? ⟨p,15,none⟩=some (.int .i64 c.recovery)/\w'.cell? ⟨p,16,none⟩=some (.int .i64 c.bound)) (by kernel_rfl) (HC.out _ La) (λd0=>?_);refine tkS 0 d0 ?_;refine wpAnyH_ready (rs:=[1]) (by kernel_rfl) (by simp) ?_;refine AllReadyH.cons rfl (λK hK=>?_) AllReadyH.nil
    go_simp
    refine(s0.out _ La).mono ?_;rintro e w3 ⟨rfl,hl3,hn3⟩;obtain⟨lv',hform,-⟩:=FineIn.form (hn3 rfl) o1.out;have v0:=Hd (λ(w':World) (h:Later w3 w')=>QQ w' fb c vF vP vW vO vV vR vK lv' (hform.later h) (Uo HB.out));clear hform hn3;refine hK.out _ _ ?_ (λd0=>?_)
    ·exact HC.out _ La
    clear hK K
    (try simp only[p0,p1,p2,p3,p4,p5,p6])
    refine tkS 2 d0 ?_;refine tkS 3 d0 ?_;refine tkS 4 d0 ?_;refine tkS 5 d0 ?_;refine wpAnyH_ready (rs:=[6]) (by kernel_rfl) (by simp) ?_;refine AllReadyH.cons rfl (λK hK=>?_) AllReadyH.nil
    go_simp
    refine(l1.out _).mono ?_;rintro e w9 ⟨rfl,hw9⟩;obtain rfl:=hw9.symm;refine hK.out _ _ ?_ (λd0=>?_)
    ·exact HC.out _ La
    clear hK K
    (try simp only[p0,p1,p2,p3,p4,p5,p6])
    refine tkS 7 d0 ?_;refine tkS 8 d0 ?_;refine tkS 9 d0 ?_;refine tkS 10 d0 ?_;refine tkS 11 d0 ?_;refine tkS 12 d0 ?_;refine wpAnyH_ready (rs:=[13]) (by kernel_rfl) (by simp) ?_;refine AllReadyH.cons rfl (λK hK=>?_) AllReadyH.nil
    go_simp
    refine(v0.out _ La).mono ?_;rintro e w4 ⟨rfl,hl4⟩;refine hK.out _ _ ?_ (λd0=>?_)
    ·exact HC.out _ La
    clear hK K
    (try simp only[p0,p1,p2,p3,p4,p5,p6])
    refine wpAnyH_ready (rs:=[14]) (by kernel_rfl) (by simp) ?_;refine AllReadyH.cons rfl (λK hK=>?_) AllReadyH.nil
    go_simp
    refine(J1.out _).mono ?_;rintro e w8 ⟨rfl,hw8⟩;obtain rfl:=hw8.symm;refine hK.out _ _ ?_ (λd0=>?_)
    ·exact HC.out _ La
    clear hK K
    (try simp only[p0,p1,p2,p3,p4,p5,p6])
    refine tkS 15 d0 ?_;refine tkS 16 d0 ?_;refine wpAnyH_done (by kernel_rfl) ?_ _
    go_wp2_with fail
    go_ret
    refine⟨ZU ?_,(l0.trans hl3).trans hl4⟩;unfold chkI Cfg.checkB;rw[HB.out,O0.out.1,O0.out.2];rfl
   ·go_enter Tryz.func10,Tryz.ntmps10
    go_upto_region 1 with fail
    rw[r0.out,HP.out]
    go_upto_region 2 with(first
     |refine wpList_load_row rfl 32 (.tmp 1) rfl p rfl 32 C (0,0) _ f0 Tryz.underlying32 rfl F0 ?_
     |fail)
    (try rw[e0])
    rw[o0.out,K0.out];clear e0 f0;refine wp_region_held_drew (S:=λw'=>w'.cell? ⟨p,15,none⟩=some (.int .i64 c.recovery)/\w'.cell? ⟨p,16,none⟩=some (.int .i64 c.bound)) (by kernel_rfl) (HC.out _ La) (λd0=>?_);refine tkS 0 d0 ?_;refine wpAnyH_ready (rs:=[1]) (by kernel_rfl) (by simp) ?_;refine AllReadyH.cons rfl (λK hK=>?_) AllReadyH.nil
    go_simp
    refine(s0.out _ La).mono ?_;rintro e w3 ⟨rfl,hl3,hn3⟩;obtain⟨lv',hform,-⟩:=FineIn.form (hn3 rfl) o1.out;have v0:=Hd (λ(w':World) (h:Later w3 w')=>QQ w' fb c vF vP vW vO vV vR vK lv' (hform.later h) (Uo HB.out));clear hform hn3;refine hK.out _ _ ?_ (λd0=>?_)
    ·exact HC.out _ La
    clear hK K
    (try simp only[p0,p1,p2,p3,p4,p5,p6])
    refine tkS 2 d0 ?_;refine tkS 3 d0 ?_;refine tkS 4 d0 ?_;refine tkS 5 d0 ?_;refine wpAnyH_ready (rs:=[6]) (by kernel_rfl) (by simp) ?_;refine AllReadyH.cons rfl (λK hK=>?_) AllReadyH.nil
    go_simp
    refine(l1.out _).mono ?_;rintro e w9 ⟨rfl,hw9⟩;obtain rfl:=hw9.symm;refine hK.out _ _ ?_ (λd0=>?_)
    ·exact HC.out _ La
    clear hK K
    (try simp only[p0,p1,p2,p3,p4,p5,p6])
    refine tkS 7 d0 ?_;refine tkS 8 d0 ?_;refine tkS 9 d0 ?_;refine tkS 10 d0 ?_;refine tkS 11 d0 ?_;refine tkS 12 d0 ?_;refine wpAnyH_ready (rs:=[13]) (by kernel_rfl) (by simp) ?_;refine AllReadyH.cons rfl (λK hK=>?_) AllReadyH.nil
    go_simp
    refine(v0.out _ La).mono ?_;rintro e w4 ⟨rfl,hl4⟩;refine hK.out _ _ ?_ (λd0=>?_)
    ·exact HC.out _ La
    clear hK K
    (try simp only[p0,p1,p2,p3,p4,p5,p6])
    refine wpAnyH_ready (rs:=[14]) (by kernel_rfl) (by simp) ?_;refine AllReadyH.cons rfl (λK hK=>?_) AllReadyH.nil
    go_simp
    refine(J1.out _).mono ?_;rintro e w8 ⟨rfl,hw8⟩;obtain rfl:=hw8.symm;refine hK.out _ _ ?_ (λd0=>?_)
    ·exact HC.out _ La
    clear hK K
    (try simp only[p0,p1,p2,p3,p4,p5,p6])
    refine tkS 15 d0 ?_;refine tkS 16 d0 ?_;refine wpAnyH_done (by kernel_rfl) ?_ _
    go_wp2_with fail
    go_ret
    refine⟨ZU ?_,(l0.trans hl3).trans hl4⟩;unfold chkI Cfg.checkB;rw[HB.out,O0.out.1,O0.out.2];rfl
theorem CfgIn.rows7{w:World}{cs:List Value}{c:Cfg}(h:CfgIn w cs c):∃ vF vP vW vO vV vR vK:Value,cs=[.int .i64 c.levels,vF,vP,vW,vO,vV,.int .i64 c.audit.level,.int .i64 c.audit.first,.int .i64 c.audit.count,.int .i64 c.audit.journal,.int .i64 c.boot,.int .i64 c.sectors,vR,vK,.string c.login,.int .i64 c.recovery,.int .i64 c.bound]/\Rows7 w c vF vP vW vO vV vR vK:=by
 obtain⟨vF,vP,vW,vO,vV,vR,vK,h0,h1,h2,h3,h4,h5,h6,h7⟩:=h.rows;exact⟨vF,vP,vW,vO,vV,vR,vK,h0,⟨h1,h2,h3,h4,h5,h6,h7⟩⟩
end Go.Proofs.YtbchkjfnakabkaaGreatDoor
