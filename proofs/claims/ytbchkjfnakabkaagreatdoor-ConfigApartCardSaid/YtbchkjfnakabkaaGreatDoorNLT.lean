import Derived.Test.YtbchkjfnakabkaaGreatDoorNK
import Derived.Test.YtbchkjfnakabkaaGreatDoorNP
set_option linter.unusedSimpArgs false
set_option linter.unusedVariables false
set_option maxHeartbeats 8000000
set_option maxRecDepth 100000
namespace Go.Proofs.YtbchkjfnakabkaaGreatDoor
open Go.RowKit PX PC Go.Maps
theorem ZbE{l:List Ru}(hl:∀ r∈l,lev 8 r.fr/\lev 8 r.tu)(hne:l≠[]):1<=Yk l:=by
 cases l with
 |nil=>exact absurd rfl hne
 |cons r l=>
  obtain⟨⟨a0,a1⟩,b0,b1⟩:=hl r (List.mem_cons_self ..);unfold Yk;refine List.length_pos_iff.2 (List.ne_nil_of_mem (a:=r.fr.toNat*8+r.tu.toNat) (List.mem_filter.2 ⟨by simp;omega,?_⟩));rw[List.any_cons,Bool.or_eq_true,Bool.and_eq_true,decide_eq_true_eq,decide_eq_true_eq];refine .inl ⟨?_,?_⟩<;>omega
theorem WH(l:List Ru):Yk l<=64:=by
 unfold Yk;exact Nat.le_trans (List.length_filter_le ..) (by simp)
theorem BW{a b:Int}(ha:0<=a)(hb:0<b):upI a b<=a:=by
 unfold upI;have h1:=Int.ediv_mul_le (a+b - 1) (show b≠0 by omega)
 obtain⟨q,hq⟩:∃ q,(a+b - 1)/b=q:=⟨_,rfl⟩
 rw[hq]at h1 ⊢;rcases(by omega:q<=a\/a+1<=q) with h|h
 ·exact h
 ·exfalso;have h2:(a+1)*b<=q*b:=Int.mul_le_mul_of_nonneg_right h (by omega);have e:(a+1)*b=a*b+b:=by rw[Int.add_mul,Int.one_mul]
  have h3:a*1<=a*b:=Int.mul_le_mul_of_nonneg_left (by omega) ha;omega
theorem E9(W:List Win)(l:List Prt)(h:∀ q∈l,0<sumT W 2 q.level):0<=J7 W l/\J7 W l<=l.length:=by
 refine⟨YE _,Ev (by omega) λx hx=>?_⟩;obtain⟨q,hq,rfl⟩:=List.mem_map.1 hx;have h1:=BW (a:=(cntL l q.level:Int)) (by omega) (h q hq);have h2:=Gz l q.level;omega
theorem ZeI:(λ_:Int=>(0:Int))=λk=>(cntL [] k:Int):=by funext k;rfl
theorem ZeJ(l:List Prt)(p:Prt):(λk=>if k=p.level then(cntL l p.level:Int)+1 else(cntL l k:Int))=λk=>(cntL (l++[p]) k:Int):=by
 funext k
 rw[Vi];by_cases h:k=p.level
 ·subst h;simp
 ·rw[if_neg h,if_neg (λe=>h e.symm)];simp
structure NeedOK (c:Cfg):Prop where
 wins:U4 c
 parts:1<=c.parts.length/\c.parts.length<=8
 ticks:∀ q∈c.parts,0<sumT c.windows 2 q.level
 plev:∀ q∈c.parts,lev 8 q.level
 few:c.rules.length<=32
 levs:∀ r∈c.rules,lev 8 r.fr/\lev 8 r.tu
 guard:c.rules≠[]->0<c.tk 4 0
theorem Um{c:Cfg}(h:c.fine=true):NeedOK c:=by
 obtain⟨h1,h2,h3,h4,h5,h6,h7⟩:=Jq h;have L:=YA.1 h1;have hlo:=L.lo;have hhi:=L.hi
 have hw:U4 c:=by
  have o1:=h3;unfold Cfg.windowsB at o1;rw[Bool.and_eq_true,Bool.and_eq_true]at o1;exact BU o1.1.1 o1.1.2
 refine⟨hw,?_,E3 h3,(λq hq=>by have:=WG h2 q hq;unfold lev at this ⊢;omega),?_,?_,λhne=>DU h3 hne⟩
 ·unfold Cfg.partsB at h2;rw[Bool.and_eq_true,ZI]at h2;omega
 ·unfold Cfg.rulesB at h6;rw[Bool.and_eq_true,decide_eq_true_eq]at h6;exact h6.1
 ·intro r hr;unfold Cfg.rulesB at h6;rw[Bool.and_eq_true,List.all_eq_true]at h6;have:=h6.2 r hr;unfold ruOK at this;simp only[Bool.and_eq_true]at this;have a:=Ga this.1.1.1;have b:=Ga this.1.1.2;unfold lev at a b ⊢;omega
theorem Zgx(c:Cfg)(h:NeedOK c):c.need=2+(if c.rules=[] then J7 c.windows c.parts else max (J7 c.windows c.parts) (upI (4*(Yk c.rules:Int)) (c.tk 4 0))):=by
 unfold Cfg.need Cfg.mostR;rw[<-ZbJ];have:=(E9 c.windows c.parts h.ticks).1;by_cases e:c.rules=[]
 ·rw[if_pos e,e];simp;omega
 ·rw[if_neg e,if_neg (by simpa using e)]
theorem QJ(w:World)(fb:Nat)(c:Cfg)(vF vP vW vO vV vR vK lv:Value)(h:FormIn w fb c vF vP vW vO vV vR vK lv)(hN:NeedOK c) :
 Calls Tryz.prog 24 #[.pointer (some ⟨fb,0,none⟩)] w λe w'=>e=.returned (.int .i64 c.need)/\Later w w':=by
 have hmm:=@run_makeMap Tryz.prog;obtain⟨aP,cP,rfl,p1,p2,p3⟩:=Zl h.rP;obtain⟨aW,cW,rfl,q1,q2,q3⟩:=Zl h.rW;obtain⟨aR,cR,rfl,r1,r2,r3⟩:=Zl h.rR;have HF:=Hd h;have HC:=Hd (λ(w':World) (hl:Later w w')=>And.intro (show w'.cell? ⟨fb,2,none⟩=some (.slice aP c.parts.length cP) from(h.later hl).cell 2) (show w'.cell? ⟨fb,12,none⟩=some (.slice aR c.rules.length cR) from(h.later hl).cell 12));have W1:=Hd (λ(w':World) (hl:Later w w') (k i:Int)=>G8 w' fb c _ k i (show w'.cell? ⟨fb,3,none⟩=some (.slice aW c.windows.length cW) from(h.later hl).cell 3) (h.rW.later hl) hN.wins);have g0:=Hd hN;have e2:=hN.parts.2;have E1:=hN.few;have N1:=h.rP;have S1:=h.rR
 obtain⟨n,hn⟩:∃ n,c.parts.length=n:=⟨_,rfl⟩
 obtain⟨m,hm⟩:∃ n,c.rules.length=n:=⟨_,rfl⟩
 have P1:=Hd (λ(w':World) (hl:Later w w')=>N1.later hl);have R1:=Hd (λ(w':World) (hl:Later w w')=>S1.later hl);have j1:=Hd (And.intro hn hm);rw[hn]at e2 p1 p3 HC P1;rw[hm]at E1 r1 r3 HC R1
 obtain⟨mb,hmb⟩:∃ mb,w.heap.size=mb:=⟨_,rfl⟩
 obtain⟨w1,hw1⟩:∃ w1,w.alloc (.map #[] 0)=w1:=⟨_,rfl⟩
 have l0:Later w w1:=by rw[<-hw1];exact(Later.refl _).alloc _
 have e1:IMap w1 mb 0 (λk=>(cntL (c.parts.take 0) k:Int)):=by rw[<-hw1,<-hmb,show(λk=>(cntL (c.parts.take 0) k:Int))=λ_:Int=>(0:Int) from ZeI.symm];exact IMap.made w
 have v2:=Hd hmb;have F1:=Hd (show w.heap.size<=mb by omega);have t0:=Hd hw1;obtain⟨k0,k1⟩:=HC.out w1 l0;clear h hN N1 S1 hn hm hmb hw1
 go_enter Tryz.func24,Tryz.ntmps24
 go_upto_region 3 with fail
 rw[t0.out,v2.out]
 go_wp2_with fail
 go_loopw [3,17] (λvm vi wr=>∃ j:Nat,j<=n/\vi=.int .i64 (j:Int)/\vm=.int .i64 (J7 c.windows (c.parts.take j))/\IMap wr mb j (λk=>(cntL (c.parts.take j) k:Int))/\Later w wr) (λ_ vi _=>n - (intOf vi).toNat)
 case atStart=>exact⟨0,by omega,rfl,rfl,e1,l0⟩
 case round=>
  obtain⟨j,hj,rfl,rfl,him,hb⟩:=hrel;clear e1 k0 k1;by_cases hlt:j<n
  ·have j0:j<c.parts.length:=by rw[j1.out.1];exact hlt
   obtain⟨b,o,rfl,hb',hcc⟩:=Zz (P1.out wr hb) j0;have K0:=Zs j0;have q0:=Bf c.windows (c.parts.take j) c.parts[j] (λq hq=>g0.out.ticks q (by rw[<-K0]at hq;exact List.mem_of_mem_take hq));have L0:=ZeJ (c.parts.take j) c.parts[j];have v0:=g0.out.ticks _ (List.getElem_mem j0);have f0:=E9 c.windows (c.parts.take j) (λq hq=>g0.out.ticks q (List.mem_of_mem_take hq));have A0:=Qt c.windows 2 c.parts[j].level g0.out.wins.2;have P0:=Gz (c.parts.take j) c.parts[j].level;have i0:=Vi (c.parts.take j) c.parts[j] c.parts[j].level;rw[if_pos rfl]at i0;rw[List.length_take]at f0 P0;rw[<-K0]at q0 L0 i0;rw[i0]at q0
   obtain⟨x,hx⟩:∃ x,c.parts[j]=x:=⟨_,rfl⟩
   rw[hx]at hcc q0 L0 v0 A0 P0 i0;have k2:=Hd hx;clear hx K0;obtain⟨x1,x2⟩:=x;have c0:=hcc 0 (by omega);have c1:=hcc 1 (by omega);simp only[XQ,List.getElem?_cons_zero,List.getElem?_cons_succ,Nat.add_zero]at c0 c1;clear hcc;have d1:=g0.out.wins.1
   obtain⟨mo,hmo1⟩:∃ mo,J7 c.windows (c.parts.take j)=mo:=⟨_,rfl⟩
   obtain⟨mo2,hmo2⟩:∃ mo,J7 c.windows (c.parts.take (j+1))=mo:=⟨_,rfl⟩
   obtain⟨cn,hcn1⟩:∃ cn,cntL (c.parts.take j) x1=cn:=⟨_,rfl⟩
   obtain⟨tk,htk1⟩:∃ tk,sumT c.windows 2 x1=tk:=⟨_,rfl⟩
   simp only at L0 q0 v0 A0 P0 i0;rw[hmo1,hmo2,hcn1,htk1]at q0;rw[htk1]at v0 A0;rw[hmo1]at f0 ⊢;rw[hcn1]at P0 L0 i0;have J1:=Hd (show((cntL (c.parts.take j) x1:Nat):Int)=(cn:Int) by rw[hcn1]);have hcw:IntKind.i64.wrap ((cn:Int)+1)=(cn:Int)+1:=by rw[IntKind.wrap_i64];omega
   have y1:=Hd (And.intro hmo1 (And.intro hmo2 (And.intro q0 L0)));have z1:=g0.out.plev _ (List.getElem_mem j0)
   obtain⟨pb,hpb⟩:∃ pb,wr.heap.size=pb:=⟨_,rfl⟩
   obtain⟨w2,hw2⟩:∃ w2,wr.alloc (.cells #[.int .i64 x1,.int .i64 x2] 49)=w2:=⟨_,rfl⟩
   have z0:Later wr w2:=by rw[<-hw2];exact(Later.refl _).alloc _
   have m1:w2.heap[pb]?=some (.cells #[.int .i64 x1,.int .i64 x2] 49 (0,0)):=by rw[<-hw2,<-hpb];exact Zd wr _
   have C1:=him.lt;have t2:¬ (some pb=some mb):=λe=>by have:=Option.some.inj e;omega
   have I1:pb<w2.heap.size:=Zb m1;have W0:=him.later z0;have S0:=Hd W0;have o2:=Hd m1;have d1:=g0.out.wins.1;have v1:=Hd (λw'=>ZgJ w' ((cn:Int)+1) tk (by omega) (by omega) v0 (by omega));have b2:=Hd (λ(w':World) (hl:Later w w')=>W1.out w' hl 2 x1);rw[show c.tk 2 x1=tk from htk1]at b2;have o0:=Hd hw2;have f2:=Hd hpb;have L1:-9223372036854775808<=x1/\x1<=9223372036854775807:=by unfold lev at z1;rw[k2.out]at z1;simp only at z1;omega
   have i2:=Hd L1;have k0:=Za m1 0;have hcn8:cn<=8:=by omega
   have d2:=Later.trans hb z0;clear him W0 q0 hmo1 hmo2 L0 hcn1 htk1 hw2 hpb m1 A0 f0 P0 i0 C1
   go_upto_region 6 with fail
   rw[o0.out,f2.out]
   go_upto_region 7 with(first
    |(at_lookup;refine Ud rfl _ _ 121 rfl Tryz.underlying121 mb j _ rfl S0.out x1 rfl L1 ?_;rw[J1.out])
    |(at_mapUpdate;refine Ub rfl _ _ _ 121 rfl Tryz.underlying121 mb j _ rfl S0.out (by unfold maxLen;omega) x1 ((cn:Int)+1) rfl rfl L1 (by omega) ?_;intro w3 him3 hg3)
    |fail)
   have n0:IMap w3 mb (j+1) (λk=>(cntL (c.parts.take (j+1)) k:Int)):=(congrArg (IMap w3 mb (j+1)) y1.out.2.2.2).mp him3;have hw3:Later w w3:=Later.grown d2 hg3 (λk e=>by cases e;exact F1.out);have T0:w3.heap[pb]?=some (.cells #[.int .i64 x1,.int .i64 x2] 49 (0,0)):=(hg3.block pb I1 t2).trans o2.out
   have g1:((cntL (c.parts.take (j+1)) x1:Nat):Int)=(cn:Int)+1:=by
    have:=congrFun y1.out.2.2.2 x1;simp only[if_true]at this;exact this.symm
   have HS:=Hd (λ(w':World) (hl:Later w3 w')=>And.intro (Za (hl.block T0) 0) (show(Instr.lookup 121 (.map (some mb)) (.int .i64 x1) false).run Tryz.prog w'=.ok (.int .i64 ((cn:Int)+1)) w' from(((n0.later hl).lookup Tryz.underlying121 i2.out).trans (by rw[g1]))));have A1:=Hd n0;clear him3 n0 hg3 T0 g1
   go_region_held3 (fun w'=>w'.cell? ⟨pb,0,none⟩=some (.int .i64 x1)∧(Instr.lookup 121 (.map (some mb)) (.int .i64 x1) false).run Tryz.prog w'=.ok (.int .i64 ((cn:Int)+1)) w')
    (exact(λhl=>(HS.out _ hl)) La)
    (first
     |(go_at_call 77;(with_reducible refine(b2.out _ La).mono ?_);rintro e w4 ⟨rfl,hl4⟩)
     |(go_at_call 76;(with_reducible refine(v1.out _).mono ?_);rintro e w5 ⟨rfl,hw5⟩;obtain rfl:=hw5.symm)
     |fail)
   all_goals (
    go_wp2_with fail
    refine⟨⟨j+1,by omega,by simp,?_,A1.out.later La,La⟩,by simp only[intOf];omega⟩;rw[y1.out.2.1,y1.out.2.2.1,Int.natCast_add]
    rfl)
  ·obtain rfl:j=n:=by omega
   have N0:c.parts.take j=c.parts:=by rw[<-j1.out.1,List.take_length]
   rw[N0];have f0:=E9 c.windows c.parts g0.out.ticks;rw[j1.out.1]at f0;have H1:=Zgx c g0.out
   obtain⟨mo,q0⟩:∃ mo,J7 c.windows c.parts=mo:=⟨_,rfl⟩
   rw[q0]at f0 H1 ⊢;have y0:=Hd H1
   obtain⟨mb2,hmb2⟩:∃ mb,wr.heap.size=mb:=⟨_,rfl⟩
   obtain⟨w2,hw2⟩:∃ w2,wr.alloc (.map #[] 0)=w2:=⟨_,rfl⟩
   have z0:Later wr w2:=by rw[<-hw2];exact(Later.refl _).alloc _
   have e1:PMap w2 mb2 0 (c.rules.take 0):=by rw[<-hw2,<-hmb2];exact PMap.made wr
   have y2:=Hd hmb2;have o0:=Hd hw2;have m2:w.heap.size<=mb2:=by have:=hb.out.size;omega
   have a2:Later w w2:=hb.trans z0;obtain⟨k0,k1⟩:=HC.out w2 a2;clear him N0 q0 H1 hmb2 hw2
   go_upto_region 10 with fail
   rw[o0.out,y2.out]
   go_wp2_with fail
   go_loopw [45] (λvi wq=>∃ i:Nat,i<=m/\vi=.int .i64 (i:Int)/\PMap wq mb2 i (c.rules.take i)/\Later w wq) (λvi _=>m - (intOf vi).toNat)
   case atStart=>exact⟨0,by omega,rfl,e1,a2⟩
   case round=>
    obtain⟨i,hi,rfl,hpm,hbq⟩:=hrel;clear e1 k0 k1;by_cases j0:i<m
    ·have H0:i<c.rules.length:=by rw[j1.out.2];exact j0
     obtain⟨b,o,rfl,hb',hcc⟩:=Zz (R1.out _ hbq) H0;have K0:=Zs H0;have s1:=g0.out.levs _ (List.getElem_mem H0)
     obtain⟨x,hx⟩:∃ x,c.rules[i]=x:=⟨_,rfl⟩
     rw[hx]at hcc K0 s1;have j2:=Hd K0;clear hx K0;obtain⟨x1,x2,x3,x4,x5⟩:=x;have c0:=hcc 0 (by omega);have c1:=hcc 1 (by omega);have c2:=hcc 2 (by omega);have c3:=hcc 3 (by omega);have c4:=hcc 4 (by omega);simp only[ruC,List.getElem?_cons_zero,List.getElem?_cons_succ,Nat.add_zero]at c0 c1 c2 c3 c4;clear hcc;unfold lev at s1;simp only at s1;have l2:-9223372036854775808<=x1/\x1<=9223372036854775807:=by omega
     have n2:-9223372036854775808<=x2/\x2<=9223372036854775807:=by omega
     have n1:=Hd (hpm.later ((Later.refl _).alloc (.cells #[.int .i64 x1,.int .i64 x2,.int .i64 x3,.string x4,.string x5] 53)));clear hpm s1
     go_wp2_with (first
      |(at_mapUpdate;refine Ua rfl _ _ _ 122 rfl Tryz.underlying122 mb2 i _ rfl n1.out (by unfold maxLen;omega) ⟨x1,x2,x3,x4,x5⟩ rfl rfl l2 n2 ?_;intro w7 hpm7 hg7)
      |fail)
     refine⟨⟨i+1,by omega,by simp,?_,Later.grown (hbq.alloc _) hg7 (λk e=>by cases e;exact m2)⟩,by simp only[intOf];omega⟩;rw[j2.out];exact hpm7
    ·obtain rfl:i=m:=by omega
     have s0:=hpm;rw[show c.rules.take i=c.rules by rw[<-j1.out.2,List.take_length]]at s0;have n1:=Hd s0;have Z1:=Hd (λ(w':World) (hl:Later w w')=>W1.out w' hl 4 0);have f1:=WH c.rules
     obtain⟨pn,hpn⟩:∃ pn,Yk c.rules=pn:=⟨_,rfl⟩
     have T1:=Hd hpn;rw[hpn]at f1;by_cases hr:c.rules=[]
     ·have s2:pn=0:=by rw[<-hpn,hr];rfl
      have M0:c.need=2+mo:=by rw[y0.out,if_pos hr]
      subst s2;have g2:IntKind.i64.wrap (2+mo)=2+mo:=by rw[IntKind.wrap_i64];omega
      clear hpn hr hpm s0
      go_wp2_with (first
       |(at_len;refine JP rfl _ 122 rfl Tryz.underlying122 mb2 i c.rules rfl n1.out g0.out.levs ?_;rw[T1.out])
       |fail)
      go_ret
      exact⟨ZT M0.symm,hbq⟩
     ·have hp1:1<=pn:=by rw[<-hpn];exact ZbE g0.out.levs hr
      have hg:=g0.out.guard hr;have A0:=Qt c.windows 4 0 g0.out.wins.2;have d1:=g0.out.wins.1;have M0:c.need=2+max mo (upI (4*(pn:Int)) (c.tk 4 0)):=by rw[y0.out,if_neg hr,hpn]
      obtain⟨tk,v0⟩:∃ tk,c.tk 4 0=tk:=⟨_,rfl⟩
      rw[show sumT c.windows 4 0=tk from v0]at A0;rw[v0]at hg M0 Z1;have v1:=Hd (λw'=>ZgJ w' (4*(pn:Int)) tk (by omega) (by omega) hg (by omega));have M1:=BW (a:=4*(pn:Int)) (by omega) hg;have O1:=GQ (a:=4*(pn:Int)) (by omega) hg
      obtain⟨u,hu⟩:∃ u,upI (4*(pn:Int)) tk=u:=⟨_,rfl⟩
      rw[hu]at v1 M1 O1 M0;have hdd:decide ((0:Int)<(pn:Int))=true:=decide_eq_true (by omega);have hmw:IntKind.i64.wrap (4*(pn:Int))=4*(pn:Int):=by rw[IntKind.wrap_i64];omega
      obtain⟨mx,hmx⟩:∃ mx,max mo u=mx:=⟨_,rfl⟩
      have hmx2:0<=mx/\mx<=1000:=by omega
      rw[hmx]at M0;have g2:IntKind.i64.wrap (2+mx)=2+mx:=by rw[IntKind.wrap_i64];omega
      clear hpn hr hpm s0 hu v0 f1 A0 M1 O1 hg
      go_wp2_with (first
       |(at_len;refine JP rfl _ 122 rfl Tryz.underlying122 mb2 i c.rules rfl n1.out g0.out.levs ?_;rw[T1.out])
       |(go_at_call 77;(with_reducible refine(Z1.out _ La).mono ?_);rintro e w4 ⟨rfl,hl4⟩)
       |(go_at_call 76;(with_reducible refine(v1.out _).mono ?_);rintro e w5 ⟨rfl,hw5⟩;obtain rfl:=hw5.symm)
       |fail)
      go_ret
      exact⟨ZT M0.symm,hbq.trans hl4⟩
end Go.Proofs.YtbchkjfnakabkaaGreatDoor
namespace Go.Proofs.YtbchkjfnakabkaaGreatDoor
open Go.RowKit PX PC
open Go.Act renaming put -> p0
open List renaming getElem_toArray -> p1, getElem_cons_succ -> p2, getElem_cons_zero -> p3, setIfInBounds_toArray -> p4, set_cons_zero -> p5, set_cons_succ -> p6
theorem UR:(Tryz.prog.info? 32).map (·.size)=some 17:=by kernel_rfl
theorem Zav{α:Type}:∀ (l pre old tail:List α),old.length=l.length->(l.zipIdx pre.length).foldl (λ(m:List α) (x:α × Nat)=>m.set x.snd x.fst) (pre++(old++tail))=pre++(l++tail)
 |[],pre,[],tail,_=>by simp
 |a::l,pre,o::old,tail,h=>by
  rw[List.zipIdx_cons,List.foldl_cons];have e:(pre++(o::old++tail)).set pre.length a=(pre++[a])++(old++tail):=by simp
  rw[e];have:=Zav l (pre++[a]) old tail (by simpa using h);rw[List.length_append]at this
  simpa using this
 |[],pre,o::old,tail,h=>by simp at h
 |a::l,pre,[],tail,h=>by simp at h
theorem G9{α:Type}(cs:Array α)(old tail:List α)(n:Nat)(h:old.length=n)(hn:cs.size=n):Array.foldl (λ(l:Array α) (x:α × Nat)=>l.setIfInBounds x.snd x.fst) (old++tail).toArray cs.zipIdx 0 n=(cs.toList++tail).toArray:=by
 have e:∀ (l:List (α × Nat)) (a:Array α),(List.foldl (λ(l:Array α) (x:α × Nat)=>l.setIfInBounds x.snd x.fst) a l).toList=List.foldl (λ(l:List α) (x:α × Nat)=>l.set x.snd x.fst) a.toList l:=by
  intro l
  induction l with
  |nil=>intro a;rfl
  |cons x l ih=>intro a;rw[List.foldl_cons,List.foldl_cons,ih];simp
 apply Array.toList_inj.1;have hz:n=cs.zipIdx.size:=by simp[hn]
 rw[hz,<-Array.foldl_toList,e];have:=Zav cs.toList [] old tail (by simpa [hn] using h)
 simpa using this
def Zge:List Value:=[.int .i64 0,.slice none 0 0,.slice none 0 0,.slice none 0 0,.slice none 0 0,.slice none 0 0,.int .i64 0,.int .i64 0,.int .i64 0,.int .i64 0,.int .i64 0,.int .i64 0,.slice none 0 0,.slice none 0 0,.string ⟨#[]⟩,.int .i64 0,.int .i64 0]
-- WALKS
noncomputable def chkI(c:Cfg):Int:=if c.checkB then 0 else 111
theorem Zcf(w:World)(C:Array Value)(c:Cfg)(vF vP vW vO vV vR vK:Value)(hC:C=#[.int .i64 c.levels,vF,vP,vW,vO,vV,.int .i64 c.audit.level,.int .i64 c.audit.first,.int .i64 c.audit.count,.int .i64 c.audit.journal,.int .i64 c.boot,.int .i64 c.sectors,vR,vK,.string c.login,.int .i64 c.recovery,.int .i64 c.bound])
 (hr:Rows7 w c vF vP vW vO vV vR vK) (hI:CfgI c) (hW:CfgW c) :
 Calls Tryz.prog 12 #[.agg C] w λe w'=>e=.returned (.int .i64 c.needB)/\Later w w':=by
 have m0:C.size=17:=by rw[hC];rfl
 have F0:(Tryz.prog.info? 32).map (·.size)=some C.size:=by rw[m0];exact UR
 have e0:=G9 C Zge [Value.pointer none] 17 rfl m0;have i1:(C.toList++[Value.pointer none]).toArray=Dd c vF vP vW vO vV vR vK (.pointer none):=by rw[hC];rfl
 rw[i1]at e0;simp only[Zge,List.cons_append,List.nil_append]at e0
 obtain⟨p,hp⟩:∃ p,w.heap.size=p:=⟨_,rfl⟩
 obtain⟨w1,hw1⟩:∃ w1,w.alloc (.cells C 32)=w1:=⟨_,rfl⟩
 have l0:Later w w1:=by rw[<-hw1];exact(Later.refl _).alloc _
 have f0:w1.heap[p]?=some (.cells C 32 (0,0)):=by rw[<-hw1,<-hp];exact Zd w _
 have HC:=Hd (λ(w':World) (h:Later w1 w')=>And.intro (show w'.cell? ⟨p,15,none⟩=some (.int .i64 c.recovery) from by rw[Za (h.block f0) 15,hC];rfl) (show w'.cell? ⟨p,16,none⟩=some (.int .i64 c.bound) from by rw[Za (h.block f0) 16,hC];rfl));have C0:=hr.later l0
 obtain⟨fb,hfb⟩:∃ fb,w1.heap.size=fb:=⟨_,rfl⟩
 obtain⟨w2,hw2⟩:∃ w2,w1.alloc (.cells (Dd c vF vP vW vO vV vR vK (.pointer none)) 61)=w2:=⟨_,rfl⟩
 have z0:Later w1 w2:=by rw[<-hw2];exact(Later.refl _).alloc _
 have O0:FineIn w1 fb c vF vP vW vO vV vR vK 0 w2:=⟨.pointer none,by rw[<-hw2,<-hfb];exact Zd w1 _,z0,λh=>by omega⟩
 have r0:=Hd (λ(w':World) (h:Later w2 w')=>Zaz w1 w' fb c vF vP vW vO vV vR vK (O0.later h) C0 hI hW (by omega));have t1:=Hd C0
 obtain⟨b,hb⟩:∃ b,c.fine=b:=⟨_,rfl⟩
 have HB:=Hd hb;rw[hb]at r0;have t0:=Hd hw1;have HP:=Hd hp;have o0:=Hd hw2;have I0:=Hd hfb;clear hw1 hp hw2 hfb i1 hC hr O0 hb C0 hI hW;cases b
 ·go_enter Tryz.func12,Tryz.ntmps12
  go_upto_region 1 with fail
  rw[t0.out,HP.out]
  go_upto_region 2 with(first
   |refine wpList_load_row rfl 32 (.tmp 1) rfl p rfl 32 C (0,0) _ f0 Tryz.underlying32 rfl F0 ?_
   |fail)
  (try rw[e0])
  rw[o0.out,I0.out];clear e0 f0
  go_wp2_with (first
   |(go_at_call 22;(with_reducible refine(r0.out _ La).mono ?_);rintro e w3 ⟨rfl,hl3,hn3⟩)
   |fail)
  go_ret
  refine⟨ZT ?_,l0.trans hl3⟩;unfold Cfg.needB;rw[HB.out];rfl
 ·go_enter Tryz.func12,Tryz.ntmps12
  go_upto_region 1 with fail
  rw[t0.out,HP.out]
  go_upto_region 2 with(first
   |refine wpList_load_row rfl 32 (.tmp 1) rfl p rfl 32 C (0,0) _ f0 Tryz.underlying32 rfl F0 ?_
   |fail)
  (try rw[e0])
  rw[o0.out,I0.out];clear e0 f0
  go_wp2_with (first
   |(go_at_call 22;(with_reducible refine(r0.out _ La).mono ?_);rintro e w3 ⟨rfl,hl3,hn3⟩;obtain⟨lv',hform,-⟩:=FineIn.form (hn3 rfl) t1.out;have y0:=Hd (λ(w':World) (h:Later w3 w')=>QJ w' fb c vF vP vW vO vV vR vK lv' (hform.later h) (Um HB.out));clear hform hn3)
   |(go_at_call 24;(with_reducible refine(y0.out _ La).mono ?_);rintro e w4 ⟨rfl,hl4⟩)
   |fail)
  go_ret
  refine⟨ZT ?_,(l0.trans hl3).trans hl4⟩;unfold Cfg.needB;rw[HB.out];rfl
theorem BG(w:World)(C:Array Value)(c:Cfg)(vF vP vW vO vV vR vK:Value)(hC:C=#[.int .i64 c.levels,vF,vP,vW,vO,vV,.int .i64 c.audit.level,.int .i64 c.audit.first,.int .i64 c.audit.count,.int .i64 c.audit.journal,.int .i64 c.boot,.int .i64 c.sectors,vR,vK,.string c.login,.int .i64 c.recovery,.int .i64 c.bound])
 (hr:Rows7 w c vF vP vW vO vV vR vK) (hI:CfgI c) (hW:CfgW c) :
 Calls Tryz.prog 10 #[.agg C] w λe w'=>e=.returned (.int .i64 (chkI c))/\Later w w':=by
 have m0:C.size=17:=by rw[hC];rfl
 have F0:(Tryz.prog.info? 32).map (·.size)=some C.size:=by rw[m0];exact UR
 have e0:=G9 C Zge [Value.pointer none] 17 rfl m0;have i1:(C.toList++[Value.pointer none]).toArray=Dd c vF vP vW vO vV vR vK (.pointer none):=by rw[hC];rfl
 rw[i1]at e0;simp only[Zge,List.cons_append,List.nil_append]at e0
 obtain⟨p,hp⟩:∃ p,w.heap.size=p:=⟨_,rfl⟩
 obtain⟨w1,hw1⟩:∃ w1,w.alloc (.cells C 32)=w1:=⟨_,rfl⟩
 have l0:Later w w1:=by rw[<-hw1];exact(Later.refl _).alloc _
 have f0:w1.heap[p]?=some (.cells C 32 (0,0)):=by rw[<-hw1,<-hp];exact Zd w _
 have HC:=Hd (λ(w':World) (h:Later w1 w')=>And.intro (show w'.cell? ⟨p,15,none⟩=some (.int .i64 c.recovery) from by rw[Za (h.block f0) 15,hC];rfl) (show w'.cell? ⟨p,16,none⟩=some (.int .i64 c.bound) from by rw[Za (h.block f0) 16,hC];rfl));have C0:=hr.later l0
 obtain⟨fb,hfb⟩:∃ fb,w1.heap.size=fb:=⟨_,rfl⟩
 obtain⟨w2,hw2⟩:∃ w2,w1.alloc (.cells (Dd c vF vP vW vO vV vR vK (.pointer none)) 61)=w2:=⟨_,rfl⟩
 have z0:Later w1 w2:=by rw[<-hw2];exact(Later.refl _).alloc _
 have O0:FineIn w1 fb c vF vP vW vO vV vR vK 0 w2:=⟨.pointer none,by rw[<-hw2,<-hfb];exact Zd w1 _,z0,λh=>by omega⟩
 have r0:=Hd (λ(w':World) (h:Later w2 w')=>Zaz w1 w' fb c vF vP vW vO vV vR vK (O0.later h) C0 hI hW (by omega));have t1:=Hd C0
 obtain⟨b,hb⟩:∃ b,c.fine=b:=⟨_,rfl⟩
 have HB:=Hd hb;rw[hb]at r0;have t0:=Hd hw1;have HP:=Hd hp;have o0:=Hd hw2;have I0:=Hd hfb;clear hw1 hp hw2 hfb i1 hC hr O0 hb C0 hI hW;have l1:=Hd (λ(w':World)=>XA w' c.recovery 1 65535);have K1:=Hd (λ(w':World)=>XA w' c.bound c.need 65535)
 obtain⟨br,hbr⟩:∃ b,inB c.recovery 1 65535=b:=⟨_,rfl⟩
 obtain⟨bb,hbb⟩:∃ b,inB c.bound c.need 65535=b:=⟨_,rfl⟩
 have R0:=Hd (And.intro hbr hbb);rw[hbr]at l1;rw[hbb]at K1;clear hbr hbb;cases b
 ·go_enter Tryz.func10,Tryz.ntmps10
  go_upto_region 1 with fail
  rw[t0.out,HP.out]
  go_upto_region 2 with(first
   |refine wpList_load_row rfl 32 (.tmp 1) rfl p rfl 32 C (0,0) _ f0 Tryz.underlying32 rfl F0 ?_
   |fail)
  (try rw[e0])
  rw[o0.out,I0.out];clear e0 f0;refine wp_region_held_drew (S:=λw'=>w'.cell? ⟨p,15,none⟩=some (.int .i64 c.recovery)/\w'.cell? ⟨p,16,none⟩=some (.int .i64 c.bound)) (by kernel_rfl) (HC.out _ La) (λd0=>?_);refine tkS 0 d0 ?_;refine rd1 1 (λK hK=>?_)
  go_simp
  refine(r0.out _ La).mono ?_;rintro e w3 ⟨rfl,hl3,hn3⟩;refine hK.out _ _ ?_ (λd0=>?_)
  ·exact HC.out _ La
  clear hK K
  (try simp only[p0,p1,p2,p3,p4,p5,p6])
  refine tkS 2 d0 ?_;refine tkS 3 d0 ?_;refine tkV 4 d0 ?_;refine tkV 5 d0 ?_;refine tkV 6 d0 ?_;refine tkV 7 d0 ?_;refine tkS 8 d0 ?_;refine tkS 9 d0 ?_;refine tkV 10 d0 ?_;refine tkV 11 d0 ?_;refine tkV 12 d0 ?_;refine tkV 13 d0 ?_;refine tkV 14 d0 ?_;refine tkV 15 d0 ?_;refine tkS 16 d0 ?_;refine wpAnyH_done (by kernel_rfl) ?_ _
  go_wp2_with fail
  go_ret
  refine⟨ZT ?_,l0.trans hl3⟩;unfold chkI Cfg.checkB;rw[HB.out];rfl
 ·cases br
  ·go_enter Tryz.func10,Tryz.ntmps10
   go_upto_region 1 with fail
   rw[t0.out,HP.out]
   go_upto_region 2 with(first
    |refine wpList_load_row rfl 32 (.tmp 1) rfl p rfl 32 C (0,0) _ f0 Tryz.underlying32 rfl F0 ?_
    |fail)
   (try rw[e0])
   rw[o0.out,I0.out];clear e0 f0;refine wp_region_held_drew (S:=λw'=>w'.cell? ⟨p,15,none⟩=some (.int .i64 c.recovery)/\w'.cell? ⟨p,16,none⟩=some (.int .i64 c.bound)) (by kernel_rfl) (HC.out _ La) (λd0=>?_);refine tkS 0 d0 ?_;refine rd1 1 (λK hK=>?_)
   go_simp
   refine(r0.out _ La).mono ?_;rintro e w3 ⟨rfl,hl3,hn3⟩;refine hK.out _ _ ?_ (λd0=>?_)
   ·exact HC.out _ La
   clear hK K
   (try simp only[p0,p1,p2,p3,p4,p5,p6])
   refine tkS 2 d0 ?_;refine tkS 3 d0 ?_;refine tkS 4 d0 ?_;refine tkS 5 d0 ?_;refine rd1 6 (λK hK=>?_)
   go_simp
   refine(l1.out _).mono ?_;rintro e w9 ⟨rfl,hw9⟩;obtain rfl:=hw9.symm;refine hK.out _ _ ?_ (λd0=>?_)
   ·exact HC.out _ La
   clear hK K
   (try simp only[p0,p1,p2,p3,p4,p5,p6])
   refine tkS 7 d0 ?_;refine tkS 8 d0 ?_;refine tkS 9 d0 ?_;refine tkV 10 d0 ?_;refine tkV 11 d0 ?_;refine tkV 12 d0 ?_;refine tkV 13 d0 ?_;refine tkV 14 d0 ?_;refine tkV 15 d0 ?_;refine tkS 16 d0 ?_;refine wpAnyH_done (by kernel_rfl) ?_ _
   go_wp2_with fail
   go_ret
   refine⟨ZT ?_,l0.trans hl3⟩;unfold chkI Cfg.checkB;rw[HB.out,R0.out.1];rfl
  ·cases bb
   ·go_enter Tryz.func10,Tryz.ntmps10
    go_upto_region 1 with fail
    rw[t0.out,HP.out]
    go_upto_region 2 with(first
     |refine wpList_load_row rfl 32 (.tmp 1) rfl p rfl 32 C (0,0) _ f0 Tryz.underlying32 rfl F0 ?_
     |fail)
    (try rw[e0])
    rw[o0.out,I0.out];clear e0 f0;refine wp_region_held_drew (S:=λw'=>w'.cell? ⟨p,15,none⟩=some (.int .i64 c.recovery)/\w'.cell? ⟨p,16,none⟩=some (.int .i64 c.bound)) (by kernel_rfl) (HC.out _ La) (λd0=>?_);refine tkS 0 d0 ?_;refine rd1 1 (λK hK=>?_)
    go_simp
    refine(r0.out _ La).mono ?_;rintro e w3 ⟨rfl,hl3,hn3⟩;obtain⟨lv',hform,-⟩:=FineIn.form (hn3 rfl) t1.out;have y0:=Hd (λ(w':World) (h:Later w3 w')=>QJ w' fb c vF vP vW vO vV vR vK lv' (hform.later h) (Um HB.out));clear hform hn3;refine hK.out _ _ ?_ (λd0=>?_)
    ·exact HC.out _ La
    clear hK K
    (try simp only[p0,p1,p2,p3,p4,p5,p6])
    refine tkS 2 d0 ?_;refine tkS 3 d0 ?_;refine tkS 4 d0 ?_;refine tkS 5 d0 ?_;refine rd1 6 (λK hK=>?_)
    go_simp
    refine(l1.out _).mono ?_;rintro e w9 ⟨rfl,hw9⟩;obtain rfl:=hw9.symm;refine hK.out _ _ ?_ (λd0=>?_)
    ·exact HC.out _ La
    clear hK K
    (try simp only[p0,p1,p2,p3,p4,p5,p6])
    refine tkS 7 d0 ?_;refine tkS 8 d0 ?_;refine tkS 9 d0 ?_;refine tkS 10 d0 ?_;refine tkS 11 d0 ?_;refine tkS 12 d0 ?_;refine rd1 13 (λK hK=>?_)
    go_simp
    refine(y0.out _ La).mono ?_;rintro e w4 ⟨rfl,hl4⟩;refine hK.out _ _ ?_ (λd0=>?_)
    ·exact HC.out _ La
    clear hK K
    (try simp only[p0,p1,p2,p3,p4,p5,p6])
    refine rd1 14 (λK hK=>?_)
    go_simp
    refine(K1.out _).mono ?_;rintro e w8 ⟨rfl,hw8⟩;obtain rfl:=hw8.symm;refine hK.out _ _ ?_ (λd0=>?_)
    ·exact HC.out _ La
    clear hK K
    (try simp only[p0,p1,p2,p3,p4,p5,p6])
    refine tkS 15 d0 ?_;refine tkS 16 d0 ?_;refine wpAnyH_done (by kernel_rfl) ?_ _
    go_wp2_with fail
    go_ret
    refine⟨ZT ?_,(l0.trans hl3).trans hl4⟩;unfold chkI Cfg.checkB;rw[HB.out,R0.out.1,R0.out.2];rfl
   ·go_enter Tryz.func10,Tryz.ntmps10
    go_upto_region 1 with fail
    rw[t0.out,HP.out]
    go_upto_region 2 with(first
     |refine wpList_load_row rfl 32 (.tmp 1) rfl p rfl 32 C (0,0) _ f0 Tryz.underlying32 rfl F0 ?_
     |fail)
    (try rw[e0])
    rw[o0.out,I0.out];clear e0 f0;refine wp_region_held_drew (S:=λw'=>w'.cell? ⟨p,15,none⟩=some (.int .i64 c.recovery)/\w'.cell? ⟨p,16,none⟩=some (.int .i64 c.bound)) (by kernel_rfl) (HC.out _ La) (λd0=>?_);refine tkS 0 d0 ?_;refine rd1 1 (λK hK=>?_)
    go_simp
    refine(r0.out _ La).mono ?_;rintro e w3 ⟨rfl,hl3,hn3⟩;obtain⟨lv',hform,-⟩:=FineIn.form (hn3 rfl) t1.out;have y0:=Hd (λ(w':World) (h:Later w3 w')=>QJ w' fb c vF vP vW vO vV vR vK lv' (hform.later h) (Um HB.out));clear hform hn3;refine hK.out _ _ ?_ (λd0=>?_)
    ·exact HC.out _ La
    clear hK K
    (try simp only[p0,p1,p2,p3,p4,p5,p6])
    refine tkS 2 d0 ?_;refine tkS 3 d0 ?_;refine tkS 4 d0 ?_;refine tkS 5 d0 ?_;refine rd1 6 (λK hK=>?_)
    go_simp
    refine(l1.out _).mono ?_;rintro e w9 ⟨rfl,hw9⟩;obtain rfl:=hw9.symm;refine hK.out _ _ ?_ (λd0=>?_)
    ·exact HC.out _ La
    clear hK K
    (try simp only[p0,p1,p2,p3,p4,p5,p6])
    refine tkS 7 d0 ?_;refine tkS 8 d0 ?_;refine tkS 9 d0 ?_;refine tkS 10 d0 ?_;refine tkS 11 d0 ?_;refine tkS 12 d0 ?_;refine rd1 13 (λK hK=>?_)
    go_simp
    refine(y0.out _ La).mono ?_;rintro e w4 ⟨rfl,hl4⟩;refine hK.out _ _ ?_ (λd0=>?_)
    ·exact HC.out _ La
    clear hK K
    (try simp only[p0,p1,p2,p3,p4,p5,p6])
    refine rd1 14 (λK hK=>?_)
    go_simp
    refine(K1.out _).mono ?_;rintro e w8 ⟨rfl,hw8⟩;obtain rfl:=hw8.symm;refine hK.out _ _ ?_ (λd0=>?_)
    ·exact HC.out _ La
    clear hK K
    (try simp only[p0,p1,p2,p3,p4,p5,p6])
    refine tkS 15 d0 ?_;refine tkS 16 d0 ?_;refine wpAnyH_done (by kernel_rfl) ?_ _
    go_wp2_with fail
    go_ret
    refine⟨ZT ?_,(l0.trans hl3).trans hl4⟩;unfold chkI Cfg.checkB;rw[HB.out,R0.out.1,R0.out.2];rfl
theorem CfgIn.rows7{w:World}{cs:List Value}{c:Cfg}(h:CfgIn w cs c):∃ vF vP vW vO vV vR vK:Value,cs=[.int .i64 c.levels,vF,vP,vW,vO,vV,.int .i64 c.audit.level,.int .i64 c.audit.first,.int .i64 c.audit.count,.int .i64 c.audit.journal,.int .i64 c.boot,.int .i64 c.sectors,vR,vK,.string c.login,.int .i64 c.recovery,.int .i64 c.bound]/\Rows7 w c vF vP vW vO vV vR vK:=by
 obtain⟨vF,vP,vW,vO,vV,vR,vK,h0,h1,h2,h3,h4,h5,h6,h7⟩:=h.rows;exact⟨vF,vP,vW,vO,vV,vR,vK,h0,⟨h1,h2,h3,h4,h5,h6,h7⟩⟩
