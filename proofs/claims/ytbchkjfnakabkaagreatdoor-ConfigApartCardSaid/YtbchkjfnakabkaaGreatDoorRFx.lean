import Derived.Test.YtbchkjfnakabkaaGreatDoorNSS
set_option linter.unusedSimpArgs false
set_option linter.unusedVariables false
set_option maxHeartbeats 8000000
set_option maxRecDepth 100000
namespace Go.Proofs.YtbchkjfnakabkaaGreatDoor
open Go.RowKit PX PC
theorem Zv(w:World)(n lo hi:Int) :
 Calls Tryz.prog 25 #[.int .i64 n,.int .i64 lo,.int .i64 hi] w λe w'=>e=.returned (.bool (inB n lo hi))/\w'=w:=by
 by_cases h:lo<=n
 ·have hd:decide (lo<=n)=true:=decide_eq_true h;have he:inB n lo hi=decide (n<=hi):=by unfold inB;rw[hd];rfl
  rw[he];clear he h
  go_enter Tryz.func25,Tryz.ntmps25
  go_wp2_with fail
  go_ret
  exact⟨rfl,rfl⟩
 ·have hd:decide (lo<=n)=false:=decide_eq_false h;have he:inB n lo hi=false:=by unfold inB;rw[hd];rfl
  rw[he];clear he h
  go_enter Tryz.func25,Tryz.ntmps25
  go_wp2_with fail
  go_ret
  exact⟨rfl,rfl⟩
theorem ZcQ(l:List Win)(x:Win)(k i:Int):sumT (l++[x]) k i=sumT l k i+(if x.kind=k/\x.index=i then x.ticks else 0):=by
 induction l with
 |nil=>simp[sumT]
 |cons y l ih=>simp only[List.cons_append,sumT,ih];omega
theorem Qu(l:List Win)(k i:Int)(h:∀ x∈l,0<=x.ticks/\x.ticks<=255):0<=sumT l k i/\sumT l k i<=255*l.length:=by
 induction l with
 |nil=>simp[sumT]
 |cons y l ih=>
  have h1:=h y (List.mem_cons_self ..);have h2:=ih λx hx=>h x (List.mem_cons_of_mem _ hx)
  simp only[sumT,List.length_cons];split<;>omega
theorem YO(w:World)(c:Cfg)(v:V7)(k i:Int)(h:RowsOf w c v)(hT:∀ x∈c.windows,0<=x.ticks/\x.ticks<=255) :
 Calls Tryz.prog 27 #[.agg (cfgA c v),.int .i64 k,.int .i64 i] w λe w'=>e=.returned (.int .i64 (c.tk k i))/\Later w w':=by
 obtain⟨aW,pW,eW,g1,g2,g3⟩:=Zl h.rW;have t0:=h.rW;rw[eW]at t0
 obtain⟨nW,hnW⟩:∃ n,c.windows.length=n:=⟨_,rfl⟩
 obtain⟨p,hp⟩:∃ p,w.heap.size=p:=⟨_,rfl⟩
 obtain⟨w1,hw1⟩:∃ w1,w.alloc (.cells (cfgA c v) 32)=w1:=⟨_,rfl⟩
 have A0:Later w w1:=by rw[<-hw1];exact(Later.refl w).alloc _
 have l0:w1.heap[p]?=some (.cells (cfgA c v) 32 (0,0)):=by rw[<-hw1,<-hp];exact Zd w _
 have k3:w1.cell? ⟨p,3,none⟩=some (.slice aW nW pW):=by rw[Za l0 3,<-hnW,<-eW];rfl
 have HR:=Hd (t0.later A0);rw[hnW]at HR;have HN:=Hd hnW;have HT:=Hd hT;have o0:=Hd hw1;have HP:=Hd hp;have k1:=Hd A0;have hb:nW<=140737488355328:=by omega
 clear h t0 hT hw1 hp A0 l0 hnW eW g1 g2 g3
 go_enter Tryz.func27,Tryz.ntmps27
 go_wp2_with fail
 rw[HP.out,o0.out]
 go_loopw [7,8] (λvn vi wr=>∃ j:Nat,j<=nW/\vi=.int .i64 (j:Int)/\vn=.int .i64 (sumT (c.windows.take j) k i)/\wr=w1) (λ_ vi _=>nW - (intOf vi).toNat)
 case atStart=>exact⟨0,by omega,rfl,rfl,rfl⟩
 case round=>
  obtain⟨j,hj,rfl,rfl,hwr⟩:=hrel;subst hwr;by_cases hlt:j<nW
  ·obtain⟨b,o,hao,hb',hcc⟩:=Zz HR.out (show j<c.windows.length by rw[HN.out];exact hlt);have hs:=ZcQ (c.windows.take j) (c.windows[j]'(by rw[HN.out];exact hlt)) k i;rw[<-Zs (show j<c.windows.length by rw[HN.out];exact hlt)]at hs;have O0:=HT.out _ (List.getElem_mem (show j<c.windows.length by rw[HN.out];exact hlt));have c1:=Qu (c.windows.take j) k i (λx hx=>HT.out x (List.mem_of_mem_take hx));have T0:(c.windows.take j).length<=nW:=by rw[List.length_take];omega
   obtain⟨x,hx⟩:∃ x,c.windows[j]'(by rw[HN.out];exact hlt)=x:=⟨_,rfl⟩
   rw[hx]at hcc hs O0;obtain⟨x1,x2,x3⟩:=x;simp only at O0 hs;have e0:=hcc 0 (by omega);have e1:=hcc 1 (by omega);have e2:=hcc 2 (by omega);simp only[winC,List.getElem?_cons_zero,List.getElem?_cons_succ,Nat.add_zero]at e0 e1 e2
   obtain⟨T,hT⟩:∃ T,sumT (c.windows.take j) k i=T:=⟨_,rfl⟩
   rw[hT]at hs c1 ⊢;have r1:IntKind.i64.wrap (T+x3)=T+x3:=by rw[IntKind.wrap_i64];omega
   have HS:=Hd hs;subst hao;clear hcc hb' hx hT T0 c1 O0 hs;by_cases h1:x1=k
   ·have d1:(x1==k)=true:=by simpa using h1
    by_cases h2:x2=i
    ·have d2:(x2==i)=true:=by simpa using h2
     have HE:=Hd (And.intro h1 h2);clear h1 h2
     go_wp2_with fail
     exact⟨⟨j+1,by omega,by simp,by rw[HS.out,if_pos HE.out],by first|trivial|rfl⟩,by simp only[intOf];omega⟩
    ·have d2:(x2==i)=false:=by simpa using h2
     have HE:=Hd h2;clear h1 h2
     go_wp2_with fail
     exact⟨⟨j+1,by omega,by simp,by rw[HS.out,if_neg (λq=>HE.out q.2),Int.add_zero],by first|trivial|rfl⟩,by simp only[intOf];omega⟩
   ·have d1:(x1==k)=false:=by simpa using h1
    have HE:=Hd h1;clear h1
    go_wp2_with fail
    exact⟨⟨j+1,by omega,by simp,by rw[HS.out,if_neg (λq=>HE.out q.1),Int.add_zero],by first|trivial|rfl⟩,by simp only[intOf];omega⟩
  ·obtain rfl:j=nW:=by omega
   have P0:c.windows.take j=c.windows:=List.take_of_length_le (by rw[HN.out];exact Nat.le_refl _);rw[P0]
   go_wp2_with fail
   go_ret
   exact⟨rfl,k1.out⟩
theorem D2(w:World)(c:Cfg)(v:V7)(x:Vol)(hs:I64 c.sectors)(hx:volI x) :
 Calls Tryz.prog 96 #[.agg (cfgA c v),.agg #[.int .i64 x.level,.int .i64 x.first,.int .i64 x.count,.int .i64 x.journal]] w λe w'=>e=.returned (.bool (X1 c x))/\Later w w':=by
 obtain⟨x0,x1,x2,x3⟩:=x;obtain⟨hx2a,hx2b⟩:I64 x2:=hx.2 x2 (by simp);obtain⟨hs1,hs2⟩:=hs;clear hx;simp only
 obtain⟨p,hp⟩:∃ p,w.heap.size=p:=⟨_,rfl⟩
 obtain⟨w1,hw1⟩:∃ w1,w.alloc (.cells (cfgA c v) 32)=w1:=⟨_,rfl⟩
 obtain⟨q,hq⟩:∃ q,p+1=q:=⟨_,rfl⟩
 obtain⟨w2,hw2⟩:∃ x,w1.alloc (.cells #[.int .i64 x0,.int .i64 x1,.int .i64 x2,.int .i64 x3] 28)=x:=⟨_,rfl⟩
 have l0:w1.heap[p]?=some (.cells (cfgA c v) 32 (0,0)):=by rw[<-hw1,<-hp];exact Zd w _
 have j1:w2.heap[p]?=some (.cells (cfgA c v) 32 (0,0)):=by rw[<-hw2];exact Ze l0 _
 have H0:w2.heap[q]?=some (.cells #[.int .i64 x0,.int .i64 x1,.int .i64 x2,.int .i64 x3] 28 (0,0)):=by rw[<-hw2];exact Zq (by rw[<-hw1,<-hq,<-hp];simp)
 obtain⟨sc,hsc⟩:∃ s,c.sectors=s:=⟨_,rfl⟩
 have k11:w2.cell? ⟨p,11,none⟩=some (.int .i64 sc):=by rw[Za j1 11,<-hsc];rfl
 have q1:w2.cell? ⟨q,1,none⟩=some (.int .i64 x1):=Za H0 1;have q2:w2.cell? ⟨q,2,none⟩=some (.int .i64 x2):=Za H0 2;have q3:w2.cell? ⟨q,3,none⟩=some (.int .i64 x3):=Za H0 3;have HL:=Hd (show Later w w2 by rw[<-hw2,<-hw1];exact((Later.refl w).alloc _).alloc _);have HB:=Hd (λ(w':World)=>Zv w' x3 4 (x2 - 1))
 obtain⟨J,hJ⟩:∃ J,inB x3 4 (x2 - 1)=J:=⟨_,rfl⟩
 have HX:Hid (X1 c ⟨x0,x1,x2,x3⟩=(decide (0<=x1/\1<=x2/\x1<=sc/\x2<=sc - x1)&&J)):=Hd (by rw[<-hJ,<-hsc];rfl);rw[hJ]at HB;rw[HX.out];rw[hsc]at hs1 hs2;have o0:=Hd hw1;have z0:=Hd hw2;have HP:=Hd hp;have HQ:=Hd hq;clear hp hw1 hq hw2 l0 j1 H0 hsc hJ;by_cases a1:0<=x1
 ·have d1:decide (0<=x1)=true:=decide_eq_true a1;by_cases a2:1<=x2
  ·have d2:decide (1<=x2)=true:=decide_eq_true a2;have hwb:IntKind.i64.wrap (x2 - 1)=x2 - 1:=by rw[IntKind.wrap_i64];omega
   by_cases a3:x1<=sc
   ·have d3:decide (x1<=sc)=true:=decide_eq_true a3;have r1:IntKind.i64.wrap (sc - x1)=sc - x1:=by rw[IntKind.wrap_i64];omega
    by_cases a4:x2<=sc - x1
    ·have d4:decide (x2<=sc - x1)=true:=decide_eq_true a4;rw[show decide (0<=x1/\1<=x2/\x1<=sc/\x2<=sc - x1)=true from decide_eq_true ⟨a1,a2,a3,a4⟩,Bool.true_and];clear a1 a2 a3 a4
     go_enter Tryz.func96,Tryz.ntmps96
     go_upto_region 1 with fail
     rw[HP.out,HQ.out,o0.out,z0.out]
     go_wp2_with (first
      |(go_at_call 25;(with_reducible refine(HB.out _).mono ?_);rintro e w3 ⟨rfl,hw3⟩;subst hw3)
      |fail)
     go_ret
     exact⟨rfl,HL.out⟩
    ·have d4:decide (x2<=sc - x1)=false:=decide_eq_false a4;rw[show decide (0<=x1/\1<=x2/\x1<=sc/\x2<=sc - x1)=false from decide_eq_false (λh=>a4 h.2.2.2),Bool.false_and];clear a1 a2 a3 a4
     go_enter Tryz.func96,Tryz.ntmps96
     go_upto_region 1 with fail
     rw[HP.out,HQ.out,o0.out,z0.out]
     go_wp2_with fail
     go_ret
     exact⟨rfl,HL.out⟩
   ·have d3:decide (x1<=sc)=false:=decide_eq_false a3;rw[show decide (0<=x1/\1<=x2/\x1<=sc/\x2<=sc - x1)=false from decide_eq_false (λh=>a3 h.2.2.1),Bool.false_and];clear a1 a2 a3
    go_enter Tryz.func96,Tryz.ntmps96
    go_upto_region 1 with fail
    rw[HP.out,HQ.out,o0.out,z0.out]
    go_wp2_with fail
    go_ret
    exact⟨rfl,HL.out⟩
  ·have d2:decide (1<=x2)=false:=decide_eq_false a2;rw[show decide (0<=x1/\1<=x2/\x1<=sc/\x2<=sc - x1)=false from decide_eq_false (λh=>a2 h.2.1),Bool.false_and];clear a1 a2
   go_enter Tryz.func96,Tryz.ntmps96
   go_upto_region 1 with fail
   rw[HP.out,HQ.out,o0.out,z0.out]
   go_wp2_with fail
   go_ret
   exact⟨rfl,HL.out⟩
 ·have d1:decide (0<=x1)=false:=decide_eq_false a1;rw[show decide (0<=x1/\1<=x2/\x1<=sc/\x2<=sc - x1)=false from decide_eq_false (λh=>a1 h.1),Bool.false_and];clear a1
  go_enter Tryz.func96,Tryz.ntmps96
  go_upto_region 1 with fail
  rw[HP.out,HQ.out,o0.out,z0.out]
  go_wp2_with fail
  go_ret
  exact⟨rfl,HL.out⟩
end Go.Proofs.YtbchkjfnakabkaaGreatDoor
namespace Go.Proofs.YtbchkjfnakabkaaGreatDoor
open Go.RowKit PX PC
open Go.Act renaming put -> p0
open List renaming getElem_toArray -> p1, getElem_cons_succ -> p2, getElem_cons_zero -> p3, setIfInBounds_toArray -> p4, set_cons_zero -> p5, set_cons_succ -> p6
theorem YG{o:Oper}{a:Act}{t:Tmp}{p:Nat}{c:Cfg}{v:V7}{w:World}(ho:o.op=.load 32 (.tmp t))(ha:a.eval (.tmp t)=.pointer (some ⟨p,0,none⟩))(h:VarAt w p c v):(execOp a.eval o).run Tryz.prog w=.ok (.value (.agg (cfgA c v))) w:=by
 have h1:=run_loadVar_row w p 32 32 (cfgA c v) (0,0) _ h Tryz.underlying32 rfl (XS c v);unfold execOp;simp only[ho,ha,Instr.loadAt,Instr.sureAddr,Sem.run_bind,Sem.run_pure,Result.andThen_ok,h1]
theorem QS(W:List Win)(k i:Int)(h:∀ x∈W,0<=x.ticks/\x.ticks<=255):hasT W k i=!(sumT W k i==0):=by
 have:=(Qu W k i h).1;unfold hasT;rw[Bool.eq_iff_iff];simp;omega
def GK(c:Cfg)(k:Int):Int:=if k=1 then(c.parts.length:Int) - 1 else if k=2\/k=3 then c.levels - 1 else 0
theorem GP(c:Cfg)(x:Win):JQ c x=(inB x.kind 0 4&&(inB x.ticks 1 255&&inB x.index 0 (GK c x.kind))):=by
 obtain⟨k,i,t⟩:=x;rw[Bool.eq_iff_iff];simp only[JQ,ZcC,GK,Cfg.prt,Cfg.lvl,Bool.and_eq_true,ZI];by_cases h0:k=0
 ·subst h0;simp[ZI];omega
 ·by_cases h1:k=1
  ·subst h1;simp[ZI];omega
  ·by_cases h2:k=2
   ·subst h2;simp[ZI];omega
   ·by_cases h3:k=3
    ·subst h3;simp[ZI];omega
    ·by_cases h4:k=4
     ·subst h4;simp[ZI];omega
     ·simp[h0,h1,h2,h3,h4];omega
theorem Gl(W:List Win):∀ (P:List Prt) (b j:Nat) (h:j<P.length),Z7 W b (P.take (j+1))=(Z7 W b (P.take j)&&(hasT W 1 ((b+j:Nat):Int)&&(hasT W 2 P[j].level&&hasT W 3 P[j].level)))
 |[],_,_,h=>by cases h
 |x::P,b,0,h=>by simp[Z7]
 |x::P,b,j+1,h=>by
  have ih:=Gl W P (b+1) j (by simpa using h);simp only[List.take_succ_cons,Z7,List.getElem_cons_succ]at ih ⊢;rw[ih,show b+1+j=b+(j+1) by omega];simp only[Bool.and_assoc]
theorem Zem{W:List Win}{P:List Prt}{j:Nat}(h:Z7 W 0 (P.take j)=false):Z7 W 0 P=false:=by
 have key:∀ (P:List Prt) (b j:Nat),Z7 W b (P.take j)=false->Z7 W b P=false:=by
  intro P
  induction P with
  |nil=>intro b j h;simpa using h
  |cons x P ih=>
   intro b j h
   cases j with
   |zero=>simp[Z7]at h
   |succ j=>
    simp only[List.take_succ_cons,Z7,Bool.and_eq_false_iff]at h ⊢;rcases h with h|h
    ·exact .inl h
    ·exact .inr (ih _ _ h)
 exact key P 0 j h
theorem Wt(w:World)(c:Cfg)(v:V7)(h:RowsOf w c v)(A0:1<=c.levels)(hl8:c.levels<=8) :
 Calls Tryz.prog 73 #[.agg (cfgA c v)] w λe w'=>e=.returned (.bool c.windowsB)/\Later w w':=by
 obtain⟨aW,pW,eW,g1,g2,g3⟩:=Zl h.rW;obtain⟨aP,pP,eP,q1,q2,q3⟩:=Zl h.rP;obtain⟨aR,pR,eR,s1,s2,s3⟩:=Zl h.rR;have R0:=h.rW;have W0:=h.rP;rw[eW]at R0;rw[eP]at W0
 obtain⟨nW,hnW⟩:∃ n,c.windows.length=n:=⟨_,rfl⟩
 obtain⟨nP,hnP⟩:∃ n,c.parts.length=n:=⟨_,rfl⟩
 obtain⟨nR,hnR⟩:∃ n,c.rules.length=n:=⟨_,rfl⟩
 obtain⟨p,hp⟩:∃ p,w.heap.size=p:=⟨_,rfl⟩
 obtain⟨w1,hw1⟩:∃ w1,w.alloc (.cells (cfgA c v) 32)=w1:=⟨_,rfl⟩
 have j0:Later w w1:=by rw[<-hw1];exact(Later.refl w).alloc _
 have l0:VarAt w1 p c v:=by unfold VarAt;rw[<-hw1,<-hp];exact Zd w _
 obtain⟨lv,hlv⟩:∃ n,c.levels=n:=⟨_,rfl⟩
 have HK:=Hd (fun (w':World) (k:Later w1 w')=>And.intro (show w'.cell? ⟨p,0,none⟩=some (.int .i64 lv) by rw [Za (l0.later k) 0,←hlv];rfl)
  (And.intro (show w'.cell? ⟨p,2,none⟩=some (.slice aP nP pP) by rw[Za (l0.later k) 2,<-hnP,<-eP];rfl)
  (And.intro (show w'.cell? ⟨p,3,none⟩=some (.slice aW nW pW) by rw [Za (l0.later k) 3,←hnW,←eW];rfl)
   (show w'.cell? ⟨p,12,none⟩=some (.slice aR nR pR) by rw[Za (l0.later k) 12,<-hnR,<-eR];rfl))))
 have HV:=Hd (λ(w':World) (k:Later w1 w')=>l0.later k);have E1:=Hd (λ(w':World) (k:Later w1 w')=>(show RowAt w' 3 (.slice aW nW pW) (c.windows.map winC) by rw[<-hnW];exact R0.later (j0.trans k)));have C1:=Hd (λ(w':World) (k:Later w1 w')=>(show RowAt w' 2 (.slice aP nP pP) (c.parts.map XQ) by rw[<-hnP];exact W0.later (j0.trans k)));have N0:=Hd (λ(w':World) (k:Later w1 w')=>Rows7.later h (j0.trans k));have v0:=Hd hnW;have F0:=Hd hnP;have l1:=Hd hnR;have b1:=Hd hlv;have o0:=Hd hw1;have HP:=Hd hp;have k1:=Hd j0
 obtain⟨PT,hPT⟩:∃ PT,(λ(e:Ending) (w':World)=>e=.returned (.bool c.windowsB)/\Later w w')=PT:=⟨_,rfl⟩
 rw[hPT];have n0:=Hd (λ(w':World) (b:Bool) (hb:c.windowsB=b) (k:Later w1 w')=>(show PT (.returned (.bool b)) w' by rw[<-hPT];exact⟨by rw[hb],j0.trans k⟩));have hbW:nW<=140737488355328:=by omega
 have hbP:nP<=140737488355328:=by omega
 rw[hlv]at A0 hl8;have hwl:IntKind.i64.wrap (lv - 1)=lv - 1:=by rw[IntKind.wrap_i64];omega
 have hwp:IntKind.i64.wrap ((nP:Int) - 1)=(nP:Int) - 1:=by rw[IntKind.wrap_i64];omega
 clear h hw1 hp j0 l0 R0 W0 hnW hnP hnR hlv hPT eW eP eR g1 g2 g3 q1 q2 q3 s1 s2 s3
 go_enter Tryz.func73,Tryz.ntmps73
 go_wp2_with fail
 rw[HP.out,o0.out]
 go_loopw [3] (λvi wr=>∃ j:Nat,j<=nW/\vi=.int .i64 (j:Int)/\(∀x∈c.windows.take j,JQ c x=true)/\Later w1 wr) (λvi _=>nW - (intOf vi).toNat)
 case atStart=>exact⟨0,by omega,rfl,by simp,Later.refl _⟩
 case round=>
  obtain⟨j,hj,rfl,hok,hl⟩:=hrel;obtain⟨k0,k2,k3,k12⟩:=HK.out _ hl;by_cases hlt:j<nW
  ·obtain⟨b,o,hao,hb',hcc⟩:=Zz (E1.out _ hl) (show j<c.windows.length by rw[v0.out];exact hlt);have m0:=Zs (show j<c.windows.length by rw[v0.out];exact hlt);have s0:=List.getElem_mem (show j<c.windows.length by rw[v0.out];exact hlt)
   obtain⟨x,hx⟩:∃ x,c.windows[j]'(by rw[v0.out];exact hlt)=x:=⟨_,rfl⟩
   rw[hx]at hcc m0 s0;have c0:=GP c x
   have q0:=Hd (λ(hw:JQ c x=true)=>(show ∀y∈c.windows.take (j+1),JQ c y=true from λy hy=>by
    rw[m0,List.mem_append]at hy;rcases hy with hy|hy
    ·exact hok y hy
    ·rw[List.mem_singleton.1 hy];exact hw))
   have b0:=Hd (λ(hw:JQ c x=false) (w':World) (k:Later w1 w')=>n0.out w' false (show c.windowsB=false by
    unfold Cfg.windowsB
    rw[show c.windows.all (JQ c)=false from List.all_eq_false.2 ⟨x,s0,by rw[hw];decide⟩,Bool.and_false,Bool.false_and]) k)
   obtain⟨x1,x2,x3⟩:=x;have e0:=hcc 0 (by omega);have e1:=hcc 1 (by omega);have e2:=hcc 2 (by omega);simp only[winC,List.getElem?_cons_zero,List.getElem?_cons_succ,Nat.add_zero]at e0 e1 e2;have f0:=Hd (λ(w':World)=>Zv w' x1 0 4);have g0:=Hd (λ(w':World)=>Zv w' x3 1 255);have I0:=Hd (λ(w':World) (m:Int)=>Zv w' x2 0 m);simp only at c0
   obtain⟨K,hK⟩:∃ b,inB x1 0 4=b:=⟨_,rfl⟩
   obtain⟨T,hT⟩:∃ b,inB x3 1 255=b:=⟨_,rfl⟩
   rw[hK]at f0;rw[hT]at g0;rw[hK,hT]at c0;subst hao;clear hcc hb' hx m0 hok hK hT s0
   go_upto_region 5 with fail
   obtain⟨bx,hbx⟩:∃ g,wr.heap.size=g:=⟨_,rfl⟩
   obtain⟨wy,hwy⟩:∃ y,wr.alloc (.cells #[.int .i64 x1,.int .i64 x2,.int .i64 x3] 55)=y:=⟨_,rfl⟩
   rw[hbx,hwy];have M0:wy.heap[bx]?=some (.cells #[.int .i64 x1,.int .i64 x2,.int .i64 x3] 55 (0,0)):=by rw[<-hwy];exact Zq hbx
   have n1:Later w1 wy:=by rw[<-hwy];exact hl.alloc _
   have y0:=Za M0 0;have y1:=Za M0 1;have y2:=Za M0 2;clear hwy hbx hl k0 k2 k3 k12 e0 e1 e2 M0;obtain⟨k0,k2,k3,k12⟩:=HK.out _ n1;by_cases t1:x1=1
   ·have u1:(x1==1)=true:=by simpa using t1
    rw[show GK c x1=(nP:Int) - 1 by unfold GK;rw[if_pos t1,F0.out]]at c0;clear t1;have d0:=Hd (λ(w':World)=>I0.out w' ((nP:Int) - 1))
    obtain⟨I,hI⟩:∃ b,inB x2 0 ((nP:Int) - 1)=b:=⟨_,rfl⟩
    rw[hI]at d0 c0;clear hI;cases K
    ·go_wp2_with (first
      |(go_at_call 25;(first|(with_reducible refine(f0.out _).mono ?_)|(with_reducible refine(g0.out _).mono ?_)|(with_reducible refine(d0.out _).mono ?_));rintro e w3 ⟨rfl,hw3⟩;subst hw3)
      |fail)
     (try go_ret)
     exact b0.out (by rw[c0];simp) _ La
    ·cases T
     ·go_wp2_with (first
       |(go_at_call 25;(first|(with_reducible refine(f0.out _).mono ?_)|(with_reducible refine(g0.out _).mono ?_)|(with_reducible refine(d0.out _).mono ?_));rintro e w3 ⟨rfl,hw3⟩;subst hw3)
       |fail)
      (try go_ret)
      exact b0.out (by rw[c0];simp) _ La
     ·cases I
      ·go_wp2_with (first
        |(go_at_call 25;(first|(with_reducible refine(f0.out _).mono ?_)|(with_reducible refine(g0.out _).mono ?_)|(with_reducible refine(d0.out _).mono ?_));rintro e w3 ⟨rfl,hw3⟩;subst hw3)
        |fail)
       (try go_ret)
       exact b0.out (by rw[c0];simp) _ La
      ·go_wp2_with (first
        |(go_at_call 25;(first|(with_reducible refine(f0.out _).mono ?_)|(with_reducible refine(g0.out _).mono ?_)|(with_reducible refine(d0.out _).mono ?_));rintro e w3 ⟨rfl,hw3⟩;subst hw3)
        |fail)
       exact⟨⟨j+1,by omega,by simp,q0.out (by rw[c0];rfl),La⟩,by simp only[intOf];omega⟩
   ·have u1:(x1==1)=false:=by simpa using t1
    by_cases t2:x1=2
    ·have u2:(x1==2)=true:=by simpa using t2
     rw[show GK c x1=lv - 1 by unfold GK;rw[if_neg t1,if_pos (.inl t2),b1.out]]at c0;clear t1 t2;have d0:=Hd (λ(w':World)=>I0.out w' (lv - 1))
     obtain⟨I,hI⟩:∃ b,inB x2 0 (lv - 1)=b:=⟨_,rfl⟩
     rw[hI]at d0 c0;clear hI;cases K
     ·go_wp2_with (first
       |(go_at_call 25;(first|(with_reducible refine(f0.out _).mono ?_)|(with_reducible refine(g0.out _).mono ?_)|(with_reducible refine(d0.out _).mono ?_));rintro e w3 ⟨rfl,hw3⟩;subst hw3)
       |fail)
      (try go_ret)
      exact b0.out (by rw[c0];simp) _ La
     ·cases T
      ·go_wp2_with (first
        |(go_at_call 25;(first|(with_reducible refine(f0.out _).mono ?_)|(with_reducible refine(g0.out _).mono ?_)|(with_reducible refine(d0.out _).mono ?_));rintro e w3 ⟨rfl,hw3⟩;subst hw3)
        |fail)
       (try go_ret)
       exact b0.out (by rw[c0];simp) _ La
      ·cases I
       ·go_wp2_with (first
         |(go_at_call 25;(first|(with_reducible refine(f0.out _).mono ?_)|(with_reducible refine(g0.out _).mono ?_)|(with_reducible refine(d0.out _).mono ?_));rintro e w3 ⟨rfl,hw3⟩;subst hw3)
         |fail)
        (try go_ret)
        exact b0.out (by rw[c0];simp) _ La
       ·go_wp2_with (first
         |(go_at_call 25;(first|(with_reducible refine(f0.out _).mono ?_)|(with_reducible refine(g0.out _).mono ?_)|(with_reducible refine(d0.out _).mono ?_));rintro e w3 ⟨rfl,hw3⟩;subst hw3)
         |fail)
        exact⟨⟨j+1,by omega,by simp,q0.out (by rw[c0];rfl),La⟩,by simp only[intOf];omega⟩
    ·have u2:(x1==2)=false:=by simpa using t2
     by_cases t3:x1=3
     ·have u3:(x1==3)=true:=by simpa using t3
      rw[show GK c x1=lv - 1 by unfold GK;rw[if_neg t1,if_pos (.inr t3),b1.out]]at c0;clear t1 t2 t3;have d0:=Hd (λ(w':World)=>I0.out w' (lv - 1))
      obtain⟨I,hI⟩:∃ b,inB x2 0 (lv - 1)=b:=⟨_,rfl⟩
      rw[hI]at d0 c0;clear hI;cases K
      ·go_wp2_with (first
        |(go_at_call 25;(first|(with_reducible refine(f0.out _).mono ?_)|(with_reducible refine(g0.out _).mono ?_)|(with_reducible refine(d0.out _).mono ?_));rintro e w3 ⟨rfl,hw3⟩;subst hw3)
        |fail)
       (try go_ret)
       exact b0.out (by rw[c0];simp) _ La
      ·cases T
       ·go_wp2_with (first
         |(go_at_call 25;(first|(with_reducible refine(f0.out _).mono ?_)|(with_reducible refine(g0.out _).mono ?_)|(with_reducible refine(d0.out _).mono ?_));rintro e w3 ⟨rfl,hw3⟩;subst hw3)
         |fail)
        (try go_ret)
        exact b0.out (by rw[c0];simp) _ La
       ·cases I
        ·go_wp2_with (first
          |(go_at_call 25;(first|(with_reducible refine(f0.out _).mono ?_)|(with_reducible refine(g0.out _).mono ?_)|(with_reducible refine(d0.out _).mono ?_));rintro e w3 ⟨rfl,hw3⟩;subst hw3)
          |fail)
         (try go_ret)
         exact b0.out (by rw[c0];simp) _ La
        ·go_wp2_with (first
          |(go_at_call 25;(first|(with_reducible refine(f0.out _).mono ?_)|(with_reducible refine(g0.out _).mono ?_)|(with_reducible refine(d0.out _).mono ?_));rintro e w3 ⟨rfl,hw3⟩;subst hw3)
          |fail)
         exact⟨⟨j+1,by omega,by simp,q0.out (by rw[c0];rfl),La⟩,by simp only[intOf];omega⟩
     ·have u3:(x1==3)=false:=by simpa using t3
      rw[show GK c x1=0 by unfold GK;rw[if_neg t1,if_neg (λq=>q.elim t2 t3)]]at c0;clear t1 t2 t3;have d0:=Hd (λ(w':World)=>I0.out w' (0))
      obtain⟨I,hI⟩:∃ b,inB x2 0 (0)=b:=⟨_,rfl⟩
      rw[hI]at d0 c0;clear hI;cases K
      ·go_wp2_with (first
        |(go_at_call 25;(first|(with_reducible refine(f0.out _).mono ?_)|(with_reducible refine(g0.out _).mono ?_)|(with_reducible refine(d0.out _).mono ?_));rintro e w3 ⟨rfl,hw3⟩;subst hw3)
        |fail)
       (try go_ret)
       exact b0.out (by rw[c0];simp) _ La
      ·cases T
       ·go_wp2_with (first
         |(go_at_call 25;(first|(with_reducible refine(f0.out _).mono ?_)|(with_reducible refine(g0.out _).mono ?_)|(with_reducible refine(d0.out _).mono ?_));rintro e w3 ⟨rfl,hw3⟩;subst hw3)
         |fail)
        (try go_ret)
        exact b0.out (by rw[c0];simp) _ La
       ·cases I
        ·go_wp2_with (first
          |(go_at_call 25;(first|(with_reducible refine(f0.out _).mono ?_)|(with_reducible refine(g0.out _).mono ?_)|(with_reducible refine(d0.out _).mono ?_));rintro e w3 ⟨rfl,hw3⟩;subst hw3)
          |fail)
         (try go_ret)
         exact b0.out (by rw[c0];simp) _ La
        ·go_wp2_with (first
          |(go_at_call 25;(first|(with_reducible refine(f0.out _).mono ?_)|(with_reducible refine(g0.out _).mono ?_)|(with_reducible refine(d0.out _).mono ?_));rintro e w3 ⟨rfl,hw3⟩;subst hw3)
          |fail)
         exact⟨⟨j+1,by omega,by simp,q0.out (by rw[c0];rfl),La⟩,by simp only[intOf];omega⟩
  ·have H1:nW=j:=by omega
   subst H1;rw[List.take_of_length_le (by rw[v0.out];exact Nat.le_refl _)]at hok
   have r0:=Hd (λ(x:Win) (hx:x∈c.windows)=>(show 0<=x.ticks/\x.ticks<=255 by
    have:=hok x hx;rw[GP]at this;simp only[Bool.and_eq_true,ZI]at this
    omega))
   have A1:=Hd (show c.windows.all (JQ c)=true from List.all_eq_true.2 hok);clear hok
   go_wp2_with fail
   go_loopw [6] (λvi wr2=>∃ j:Nat,j<=nP/\vi=.int .i64 (j:Int)/\Z7 c.windows 0 (c.parts.take j)=true/\Later w1 wr2) (λvi _=>nP - (intOf vi).toNat)
   case atStart=>exact⟨0,by omega,rfl,rfl,hl⟩
   case round=>
    clear hl k0 k2 k3 k12;obtain⟨j,hj,rfl,hok,hl⟩:=hrel;obtain⟨k0,k2,k3,k12⟩:=HK.out _ hl;by_cases hlt:j<nP
    ·obtain⟨b,o,hao,hb',hcc⟩:=Zz (C1.out _ hl) (show j<c.parts.length by rw[F0.out];exact hlt);have m0:=Gl c.windows c.parts 0 j (by rw[F0.out];exact hlt)
     obtain⟨x,hx⟩:∃ x,c.parts[j]'(by rw[F0.out];exact hlt)=x:=⟨_,rfl⟩
     rw[hx]at hcc m0;obtain⟨x1,x2⟩:=x;rw[Nat.zero_add]at m0;simp only at m0;rw[hok,Bool.true_and]at m0;have e0:=hcc 0 (by omega);simp only[XQ,List.getElem?_cons_zero,Nat.add_zero]at e0;subst hao;have i0:=Hd (λ(w':World) (k:Later wr w')=>(show VarAt w' p c v/\w'.cell? ⟨p,2,none⟩=some (.slice (some ⟨b,o,none⟩) nP pP)/\w'.cell? ⟨b,o+j*2,none⟩=some (.int .i64 x1) from⟨HV.out _ (hl.trans k),k.cell k2,k.cell e0⟩));have C0:=Hd (λ(w':World) (k:Later wr w')=>YO w' c v 1 (j:Int) (N0.out _ (hl.trans k)) r0.out);have K0:=Hd (λ(w':World) (k:Later wr w')=>YO w' c v 2 x1 (N0.out _ (hl.trans k)) r0.out);have S0:=Hd (λ(w':World) (k:Later wr w')=>YO w' c v 3 x1 (N0.out _ (hl.trans k)) r0.out);have f1:hasT c.windows 1 (j:Int)=!(c.tk 1 (j:Int)==0):=QS c.windows 1 j r0.out;have f2:hasT c.windows 2 x1=!(c.tk 2 x1==0):=QS c.windows 2 x1 r0.out;have f3:hasT c.windows 3 x1=!(c.tk 3 x1==0):=QS c.windows 3 x1 r0.out
     obtain⟨T1,hT1⟩:∃ T,c.tk 1 (j:Int)=T:=⟨_,rfl⟩
     obtain⟨T2,hT2⟩:∃ T,c.tk 2 x1=T:=⟨_,rfl⟩
     obtain⟨T3,hT3⟩:∃ T,c.tk 3 x1=T:=⟨_,rfl⟩
     rw[hT1]at C0 f1;rw[hT2]at K0 f2;rw[hT3]at S0 f3;rw[f1,f2,f3]at m0;have q0:=Hd m0;have v1:=Hd hl
     have b0:=Hd (λ(hw:Z7 c.windows 0 (c.parts.take (j+1))=false) (w':World) (k:Later wr w')=>n0.out w' false (show c.windowsB=false by
      unfold Cfg.windowsB
      rw[Zem hw,Bool.false_and,Bool.and_false]) (hl.trans k))
     clear hcc hb' hx m0 hok hT1 hT2 hT3 f1 f2 f3
     go_upto_region 17 with fail
     clear k0 k2 k3 k12 e0
     cases z1:(T1==0)
     ·cases z2:(T2==0)
      ·cases z3:(T3==0)
       ·refine wp_region_held_drew (S:=λw'=>VarAt w' p c v/\w'.cell? ⟨p,2,none⟩=some (.slice (some ⟨b,o,none⟩) nP pP)/\w'.cell? ⟨b,o+j*2,none⟩=some (.int .i64 x1)) (by kernel_rfl) (i0.out _ La) (λa0=>?_);refine tkT (i:=0) (v:=.agg (cfgA c v)) (λw hSw=>YG rfl rfl hSw.1) a0 ?_
        (try simp only[p0,p1,p2,p3,p4,p5,p6])
        refine tkS 1 a0 ?_;refine rd1 2 (λK hK=>?_)
        go_simp
        refine(C0.out _ La).mono ?_;rintro e u1 ⟨rfl,hu1⟩;refine hK.out _ _ ?_ (λa0=>?_)
        ·exact i0.out _ La
        clear hK K
        (try simp only[p0,p1,p2,p3,p4,p5,p6])
        refine tkS 3 a0 ?_;refine tkS 4 a0 ?_;refine tkT (i:=5) (v:=.agg (cfgA c v)) (λw hSw=>YG rfl rfl hSw.1) a0 ?_
        (try simp only[p0,p1,p2,p3,p4,p5,p6])
        refine tkS 6 a0 ?_;refine tkS 7 a0 ?_;refine tkS 8 a0 ?_;refine tkS 9 a0 ?_;refine tkS 10 a0 ?_;refine tkS 11 a0 ?_;refine rd1 12 (λK hK=>?_)
        go_simp
        refine(K0.out _ La).mono ?_;rintro e u2 ⟨rfl,hu2⟩;refine hK.out _ _ ?_ (λa0=>?_)
        ·exact i0.out _ La
        clear hK K
        (try simp only[p0,p1,p2,p3,p4,p5,p6])
        refine tkS 13 a0 ?_;refine tkS 14 a0 ?_;refine tkS 15 a0 ?_;refine tkT (i:=16) (v:=.agg (cfgA c v)) (λw hSw=>YG rfl rfl hSw.1) a0 ?_
        (try simp only[p0,p1,p2,p3,p4,p5,p6])
        refine tkS 17 a0 ?_;refine tkS 18 a0 ?_;refine tkS 19 a0 ?_;refine tkS 20 a0 ?_;refine tkS 21 a0 ?_;refine tkS 22 a0 ?_;refine rd1 23 (λK hK=>?_)
        go_simp
        refine(S0.out _ La).mono ?_;rintro e u3 ⟨rfl,hu3⟩;refine hK.out _ _ ?_ (λa0=>?_)
        ·exact i0.out _ La
        clear hK K
        (try simp only[p0,p1,p2,p3,p4,p5,p6])
        refine tkS 24 a0 ?_;refine tkS 25 a0 ?_;refine wpAnyH_done (by kernel_rfl) ?_ _;have hlz:=v1.out
        go_wp2_with fail
        exact⟨⟨j+1,by omega,by simp,by rw[q0.out,z1,z2,z3];rfl,La⟩,by simp only[intOf];omega⟩
       ·refine wp_region_held_drew (S:=λw'=>VarAt w' p c v/\w'.cell? ⟨p,2,none⟩=some (.slice (some ⟨b,o,none⟩) nP pP)/\w'.cell? ⟨b,o+j*2,none⟩=some (.int .i64 x1)) (by kernel_rfl) (i0.out _ La) (λa0=>?_);refine tkT (i:=0) (v:=.agg (cfgA c v)) (λw hSw=>YG rfl rfl hSw.1) a0 ?_
        (try simp only[p0,p1,p2,p3,p4,p5,p6])
        refine tkS 1 a0 ?_;refine rd1 2 (λK hK=>?_)
        go_simp
        refine(C0.out _ La).mono ?_;rintro e u1 ⟨rfl,hu1⟩;refine hK.out _ _ ?_ (λa0=>?_)
        ·exact i0.out _ La
        clear hK K
        (try simp only[p0,p1,p2,p3,p4,p5,p6])
        refine tkS 3 a0 ?_;refine tkS 4 a0 ?_;refine tkT (i:=5) (v:=.agg (cfgA c v)) (λw hSw=>YG rfl rfl hSw.1) a0 ?_
        (try simp only[p0,p1,p2,p3,p4,p5,p6])
        refine tkS 6 a0 ?_;refine tkS 7 a0 ?_;refine tkS 8 a0 ?_;refine tkS 9 a0 ?_;refine tkS 10 a0 ?_;refine tkS 11 a0 ?_;refine rd1 12 (λK hK=>?_)
        go_simp
        refine(K0.out _ La).mono ?_;rintro e u2 ⟨rfl,hu2⟩;refine hK.out _ _ ?_ (λa0=>?_)
        ·exact i0.out _ La
        clear hK K
        (try simp only[p0,p1,p2,p3,p4,p5,p6])
        refine tkS 13 a0 ?_;refine tkS 14 a0 ?_;refine tkS 15 a0 ?_;refine tkT (i:=16) (v:=.agg (cfgA c v)) (λw hSw=>YG rfl rfl hSw.1) a0 ?_
        (try simp only[p0,p1,p2,p3,p4,p5,p6])
        refine tkS 17 a0 ?_;refine tkS 18 a0 ?_;refine tkS 19 a0 ?_;refine tkS 20 a0 ?_;refine tkS 21 a0 ?_;refine tkS 22 a0 ?_;refine rd1 23 (λK hK=>?_)
        go_simp
        refine(S0.out _ La).mono ?_;rintro e u3 ⟨rfl,hu3⟩;refine hK.out _ _ ?_ (λa0=>?_)
        ·exact i0.out _ La
        clear hK K
        (try simp only[p0,p1,p2,p3,p4,p5,p6])
        refine tkS 24 a0 ?_;refine tkS 25 a0 ?_;refine wpAnyH_done (by kernel_rfl) ?_ _
        go_wp2_with fail
        (try go_ret)
        exact b0.out (by rw[q0.out,z1,z2,z3];rfl) _ La
      ·refine wp_region_held_drew (S:=λw'=>VarAt w' p c v/\w'.cell? ⟨p,2,none⟩=some (.slice (some ⟨b,o,none⟩) nP pP)/\w'.cell? ⟨b,o+j*2,none⟩=some (.int .i64 x1)) (by kernel_rfl) (i0.out _ La) (λa0=>?_);refine tkT (i:=0) (v:=.agg (cfgA c v)) (λw hSw=>YG rfl rfl hSw.1) a0 ?_
       (try simp only[p0,p1,p2,p3,p4,p5,p6])
       refine tkS 1 a0 ?_;refine rd1 2 (λK hK=>?_)
       go_simp
       refine(C0.out _ La).mono ?_;rintro e u1 ⟨rfl,hu1⟩;refine hK.out _ _ ?_ (λa0=>?_)
       ·exact i0.out _ La
       clear hK K
       (try simp only[p0,p1,p2,p3,p4,p5,p6])
       refine tkS 3 a0 ?_;refine tkS 4 a0 ?_;refine tkT (i:=5) (v:=.agg (cfgA c v)) (λw hSw=>YG rfl rfl hSw.1) a0 ?_
       (try simp only[p0,p1,p2,p3,p4,p5,p6])
       refine tkS 6 a0 ?_;refine tkS 7 a0 ?_;refine tkS 8 a0 ?_;refine tkS 9 a0 ?_;refine tkS 10 a0 ?_;refine tkS 11 a0 ?_;refine rd1 12 (λK hK=>?_)
       go_simp
       refine(K0.out _ La).mono ?_;rintro e u2 ⟨rfl,hu2⟩;refine hK.out _ _ ?_ (λa0=>?_)
       ·exact i0.out _ La
       clear hK K
       (try simp only[p0,p1,p2,p3,p4,p5,p6])
       refine tkS 13 a0 ?_;refine tkS 14 a0 ?_;refine tkS 15 a0 ?_;refine tkV 16 a0 ?_;refine tkV 17 a0 ?_;refine tkV 18 a0 ?_;refine tkV 19 a0 ?_;refine tkV 20 a0 ?_;refine tkV 21 a0 ?_;refine tkV 22 a0 ?_;refine tkV 23 a0 ?_;refine tkV 24 a0 ?_;refine tkS 25 a0 ?_;refine wpAnyH_done (by kernel_rfl) ?_ _
       go_wp2_with fail
       (try go_ret)
       exact b0.out (by rw[q0.out,z1,z2];rfl) _ La
     ·refine wp_region_held_drew (S:=λw'=>VarAt w' p c v/\w'.cell? ⟨p,2,none⟩=some (.slice (some ⟨b,o,none⟩) nP pP)/\w'.cell? ⟨b,o+j*2,none⟩=some (.int .i64 x1)) (by kernel_rfl) (i0.out _ La) (λa0=>?_);refine tkT (i:=0) (v:=.agg (cfgA c v)) (λw hSw=>YG rfl rfl hSw.1) a0 ?_
      (try simp only[p0,p1,p2,p3,p4,p5,p6])
      refine tkS 1 a0 ?_;refine rd1 2 (λK hK=>?_)
      go_simp
      refine(C0.out _ La).mono ?_;rintro e u1 ⟨rfl,hu1⟩;refine hK.out _ _ ?_ (λa0=>?_)
      ·exact i0.out _ La
      clear hK K
      (try simp only[p0,p1,p2,p3,p4,p5,p6])
      refine tkS 3 a0 ?_;refine tkS 4 a0 ?_;refine tkV 5 a0 ?_;refine tkV 6 a0 ?_;refine tkV 7 a0 ?_;refine tkV 8 a0 ?_;refine tkV 9 a0 ?_;refine tkV 10 a0 ?_;refine tkV 11 a0 ?_;refine tkV 12 a0 ?_;refine tkV 13 a0 ?_;refine tkS 14 a0 ?_;refine tkS 15 a0 ?_;refine tkV 16 a0 ?_;refine tkV 17 a0 ?_;refine tkV 18 a0 ?_;refine tkV 19 a0 ?_;refine tkV 20 a0 ?_;refine tkV 21 a0 ?_;refine tkV 22 a0 ?_;refine tkV 23 a0 ?_;refine tkV 24 a0 ?_;refine tkS 25 a0 ?_;refine wpAnyH_done (by kernel_rfl) ?_ _
      go_wp2_with fail
      (try go_ret)
      exact b0.out (by rw[q0.out,z1];rfl) _ La
    ·obtain rfl:j=nP:=by omega
     rw[List.take_of_length_le (by rw[F0.out];exact Nat.le_refl _)]at hok;have F1:=Hd hok;have L0:=Hd (λ(w':World)=>Zv w' (nW:Int) 1 64)
     obtain⟨J,hJ⟩:∃ b,inB (nW:Int) 1 64=b:=⟨_,rfl⟩
     rw[hJ]at L0
     have HB:=Hd (show c.windowsB=(J&&(c.rules.isEmpty || hasT c.windows 4 0)) by
      unfold Cfg.windowsB
      rw[v0.out,hJ,A1.out,F1.out,Bool.and_true,Bool.true_and])
     have i1:=Hd (λ(w':World) (k:Later w1 w')=>YO w' c v 4 0 (N0.out _ k) r0.out);have f4:hasT c.windows 4 0=decide (0<c.tk 4 0):=rfl
     obtain⟨T4,hT4⟩:∃ T,c.tk 4 0=T:=⟨_,rfl⟩
     rw[hT4]at i1 f4;have o1:=Hd f4;have m1:=Hd (HV.out _ hl);clear hok hJ hT4 f4;cases J
     ·go_wp2_with (first
       |(go_at_call 25;(with_reducible refine(L0.out _).mono ?_);rintro e w3 ⟨rfl,hw3⟩;subst hw3)
       |fail)
      (try go_ret)
      exact n0.out _ false (by rw[HB.out];rfl) hl
     ·cases nR with
      |zero=>
       have he:c.rules.isEmpty=true:=by rw[List.isEmpty_iff,<-List.length_eq_zero_iff];exact l1.out
       have HE:=Hd he;clear he
       go_wp2_with (first
        |(go_at_call 25;(with_reducible refine(L0.out _).mono ?_);rintro e w3 ⟨rfl,hw3⟩;subst hw3)
        |fail)
       (try go_ret)
       exact n0.out _ true (by rw[HB.out,HE.out];rfl) hl
      |succ m=>
       have he:c.rules.isEmpty=false:=by rw[Bool.eq_false_iff];intro q;rw[List.isEmpty_iff]at q;have:=l1.out;rw[q]at this;simp at this
       have HE:=Hd he;have hne:(((m+1:Nat):Int)==0)=false:=by simp;omega
       clear he
       go_wp2_with (first
        |(go_at_call 25;(with_reducible refine(L0.out _).mono ?_);rintro e w3 ⟨rfl,hw3⟩;subst hw3)
        |refine ZX rfl 32 (.tmp 1) rfl p rfl 32 (cfgA c v) (0,0) _ m1.out Tryz.underlying32 rfl (XS _ _) ?_
        |(go_at_call 27;(with_reducible refine(i1.out _ hl).mono ?_);rintro e w3 ⟨rfl,hl3⟩)
        |fail)
       (try go_ret)
       exact n0.out _ (decide (0<T4)) (by rw[HB.out,HE.out,o1.out];rfl) (hl.trans hl3)
