import Derived.Test.YtbchkjfnakabkaaGreatDoorRL2
import Derived.Laws.MakeOwn
import Derived.StillTailTactics
set_option linter.unusedSimpArgs false
set_option linter.unusedVariables false
set_option maxHeartbeats 8000000
set_option maxRecDepth 100000
namespace Go.Proofs.YtbchkjfnakabkaaGreatDoor
open Go.RowKit PX PC
structure LatIn (B lb fb cap N:Nat) (R:Nat->Nat) (w:World) (M:Mat):Prop where
 blk:w.heap[lb]?=some (.cells #[.int .i64 N,.slice (some ⟨fb,0,none⟩) N cap] 134 (0,0))
 ne:¬ fb=lb
 rows:RowsM w lb fb N N R M
 new:∀ a,a<N->B<=R a
theorem LatIn.doc{B lb fb cap N:Nat}{R:Nat->Nat}{w:World}{M:Mat}(h:LatIn B lb fb cap N R w M):DocLat w lb N M:=⟨⟨fb,cap,R,h.blk,h.ne,h.rows⟩⟩
theorem LatIn.later{B lb fb cap N:Nat}{R:Nat->Nat}{w w':World}{M:Mat}(h:LatIn B lb fb cap N R w M)(hl:Later w w'):LatIn B lb fb cap N R w' M:=⟨hl.block h.blk,h.ne,h.rows.later hl,h.new⟩
theorem B2(N:Nat)(f:Nat->Bool)(b:Nat):(rowM N f).setIfInBounds b (.bool true)=rowM N (λy=>f y || decide (y=b)):=by
 apply Array.ext_getElem?;intro i;by_cases h:i<N
 ·by_cases e:b=i
  ·subst e;rw[Array.getElem?_setIfInBounds_self_of_lt (by rw[Ji];exact h),Yh _ h];simp
  ·rw[Array.getElem?_setIfInBounds_ne e,Yh _ h,Yh _ h];simp[show ¬i=b from λq=>e q.symm]
 ·rw[Array.getElem?_eq_none (by simp[Ji];omega),Array.getElem?_eq_none (by simp[Ji];omega)]
theorem LatIn.set{B lb fb cap N:Nat}{R:Nat->Nat}{w:World}{M:Mat}(h:LatIn B lb fb cap N R w M){a b:Nat}(ha:a<N):LatIn B lb fb cap N R (w.setCell ⟨R a,b,none⟩ (.bool true)) (setM M a b):=by
 obtain⟨q1,q2,q3,q4⟩:=h.rows.1 a ha;have j0:Only (λq=>q=R a) w (w.setCell ⟨R a,b,none⟩ (.bool true)):=(Only.refl (λq=>q=R a) w).setCell (p:=⟨R a,b,none⟩) (.inl rfl) _;refine⟨(j0.block lb (Zb h.blk) (λe=>q4 e.symm)).trans h.blk,h.ne,⟨λx hx=>?_,h.rows.2⟩,h.new⟩;obtain⟨p1,p2,p3,p4⟩:=h.rows.1 x hx;refine⟨(j0.cell (p:=⟨fb,x,none⟩) (World.block_lt_of_cell? _ _ p1) (λe=>q3 e.symm)).trans p1,?_,p3,p4⟩;by_cases e:x=a
 ·subst e;have e2:(λy=>M x y || decide (y=b))=setM M x b x:=by funext y;simp[setM]
  rw[Zf q2 b,B2,e2]
 ·rw[(j0.block (R x) (Zb p2) (λe'=>e (h.rows.2 x a hx ha e'))).trans p2];have e2:setM M a b x=M x:=by funext y;simp[setM,e]
  rw[e2]
theorem Later.set{B:Nat}{w0 w:World}(h:Below B w0 w)(hB:B<=w0.heap.size){q b:Nat}(hq:B<=q)(u:Value):Below B w0 (w.setCell ⟨q,b,none⟩ u):=by
 have j0:Only (λk=>k=q) w (w.setCell ⟨q,b,none⟩ u):=(Only.refl (λk=>k=q) w).setCell (p:=⟨q,b,none⟩) (.inl rfl) _;exact⟨j0.os.trans h.os,j0.tape.trans h.tape,j0.output.trans h.output,Nat.le_trans h.size j0.size,λk hk=>(j0.block k (Nat.lt_of_lt_of_le hk (Nat.le_trans hB h.size)) (λe=>by have:k=q:=e;omega)).trans (h.block k hk)⟩
def isF(v:Option Value):Bool:=match v with|some (.bool false)=>true|_=>false
def ZfU(R:Nat->Nat)(N:Nat)(w:World):Nat:=((List.range N).map λa=>((List.range N).filter λb=>isF (w.cell? ⟨R a,b,none⟩)).length).sum
theorem Zao{B lb fb cap N:Nat}{R:Nat->Nat}{w:World}{M:Mat}(h:LatIn B lb fb cap N R w M):ZfU R N w=Bl N M:=by
 unfold ZfU Bl
 congr 1
 refine List.map_congr_left λa ha=>?_
 congr 1
 refine List.filter_congr λb hb=>?_
 obtain⟨q1,q2,-⟩:=h.rows.1 a (List.mem_range.1 ha);rw[Za q2,Yh _ (List.mem_range.1 hb)];cases M a b<;>rfl
def Zig(v:Value):Nat:=match v with|.bool true=>1|_=>0
structure PassI (B lb fb cap N:Nat) (R:Nat->Nat) (w0:World) (l:List (Int × Int)) (L0:Nat) (w:World) (a b c:Nat) (more:Bool) (M:Mat):Prop where
 lat:LatIn B lb fb cap N R w M
 sound:JM N l M
 base:Zcp N l M
 no:more=false->Q3 N M a b c/\Bl N M=L0
 yes:more=true->Bl N M<L0
 later:Below B w0 w
structure MakeI (B lb N k:Nat) (R:Nat->Nat) (w0 w:World) (vF:Value):Prop where
 blk:w.heap[lb]?=some (.cells #[.int .i64 N,vF] 134 (0,0))
 own:w.ownsRow (B+1) 46 1 vF k ((List.range k).map λi=>Value.slice (some ⟨R i,0,none⟩) N N)
 rows:∀ a,a<k->w.heap[R a]?=some (.cells (rowM N (Uw a)) 4 (0,0))/\¬ vF.ownBlock=some (R a)/\B+1<=R a
 inj:∀ a b,a<k->b<k->R a=R b->a=b
 later:Below B w0 w
 lbB:lb=B
theorem MakeI.lat{B lb N:Nat}{R:Nat->Nat}{w0 w:World}{vF:Value}(h:MakeI B lb N N R w0 w vF)(hN:1<=N):∃ fb cap,vF=.slice (some ⟨fb,0,none⟩) N cap/\LatIn B lb fb cap N R w Uw:=by
 obtain⟨fb,cap,rfl,h1,h2⟩:=Xz h.own (by omega)
 have y0:=(h.own.lt fb rfl)
 refine⟨fb,cap,rfl,⟨h.blk,by have:=h.lbB;omega,⟨λa ha=>?_,h.inj⟩,λa ha=>by have:=(h.rows a ha).2.2;omega⟩⟩;obtain⟨q1,q2,q3⟩:=h.rows a ha;refine⟨?_,q1,λe=>q2 (by rw[e];rfl),by have:=h.lbB;omega⟩;have:=h.own.cellAt a (by omega);rw[this];simp[ha]
theorem Zd9:(Tryz.prog.info? 46).map (λi=>(i.zero,i.size,i.bytes))=some (some (.slice none 0 0),1,24):=by kernel_rfl
theorem ZbU:(Tryz.prog.info? 4).map (λi=>(i.zero,i.size,i.bytes))=some (some (.bool false),1,1):=by kernel_rfl
theorem WO(W:World)(n:Nat)(hn:n<=8):(Instr.makeSlice 46 (.int .i64 (n:Int)) (.int .i64 (n:Int))).run Tryz.prog W=.ok (.slice (some ⟨W.heap.size,0,none⟩) n n) (W.alloc (.cells (rowM n λ_=>false) 4)):=by
 obtain⟨i0,hi,hz0,hz1,hz2⟩:=info_parts ZbU;have h:=run_makeSlice (P:=Tryz.prog) W 46 4 i0 (.bool false) Tryz.underlying46 hi hz0 .i64 .i64 (n:Int) (n:Int) (by omega) (by omega) (by rw[hz1];omega) (by rw[hz2];omega) (by omega);have e:(n:Int).toNat=n:=by omega
 have e2:madeCells (Value.bool false).cells (n*1)=rowM n λ_=>false:=by
  apply Array.toList_inj.1;rw[show(Value.bool false).cells=#[.bool false] from rfl,toList_madeCells_one,Nat.mul_one];unfold rowM;apply List.ext_getElem?;intro i;by_cases hi:i<n<;>simp[hi]
 rw[hz1,e,e2]at h;exact h
theorem MakeI.step{B N k g:Nat}{R:Nat->Nat}{w0 wr w5:World}{vF v':Value}(h:MakeI B B N k R w0 wr vF)(hB:B<=w0.heap.size)(hk:k<N)(hg:wr.heap.size=g)
 (hown:w5.ownsRow (B+1) 46 1 v' (k+1) (((List.range k).map λi=>Value.slice (some ⟨R i,0,none⟩) N N)++[.slice (some ⟨g,0,none⟩) N N]))
 (hgrow:(((wr.alloc (.cells (rowM N λ_=>false) 4)).setCell ⟨g,k,none⟩ (.bool true)).alloc (.cells #[.slice (some ⟨g,0,none⟩) N N] 46)).grownBy w5 vF.ownBlock) :
 MakeI B B N (k+1) (λi=>if i=k then g else R i) w0 (w5.setCell ⟨B,1,none⟩ v') v':=by
 have y0:=Zb h.blk;have T0:=h.own.lt;have F0:∀ a,a<k->R a<g:=λa ha=>by rw[<-hg];exact Zb (h.rows a ha).1
 have keep:∀ q ob,wr.heap[q]?=some ob->¬ vF.ownBlock=some q->w5.heap[q]?=some ob:=by
  intro q ob hq hne;have hql:q<g:=by rw[<-hg];exact Zb hq
  have j0:Only (λx=>x=g) (wr.alloc (.cells (rowM N λ_=>false) 4)) ((wr.alloc (.cells (rowM N λ_=>false) 4)).setCell ⟨g,k,none⟩ (.bool true)):=(Only.refl (λx=>x=g) _).setCell (p:=⟨g,k,none⟩) (.inl rfl) _;have q1:=Ze hq (.cells (rowM N λ_=>false) 4);have q2:=(j0.block q (Zb q1) (λe=>by have:q=g:=e;omega)).trans q1;have q3:=Ze q2 (.cells #[.slice (some ⟨g,0,none⟩) N N] 46);exact(hgrow.block q (Zb q3) (λe=>hne e.symm)).trans q3
 have o1:=keep B _ h.blk (λe=>by have:=(T0 B e).1;omega)
 have k1:w5.heap[g]?=some (.cells (rowM N (Uw k)) 4 (0,0)):=by
  have q1:(wr.alloc (.cells (rowM N λ_=>false) 4)).heap[g]?=some (.cells (rowM N λ_=>false) 4 (0,0)):=Zq hg;have q2:=Zf q1 k (.bool true);rw[B2]at q2;have e2:(λy=>false || decide (y=k))=Uw k:=by funext y;simp[Uw];exact⟨λe=>e.symm,λe=>e.symm⟩
  rw[e2]at q2;have q3:=Ze q2 (.cells #[.slice (some ⟨g,0,none⟩) N N] 46);exact(hgrow.block g (Zb q3) (λe=>by have:=(T0 g e.symm).2;omega)).trans q3
 obtain⟨g',cap',rfl,hc1,hc2⟩:=Xz hown (by omega);have hg':=hown.lt g' rfl
 have q0:∀ q C,w5.heap[q]?=some (.cells C 4 (0,0))->¬ g'=q:=by
  rintro q C hq rfl;rcases hown.2 with⟨h0,_⟩|⟨g2,cap2,cur,he,_,hh,_⟩
  ·cases h0
  ·cases he;rw[hq]at hh;injection Option.some.inj hh with e1 e2;exact absurd e2 (by decide)
 have d0:Only (λx=>x=B) w5 (w5.setCell ⟨B,1,none⟩ (.slice (some ⟨g',0,none⟩) (k+1) cap')):=(Only.refl (λx=>x=B) _).setCell (p:=⟨B,1,none⟩) (.inl rfl) _;refine⟨(Zf o1 1 _).trans rfl,?_,λa ha=>?_,λa b ha hb hab=>?_,?_,rfl⟩
 ·have e:((List.range (k+1)).map λi=>Value.slice (some ⟨if i=k then g else R i,0,none⟩) N N)=((List.range k).map λi=>Value.slice (some ⟨R i,0,none⟩) N N)++[.slice (some ⟨g,0,none⟩) N N]:=by
   rw[List.range_succ,List.map_append]
   congr 1
   ·refine List.map_congr_left λi hi=>?_
    have:=List.mem_range.1 hi;rw[if_neg (by omega)]
   ·simp
  rw[e];exact Only.ownsRow d0 hown (λq hq hx=>by have:=(hown.lt q hq).1;have:q=B:=hx;omega)
 ·by_cases e:a=k
  ·subst e;simp only[if_true];refine⟨(d0.block g (Zb k1) (λx=>by have:g=B:=x;omega)).trans k1,λx=>q0 g _ k1 (Option.some.inj x),by omega⟩
  ·simp only[if_neg e];obtain⟨q1,q2,q3⟩:=h.rows a (by omega);have q4:=keep _ _ q1 q2;exact⟨(d0.block _ (Zb q4) (λx=>by have:R a=B:=x;omega)).trans q4,λx=>q0 _ _ q4 (Option.some.inj x),q3⟩
 ·by_cases e1:a=k<;>by_cases e2:b=k
  ·omega
  ·simp only[if_pos e1,if_neg e2]at hab;have:=F0 b (by omega);omega
  ·simp only[if_neg e1,if_pos e2]at hab;have:=F0 a (by omega);omega
  ·simp only[if_neg e1,if_neg e2]at hab;exact h.inj a b (by omega) (by omega) hab
 ·have b1:=Below.alloc h.later (by omega) (.cells (rowM N λ_=>false) 4);have b2:=Later.set b1 hB (q:=g) (b:=k) (by omega) (.bool true);have s2:=b2.size;have b3:=Below.alloc b2 (by omega) (.cells #[.slice (some ⟨g,0,none⟩) N N] 46);have b4:=Below.grown b3 hgrow (by have:=b3.size;omega) (λq hq=>by have:=(T0 q hq).1;omega);exact Later.set b4 hB (q:=B) (b:=1) (Nat.le_refl _) _
section
variable {B lb fb cap N L0 a b c : Nat} {R : Nat -> Nat} {w0 w : World} {l : List (Int × Int)} {more : Bool} {M : Mat}
theorem PassI.stay(h:PassI B lb fb cap N R w0 l L0 w a b c more M)(hs:(M a b&&M b c&&!M a c)=false):PassI B lb fb cap N R w0 l L0 w a b (c+1) more M:=
 ⟨h.lat,h.sound,h.base,λe=>⟨Za1 (h.no e).1 hs,(h.no e).2⟩,h.yes,h.later⟩
theorem PassI.set(h:PassI B lb fb cap N R w0 l L0 w a b c more M)(hB:B<=w0.heap.size)(ha:a<N)(hb:b<N)(hc:c<N)(h1:M a b=true)(h2:M b c=true)(h3:M a c=false) :
 PassI B lb fb cap N R w0 l L0 (w.setCell ⟨R a,c,none⟩ (.bool true)) a b (c+1) true (setM M a c):=by
 refine⟨h.lat.set ha,Zbd h.sound ha hb hc h1 h2,ZeS h.base a c,(λe=>by cases e),λ_=>?_,Later.set h.later hB (h.lat.new a ha) _⟩;have:=Zd0 ha hc h3;cases more
 ·have:=(h.no rfl).2;omega
 ·have:=h.yes rfl;omega
theorem PassI.row(h:PassI B lb fb cap N R w0 l L0 w a b N more M):PassI B lb fb cap N R w0 l L0 w a (b+1) 0 more M:=
 ⟨h.lat,h.sound,h.base,λe=>⟨ZcF (h.no e).1,(h.no e).2⟩,h.yes,h.later⟩
theorem PassI.col(h:PassI B lb fb cap N R w0 l L0 w a N 0 more M):PassI B lb fb cap N R w0 l L0 w (a+1) 0 0 more M:=
 ⟨h.lat,h.sound,h.base,λe=>⟨ZcG (h.no e).1,(h.no e).2⟩,h.yes,h.later⟩
theorem LatIn.read(h:LatIn B lb fb cap N R w M)(ha:a<N)(hb:b<N):w.cell? ⟨lb,1,none⟩=some (.slice (some ⟨fb,0,none⟩) N cap)/\w.cell? ⟨fb,a,none⟩=some (.slice (some ⟨R a,0,none⟩) N N)/\w.cell? ⟨R a,b,none⟩=some (.bool (M a b))/\w.frozen? ⟨R a,b,none⟩=false/\R a<w.heap.size:=by
 obtain⟨q1,q2,-⟩:=h.rows.1 a ha;exact⟨Za h.blk 1,q1,(Za q2 b).trans (Yh _ hb),Zc q2 b,Zb q2⟩
end
end Go.Proofs.YtbchkjfnakabkaaGreatDoor
namespace Go.Proofs.YtbchkjfnakabkaaGreatDoor
open Go.RowKit PX PC
def Ql(n:Int)(l:List (Int × Int))(w:World)(e:Ending)(w':World):Prop:=
 (latB n l=true/\∃ (lb:Nat) (M:Mat),e=.returned (.tuple #[.pointer (some ⟨lb,0,none⟩),.int .i64 0])/\DocLat w' lb n.toNat M/\(∀a b:Nat,a<n.toNat->b<n.toNat->M a b=rchB l a b)/\Later w w') \/
 (latB n l=false/\∃ k:Int,e=.returned (.tuple #[.pointer none,.int .i64 k])/\(k==0)=false/\Later w w')
theorem Zd5{n:Int}{l:List (Int × Int)}(h:¬ Lat n l):latB n l=false:=by
 cases e:latB n l
 ·rfl
 ·exact absurd (YA.1 e) h
theorem Zc8(w:World)(N:Nat)(v:Value)(l:List (Int × Int))(hrow:RowAt w 2 v (l.map Xx))(h1:1<=N)(h8:N<=8)(hl:l.length<=64) :
 Calls Tryz.prog 71 #[.int .i64 (N:Int),v] w (Ql N l w):=by
 obtain⟨ra,rc,rfl,g1,g2,g3⟩:=Zl hrow
 obtain⟨len,hlen⟩:∃ n,l.length=n:=⟨_,rfl⟩
 obtain⟨B,hB⟩:∃ n,w.heap.size=n:=⟨_,rfl⟩
 have HR:=Hd (λ(w':World) (h:Below B w w')=>(show RowAt w' 2 (.slice ra len rc) (l.map Xx) by rw[<-hlen];exact hrow.later (show Later w w' by unfold Later;rw[hB];exact h)));have A1:=Hd (λ(w':World) (h:Below B w w')=>(show Later w w' by unfold Later;rw[hB];exact h));have b0:=Hd hlen;have HB:=Hd hB
 obtain⟨PT,hPT⟩:∃ PT,Ql N l w=PT:=⟨_,rfl⟩
 rw[hPT,hlen];have N1:=Hd hPT;have l0:=Hd (λ(hn:¬ Lat N l) (k:Int) (hk:(k==0)=false) (w':World) (h:Below B w w')=>(show PT (.returned (.tuple #[.pointer none,.int .i64 k])) w' by rw[<-N1.out];exact .inr ⟨Zd5 hn,k,rfl,hk,A1.out _ h⟩))
 obtain⟨w1,hw1⟩:∃ x,w.alloc (.cells #[.int .i64 N,.slice none 0 0] 134)=x:=⟨_,rfl⟩
 have S0:w1.heap[B]?=some (.cells #[.int .i64 N,.slice none 0 0] 134 (0,0)):=by rw[<-hw1];exact Zq hB
 have J1:Below B w w1:=by rw[<-hw1,<-hB];exact(Later.refl w).alloc _
 have R1:=Hd hw1;have d1:decide ((N:Int)<1)=false:=decide_eq_false (by omega);have d2:decide ((8:Int)<(N:Int))=false:=decide_eq_false (by omega);have d3:decide ((64:Int)<(len:Int))=false:=decide_eq_false (by omega);have hl64:len<=64:=by omega
 have M1:w1.cell? ⟨B,0,none⟩=some (.int .i64 N):=Za S0 0;have L1:=Hd M1;have i2:=Hd S0;have N0:=Hd J1;clear hPT hrow hB hw1 S0 J1 hl hlen g1 g2 g3 M1
 go_enter Tryz.func71,Tryz.ntmps71
 go_wp2_with fail
 rw[HB.out,R1.out]
 go_loopw [7] (λvi wr=>∃ j:Nat,j<=len/\vi=.int .i64 (j:Int)/\(∀p∈l.take j,lev N p.1/\lev N p.2)/\wr=w1) (λvi _=>len - (intOf vi).toNat)
 case atStart=>exact⟨0,by omega,rfl,by simp,rfl⟩
 case round=>
  obtain⟨j,hj,rfl,hpl,hwr⟩:=hrel;subst hwr;by_cases y0:j<len
  ·obtain⟨b,o,hao,hb',hcc⟩:=Zz (HR.out _ N0.out) (show j<l.length by rw[b0.out];exact y0);have s0:=Zs (show j<l.length by rw[b0.out];exact y0);have g0:=List.getElem_mem (show j<l.length by rw[b0.out];exact y0)
   obtain⟨x,hx⟩:∃ x,l[j]'(by rw[b0.out];exact y0)=x:=⟨_,rfl⟩
   rw[hx]at hcc s0 g0;clear hx;obtain⟨x1,x2⟩:=x;have e0:=hcc 0 (by omega);have e1:=hcc 1 (by omega);simp only[Xx,List.getElem?_cons_zero,List.getElem?_cons_succ,Nat.add_zero]at e0 e1;have z0:=Hd (Vn wr B N L1.out x1);have P0:=Hd (Vn wr B N L1.out x2);have HM:=Hd g0;have j2:=Hd hpl;have R0:=Hd s0;subst hao;clear hcc hb' g0 hpl s0;cases E1:levE N x1
   ·rw[E1]at z0;have c0:=l0.out (λh=>by have:=(h.pairs _ HM.out).1;unfold lev at this;simp[levE]at E1;omega) 41 (by decide) _ N0.out
    go_wp2_with (first
     |(go_at_call 91;(with_reducible refine z0.out.mono ?_);rintro e w2 ⟨rfl,hw2⟩;subst hw2)
     |fail)
    (try go_ret2)
    exact c0
   ·cases E2:levE N x2
    ·rw[E1]at z0;rw[E2]at P0;have c0:=l0.out (λh=>by have:=(h.pairs _ HM.out).2;unfold lev at this;simp[levE]at E2;omega) 41 (by decide) _ N0.out
     go_wp2_with (first
      |(go_at_call 91;(first|(with_reducible refine z0.out.mono ?_)|(with_reducible refine P0.out.mono ?_));rintro e w2 ⟨rfl,hw2⟩;subst hw2)
      |fail)
     (try go_ret2)
     exact c0
    ·have l1:lev N x1/\lev N x2:=by simp[levE]at E1 E2;exact E1.elim λa b=>E2.elim λc d=>⟨⟨a,b⟩,⟨c,d⟩⟩
     rw[E1]at z0;rw[E2]at P0
     go_wp2_with (first
      |(go_at_call 91;(first|(with_reducible refine z0.out.mono ?_)|(with_reducible refine P0.out.mono ?_));rintro e w2 ⟨rfl,hw2⟩;subst hw2)
      |fail)
     refine⟨⟨j+1,by omega,by simp,λp hp=>?_,by first|trivial|rfl⟩,by simp only[intOf];omega⟩;rw[R0.out,List.mem_append]at hp;rcases hp with hp|hp
     ·exact j2.out p hp
     ·rw[List.mem_singleton.1 hp];exact l1
  ·have A0:∀ p∈l,lev N p.1/\lev N p.2:=by rw[List.take_of_length_le (by have:=b0.out;omega)]at hpl;exact hpl
   have o0:=Hd A0;clear hpl A0
   go_wp2_with fail
   go_loopw [8] (λva wr2=>∃ (k:Nat) (R:Nat->Nat) (vF:Value),k<=N/\va=.int .i64 (k:Int)/\MakeI B B N k R w wr2 vF) (λva _=>N - (intOf va).toNat)
   case atStart=>exact⟨0,λ_=>0,.slice none 0 0,by omega,rfl,⟨i2.out,⟨rfl,.inl ⟨rfl,rfl⟩⟩,λa ha=>absurd ha (by omega),λa b ha=>absurd ha (by omega),N0.out,rfl⟩⟩
   case round=>
    obtain⟨k,R,vF,hk,rfl,hM⟩:=hrel;by_cases hkt:k<N
    ·have O0:B<=w.heap.size:=by have:=HB.out;omega
     have Z1:∀ W:World,(Instr.makeSlice 46 (.int .i64 (N:Int)) (.int .i64 (N:Int))).run Tryz.prog W=.ok (.slice (some ⟨W.heap.size,0,none⟩) N N) (W.alloc (.cells (rowM N λ_=>false) 4)):=λW=>WO W N h8
     obtain⟨iE,hiE,hz0,hz1,hz2⟩:=info_parts Zd9;have HM:=Hd hM;have hbsz:=hM.later.size;have hblt:=Zb hM.blk;clear hM
     go_upto_region 13 with fail
     clear Z1
     obtain⟨g,hg⟩:∃ g,wr.heap.size=g:=⟨_,rfl⟩
     obtain⟨wg,hwg⟩:∃ x,wr.alloc (.cells (rowM N λ_=>false) 4)=x:=⟨_,rfl⟩
     rw[hg,hwg];have K0:wg.heap[g]?=some (.cells (rowM N λ_=>false) 4 (0,0)):=by rw[<-hwg];exact Zq hg
     have t0:wg.heap[B]?=some (.cells #[.int .i64 N,vF] 134 (0,0)):=by rw[<-hwg];exact Ze HM.out.blk _
     have C0:wg.ownsRow (B+1) 46 1 vF k ((List.range k).map λi=>Value.slice (some ⟨R i,0,none⟩) N N):=by rw[<-hwg];exact HM.out.own.alloc _
     have z1:wg.cell? ⟨g,k,none⟩=some (.bool false):=(Za K0 k).trans (Yh _ hkt);have z2:=Zc K0 k;have z3:=Zb K0
     go_upto_region 14 with fail
     obtain⟨wz,hwz⟩:∃ x,wg.setCell ⟨g,k,none⟩ (.bool true)=x:=⟨_,rfl⟩
     rw[hwz];have d0:Only (λx=>x=g) wg wz:=by rw[<-hwz];exact(Only.refl (λx=>x=g) _).setCell (p:=⟨g,k,none⟩) (.inl rfl) _
     have I0:wz.heap[B]?=some (.cells #[.int .i64 N,vF] 134 (0,0)):=(d0.block B (Zb t0) (λx=>by have:B=g:=x;omega)).trans t0;have T1:=Hd (Only.ownsRow d0 C0 (λq hq hx=>by have:=(HM.out.own.lt q hq).2;have:q=g:=hx;omega));have hszz:B+1<=wz.heap.size:=by have:=Zb I0;omega
     have c1:wz.cell? ⟨B,1,none⟩=some vF:=Za I0 1;have F1:=Hd I0;have f2:=Hd hwg;have k2:=Hd hwz;clear I0 hwg hwz d0 C0 t0 K0 z1 z2 z3
     go_wp2_with (first
      | (at_builtin;refine wpList_append_own _ rfl (.tmp 71) (.tmp 73) 45 rfl (B+1) 46 iE (.slice none 0 0) 1 24 Tryz.underlying45 hiE hz0 hz1 hz2 rfl (by decide) _ _ _ rfl (T1.out.alloc _) ⟨wz.heap.size,0,none⟩ 1 1 [.slice (some ⟨g,0,none⟩) N N] rfl rfl (XF wz [.slice (some ⟨g,0,none⟩) N N] 46) (by intro u hu;rw [List.mem_singleton.1 hu];rfl) (by unfold maxLen;omega) (by omega) (by rw [World.size_alloc];omega) ?_
         intro v' w5 hown1 hgrow1 _;obtain⟨g',cap',rfl,hcap1,hcap2⟩:=Xz hown1 (by omega);have H0:=(hgrow1.block B (Zb (Ze F1.out _)) (λe=>by have:=(HM.out.own.lt B e.symm).1;omega)).trans (Ze F1.out _);have y1:=Za H0 1;have y2:=Zc H0 1;have y3:=Zb H0;have R0:=Hd (HM.out.step O0 hkt hg hown1 (by rw[f2.out,k2.out];exact hgrow1))
         clear H0 hown1 hgrow1)
      |fail)
     exact⟨⟨k+1,_,_,by omega,by simp,R0.out⟩,by simp only[intOf];omega⟩
    ·obtain rfl:k=N:=by omega
     obtain⟨fb,cap,rfl,hLat⟩:=hM.lat h1;have O0:B<=w.heap.size:=by have:=HB.out;omega
     have a0:=hM.later;clear hM
     go_wp2_with fail
     go_loopw [10] (λvi w3=>∃ j:Nat,j<=len/\vi=.int .i64 (j:Int)/\LatIn B B fb cap k R w3 (JL Uw (l.take j))/\Below B w w3) (λvi _=>len - (intOf vi).toNat)
     case atStart=>exact⟨0,by omega,rfl,hLat,a0⟩
     case round=>
      clear hLat a0;obtain⟨j3,hj3,rfl,hLat,a0⟩:=hrel;by_cases hlt3:j3<len
      ·obtain⟨b,o,hao,hb',hcc⟩:=Zz (HR.out _ a0) (show j3<l.length by rw[b0.out];exact hlt3);have s0:=Zs (show j3<l.length by rw[b0.out];exact hlt3);have g0:=o0.out _ (List.getElem_mem (show j3<l.length by rw[b0.out];exact hlt3))
       obtain⟨x,hx⟩:∃ x,l[j3]'(by rw[b0.out];exact hlt3)=x:=⟨_,rfl⟩
       rw[hx]at hcc s0 g0;clear hx;obtain⟨x1,x2⟩:=x;obtain⟨⟨m1,m2⟩,m3,m4⟩:=g0;simp only at m1 m2 m3 m4;obtain⟨a1,rfl⟩:=Int.eq_ofNat_of_zero_le m1;obtain⟨a2,rfl⟩:=Int.eq_ofNat_of_zero_le m3;have n1:a1<k:=by omega
       have n2:a2<k:=by omega
       have H1:JL Uw (l.take (j3+1))=setM (JL Uw (l.take j3)) a1 a2:=by rw[s0,Bb];rfl
       have e0:=hcc 0 (by omega);have e1:=hcc 1 (by omega);simp only[Xx,List.getElem?_cons_zero,List.getElem?_cons_succ,Nat.add_zero]at e0 e1;obtain⟨r1,r2,r3,r4,r5⟩:=hLat.read n1 n2;have r0:Later wr wr.drew:=(Later.refl wr).drew;have f0:=r0.cell e0;have f1:=r0.cell e1;have s1:=r0.cell r1;have s2:=r0.cell r2;have s3:=r0.cell r3;have s4:wr.drew.frozen? ⟨R a1,a2,none⟩=false:=r4;have s5:R a1<wr.drew.heap.size:=r5;have O1:=Hd ((hLat.later r0).set (b:=a2) n1);have K1:=Hd (Later.set (Below.trans a0 (Below.mono r0 (by have:=a0.size;omega))) O0 (b:=a2) (hLat.new a1 n1) (.bool true));have i1:=Hd H1;subst hao;clear hcc hb' s0 H1 r0 e0 e1 r1 r2 r3 r4 r5 hLat a0
       go_upto_region 18 with fail
       go_still_tail 17,(by kernel_rfl)
       change wpList _ _ _ _ _ wr.drew
       obtain⟨wd,hwd⟩:∃ x,wr.drew=x:=⟨_,rfl⟩
       rw[hwd]at f0 f1 s1 s2 s3 s4 s5 O1 K1 ⊢;clear hwd
       go_wp2_with fail
       refine⟨⟨j3+1,by omega,by simp,?_,K1.out⟩,by simp only[intOf];omega⟩;rw[i1.out];exact O1.out
      ·obtain rfl:j3=len:=by omega
       rw[List.take_of_length_le (by have:=b0.out;omega)]at hLat;obtain⟨hS0,hB0⟩:=Ziv o0.out
       obtain⟨M0,hM0⟩:∃ M,JL Uw l=M:=⟨_,rfl⟩
       rw[hM0]at hLat hS0 hB0;clear hM0
       go_wp2_with fail
       go_loopw [11] (λvm w4=>∃ (M:Mat) (more:Bool),vm=.bool more/\LatIn B B fb cap k R w4 M/\JM k l M/\Zcp k l M/\(more=false->BO k M)/\Below B w w4) (λvm w4=>2*ZfU R k w4+Zig vm)
       case atStart=>exact⟨M0,true,rfl,hLat,hS0,hB0,(λe=>by cases e),a0⟩
       case round=>
        clear hLat hS0 hB0 a0;obtain⟨M,more,rfl,hLat,hS0,hB0,hcl,a0⟩:=hrel;cases more
        ·have hM:∀ a b:Nat,a<k->b<k->(M a b=true↔Rch l a b):=λa b ha hb=>BD hS0 hB0 (hcl rfl) o0.out ha hb
         have m0:=Hd (ZfY h1 h8 (by have:=b0.out;omega) o0.out hM);have W1:=Hd hM;have n0:=Hd a0;have k0:=Hd hLat
         obtain⟨W,hW⟩:∃ x,x=wr:=⟨_,rfl⟩
         subst hW;clear hS0 hB0 hcl hM a0 hLat
         go_wp2_with fail
         go_loopw [15] (λva wx=>∃ a:Nat,a<=k/\va=.int .i64 (a:Int)/\(∀x y,x<a->y<k->x≠y->(M x y&&M y x)=false)/\wx=W) (λva _=>k - (intOf va).toNat)
         case atStart=>exact⟨0,by omega,rfl,λx y hx=>absurd hx (by omega),rfl⟩
         case round=>
          obtain⟨a,ha,rfl,p0,hwr⟩:=hrel;subst hwr;have I1:=Hd p0;clear p0;by_cases hat:a<k
          ·go_wp2_with fail
           go_loopw [16] (λvb wx=>∃ b:Nat,b<=k/\vb=.int .i64 (b:Int)/\(∀y,y<b->a≠y->(M a y&&M y a)=false)/\wx=wr) (λvb _=>k - (intOf vb).toNat)
           case atStart=>exact⟨0,by omega,rfl,λy hy=>absurd hy (by omega),rfl⟩
           case round=>
            obtain⟨b,hb,rfl,hnb,hwr⟩:=hrel;subst hwr;have v0:=Hd hnb;clear hnb;by_cases hbt:b<k
            ·by_cases e:a=b
             ·have hq:((a:Int) != (b:Int))=false:=by rw[e];simp
              have HE:=Hd e;clear e
              go_wp2_with fail
              refine⟨⟨b+1,by omega,by simp,λy hy hne=>?_,by first|trivial|rfl⟩,by simp only[intOf];omega⟩;exact v0.out y (by have:=HE.out;omega) hne
             ·have hq:((a:Int) != (b:Int))=true:=by simp;omega
              obtain⟨r1,r2,r3,-, -⟩:=k0.out.read hat hbt;obtain⟨-, t2,t3,-, -⟩:=k0.out.read hbt hat
              obtain⟨m1,e1⟩:∃ m,M a b=m:=⟨_,rfl⟩
              obtain⟨m2,e2⟩:∃ m,M b a=m:=⟨_,rfl⟩
              rw[e1]at r3;rw[e2]at t3;have HE:=Hd (And.intro e (And.intro e1 e2));clear e e1 e2
              have C1:=Hd (λ(h:(m1&&m2)=false)=>(show ∀y,y<b+1->a≠y->(M a y&&M y a)=false from λy hy hne=>by
               by_cases ey:y=b
               ·rw[ey,HE.out.2.1,HE.out.2.2];exact h
               ·exact v0.out y (by omega) hne))
              cases m1
              ·go_wp2_with fail
               exact⟨⟨b+1,by omega,by simp,C1.out rfl,by first|trivial|rfl⟩,by simp only[intOf];omega⟩
              ·cases m2
               ·go_wp2_with fail
                exact⟨⟨b+1,by omega,by simp,C1.out rfl,by first|trivial|rfl⟩,by simp only[intOf];omega⟩
               ·have c0:=l0.out (λh=>by have:=(m0.out.1 h).1 a b hat hbt HE.out.1;rw[HE.out.2.1,HE.out.2.2]at this;cases this) 42 (by decide) _ n0.out
                go_wp2_with fail
                (try go_ret2)
                exact c0
            ·obtain rfl:b=k:=by omega
             go_wp2_with fail
             refine⟨⟨a+1,by omega,by simp,λx y hx hy hne=>?_,by first|trivial|rfl⟩,by simp only[intOf];omega⟩;by_cases ex:x=a
             ·rw[ex];exact v0.out y hy (by omega)
             ·exact I1.out x y (by omega) hy hne
          ·obtain rfl:a=k:=by omega
           go_wp2_with fail
           go_loopw [17] (λva wx=>∃ q:Nat,q<=a/\va=.int .i64 (q:Int)/\(∀x y,x<q->y<a->hasJ M a x y=true/\hasG M a x y=true)/\wx=wr) (λva _=>a - (intOf va).toNat)
           case atStart=>exact⟨0,by omega,rfl,λx y hx=>absurd hx (by omega),rfl⟩
           case round=>
            obtain⟨q,hq,rfl,p0,hwr⟩:=hrel;subst hwr;have t1:=Hd p0;clear p0;by_cases hqt:q<a
            ·go_wp2_with fail
             go_loopw [18] (λvb wx=>∃ b:Nat,b<=a/\vb=.int .i64 (b:Int)/\(∀y,y<b->hasJ M a q y=true/\hasG M a q y=true)/\wx=wr) (λvb _=>a - (intOf vb).toNat)
             case atStart=>exact⟨0,by omega,rfl,λy hy=>absurd hy (by omega),rfl⟩
             case round=>
              obtain⟨b,hb,rfl,hnb,hwr⟩:=hrel;subst hwr;have v0:=Hd hnb;clear hnb;by_cases hbt:b<a
              ·have HJ:=Hd (Zdb wr B a M k0.out.doc h8 q b hqt hbt);have HG:=Hd (Zda wr B a M k0.out.doc h8 q b hqt hbt)
               obtain⟨j1,e1⟩:∃ m,hasJ M a q b=m:=⟨_,rfl⟩
               obtain⟨g1,e2⟩:∃ m,hasG M a q b=m:=⟨_,rfl⟩
               rw[e1]at HJ;rw[e2]at HG;have HE:=Hd (And.intro e1 e2);clear e1 e2;cases j1
               ·have c0:=l0.out (λh=>by have:=((m0.out.1 h).2 q b hqt hbt).1;rw[HE.out.1]at this;cases this) 43 (by decide) _ n0.out
                go_wp2_with (first
                 |(go_at_call 92;(with_reducible refine HJ.out.mono ?_);rintro e w2 ⟨r,rfl,hr,hw2⟩;subst hw2;have P1:decide (r<0)=true:=hr)
                 |fail)
                (try go_ret2)
                exact c0
               ·cases g1
                ·have c0:=l0.out (λh=>by have:=((m0.out.1 h).2 q b hqt hbt).2;rw[HE.out.2]at this;cases this) 43 (by decide) _ n0.out
                 go_wp2_with (first
                  |(go_at_call 92;(with_reducible refine HJ.out.mono ?_);rintro e w2 ⟨r,rfl,hr,hw2⟩;subst hw2;have P1:decide (r<0)=false:=hr)
                  |(go_at_call 93;(with_reducible refine HG.out.mono ?_);rintro e w3 ⟨r',rfl,hr',hw3⟩;subst hw3;have c2:decide (r'<0)=true:=hr')
                  |fail)
                 (try go_ret2)
                 exact c0
                ·go_wp2_with (first
                  |(go_at_call 92;(with_reducible refine HJ.out.mono ?_);rintro e w2 ⟨r,rfl,hr,hw2⟩;subst hw2;have P1:decide (r<0)=false:=hr)
                  |(go_at_call 93;(with_reducible refine HG.out.mono ?_);rintro e w3 ⟨r',rfl,hr',hw3⟩;subst hw3;have c2:decide (r'<0)=false:=hr')
                  |fail)
                 refine⟨⟨b+1,by omega,by simp,λy hy=>?_,by first|trivial|rfl⟩,by simp only[intOf];omega⟩;by_cases ey:y=b
                 ·rw[ey];exact HE.out
                 ·exact v0.out y (by omega)
              ·obtain rfl:b=a:=by omega
               go_wp2_with fail
               refine⟨⟨q+1,by omega,by simp,λx y hx hy=>?_,by first|trivial|rfl⟩,by simp only[intOf];omega⟩;by_cases ex:x=q
               ·rw[ex];exact v0.out y hy
               ·exact t1.out x y (by omega) hy
            ·obtain rfl:q=a:=by omega
             have W0:PT (.returned (.tuple #[.pointer (some ⟨B,0,none⟩),.int .i64 0])) wr:=by
              rw[<-N1.out];refine .inl ⟨YA.2 (m0.out.2 ⟨λx y hx hy hne=>I1.out x y hx hy hne,λx y hx hy=>t1.out x y hx hy⟩),B,M,rfl,by rw[Int.toNat_natCast];exact k0.out.doc,λx y hx hy=>?_,A1.out _ n0.out⟩;rw[Int.toNat_natCast]at hx hy;rw[Bool.eq_iff_iff,W1.out x y hx hy,Er]
             go_wp2_with fail
             (try go_ret2)
             exact W0
        ·obtain⟨L0,hL0⟩:∃ L,Bl k M=L:=⟨_,rfl⟩
         have S1:=Hd (show ZfU R k wr=L0 by rw[Zao hLat,hL0])
         have v1:PassI B B fb cap k R w l L0 wr 0 0 0 false M:=⟨hLat,hS0,hB0,λ_=>⟨DN k M,hL0⟩,(λe=>by cases e),a0⟩
         clear hLat hS0 hB0 hcl a0 hL0
         go_wp2_with fail
         go_loopw [11,12] (λvm va w5=>∃ (a:Nat) (more:Bool) (M:Mat),a<=k/\vm=.bool more/\va=.int .i64 (a:Int)/\PassI B B fb cap k R w l L0 w5 a 0 0 more M) (λ_ va _=>k - (intOf va).toNat)
         case atStart=>exact⟨0,false,M,by omega,rfl,rfl,v1⟩
         case round=>
          clear v1;obtain⟨a,more,Ma,ha,rfl,rfl,hPa⟩:=hrel;by_cases hat:a<k
          ·go_wp2_with fail
           go_loopw [11,13] (λvm vb w6=>∃ (b:Nat) (more:Bool) (M:Mat),b<=k/\vm=.bool more/\vb=.int .i64 (b:Int)/\PassI B B fb cap k R w l L0 w6 a b 0 more M) (λ_ vb _=>k - (intOf vb).toNat)
           case atStart=>exact⟨0,more,Ma,by omega,rfl,rfl,hPa⟩
           case round=>
            clear hPa;obtain⟨b,more,Mb,hb,rfl,rfl,hPb⟩:=hrel;by_cases hbt:b<k
            ·go_wp2_with fail
             go_loopw [11,14] (λvm vc w7=>∃ (c:Nat) (more:Bool) (M:Mat),c<=k/\vm=.bool more/\vc=.int .i64 (c:Int)/\PassI B B fb cap k R w l L0 w7 a b c more M) (λ_ vc _=>k - (intOf vc).toNat)
             case atStart=>exact⟨0,more,Mb,by omega,rfl,rfl,hPb⟩
             case round=>
              clear hPb;obtain⟨c,more,Mc,hc,rfl,rfl,hPc⟩:=hrel;by_cases hct:c<k
              ·obtain⟨r1,r2,r3,-, -⟩:=hPc.lat.read hat hbt;obtain⟨-, t2,t3,-, -⟩:=hPc.lat.read hbt hct;obtain⟨-, -, u3,u4,u5⟩:=hPc.lat.read hat hct;have HP:=Hd hPc
               obtain⟨m1,e1⟩:∃ m,Mc a b=m:=⟨_,rfl⟩
               obtain⟨m2,e2⟩:∃ m,Mc b c=m:=⟨_,rfl⟩
               obtain⟨m3,e3⟩:∃ m,Mc a c=m:=⟨_,rfl⟩
               rw[e1]at r3;rw[e2]at t3;rw[e3]at u3;have HE:=Hd (And.intro e1 (And.intro e2 e3));clear hPc e1 e2 e3;cases m1
               ·go_wp2_with fail
                exact⟨⟨c+1,more,Mc,by omega,rfl,by simp,HP.out.stay (by rw[HE.out.1];rfl)⟩,by simp only[intOf];omega⟩
               ·cases m2
                ·go_wp2_with fail
                 exact⟨⟨c+1,more,Mc,by omega,rfl,by simp,HP.out.stay (by rw[HE.out.1,HE.out.2.1];rfl)⟩,by simp only[intOf];omega⟩
                ·cases m3
                 ·have i1:=Hd (HP.out.set O0 hat hbt hct HE.out.1 HE.out.2.1 HE.out.2.2)
                  go_wp2_with fail
                  exact⟨⟨c+1,true,_,by omega,rfl,by simp,i1.out⟩,by simp only[intOf];omega⟩
                 ·go_wp2_with fail
                  exact⟨⟨c+1,more,Mc,by omega,rfl,by simp,HP.out.stay (by rw[HE.out.1,HE.out.2.1,HE.out.2.2];rfl)⟩,by simp only[intOf];omega⟩
              ·obtain rfl:c=k:=by omega
               go_wp2_with fail
               exact⟨⟨b+1,more,Mc,by omega,rfl,by simp,hPc.row⟩,by simp only[intOf];omega⟩
            ·obtain rfl:b=k:=by omega
             go_wp2_with fail
             exact⟨⟨a+1,more,Mb,by omega,rfl,by simp,hPb.col⟩,by simp only[intOf];omega⟩
          ·obtain rfl:a=k:=by omega
           go_wp2_with fail
           refine⟨⟨Ma,more,rfl,hPa.lat,hPa.sound,hPa.base,λe=>ZcH (hPa.no e).1,hPa.later⟩,?_⟩;rw[S1.out,Zao hPa.lat];cases more
           ·have:=(hPa.no rfl).2;simp only[Zig];omega
           ·have:=hPa.yes rfl;simp only[Zig];omega
end Go.Proofs.YtbchkjfnakabkaaGreatDoor
namespace Go.Proofs.YtbchkjfnakabkaaGreatDoor
open Go.RowKit PX PC
theorem Zfs(w:World)(n:Int)(v:Value)(l:List (Int × Int))(hrow:RowAt w 2 v (l.map Xx))(h:n<1\/8<n\/64<l.length) :
 Calls Tryz.prog 71 #[.int .i64 n,v] w (Ql n l w):=by
 obtain⟨ra,rc,rfl,g1,g2,g3⟩:=Zl hrow;have p0:¬ Lat n l:=λk=>by have:=k.lo;have:=k.hi;have:=k.few;omega
 have l0:=Hd (λ(w':World) (k:Later w w')=>(show Ql n l w (.returned (.tuple #[.pointer none,.int .i64 40])) w' from .inr ⟨Zd5 p0,40,rfl,by decide,k⟩))
 obtain⟨PT,hPT⟩:∃ PT,Ql n l w=PT:=⟨_,rfl⟩
 rw[hPT]at l0 ⊢
 obtain⟨len,hlen⟩:∃ m,l.length=m:=⟨_,rfl⟩
 rw[hlen]at h ⊢;clear hPT hrow p0 hlen g1 g2 g3;by_cases a1:n<1
 ·have d1:decide (n<1)=true:=decide_eq_true a1;clear a1 h
  go_enter Tryz.func71,Tryz.ntmps71
  go_wp2_with fail
  (try go_ret2)
  exact l0.out _ (Later.refl _)
 ·have d1:decide (n<1)=false:=decide_eq_false a1;by_cases a2:8<n
  ·have d2:decide (8<n)=true:=decide_eq_true a2;clear a1 a2 h
   go_enter Tryz.func71,Tryz.ntmps71
   go_wp2_with fail
   (try go_ret2)
   exact l0.out _ (Later.refl _)
  ·have d2:decide (8<n)=false:=decide_eq_false a2;have d3:decide ((64:Int)<(len:Int))=true:=decide_eq_true (by omega);clear a1 a2 h
   go_enter Tryz.func71,Tryz.ntmps71
   go_wp2_with fail
   (try go_ret2)
   exact l0.out _ (Later.refl _)
theorem Zft(w:World)(n:Int)(v:Value)(l:List (Int × Int))(hrow:RowAt w 2 v (l.map Xx)) :
 Calls Tryz.prog 71 #[.int .i64 n,v] w (Ql n l w):=by
 by_cases h:n<1\/8<n\/64<l.length
 ·exact Zfs w n v l hrow h
 ·obtain⟨N,rfl⟩:∃ N:Nat,n=N:=⟨n.toNat,by omega⟩
  exact Zc8 w N v l hrow (by omega) (by omega) (by omega)
