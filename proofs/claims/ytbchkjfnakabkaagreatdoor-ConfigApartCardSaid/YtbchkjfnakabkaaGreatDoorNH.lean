import Derived.Test.YtbchkjfnakabkaaGreatDoorNFG
import Derived.Laws.AppendOwnNone
set_option linter.unusedSimpArgs false
set_option linter.unusedVariables false
set_option maxHeartbeats 2000000
set_option maxRecDepth 100000
namespace Go.Proofs.YtbchkjfnakabkaaGreatDoor
open Go.RowKit PX PC Go.Shelf
theorem Dg{α:Type}(f:α->List Value):∀ (l m:List α),ZG f (l++m)=ZG f l++ZG f m
 |[],m=>rfl
 |x::l,m=>by simp[ZG,Dg f l m]
theorem Gq(l:List Vol):(ZG volC l).length=l.length*4:=by
 induction l with
 |nil=>rfl
 |cons x l ih=>simp only[ZG,List.length_append,ih,List.length_cons,volC,List.length_nil];omega
theorem ES{P:Program}(w:World)(base:Nat)(t ty e:TypeId)(i:TypeInfo)(size:Nat)(ht:P.underlying t=some (.slice e))(hi:P.info? e=some i)
 (v:Value) (n:Nat) (xs:List Value) (hown:w.ownsRow base e size v n xs) (c:Nat):(Builtin.append_ #[t,t] ty #[v,.slice none 0 c]).run P w=.ok v w:=by
 rcases hown.2 with⟨rfl,h0⟩|⟨g,cap,cur,rfl,_,_,hnc,_⟩
 ·subst h0;simp[Builtin.append_,run_underlying ht,sizeOf,typeInfo,hi,Builtin.lenOf,Builtin.firstCells]
 ·simp[Builtin.append_,run_underlying ht,sizeOf,typeInfo,hi,Builtin.lenOf,Builtin.firstCells,hnc,storeCells]
theorem Y3{P:Program}{w:World}{ops:Array Oper}{rest:List Oper}{o:Oper}{a:Act}{Q:Exit->Act->World->Prop}(hg:o.guard=none)(s x:Operand)(t:TypeId)
 (ho:o.op=.call { callee:=.builtin .append,args:=#[s,x],argTypes:=#[t,t] }) (base:Nat) (e:TypeId) (i:TypeInfo) (size c:Nat) (ht:P.underlying t=some (.slice e)) (hi:P.info? e=some i)
 (v:Value) (n:Nat) (xs:List Value) (hs:a.eval s=v) (hx:a.eval x=.slice none 0 c) (hown:w.ownsRow base e size v n xs) (h:wpList P ops Q rest (a.put o.dst v) w):wpList P ops Q (o::rest) a w:=by
 refine wpList_plain hg λK hK=>?_
 have hr:=ES (P:=P) w base t o.type e i size ht hi v n xs hown c;unfold Oper.wp;simp[execOp,ho,resolve,invoke,builtin,hs,hx,hr,Result.andThen];exact hK _ _ h
theorem Gh:(Tryz.prog.info? 28).map (λi=>(i.zero,i.size,i.bytes))=some (some (.agg #[.int .i64 0,.int .i64 0,.int .i64 0,.int .i64 0]),4,32):=by kernel_rfl
theorem B1{w:World}{a:Option Addr}{n cap:Nat}{l:List Vol}(h:RowAt w 4 (.slice a n cap) (l.map volC)):(a=none/\n=0/\l=[])\/∃ ad,a=some ad/\n=l.length/\∀ j u,(ZG volC l)[j]?=some u->w.cell? (ad.add j)=some u:=by
 obtain⟨a',cap',hv,h1,h2,h3,h4⟩:=h;injection hv with e1 e2 e3;subst e1 e2 e3;rw[List.length_map]at *;rcases h4 with h4|⟨b,o,rfl,hb,hc⟩
 ·have hl:l=[]:=List.map_eq_nil_iff.1 h4;subst hl
  cases a with
  |none=>exact .inl ⟨rfl,rfl,rfl⟩
  |some ad=>exact .inr ⟨ad,rfl,rfl,λj u hu=>by simp[ZG]at hu⟩
 ·refine .inr ⟨_,rfl,rfl,λj u hu=>?_⟩
  have hj:j<l.length*4:=by
   have:=(List.getElem?_eq_some_iff.1 hu).1
   rwa [Gq]at this
  have hi:j/4<l.length:=by omega
  have f0:=hc (j/4) (by rw[List.length_map];exact hi) (j%4) (Nat.mod_lt _ (by omega));rw[UG];have e:o+j/4*4+j%4=o+j:=by omega
  rw[e]at f0;rw[f0,List.getElem_map,<-YY volC 4 (λ_=>rfl) l (j/4) hi (j%4) (Nat.mod_lt _ (by omega)),show j/4*4+j%4=j by omega];exact hu
theorem Zgc(w:World)(n cap:Nat)(Z:Array Value)(h1:Z.size=cap*4)(h2:cap<=maxLen):(w.alloc (.cells Z 28)).ownsRow w.heap.size 28 4 (.slice (some ⟨w.heap.size,0,none⟩) 0 cap) 0 []:=
 ⟨rfl,.inr ⟨w.heap.size,cap,Z,rfl,Nat.le_refl _,Zd w _,Nat.zero_le _,h2,h1,by simp⟩⟩
theorem Q5(z:Array Value)(n:Nat):(Builtin.zeroCells z n).size=n*z.size:=by simp[Builtin.zeroCells]
def ZgH(w:World)(e:Ending)(w':World):Prop:=∃ v,e=.returned v/\w'.ownsRow w.heap.size 28 4 v 0 []/\Later w w'
theorem Zgb(w:World)(n:Nat)(h1:1<=n)(h2:n*32<=140737488355328):Calls Tryz.prog 143 #[.slice none 0 0,.int .i64 n] w (ZgH w):=by
 obtain⟨i0,hi0,hz0,hz1,hz2⟩:=info_parts Gh;have h:=Any8.slices_Grow_grow Tryz.growVol i0 (.agg #[.int .i64 0,.int .i64 0,.int .i64 0,.int .i64 0]) hi0 hz0 (by rw[hz1];omega) none 0 0 n [] w (Nat.le_refl _) (by omega) (by rw[hz2];omega) (by omega) (by simp) (λ_=>rfl) (λa ha=>by cases ha)
 change Calls Tryz.prog 143 _ _ _ at h
 refine h.mono λe w' ⟨he,hw⟩=>?_
 have hcap:=grownCap_ge w (0+n) 0 28;refine⟨_,he,?_,?_⟩
 ·rw[hw];refine Zgc w.drew n _ _ ?_ (grownCap_le_maxLen w (0+n) 0 28 (by unfold maxLen;omega));rw[Array.size_append,Array.size_append,Q5,Q5];show 0+(0+n - 0)*4+(grownCap w (0+n) 0 28 - (0+n))*4=grownCap w (0+n) 0 28*4;omega
 ·rw[hw];exact(Later.refl w).drew.alloc _
def Qm(l:List Vol)(w:World)(e:Ending)(w':World):Prop:=∃ v,e=.returned v/\w'.ownsRow w.heap.size 28 4 v l.length (ZG volC l)/\Later w w'
theorem Qg(w:World)(b2 cap2:Nat)(v0 v1:Value)(l0 l1:List Vol)(h0:RowAt w 4 v0 (l0.map volC))(h1:RowAt w 4 v1 (l1.map volC))(k0:w.cell? ⟨b2,0,none⟩=some v0)(k1:w.cell? ⟨b2,1,none⟩=some v1)(hl:1<=l0.length+l1.length)(hl2:(l0.length+l1.length)*32<=140737488355328) :
 Calls Tryz.prog 117 #[.slice (some ⟨b2,0,none⟩) 2 cap2] w (Qm (l0++l1) w):=by
 obtain⟨iE,hiE,hz0,hz1,hz2⟩:=info_parts Gh;obtain⟨a0,c0,rfl,q0,q1,-⟩:=Zl h0;obtain⟨a1,c1,rfl,q2,q3,-⟩:=Zl h1;have hbl:=World.block_lt_of_cell? w _ k0;have N0:=B1 h0;have N1:=B1 h1;have HC:=Hd (λ(w':World) (h:Later w w')=>And.intro (h.cell k0) (h.cell k1));have HG:=Hd (Zgb w (l0.length+l1.length) hl hl2)
 obtain⟨PT,hPT⟩:∃ PT,Qm (l0++l1) w=PT:=⟨_,rfl⟩
 rw[hPT];have I0:=Hd hPT;have e0:(ZG volC l0).length=l0.length*4:=Gq l0;have e1:(ZG volC l1).length=l1.length*4:=Gq l1;have s0:=Hd (And.intro e0 e1)
 obtain⟨n0,hn0⟩:∃ n,l0.length=n:=⟨_,rfl⟩
 obtain⟨n1,hn1⟩:∃ n,l1.length=n:=⟨_,rfl⟩
 have HN:=Hd (And.intro hn0 hn1);have C0:=Hd N0;have F0:=Hd N1;rw[hn0,hn1]at HG hl hl2;rw[hn0]at q0 s0 C0 k0 HC;rw[hn1]at q2 s0 F0 k1 HC
 have o0:∀ l:List Vol,∀u∈ZG volC l,u.oneCell'=true:=λl=>by
  induction l with
  |nil=>intro u hu;cases hu
  |cons x l ih=>
   intro u hu;rw[ZG]at hu;rcases List.mem_append.1 hu with hu|hu
   ·simp only[volC,List.mem_cons,List.not_mem_nil,or_false]at hu;rcases hu with rfl|rfl|rfl|rfl<;>rfl
   ·exact ih u hu
 have p0:=Hd o0;clear h0 h1 N0 N1 hPT e0 e1 hn0 hn1 o0
 go_enter Tryz.func117,Tryz.ntmps117
 go_wp2_with fail
 go_loop [3,11] (λvs vi=>(vi=.int .i64 0/\vs=.int .i64 0)\/(vi=.int .i64 1/\vs=.int .i64 (n0:Int))\/(vi=.int .i64 2/\vs=.int .i64 ((n0:Int)+n1))) (λ_ vi=>2 - (intOf vi).toNat)
 case atStart=>exact .inl ⟨rfl,rfl⟩
 case round=>
  rcases hrel with⟨rfl,rfl⟩|⟨rfl,rfl⟩|⟨rfl,rfl⟩
  ·go_wp2_with fail
   exact⟨.inr (.inl ⟨rfl,rfl⟩),by simp[intOf]⟩
  ·go_wp2_with fail
   exact⟨.inr (.inr ⟨rfl,rfl⟩),by simp[intOf]⟩
  ·clear k0 k1;have g0:((n0+n1:Nat):Int)=(n0:Int)+n1:=by omega
   rw[g0]at HG;clear g0
   go_upto_region 10 with(first
    |(go_at_call 143;(with_reducible refine HG.out.mono ?_);rintro e w1 ⟨v,rfl,hown,hl1⟩)
    |fail)
   have HO:=Hd (And.intro hown hl1);clear hown hl1;obtain⟨g1,g2⟩:=HC.out w1 HO.out.2;have hwl:=HO.out.2.size
   go_wp2_with fail
   go_loopw [6,27] (λvs vi wx=>∃ l:List Vol,wx.ownsRow w.heap.size 28 4 vs l.length (ZG volC l)/\Later w wx/\((vi=.int .i64 0/\l=[])\/(vi=.int .i64 1/\l=l0)\/(vi=.int .i64 2/\l=l0++l1))) (λ_ vi _=>2 - (intOf vi).toNat)
   case atStart=>exact⟨[],HO.out.1,HO.out.2,.inl ⟨rfl,rfl⟩⟩
   case round=>
    obtain⟨l,hown,hlx,hc⟩:=hrel;have d0:=Hd hown;have j0:=Hd hlx;clear hown g1 g2;obtain⟨g1,g2⟩:=HC.out wr hlx;have H0:=hlx.size;clear hlx;rcases hc with⟨rfl,hll⟩|⟨rfl,hll⟩|⟨rfl,hll⟩<;>rw[hll]at d0<;>clear hll
    ·have r0:Hid (([]:List Vol).length=0):=Hd (by rfl);rcases C0.out with⟨rfl,hz,hl0⟩|⟨ad,rfl,-, hcells⟩
     ·subst hz;have t0:=Hd hl0;clear hl0
      go_wp2_with (first
       |(at_builtin;refine Y3 rfl (.tmp 31) (.tmp 32) 26 rfl w.heap.size 28 iE 4 _ Tryz.underlying26 hiE _ _ _ rfl rfl d0.out ?_)
       |fail)
      exact⟨⟨_,_,_,⟨[],d0.out,j0.out,.inr (.inl ⟨rfl,t0.out.symm⟩)⟩,rfl,rfl,rfl⟩,by simp[intOf]⟩
     ·have z0:=Hd (λ(w':World) (h:Later w w')=>λj u (hu:(ZG volC l0)[j]?=some u)=>h.cell (hcells j u hu));have b0:([]:List Vol).length+n0<=maxLen:=by rw[r0.out];unfold maxLen;omega
      have m0:(([]:List Vol).length+n0)*32<=140737488355328:=by rw[r0.out];omega
      have y0:=Hd b0;have A0:=Hd m0;clear hcells b0 m0
      go_wp2_with (first
       |(at_builtin;refine wpList_append_own _ rfl (.tmp 31) (.tmp 32) 26 rfl w.heap.size 28 iE (.agg #[.int .i64 0,.int .i64 0,.int .i64 0,.int .i64 0]) 4 32 Tryz.underlying26 hiE hz0 hz1 hz2 rfl (by decide) _ _ _ rfl d0.out ad n0 _ (ZG volC l0) rfl s0.out.1 (z0.out _ j0.out) (p0.out l0) y0.out A0.out H0 ?_;intro v' w2 hown2 hgrow2 _)
       |fail)
      refine⟨⟨l0,?_,Later.grown j0.out hgrow2 (λq hq=>(d0.out.lt q hq).1),.inr (.inl ⟨rfl,rfl⟩)⟩,by simp[intOf]⟩;have e:(l0).length=([]:List Vol).length+n0:=by rw[HN.out.1];simp
      rw[e];exact hown2
    ·have r0:Hid ((l0).length=n0):=Hd (by exact HN.out.1);rcases F0.out with⟨rfl,hz,hl0⟩|⟨ad,rfl,-, hcells⟩
     ·subst hz;have t0:=Hd hl0;clear hl0
      go_wp2_with (first
       |(at_builtin;refine Y3 rfl (.tmp 31) (.tmp 32) 26 rfl w.heap.size 28 iE 4 _ Tryz.underlying26 hiE _ _ _ rfl rfl d0.out ?_)
       |fail)
      exact⟨⟨_,_,_,⟨l0,d0.out,j0.out,.inr (.inr ⟨rfl,by rw[t0.out,List.append_nil]⟩)⟩,rfl,rfl,rfl⟩,by simp[intOf]⟩
     ·have z0:=Hd (λ(w':World) (h:Later w w')=>λj u (hu:(ZG volC l1)[j]?=some u)=>h.cell (hcells j u hu));have b0:(l0).length+n1<=maxLen:=by rw[r0.out];unfold maxLen;omega
      have m0:((l0).length+n1)*32<=140737488355328:=by rw[r0.out];omega
      have y0:=Hd b0;have A0:=Hd m0;clear hcells b0 m0
      go_wp2_with (first
       |(at_builtin;refine wpList_append_own _ rfl (.tmp 31) (.tmp 32) 26 rfl w.heap.size 28 iE (.agg #[.int .i64 0,.int .i64 0,.int .i64 0,.int .i64 0]) 4 32 Tryz.underlying26 hiE hz0 hz1 hz2 rfl (by decide) _ _ _ rfl d0.out ad n1 _ (ZG volC l1) rfl s0.out.2 (z0.out _ j0.out) (p0.out l1) y0.out A0.out H0 ?_;intro v' w2 hown2 hgrow2 _)
       |fail)
      refine⟨⟨l0++l1,?_,Later.grown j0.out hgrow2 (λq hq=>(d0.out.lt q hq).1),.inr (.inr ⟨rfl,rfl⟩)⟩,by simp[intOf]⟩;have e:(l0++l1).length=(l0).length+n1:=by rw[List.length_append,HN.out.2]
      rw[e,Dg];exact hown2
    ·go_wp2_with fail
     rw[<-I0.out];exact⟨_,rfl,d0.out,j0.out⟩
