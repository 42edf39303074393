import Derived.Test.YtbchkjfnakabkaaGreatDoorNMB
import Derived.Test.YtbchkjfnakabkaaGreatDoorNXx
import Derived.Deep.RegionHeld3
import Derived.Test.YtbchkjfnakabkaaGreatDoorYM
set_option linter.unusedSimpArgs false
set_option linter.unusedVariables false
set_option maxHeartbeats 4000000
set_option maxRecDepth 100000
namespace Go.Proofs.YtbchkjfnakabkaaGreatDoor
open Go.RowKit PX PC Go.Maps
open Go.Act renaming put -> p0
open List renaming getElem_toArray -> p1, getElem_cons_succ -> p2, getElem_cons_zero -> p3, setIfInBounds_toArray -> p4, set_cons_zero -> p5, set_cons_succ -> p6
def mapF(s0 s1 s2 s3 s4:Bool)(b0 b1 b2 b3 b4:Bool)(k:Int):Bool:=
 if k=0 then s0&&b0 else if k=1 then s1&&b1 else if k=2 then s2&&b2 else if k=3 then s3&&b3 else if k=4 then s4&&b4 else false
theorem Zgz(a b:Int):(a==b)=decide (a=b):=by rw[Bool.eq_iff_iff];simp
theorem ZdQ(b0 b1 b2 b3 b4:Bool):(λ_=>false)=mapF false false false false false b0 b1 b2 b3 b4:=by
 funext k;unfold mapF;simp
theorem ZiS(s0 s1 s2 s3 s4 b0 b1 b2 b3 b4:Bool):(λk=>if k=0 then b0 else mapF s0 s1 s2 s3 s4 b0 b1 b2 b3 b4 k)=mapF true s1 s2 s3 s4 b0 b1 b2 b3 b4:=by
 funext k;unfold mapF;by_cases h:k=0<;>simp[h]
theorem ZiR(s0 s1 s2 s3 s4 b0 b1 b2 b3 b4:Bool):(λk=>if k=1 then b1 else mapF s0 s1 s2 s3 s4 b0 b1 b2 b3 b4 k)=mapF s0 true s2 s3 s4 b0 b1 b2 b3 b4:=by
 funext k;unfold mapF;by_cases h:k=1<;>simp[h]
theorem ZiQ(s0 s1 s2 s3 s4 b0 b1 b2 b3 b4:Bool):(λk=>if k=2 then b2 else mapF s0 s1 s2 s3 s4 b0 b1 b2 b3 b4 k)=mapF s0 s1 true s3 s4 b0 b1 b2 b3 b4:=by
 funext k;unfold mapF;by_cases h:k=2<;>simp[h]
theorem ZiP(s0 s1 s2 s3 s4 b0 b1 b2 b3 b4:Bool):(λk=>if k=3 then b3 else mapF s0 s1 s2 s3 s4 b0 b1 b2 b3 b4 k)=mapF s0 s1 s2 true s4 b0 b1 b2 b3 b4:=by
 funext k;unfold mapF;by_cases h:k=3<;>simp[h]
theorem ZiO(s0 s1 s2 s3 s4 b0 b1 b2 b3 b4:Bool):(λk=>if k=4 then b4 else mapF s0 s1 s2 s3 s4 b0 b1 b2 b3 b4 k)=mapF s0 s1 s2 s3 true b0 b1 b2 b3 b4:=by
 funext k;unfold mapF;by_cases h:k=4<;>simp[h]
theorem ZfR(c:Cfg)(x:Win):mapF true true true true true (decide (x.index=0)) (c.prt x.index) (c.lvl x.index) (c.lvl x.index) (decide (x.index=0)) x.kind=ZcC c x.kind x.index:=by
 unfold mapF ZcC;by_cases h0:x.kind=0
 ·simp[h0]
 ·by_cases h1:x.kind=1
  ·simp[h1]
  ·by_cases h2:x.kind=2
   ·simp[h2]
   ·by_cases h3:x.kind=3
    ·simp[h3]
    ·by_cases h4:x.kind=4<;>simp[h0,h1,h2,h3,h4]
def MapW(w0:World)(mb:Nat)(b0 b1 b2:Bool)(listed:Array Bool)(w:World):Prop:=
 (listed.getD 0 false=false->w=w0/\listed.getD 4 false=false/\listed.getD 8 false=false/\listed.getD 13 false=false/\listed.getD 18 false=false/\listed.getD 23 false=false) /\
 (listed.getD 0 false=true->Later w0 w/\∃ n,n+X0 listed.toList<=26/\BMap w mb n (mapF (listed.getD 4 false) (listed.getD 13 false) (listed.getD 18 false) (listed.getD 23 false) (listed.getD 8 false) b0 b1 b2 b2 b0))
def mapV(mb:Nat)(p l:Bool)(i:Nat):Value:=if i=12 then .bool p else if i=17\/i=22 then .bool l else .map (some mb)
theorem Zen{l:Array Bool}{i:Nat}(hi:i<l.size)(a b:Bool):l.getD i a=l.getD i b:=by simp[hi]
theorem X8{l:Array Bool}{i:Nat}(hi:i<l.size)(hun:l.getD i true=false):X0 (l.setIfInBounds i true).toList+1=X0 l.toList:=by
 rw[Array.toList_setIfInBounds];refine UW _ _ ?_;simp[hi]at hun;simp[hi,hun]
theorem Vb{w0 w:World}{mb:Nat}{b0 b1 b2:Bool}{l:Array Bool}(h:MapW w0 mb b0 b1 b2 l w)(i:Nat)(hi:i<l.size)(hun:l.getD i true=false)(hne:i≠0/\i≠4/\i≠8/\i≠13/\i≠18/\i≠23):MapW w0 mb b0 b1 b2 (l.setIfInBounds i true) w:=by
 have hf:=X8 hi hun;unfold MapW at h ⊢;rw[Zk hne.1,Zk hne.2.1,Zk hne.2.2.1,Zk hne.2.2.2.1,Zk hne.2.2.2.2.1,Zk hne.2.2.2.2.2];refine⟨h.1,λh0=>?_⟩;obtain⟨q1,n,q2,q3⟩:=h.2 h0;exact⟨q1,n,by omega,q3⟩
theorem ZdP{w0 w:World}{mb:Nat}{b0 b1 b2:Bool}{l:Array Bool}(h:MapW w0 mb b0 b1 b2 l w)(hs:l.size=26)(hun:l.getD 0 true=false)(hmb:w0.heap.size=mb):w.heap.size=mb/\MapW w0 mb b0 b1 b2 (l.setIfInBounds 0 true) (w.alloc (.map #[] 0)):=by
 obtain⟨hw,hz⟩:=h.1 (by rw[Zen (by omega) false true];exact hun);subst hw;refine⟨hmb,λk=>?_,λ_=>⟨(Later.refl _).alloc _,0,?_,?_⟩⟩
 ·rw[Xr (by omega)]at k;cases k
 ·have hf:=X8 (l:=l) (i:=0) (by omega) hun;have:X0 l.toList<=l.toList.length:=Di _;simp at this;omega
 ·rw[Zk (by omega),Zk (by omega),Zk (by omega),Zk (by omega),Zk (by omega),hz.1,hz.2.1,hz.2.2.1,hz.2.2.2.1,hz.2.2.2.2,<-ZdQ,<-hmb];exact BMap.made w
theorem ZdO{w0 w w2:World}{mb n:Nat}{b0 b1 b2:Bool}{l:Array Bool}(h:MapW w0 mb b0 b1 b2 l w)(hs:l.size=26)(d0:l.getD 0 false=true)(hun:l.getD 4 true=false)(hn:n+X0 l.toList<=26)(hmb:w0.heap.size=mb)
 (r1:BMap w2 mb (n+1) (λk=>if k=0 then b0 else mapF (l.getD 4 false) (l.getD 13 false) (l.getD 18 false) (l.getD 23 false) (l.getD 8 false) b0 b1 b2 b2 b0 k)) (r2:w.grownBy w2 (some mb)):MapW w0 mb b0 b1 b2 (l.setIfInBounds 4 true) w2:=by
 have hf:=X8 (l:=l) (i:=4) (by omega) hun;rw[ZiS]at r1;refine⟨λk=>?_,λ_=>⟨Later.grown (h.2 d0).1 r2 (λk e=>by cases e;omega),n+1,by omega,?_⟩⟩
 ·rw[Zk (by omega),d0]at k;cases k
 ·rw[Xr (by omega),Zk (show 4≠13 by omega),Zk (show 4≠18 by omega),Zk (show 4≠23 by omega),Zk (show 4≠8 by omega)];exact r1
theorem ZdN{w0 w w2:World}{mb n:Nat}{b0 b1 b2:Bool}{l:Array Bool}(h:MapW w0 mb b0 b1 b2 l w)(hs:l.size=26)(d0:l.getD 0 false=true)(hun:l.getD 8 true=false)(hn:n+X0 l.toList<=26)(hmb:w0.heap.size=mb)
 (r1:BMap w2 mb (n+1) (λk=>if k=4 then b0 else mapF (l.getD 4 false) (l.getD 13 false) (l.getD 18 false) (l.getD 23 false) (l.getD 8 false) b0 b1 b2 b2 b0 k)) (r2:w.grownBy w2 (some mb)):MapW w0 mb b0 b1 b2 (l.setIfInBounds 8 true) w2:=by
 have hf:=X8 (l:=l) (i:=8) (by omega) hun;rw[ZiO]at r1;refine⟨λk=>?_,λ_=>⟨Later.grown (h.2 d0).1 r2 (λk e=>by cases e;omega),n+1,by omega,?_⟩⟩
 ·rw[Zk (by omega),d0]at k;cases k
 ·rw[Zk (show 8≠4 by omega),Zk (show 8≠13 by omega),Zk (show 8≠18 by omega),Zk (show 8≠23 by omega),Xr (by omega)];exact r1
theorem ZbM{w0 w w2:World}{mb n:Nat}{b0 b1 b2:Bool}{l:Array Bool}(h:MapW w0 mb b0 b1 b2 l w)(hs:l.size=26)(d0:l.getD 0 false=true)(hun:l.getD 13 true=false)(hn:n+X0 l.toList<=26)(hmb:w0.heap.size=mb)
 (r1:BMap w2 mb (n+1) (λk=>if k=1 then b1 else mapF (l.getD 4 false) (l.getD 13 false) (l.getD 18 false) (l.getD 23 false) (l.getD 8 false) b0 b1 b2 b2 b0 k)) (r2:w.grownBy w2 (some mb)):MapW w0 mb b0 b1 b2 (l.setIfInBounds 13 true) w2:=by
 have hf:=X8 (l:=l) (i:=13) (by omega) hun;rw[ZiR]at r1;refine⟨λk=>?_,λ_=>⟨Later.grown (h.2 d0).1 r2 (λk e=>by cases e;omega),n+1,by omega,?_⟩⟩
 ·rw[Zk (by omega),d0]at k;cases k
 ·rw[Zk (show 13≠4 by omega),Xr (by omega),Zk (show 13≠18 by omega),Zk (show 13≠23 by omega),Zk (show 13≠8 by omega)];exact r1
theorem ZbL{w0 w w2:World}{mb n:Nat}{b0 b1 b2:Bool}{l:Array Bool}(h:MapW w0 mb b0 b1 b2 l w)(hs:l.size=26)(d0:l.getD 0 false=true)(hun:l.getD 18 true=false)(hn:n+X0 l.toList<=26)(hmb:w0.heap.size=mb)
 (r1:BMap w2 mb (n+1) (λk=>if k=2 then b2 else mapF (l.getD 4 false) (l.getD 13 false) (l.getD 18 false) (l.getD 23 false) (l.getD 8 false) b0 b1 b2 b2 b0 k)) (r2:w.grownBy w2 (some mb)):MapW w0 mb b0 b1 b2 (l.setIfInBounds 18 true) w2:=by
 have hf:=X8 (l:=l) (i:=18) (by omega) hun;rw[ZiQ]at r1;refine⟨λk=>?_,λ_=>⟨Later.grown (h.2 d0).1 r2 (λk e=>by cases e;omega),n+1,by omega,?_⟩⟩
 ·rw[Zk (by omega),d0]at k;cases k
 ·rw[Zk (show 18≠4 by omega),Zk (show 18≠13 by omega),Xr (by omega),Zk (show 18≠23 by omega),Zk (show 18≠8 by omega)];exact r1
theorem ZbK{w0 w w2:World}{mb n:Nat}{b0 b1 b2:Bool}{l:Array Bool}(h:MapW w0 mb b0 b1 b2 l w)(hs:l.size=26)(d0:l.getD 0 false=true)(hun:l.getD 23 true=false)(hn:n+X0 l.toList<=26)(hmb:w0.heap.size=mb)
 (r1:BMap w2 mb (n+1) (λk=>if k=3 then b2 else mapF (l.getD 4 false) (l.getD 13 false) (l.getD 18 false) (l.getD 23 false) (l.getD 8 false) b0 b1 b2 b2 b0 k)) (r2:w.grownBy w2 (some mb)):MapW w0 mb b0 b1 b2 (l.setIfInBounds 23 true) w2:=by
 have hf:=X8 (l:=l) (i:=23) (by omega) hun;rw[ZiP]at r1;refine⟨λk=>?_,λ_=>⟨Later.grown (h.2 d0).1 r2 (λk e=>by cases e;omega),n+1,by omega,?_⟩⟩
 ·rw[Zk (by omega),d0]at k;cases k
 ·rw[Zk (show 23≠4 by omega),Zk (show 23≠13 by omega),Zk (show 23≠18 by omega),Xr (by omega),Zk (show 23≠8 by omega)];exact r1
theorem Wf(w:World)(cb fb:Nat)(c:Cfg)(x:Win)(a2:Option Addr)(k2:Nat)(hcb:w.cell? ⟨cb,0,none⟩=some (.pointer (some ⟨fb,0,none⟩)))(hc0:w.cell? ⟨fb,0,none⟩=some (.int .i64 c.levels))
 (hc2:w.cell? ⟨fb,2,none⟩=some (.slice a2 c.parts.length k2)) (hl:c.parts.length<=140737488355328) (hL:El c) (hI:winI x) :
 Calls Tryz.prog 110 #[winV x,.pointer (some ⟨cb,0,none⟩)] w λe w'=>e=.returned (.bool (JQ c x))/\Later w w':=by
 have m0:=ZfR c x;obtain⟨kd,ix,tk⟩:=x;have C0:=World.block_lt_of_cell? w _ hcb;have v0:-9223372036854775808<=kd/\kd<=9223372036854775807:=hI kd (by simp);clear hI;have q0:=Hd (λ(w1:World) (h:Later w w1)=>Vt w1 fb c ix (h.cell hc0) hL.1 hL.2);have z0:=Hd (λ(w1:World) (h:Later w w1)=>Gm w1 fb c ix a2 k2 (h.cell hc2) hl);have y0:=Hd (λ(w1:World)=>XA w1 tk 1 255);have hp:JQ c ⟨kd,ix,tk⟩=(ZcC c kd ix&&inB tk 1 255):=rfl;rw[hp,<-m0];clear m0 hp;show Calls Tryz.prog 110 #[.agg #[.int .i64 kd,.int .i64 ix,.int .i64 tk],.pointer (some ⟨cb,0,none⟩)] w _;simp only
 obtain⟨pp,hpp⟩:∃ q,c.prt ix=q:=⟨_,rfl⟩
 obtain⟨ll,hll⟩:∃ q,c.lvl ix=q:=⟨_,rfl⟩
 obtain⟨zz,hzz⟩:∃ q,decide (ix=0)=q:=⟨_,rfl⟩
 have f0:(ix==0)=zz:=by rw[<-hzz,Zgz]
 obtain⟨tt,htt⟩:∃ q,inB tk 1 255=q:=⟨_,rfl⟩
 rw[hpp]at z0 ⊢;rw[hll]at q0 ⊢;rw[hzz,htt];rw[htt]at y0;clear hpp hll hzz htt
 obtain⟨xb,hxb⟩:∃ xb,w.heap.size=xb:=⟨_,rfl⟩
 obtain⟨w1,hw1⟩:∃ w1,w.alloc (.cells #[.int .i64 kd,.int .i64 ix,.int .i64 tk] 55)=w1:=⟨_,rfl⟩
 have i0:Later w w1:=by rw[<-hw1];exact(Later.refl w).alloc _
 have n0:w1.heap[xb]?=some (.cells #[.int .i64 kd,.int .i64 ix,.int .i64 tk] 55 (0,0)):=by rw[<-hw1,<-hxb];exact Zd w _
 have HC:=Hd (λ(w':World) (h:Later w1 w')=>And.intro (Za (h.block n0) 0) (And.intro (Za (h.block n0) 1) (And.intro (Za (h.block n0) 2) ((i0.trans h).cell hcb))))
 obtain⟨mb,hmb⟩:∃ mb,w1.drew.heap.size=mb:=⟨_,rfl⟩
 have j0:=Hd hmb;have A0:=Hd hw1;have hxb2:=Hd hxb;clear hmb hw1 n0 hcb hc0 hc2 hl hL C0
 go_enter Tryz.func110,Tryz.ntmps110
 go_upto_region 1 with fail
 rw[A0.out];refine wp_region_held_drew (S:=λw'=>w'.cell? ⟨xb,0,none⟩=some (.int .i64 kd)/\w'.cell? ⟨xb,1,none⟩=some (.int .i64 ix)/\w'.cell? ⟨xb,2,none⟩=some (.int .i64 tk)/\w'.cell? ⟨cb,0,none⟩=some (.pointer (some ⟨fb,0,none⟩))) (by kernel_rfl) (HC.out _ La) (λa0=>?_);refine tkS 1 a0 ?_;refine tkS 2 a0 ?_;refine tkS 3 a0 ?_;refine tkS 5 a0 ?_;refine tkS 6 a0 ?_;refine tkS 7 a0 ?_;refine tkS 9 a0 ?_;refine tkS 10 a0 ?_;refine tkS 11 a0 ?_;refine tkS 14 a0 ?_;refine tkS 15 a0 ?_;refine tkS 16 a0 ?_;refine tkS 19 a0 ?_;refine tkS 20 a0 ?_;refine tkS 21 a0 ?_;refine Qn [0,4,8,12,13,17,18,22,23,24,25] (mapV mb pp ll) (MapW w1.drew mb zz pp ll) (by kernel_rfl) (by kernel_rfl) (by kernel_rfl) (by kernel_rfl) (by kernel_rfl) (by kernel_rfl) (by kernel_rfl) ?_ ?_ ?_ ?_
 ·intro listed w' hW;refine HC.out w' ?_;by_cases h0:listed.getD 0 false=true
  ·exact Later.trans (Later.drew (Later.refl _)) (hW.2 h0).1
  ·rw[(hW.1 (by simpa using h0)).1];exact Later.drew (Later.refl _)
 ·exact⟨λ_=>⟨rfl,rfl,rfl,rfl,rfl,rfl⟩,λh=>by cases h⟩
 ·intro i hi;rcases List.mem_cons.1 hi with rfl|hi
  ·intro o ho;simp only[List.getElem?_toArray,List.getElem?_cons_zero,List.getElem?_cons_succ,Option.some.injEq]at ho;subst ho;intro listed a w' hF hsz hun hdep hW K hK;rw[if_pos (show Region.wanted _ _=true from rfl)];have c0:listed.size=26:=hsz;clear hsz;have e0:∀ w2,MapW w1.drew mb zz pp ll (listed.setIfInBounds 0 true) w2->K (a.put (some 5) (.map (some mb))) w2:=hK;clear hK;clear hF hdep;obtain⟨e1,e2⟩:=ZdP hW c0 hun j0.out;refine Za0 157 rfl ?_;rw[e1];exact e0 _ e2
  rcases List.mem_cons.1 hi with rfl|hi
  ·intro o ho;simp only[List.getElem?_toArray,List.getElem?_cons_zero,List.getElem?_cons_succ,Option.some.injEq]at ho;subst ho;intro listed a w' hF hsz hun hdep hW K hK;rw[if_pos (show Region.wanted _ _=true from rfl)];have c0:listed.size=26:=hsz;clear hsz;have e0:∀ w2,MapW w1.drew mb zz pp ll (listed.setIfInBounds 4 true) w2->K a w2:=hK;clear hK;have d0:listed.getD 0 false=true:=hdep ⟨0,.data⟩ (by simp) rfl;have f5:a.tmps[(5:Nat)]?=some (.map (some mb)):=hF.new 0 5 (by kernel_rfl) (by kernel_rfl) d0;have f8:a.tmps[(8:Nat)]?=some (.bool zz):=(hF.old 8 (by kernel_rfl)).trans (by simp[f0]);clear hF hdep;obtain⟨q1,n,q2,q3⟩:=hW.2 d0;exact XY (.tmp 5) (.const (.int .i64 0)) (.tmp 8) 157 rfl Tryz.underlying157 mb n _ (YB f5) q3 (by unfold maxLen;omega) 0 zz rfl (YB f8) (by omega) (λw2 r1 r2=>e0 w2 (ZdO hW c0 d0 hun q2 j0.out r1 r2))
  rcases List.mem_cons.1 hi with rfl|hi
  ·intro o ho;simp only[List.getElem?_toArray,List.getElem?_cons_zero,List.getElem?_cons_succ,Option.some.injEq]at ho;subst ho;intro listed a w' hF hsz hun hdep hW K hK;rw[if_pos (show Region.wanted _ _=true from rfl)];have c0:listed.size=26:=hsz;clear hsz;have e0:∀ w2,MapW w1.drew mb zz pp ll (listed.setIfInBounds 8 true) w2->K a w2:=hK;clear hK;have d0:listed.getD 0 false=true:=hdep ⟨0,.data⟩ (by simp) rfl;have f5:a.tmps[(5:Nat)]?=some (.map (some mb)):=hF.new 0 5 (by kernel_rfl) (by kernel_rfl) d0;have f11:a.tmps[(11:Nat)]?=some (.bool zz):=(hF.old 11 (by kernel_rfl)).trans (by simp[f0]);clear hF hdep;obtain⟨q1,n,q2,q3⟩:=hW.2 d0;exact XY (.tmp 5) (.const (.int .i64 4)) (.tmp 11) 157 rfl Tryz.underlying157 mb n _ (YB f5) q3 (by unfold maxLen;omega) 4 zz rfl (YB f11) (by omega) (λw2 r1 r2=>e0 w2 (ZdN hW c0 d0 hun q2 j0.out r1 r2))
  rcases List.mem_cons.1 hi with rfl|hi
  ·intro o ho;simp only[List.getElem?_toArray,List.getElem?_cons_zero,List.getElem?_cons_succ,Option.some.injEq]at ho;subst ho;intro listed a w' hF hsz hun hdep hW K hK;rw[if_pos (show Region.wanted _ _=true from rfl)];have c0:listed.size=26:=hsz;clear hsz;have e0:∀ w2,MapW w1.drew mb zz pp ll (listed.setIfInBounds 12 true) w2->K (a.put (some 15) (.bool pp)) w2:=hK;clear hK;have f12:a.tmps[(12:Nat)]?=some (.pointer (some ⟨fb,0,none⟩)):=(hF.old 12 (by kernel_rfl)).trans (by simp[f0]);have f14:a.tmps[(14:Nat)]?=some (.int .i64 ix):=(hF.old 14 (by kernel_rfl)).trans (by simp[f0]);clear hF hdep
   have g0:Later w w':=i0.trans (by
    by_cases h0:listed.getD 0 false=true
    ·exact Later.trans (Later.drew (Later.refl _)) (hW.2 h0).1
    ·rw[(hW.1 (by simpa using h0)).1];exact Later.drew (Later.refl _))
   go_simp
   refine(z0.out _ g0).mono ?_;rintro e w2 ⟨rfl,rfl⟩;exact e0 _ (Vb hW 12 (by omega) hun (by decide))
  rcases List.mem_cons.1 hi with rfl|hi
  ·intro o ho;simp only[List.getElem?_toArray,List.getElem?_cons_zero,List.getElem?_cons_succ,Option.some.injEq]at ho;subst ho;intro listed a w' hF hsz hun hdep hW K hK;rw[if_pos (show Region.wanted _ _=true from rfl)];have c0:listed.size=26:=hsz;clear hsz;have e0:∀ w2,MapW w1.drew mb zz pp ll (listed.setIfInBounds 13 true) w2->K a w2:=hK;clear hK;have d0:listed.getD 0 false=true:=hdep ⟨0,.data⟩ (by simp) rfl;have d12:listed.getD 12 false=true:=hdep ⟨12,.data⟩ (by simp) rfl;have f5:a.tmps[(5:Nat)]?=some (.map (some mb)):=hF.new 0 5 (by kernel_rfl) (by kernel_rfl) d0;have f15:a.tmps[(15:Nat)]?=some (.bool pp):=hF.new 12 15 (by kernel_rfl) (by kernel_rfl) d12;clear hF hdep;obtain⟨q1,n,q2,q3⟩:=hW.2 d0;exact XY (.tmp 5) (.const (.int .i64 1)) (.tmp 15) 157 rfl Tryz.underlying157 mb n _ (YB f5) q3 (by unfold maxLen;omega) 1 pp rfl (YB f15) (by omega) (λw2 r1 r2=>e0 w2 (ZbM hW c0 d0 hun q2 j0.out r1 r2))
  rcases List.mem_cons.1 hi with rfl|hi
  ·intro o ho;simp only[List.getElem?_toArray,List.getElem?_cons_zero,List.getElem?_cons_succ,Option.some.injEq]at ho;subst ho;intro listed a w' hF hsz hun hdep hW K hK;rw[if_pos (show Region.wanted _ _=true from rfl)];have c0:listed.size=26:=hsz;clear hsz;have e0:∀ w2,MapW w1.drew mb zz pp ll (listed.setIfInBounds 17 true) w2->K (a.put (some 19) (.bool ll)) w2:=hK;clear hK;have f16:a.tmps[(16:Nat)]?=some (.pointer (some ⟨fb,0,none⟩)):=(hF.old 16 (by kernel_rfl)).trans (by simp[f0]);have f18:a.tmps[(18:Nat)]?=some (.int .i64 ix):=(hF.old 18 (by kernel_rfl)).trans (by simp[f0]);clear hF hdep
   have g0:Later w w':=i0.trans (by
    by_cases h0:listed.getD 0 false=true
    ·exact Later.trans (Later.drew (Later.refl _)) (hW.2 h0).1
    ·rw[(hW.1 (by simpa using h0)).1];exact Later.drew (Later.refl _))
   go_simp
   refine(q0.out _ g0).mono ?_;rintro e w2 ⟨rfl,rfl⟩;exact e0 _ (Vb hW 17 (by omega) hun (by decide))
  rcases List.mem_cons.1 hi with rfl|hi
  ·intro o ho;simp only[List.getElem?_toArray,List.getElem?_cons_zero,List.getElem?_cons_succ,Option.some.injEq]at ho;subst ho;intro listed a w' hF hsz hun hdep hW K hK;rw[if_pos (show Region.wanted _ _=true from rfl)];have c0:listed.size=26:=hsz;clear hsz;have e0:∀ w2,MapW w1.drew mb zz pp ll (listed.setIfInBounds 18 true) w2->K a w2:=hK;clear hK;have d0:listed.getD 0 false=true:=hdep ⟨0,.data⟩ (by simp) rfl;have d17:listed.getD 17 false=true:=hdep ⟨17,.data⟩ (by simp) rfl;have f5:a.tmps[(5:Nat)]?=some (.map (some mb)):=hF.new 0 5 (by kernel_rfl) (by kernel_rfl) d0;have f19:a.tmps[(19:Nat)]?=some (.bool ll):=hF.new 17 19 (by kernel_rfl) (by kernel_rfl) d17;clear hF hdep;obtain⟨q1,n,q2,q3⟩:=hW.2 d0;exact XY (.tmp 5) (.const (.int .i64 2)) (.tmp 19) 157 rfl Tryz.underlying157 mb n _ (YB f5) q3 (by unfold maxLen;omega) 2 ll rfl (YB f19) (by omega) (λw2 r1 r2=>e0 w2 (ZbL hW c0 d0 hun q2 j0.out r1 r2))
  rcases List.mem_cons.1 hi with rfl|hi
  ·intro o ho;simp only[List.getElem?_toArray,List.getElem?_cons_zero,List.getElem?_cons_succ,Option.some.injEq]at ho;subst ho;intro listed a w' hF hsz hun hdep hW K hK;rw[if_pos (show Region.wanted _ _=true from rfl)];have c0:listed.size=26:=hsz;clear hsz;have e0:∀ w2,MapW w1.drew mb zz pp ll (listed.setIfInBounds 22 true) w2->K (a.put (some 23) (.bool ll)) w2:=hK;clear hK;have f20:a.tmps[(20:Nat)]?=some (.pointer (some ⟨fb,0,none⟩)):=(hF.old 20 (by kernel_rfl)).trans (by simp[f0]);have f22:a.tmps[(22:Nat)]?=some (.int .i64 ix):=(hF.old 22 (by kernel_rfl)).trans (by simp[f0]);clear hF hdep
   have g0:Later w w':=i0.trans (by
    by_cases h0:listed.getD 0 false=true
    ·exact Later.trans (Later.drew (Later.refl _)) (hW.2 h0).1
    ·rw[(hW.1 (by simpa using h0)).1];exact Later.drew (Later.refl _))
   go_simp
   refine(q0.out _ g0).mono ?_;rintro e w2 ⟨rfl,rfl⟩;exact e0 _ (Vb hW 22 (by omega) hun (by decide))
  rcases List.mem_cons.1 hi with rfl|hi
  ·intro o ho;simp only[List.getElem?_toArray,List.getElem?_cons_zero,List.getElem?_cons_succ,Option.some.injEq]at ho;subst ho;intro listed a w' hF hsz hun hdep hW K hK;rw[if_pos (show Region.wanted _ _=true from rfl)];have c0:listed.size=26:=hsz;clear hsz;have e0:∀ w2,MapW w1.drew mb zz pp ll (listed.setIfInBounds 23 true) w2->K a w2:=hK;clear hK;have d0:listed.getD 0 false=true:=hdep ⟨0,.data⟩ (by simp) rfl;have d22:listed.getD 22 false=true:=hdep ⟨22,.data⟩ (by simp) rfl;have f5:a.tmps[(5:Nat)]?=some (.map (some mb)):=hF.new 0 5 (by kernel_rfl) (by kernel_rfl) d0;have f23:a.tmps[(23:Nat)]?=some (.bool ll):=hF.new 22 23 (by kernel_rfl) (by kernel_rfl) d22;clear hF hdep;obtain⟨q1,n,q2,q3⟩:=hW.2 d0;exact XY (.tmp 5) (.const (.int .i64 3)) (.tmp 23) 157 rfl Tryz.underlying157 mb n _ (YB f5) q3 (by unfold maxLen;omega) 3 ll rfl (YB f23) (by omega) (λw2 r1 r2=>e0 w2 (ZbK hW c0 d0 hun q2 j0.out r1 r2))
  rcases List.mem_cons.1 hi with rfl|hi
  ·intro o ho;simp only[List.getElem?_toArray,List.getElem?_cons_zero,List.getElem?_cons_succ,Option.some.injEq]at ho;subst ho;intro listed a w' hF hsz hun hdep hW K hK;rw[if_pos (show Region.wanted _ _=true from rfl)];have c0:listed.size=26:=hsz;clear hsz;have e0:∀ w2,MapW w1.drew mb zz pp ll (listed.setIfInBounds 24 true) w2->K (a.put (some 24) (.map (some mb))) w2:=hK;clear hK;have d0:listed.getD 0 false=true:=hdep ⟨0,.data⟩ (by simp) rfl;have f5:a.tmps[(5:Nat)]?=some (.map (some mb)):=hF.new 0 5 (by kernel_rfl) (by kernel_rfl) d0;clear hF hdep
   go_simp
   exact e0 _ (Vb hW 24 (by omega) hun (by decide))
  rcases List.mem_cons.1 hi with rfl|hi
  ·intro o ho;simp only[List.getElem?_toArray,List.getElem?_cons_zero,List.getElem?_cons_succ,Option.some.injEq]at ho;subst ho;intro listed a w' hF hsz hun hdep hW K hK;rw[if_pos (show Region.wanted _ _=true from rfl)];have c0:listed.size=26:=hsz;clear hsz;have e0:∀ w2,MapW w1.drew mb zz pp ll (listed.setIfInBounds 25 true) w2->K (a.put (some 4) (.map (some mb))) w2:=hK;clear hK;have d24:listed.getD 24 false=true:=hdep ⟨24,.data⟩ (by simp) rfl;have f24:a.tmps[(24:Nat)]?=some (.map (some mb)):=hF.new 24 24 (by kernel_rfl) (by kernel_rfl) d24;clear hF hdep
   go_simp
   exact e0 _ (Vb hW 25 (by omega) hun (by decide))
  cases hi
 ·intro listed w' hall hW;obtain⟨g0,n,-, hmap⟩:=hW.2 (hall 0 (by decide));rw[hall 4 (by decide),hall 8 (by decide),hall 13 (by decide),hall 18 (by decide),hall 23 (by decide)]at hmap;have l0:=Hd hmap;clear hmap hW hall;simp[finA,Zh0,Act.put,mapV];have t0:Later w1 w':=Later.trans (Later.drew (Later.refl _)) g0;clear a0 g0
  obtain⟨mv,hmv⟩:∃ mv,mapF true true true true true zz pp ll ll zz kd=mv:=⟨_,rfl⟩
  obtain⟨k0,k1,k2,k3⟩:=HC.out w' t0;have o0:=Hd hmv;clear hmv;cases mv
  ·have r0:∀ W,W=w'->(Instr.lookup 157 (.map (some mb)) (.int .i64 kd) false).run Tryz.prog W=.ok (.bool false) W:=λW e=>by rw[e,l0.out.lookup Tryz.underlying157 v0,o0.out]
   have r0:=r0 w' rfl
   go_wp2_with fail
   go_ret
   rw[o0.out];exact⟨rfl,i0.trans t0⟩
  ·have r0:(Instr.lookup 157 (.map (some mb)) (.int .i64 kd) false).run Tryz.prog w'=.ok (.bool true) w':=by rw[l0.out.lookup Tryz.underlying157 v0,o0.out]
   go_wp2_with (first
    |(go_at_call 23;(with_reducible refine(y0.out _).mono ?_);rintro e w2 ⟨rfl,rfl⟩)
    |fail)
   go_ret
   rw[o0.out];exact⟨by simp,i0.trans t0⟩
