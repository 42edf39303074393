import Derived.Test.YtbchkjfnakabkaaGreatDoorN4A
import Derived.Test.YtbchkjfnakabkaaGreatDoorNMB
import Derived.Test.YtbchkjfnakabkaaGreatDoorNX
import Derived.Deep.RegionHeld3
import Derived.Test.YtbchkjfnakabkaaGreatDoorYM
set_option linter.unusedSimpArgs false
set_option linter.unusedVariables false
set_option maxHeartbeats 4000000
set_option maxRecDepth 100000
namespace Go.Proofs.YtbchkjfnakabkaaGreatDoor
open Go.RowKit PX PC Go.Maps
open Go.Act renaming put → p0
open List renaming getElem_toArray → p1, getElem_cons_succ → p2, getElem_cons_zero → p3, setIfInBounds_toArray → p4, set_cons_zero → p5, set_cons_succ → p6
def mapF(s0 s1 s2 s3 s4:Bool)(b0 b1 b2 b3 b4:Bool)(k:Int):Bool:=
 if k=0 then s0&&b0 else if k=1 then s1&&b1 else if k=2 then s2&&b2 else if k=3 then s3&&b3 else if k=4 then s4&&b4 else false
theorem ZfN(a b:Int):(a==b)=decide (a=b):=by rw[Bool.eq_iff_iff];simp
theorem Zc9(b0 b1 b2 b3 b4:Bool):(fun _=>false)=mapF false false false false false b0 b1 b2 b3 b4:=by
 funext k;unfold mapF;simp
theorem Zh7(s0 s1 s2 s3 s4 b0 b1 b2 b3 b4:Bool):(fun k=>if k=0 then b0 else mapF s0 s1 s2 s3 s4 b0 b1 b2 b3 b4 k)=mapF true s1 s2 s3 s4 b0 b1 b2 b3 b4:=by
 funext k;unfold mapF;by_cases h:k=0<;>simp[h]
theorem Zh6(s0 s1 s2 s3 s4 b0 b1 b2 b3 b4:Bool):(fun k=>if k=1 then b1 else mapF s0 s1 s2 s3 s4 b0 b1 b2 b3 b4 k)=mapF s0 true s2 s3 s4 b0 b1 b2 b3 b4:=by
 funext k;unfold mapF;by_cases h:k=1<;>simp[h]
theorem Zh5(s0 s1 s2 s3 s4 b0 b1 b2 b3 b4:Bool):(fun k=>if k=2 then b2 else mapF s0 s1 s2 s3 s4 b0 b1 b2 b3 b4 k)=mapF s0 s1 true s3 s4 b0 b1 b2 b3 b4:=by
 funext k;unfold mapF;by_cases h:k=2<;>simp[h]
theorem Zh4(s0 s1 s2 s3 s4 b0 b1 b2 b3 b4:Bool):(fun k=>if k=3 then b3 else mapF s0 s1 s2 s3 s4 b0 b1 b2 b3 b4 k)=mapF s0 s1 s2 true s4 b0 b1 b2 b3 b4:=by
 funext k;unfold mapF;by_cases h:k=3<;>simp[h]
theorem Zh3(s0 s1 s2 s3 s4 b0 b1 b2 b3 b4:Bool):(fun k=>if k=4 then b4 else mapF s0 s1 s2 s3 s4 b0 b1 b2 b3 b4 k)=mapF s0 s1 s2 s3 true b0 b1 b2 b3 b4:=by
 funext k;unfold mapF;by_cases h:k=4<;>simp[h]
theorem Ze6(c:Cfg)(x:Win):mapF true true true true true (decide (x.index=0)) (c.prt x.index) (c.lvl x.index) (c.lvl x.index) (decide (x.index=0)) x.kind=Zat c x.kind x.index:=by
 unfold mapF Zat;by_cases h0:x.kind=0
 ·simp[h0]
 ·by_cases h1:x.kind=1
  ·simp[h1]
  ·by_cases h2:x.kind=2
   ·simp[h2]
   ·by_cases h3:x.kind=3
    ·simp[h3]
    ·by_cases h4:x.kind=4<;>simp[h0,h1,h2,h3,h4]
def MapW(w0:World)(mb:Nat)(b0 b1 b2:Bool)(listed:Array Bool)(w:World):Prop:=
 (listed.getD 0 false=false→w=w0∧listed.getD 4 false=false∧listed.getD 8 false=false∧listed.getD 13 false=false∧listed.getD 18 false=false∧listed.getD 23 false=false) ∧
 (listed.getD 0 false=true→Later w0 w∧∃ n,n+XV listed.toList≤26∧BMap w mb n (mapF (listed.getD 4 false) (listed.getD 13 false) (listed.getD 18 false) (listed.getD 23 false) (listed.getD 8 false) b0 b1 b2 b2 b0))
def mapV(mb:Nat)(p l:Bool)(i:Nat):Value:=if i=12 then .bool p else if i=17∨i=22 then .bool l else .map (some mb)
theorem ZdH{l:Array Bool}{i:Nat}(hi:i<l.size)(a b:Bool):l.getD i a=l.getD i b:=by simp[hi]
theorem X2{l:Array Bool}{i:Nat}(hi:i<l.size)(hun:l.getD i true=false):XV (l.setIfInBounds i true).toList+1=XV l.toList:=by
 rw[Array.toList_setIfInBounds];refine UK _ _ ?_;simp[hi]at hun;simp[hi,hun]
theorem JM{w0 w:World}{mb:Nat}{b0 b1 b2:Bool}{l:Array Bool}(h:MapW w0 mb b0 b1 b2 l w)(i:Nat)(hi:i<l.size)(hun:l.getD i true=false)(hne:i≠0∧i≠4∧i≠8∧i≠13∧i≠18∧i≠23):MapW w0 mb b0 b1 b2 (l.setIfInBounds i true) w:=by
 have hf:=X2 hi hun;unfold MapW at h ⊢;rw[Zk hne.1,Zk hne.2.1,Zk hne.2.2.1,Zk hne.2.2.2.1,Zk hne.2.2.2.2.1,Zk hne.2.2.2.2.2];refine⟨h.1,fun h0=>?_⟩;obtain⟨q1,n,q2,q3⟩:=h.2 h0;exact⟨q1,n,by omega,q3⟩
theorem Zc8{w0 w:World}{mb:Nat}{b0 b1 b2:Bool}{l:Array Bool}(h:MapW w0 mb b0 b1 b2 l w)(hs:l.size=26)(hun:l.getD 0 true=false)(hmb:w0.heap.size=mb):w.heap.size=mb∧MapW w0 mb b0 b1 b2 (l.setIfInBounds 0 true) (w.alloc (.map #[] 0)):=by
 obtain⟨hw,hz⟩:=h.1 (by rw[ZdH (by omega) false true];exact hun);subst hw;refine⟨hmb,fun k=>?_,fun _=>⟨(Later.refl _).alloc _,0,?_,?_⟩⟩
 ·rw[Xq (by omega)]at k;cases k
 ·have hf:=X2 (l:=l) (i:=0) (by omega) hun;have:XV l.toList≤l.toList.length:=WO _;simp at this;omega
 ·rw[Zk (by omega),Zk (by omega),Zk (by omega),Zk (by omega),Zk (by omega),hz.1,hz.2.1,hz.2.2.1,hz.2.2.2.1,hz.2.2.2.2,←Zc9,←hmb];exact BMap.made w
theorem Zc7{w0 w w2:World}{mb n:Nat}{b0 b1 b2:Bool}{l:Array Bool}(h:MapW w0 mb b0 b1 b2 l w)(hs:l.size=26)(d0:l.getD 0 false=true)(hun:l.getD 4 true=false)(hn:n+XV l.toList≤26)(hmb:w0.heap.size=mb)
 (r1:BMap w2 mb (n+1) (fun k=>if k=0 then b0 else mapF (l.getD 4 false) (l.getD 13 false) (l.getD 18 false) (l.getD 23 false) (l.getD 8 false) b0 b1 b2 b2 b0 k)) (r2:w.grownBy w2 (some mb)):MapW w0 mb b0 b1 b2 (l.setIfInBounds 4 true) w2:=by
 have hf:=X2 (l:=l) (i:=4) (by omega) hun;rw[Zh7]at r1;refine⟨fun k=>?_,fun _=>⟨Later.grown (h.2 d0).1 r2 (fun k e=>by cases e;omega),n+1,by omega,?_⟩⟩
 ·rw[Zk (by omega),d0]at k;cases k
 ·rw[Xq (by omega),Zk (show 4≠13 by omega),Zk (show 4≠18 by omega),Zk (show 4≠23 by omega),Zk (show 4≠8 by omega)];exact r1
theorem Zc6{w0 w w2:World}{mb n:Nat}{b0 b1 b2:Bool}{l:Array Bool}(h:MapW w0 mb b0 b1 b2 l w)(hs:l.size=26)(d0:l.getD 0 false=true)(hun:l.getD 8 true=false)(hn:n+XV l.toList≤26)(hmb:w0.heap.size=mb)
 (r1:BMap w2 mb (n+1) (fun k=>if k=4 then b0 else mapF (l.getD 4 false) (l.getD 13 false) (l.getD 18 false) (l.getD 23 false) (l.getD 8 false) b0 b1 b2 b2 b0 k)) (r2:w.grownBy w2 (some mb)):MapW w0 mb b0 b1 b2 (l.setIfInBounds 8 true) w2:=by
 have hf:=X2 (l:=l) (i:=8) (by omega) hun;rw[Zh3]at r1;refine⟨fun k=>?_,fun _=>⟨Later.grown (h.2 d0).1 r2 (fun k e=>by cases e;omega),n+1,by omega,?_⟩⟩
 ·rw[Zk (by omega),d0]at k;cases k
 ·rw[Zk (show 8≠4 by omega),Zk (show 8≠13 by omega),Zk (show 8≠18 by omega),Zk (show 8≠23 by omega),Xq (by omega)];exact r1
theorem Zbc{w0 w w2:World}{mb n:Nat}{b0 b1 b2:Bool}{l:Array Bool}(h:MapW w0 mb b0 b1 b2 l w)(hs:l.size=26)(d0:l.getD 0 false=true)(hun:l.getD 13 true=false)(hn:n+XV l.toList≤26)(hmb:w0.heap.size=mb)
 (r1:BMap w2 mb (n+1) (fun k=>if k=1 then b1 else mapF (l.getD 4 false) (l.getD 13 false) (l.getD 18 false) (l.getD 23 false) (l.getD 8 false) b0 b1 b2 b2 b0 k)) (r2:w.grownBy w2 (some mb)):MapW w0 mb b0 b1 b2 (l.setIfInBounds 13 true) w2:=by
 have hf:=X2 (l:=l) (i:=13) (by omega) hun;rw[Zh6]at r1;refine⟨fun k=>?_,fun _=>⟨Later.grown (h.2 d0).1 r2 (fun k e=>by cases e;omega),n+1,by omega,?_⟩⟩
 ·rw[Zk (by omega),d0]at k;cases k
 ·rw[Zk (show 13≠4 by omega),Xq (by omega),Zk (show 13≠18 by omega),Zk (show 13≠23 by omega),Zk (show 13≠8 by omega)];exact r1
theorem Zbb{w0 w w2:World}{mb n:Nat}{b0 b1 b2:Bool}{l:Array Bool}(h:MapW w0 mb b0 b1 b2 l w)(hs:l.size=26)(d0:l.getD 0 false=true)(hun:l.getD 18 true=false)(hn:n+XV l.toList≤26)(hmb:w0.heap.size=mb)
 (r1:BMap w2 mb (n+1) (fun k=>if k=2 then b2 else mapF (l.getD 4 false) (l.getD 13 false) (l.getD 18 false) (l.getD 23 false) (l.getD 8 false) b0 b1 b2 b2 b0 k)) (r2:w.grownBy w2 (some mb)):MapW w0 mb b0 b1 b2 (l.setIfInBounds 18 true) w2:=by
 have hf:=X2 (l:=l) (i:=18) (by omega) hun;rw[Zh5]at r1;refine⟨fun k=>?_,fun _=>⟨Later.grown (h.2 d0).1 r2 (fun k e=>by cases e;omega),n+1,by omega,?_⟩⟩
 ·rw[Zk (by omega),d0]at k;cases k
 ·rw[Zk (show 18≠4 by omega),Zk (show 18≠13 by omega),Xq (by omega),Zk (show 18≠23 by omega),Zk (show 18≠8 by omega)];exact r1
theorem Zba{w0 w w2:World}{mb n:Nat}{b0 b1 b2:Bool}{l:Array Bool}(h:MapW w0 mb b0 b1 b2 l w)(hs:l.size=26)(d0:l.getD 0 false=true)(hun:l.getD 23 true=false)(hn:n+XV l.toList≤26)(hmb:w0.heap.size=mb)
 (r1:BMap w2 mb (n+1) (fun k=>if k=3 then b2 else mapF (l.getD 4 false) (l.getD 13 false) (l.getD 18 false) (l.getD 23 false) (l.getD 8 false) b0 b1 b2 b2 b0 k)) (r2:w.grownBy w2 (some mb)):MapW w0 mb b0 b1 b2 (l.setIfInBounds 23 true) w2:=by
 have hf:=X2 (l:=l) (i:=23) (by omega) hun;rw[Zh4]at r1;refine⟨fun k=>?_,fun _=>⟨Later.grown (h.2 d0).1 r2 (fun k e=>by cases e;omega),n+1,by omega,?_⟩⟩
 ·rw[Zk (by omega),d0]at k;cases k
 ·rw[Zk (show 23≠4 by omega),Zk (show 23≠13 by omega),Zk (show 23≠18 by omega),Xq (by omega),Zk (show 23≠8 by omega)];exact r1
theorem QR(w:World)(cb fb:Nat)(c:Cfg)(x:Win)(a2:Option Addr)(k2:Nat)(hcb:w.cell? ⟨cb,0,none⟩=some (.pointer (some ⟨fb,0,none⟩)))(hc0:w.cell? ⟨fb,0,none⟩=some (.int .i64 c.levels))
 (hc2:w.cell? ⟨fb,2,none⟩=some (.slice a2 c.parts.length k2)) (hl:c.parts.length≤140737488355328) (hL:U7 c) (hI:winI x) :
 Calls Tryz.prog 110 #[winV x,.pointer (some ⟨cb,0,none⟩)] w fun e w'=>e=.returned (.bool (YB c x))∧Later w w':=by
 have hwin:=Ze6 c x;obtain⟨kd,ix,tk⟩:=x;have hcl:=World.block_lt_of_cell? w _ hcb;have hIk:-9223372036854775808≤kd∧kd≤9223372036854775807:=hI kd (by simp);clear hI;have HLV:=Hd (fun(w1:World) (h:Later w w1)=>Va w1 fb c ix (h.cell hc0) hL.1 hL.2);have HPT:=Hd (fun(w1:World) (h:Later w w1)=>Ga w1 fb c ix a2 k2 (h.cell hc2) hl);have HIN:=Hd (fun(w1:World)=>Xw w1 tk 1 255);have hp:YB c ⟨kd,ix,tk⟩=(Zat c kd ix&&inB tk 1 255):=rfl;rw[hp,←hwin];clear hwin hp;show Calls Tryz.prog 110 #[.agg #[.int .i64 kd,.int .i64 ix,.int .i64 tk],.pointer (some ⟨cb,0,none⟩)] w _;simp only
 obtain⟨pp,hpp⟩:∃ q,c.prt ix=q:=⟨_,rfl⟩
 obtain⟨ll,hll⟩:∃ q,c.lvl ix=q:=⟨_,rfl⟩
 obtain⟨zz,hzz⟩:∃ q,decide (ix=0)=q:=⟨_,rfl⟩
 have hz2:(ix==0)=zz:=by rw[←hzz,ZfN]
 obtain⟨tt,htt⟩:∃ q,inB tk 1 255=q:=⟨_,rfl⟩
 rw[hpp]at HPT ⊢;rw[hll]at HLV ⊢;rw[hzz,htt];rw[htt]at HIN;clear hpp hll hzz htt
 obtain⟨xb,hxb⟩:∃ xb,w.heap.size=xb:=⟨_,rfl⟩
 obtain⟨w1,hw1⟩:∃ w1,w.alloc (.cells #[.int .i64 kd,.int .i64 ix,.int .i64 tk] 55)=w1:=⟨_,rfl⟩
 have hl1:Later w w1:=by rw[←hw1];exact(Later.refl w).alloc _
 have hxk:w1.heap[xb]?=some (.cells #[.int .i64 kd,.int .i64 ix,.int .i64 tk] 55 (0,0)):=by rw[←hw1,←hxb];exact Ze w _
 have HC:=Hd (fun(w':World) (h:Later w1 w')=>And.intro (Zb (h.block hxk) 0) (And.intro (Zb (h.block hxk) 1) (And.intro (Zb (h.block hxk) 2) ((hl1.trans h).cell hcb))))
 obtain⟨mb,hmb⟩:∃ mb,w1.drew.heap.size=mb:=⟨_,rfl⟩
 have HMB:=Hd hmb;have HW1:=Hd hw1;have hxb2:=Hd hxb;clear hmb hw1 hxk hcb hc0 hc2 hl hL hcl
 go_enter Tryz.func110,Tryz.ntmps110
 go_upto_region 1 with fail
 rw[HW1.out];refine wp_region_held_drew (S:=fun w'=>w'.cell? ⟨xb,0,none⟩=some (.int .i64 kd)∧w'.cell? ⟨xb,1,none⟩=some (.int .i64 ix)∧w'.cell? ⟨xb,2,none⟩=some (.int .i64 tk)∧w'.cell? ⟨cb,0,none⟩=some (.pointer (some ⟨fb,0,none⟩))) (by kernel_rfl) (HC.out _ La) (fun hHeld=>?_);refine tkS 1 hHeld ?_;refine tkS 2 hHeld ?_;refine tkS 3 hHeld ?_;refine tkS 5 hHeld ?_;refine tkS 6 hHeld ?_;refine tkS 7 hHeld ?_;refine tkS 9 hHeld ?_;refine tkS 10 hHeld ?_;refine tkS 11 hHeld ?_;refine tkS 14 hHeld ?_;refine tkS 15 hHeld ?_;refine tkS 16 hHeld ?_;refine tkS 19 hHeld ?_;refine tkS 20 hHeld ?_;refine tkS 21 hHeld ?_;refine G6 [0,4,8,12,13,17,18,22,23,24,25] (mapV mb pp ll) (MapW w1.drew mb zz pp ll) (by kernel_rfl) (by kernel_rfl) (by kernel_rfl) (by kernel_rfl) (by kernel_rfl) (by kernel_rfl) (by kernel_rfl) ?_ ?_ ?_ ?_
 ·intro listed w' hW;refine HC.out w' ?_;by_cases h0:listed.getD 0 false=true
  ·exact Later.trans (Later.drew (Later.refl _)) (hW.2 h0).1
  ·rw[(hW.1 (by simpa using h0)).1];exact Later.drew (Later.refl _)
 ·exact⟨fun _=>⟨rfl,rfl,rfl,rfl,rfl,rfl⟩,fun h=>by cases h⟩
 ·intro i hi;rcases List.mem_cons.1 hi with rfl|hi
  ·intro o ho;simp only[List.getElem?_toArray,List.getElem?_cons_zero,List.getElem?_cons_succ,Option.some.injEq]at ho;subst ho;intro listed a w' hF hsz hun hdep hW K hK;rw[if_pos (show Region.wanted _ _=true from rfl)];have hsz2:listed.size=26:=hsz;clear hsz;have hK0:∀ w2,MapW w1.drew mb zz pp ll (listed.setIfInBounds 0 true) w2→K (a.put (some 5) (.map (some mb))) w2:=hK;clear hK;clear hF hdep;obtain⟨e1,e2⟩:=Zc8 hW hsz2 hun HMB.out;refine Zas 157 rfl ?_;rw[e1];exact hK0 _ e2
  rcases List.mem_cons.1 hi with rfl|hi
  ·intro o ho;simp only[List.getElem?_toArray,List.getElem?_cons_zero,List.getElem?_cons_succ,Option.some.injEq]at ho;subst ho;intro listed a w' hF hsz hun hdep hW K hK;rw[if_pos (show Region.wanted _ _=true from rfl)];have hsz2:listed.size=26:=hsz;clear hsz;have hK0:∀ w2,MapW w1.drew mb zz pp ll (listed.setIfInBounds 4 true) w2→K a w2:=hK;clear hK;have d0:listed.getD 0 false=true:=hdep ⟨0,.data⟩ (by simp) rfl;have f5:a.tmps[(5:Nat)]?=some (.map (some mb)):=hF.new 0 5 (by kernel_rfl) (by kernel_rfl) d0;have f8:a.tmps[(8:Nat)]?=some (.bool zz):=(hF.old 8 (by kernel_rfl)).trans (by simp[hz2]);clear hF hdep;obtain⟨q1,n,q2,q3⟩:=hW.2 d0;exact XT (.tmp 5) (.const (.int .i64 0)) (.tmp 8) 157 rfl Tryz.underlying157 mb n _ (Yw f5) q3 (by unfold maxLen;omega) 0 zz rfl (Yw f8) (by omega) (fun w2 r1 r2=>hK0 w2 (Zc7 hW hsz2 d0 hun q2 HMB.out r1 r2))
  rcases List.mem_cons.1 hi with rfl|hi
  ·intro o ho;simp only[List.getElem?_toArray,List.getElem?_cons_zero,List.getElem?_cons_succ,Option.some.injEq]at ho;subst ho;intro listed a w' hF hsz hun hdep hW K hK;rw[if_pos (show Region.wanted _ _=true from rfl)];have hsz2:listed.size=26:=hsz;clear hsz;have hK0:∀ w2,MapW w1.drew mb zz pp ll (listed.setIfInBounds 8 true) w2→K a w2:=hK;clear hK;have d0:listed.getD 0 false=true:=hdep ⟨0,.data⟩ (by simp) rfl;have f5:a.tmps[(5:Nat)]?=some (.map (some mb)):=hF.new 0 5 (by kernel_rfl) (by kernel_rfl) d0;have f11:a.tmps[(11:Nat)]?=some (.bool zz):=(hF.old 11 (by kernel_rfl)).trans (by simp[hz2]);clear hF hdep;obtain⟨q1,n,q2,q3⟩:=hW.2 d0;exact XT (.tmp 5) (.const (.int .i64 4)) (.tmp 11) 157 rfl Tryz.underlying157 mb n _ (Yw f5) q3 (by unfold maxLen;omega) 4 zz rfl (Yw f11) (by omega) (fun w2 r1 r2=>hK0 w2 (Zc6 hW hsz2 d0 hun q2 HMB.out r1 r2))
  rcases List.mem_cons.1 hi with rfl|hi
  ·intro o ho;simp only[List.getElem?_toArray,List.getElem?_cons_zero,List.getElem?_cons_succ,Option.some.injEq]at ho;subst ho;intro listed a w' hF hsz hun hdep hW K hK;rw[if_pos (show Region.wanted _ _=true from rfl)];have hsz2:listed.size=26:=hsz;clear hsz;have hK0:∀ w2,MapW w1.drew mb zz pp ll (listed.setIfInBounds 12 true) w2→K (a.put (some 15) (.bool pp)) w2:=hK;clear hK;have f12:a.tmps[(12:Nat)]?=some (.pointer (some ⟨fb,0,none⟩)):=(hF.old 12 (by kernel_rfl)).trans (by simp[hz2]);have f14:a.tmps[(14:Nat)]?=some (.int .i64 ix):=(hF.old 14 (by kernel_rfl)).trans (by simp[hz2]);clear hF hdep
   have hlw:Later w w':=hl1.trans (by
    by_cases h0:listed.getD 0 false=true
    ·exact Later.trans (Later.drew (Later.refl _)) (hW.2 h0).1
    ·rw[(hW.1 (by simpa using h0)).1];exact Later.drew (Later.refl _))
   go_simp
   refine(HPT.out _ hlw).mono ?_;rintro e w2 ⟨rfl,rfl⟩;exact hK0 _ (JM hW 12 (by omega) hun (by decide))
  rcases List.mem_cons.1 hi with rfl|hi
  ·intro o ho;simp only[List.getElem?_toArray,List.getElem?_cons_zero,List.getElem?_cons_succ,Option.some.injEq]at ho;subst ho;intro listed a w' hF hsz hun hdep hW K hK;rw[if_pos (show Region.wanted _ _=true from rfl)];have hsz2:listed.size=26:=hsz;clear hsz;have hK0:∀ w2,MapW w1.drew mb zz pp ll (listed.setIfInBounds 13 true) w2→K a w2:=hK;clear hK;have d0:listed.getD 0 false=true:=hdep ⟨0,.data⟩ (by simp) rfl;have d12:listed.getD 12 false=true:=hdep ⟨12,.data⟩ (by simp) rfl;have f5:a.tmps[(5:Nat)]?=some (.map (some mb)):=hF.new 0 5 (by kernel_rfl) (by kernel_rfl) d0;have f15:a.tmps[(15:Nat)]?=some (.bool pp):=hF.new 12 15 (by kernel_rfl) (by kernel_rfl) d12;clear hF hdep;obtain⟨q1,n,q2,q3⟩:=hW.2 d0;exact XT (.tmp 5) (.const (.int .i64 1)) (.tmp 15) 157 rfl Tryz.underlying157 mb n _ (Yw f5) q3 (by unfold maxLen;omega) 1 pp rfl (Yw f15) (by omega) (fun w2 r1 r2=>hK0 w2 (Zbc hW hsz2 d0 hun q2 HMB.out r1 r2))
  rcases List.mem_cons.1 hi with rfl|hi
  ·intro o ho;simp only[List.getElem?_toArray,List.getElem?_cons_zero,List.getElem?_cons_succ,Option.some.injEq]at ho;subst ho;intro listed a w' hF hsz hun hdep hW K hK;rw[if_pos (show Region.wanted _ _=true from rfl)];have hsz2:listed.size=26:=hsz;clear hsz;have hK0:∀ w2,MapW w1.drew mb zz pp ll (listed.setIfInBounds 17 true) w2→K (a.put (some 19) (.bool ll)) w2:=hK;clear hK;have f16:a.tmps[(16:Nat)]?=some (.pointer (some ⟨fb,0,none⟩)):=(hF.old 16 (by kernel_rfl)).trans (by simp[hz2]);have f18:a.tmps[(18:Nat)]?=some (.int .i64 ix):=(hF.old 18 (by kernel_rfl)).trans (by simp[hz2]);clear hF hdep
   have hlw:Later w w':=hl1.trans (by
    by_cases h0:listed.getD 0 false=true
    ·exact Later.trans (Later.drew (Later.refl _)) (hW.2 h0).1
    ·rw[(hW.1 (by simpa using h0)).1];exact Later.drew (Later.refl _))
   go_simp
   refine(HLV.out _ hlw).mono ?_;rintro e w2 ⟨rfl,rfl⟩;exact hK0 _ (JM hW 17 (by omega) hun (by decide))
  rcases List.mem_cons.1 hi with rfl|hi
  ·intro o ho;simp only[List.getElem?_toArray,List.getElem?_cons_zero,List.getElem?_cons_succ,Option.some.injEq]at ho;subst ho;intro listed a w' hF hsz hun hdep hW K hK;rw[if_pos (show Region.wanted _ _=true from rfl)];have hsz2:listed.size=26:=hsz;clear hsz;have hK0:∀ w2,MapW w1.drew mb zz pp ll (listed.setIfInBounds 18 true) w2→K a w2:=hK;clear hK;have d0:listed.getD 0 false=true:=hdep ⟨0,.data⟩ (by simp) rfl;have d17:listed.getD 17 false=true:=hdep ⟨17,.data⟩ (by simp) rfl;have f5:a.tmps[(5:Nat)]?=some (.map (some mb)):=hF.new 0 5 (by kernel_rfl) (by kernel_rfl) d0;have f19:a.tmps[(19:Nat)]?=some (.bool ll):=hF.new 17 19 (by kernel_rfl) (by kernel_rfl) d17;clear hF hdep;obtain⟨q1,n,q2,q3⟩:=hW.2 d0;exact XT (.tmp 5) (.const (.int .i64 2)) (.tmp 19) 157 rfl Tryz.underlying157 mb n _ (Yw f5) q3 (by unfold maxLen;omega) 2 ll rfl (Yw f19) (by omega) (fun w2 r1 r2=>hK0 w2 (Zbb hW hsz2 d0 hun q2 HMB.out r1 r2))
  rcases List.mem_cons.1 hi with rfl|hi
  ·intro o ho;simp only[List.getElem?_toArray,List.getElem?_cons_zero,List.getElem?_cons_succ,Option.some.injEq]at ho;subst ho;intro listed a w' hF hsz hun hdep hW K hK;rw[if_pos (show Region.wanted _ _=true from rfl)];have hsz2:listed.size=26:=hsz;clear hsz;have hK0:∀ w2,MapW w1.drew mb zz pp ll (listed.setIfInBounds 22 true) w2→K (a.put (some 23) (.bool ll)) w2:=hK;clear hK;have f20:a.tmps[(20:Nat)]?=some (.pointer (some ⟨fb,0,none⟩)):=(hF.old 20 (by kernel_rfl)).trans (by simp[hz2]);have f22:a.tmps[(22:Nat)]?=some (.int .i64 ix):=(hF.old 22 (by kernel_rfl)).trans (by simp[hz2]);clear hF hdep
   have hlw:Later w w':=hl1.trans (by
    by_cases h0:listed.getD 0 false=true
    ·exact Later.trans (Later.drew (Later.refl _)) (hW.2 h0).1
    ·rw[(hW.1 (by simpa using h0)).1];exact Later.drew (Later.refl _))
   go_simp
   refine(HLV.out _ hlw).mono ?_;rintro e w2 ⟨rfl,rfl⟩;exact hK0 _ (JM hW 22 (by omega) hun (by decide))
  rcases List.mem_cons.1 hi with rfl|hi
  ·intro o ho;simp only[List.getElem?_toArray,List.getElem?_cons_zero,List.getElem?_cons_succ,Option.some.injEq]at ho;subst ho;intro listed a w' hF hsz hun hdep hW K hK;rw[if_pos (show Region.wanted _ _=true from rfl)];have hsz2:listed.size=26:=hsz;clear hsz;have hK0:∀ w2,MapW w1.drew mb zz pp ll (listed.setIfInBounds 23 true) w2→K a w2:=hK;clear hK;have d0:listed.getD 0 false=true:=hdep ⟨0,.data⟩ (by simp) rfl;have d22:listed.getD 22 false=true:=hdep ⟨22,.data⟩ (by simp) rfl;have f5:a.tmps[(5:Nat)]?=some (.map (some mb)):=hF.new 0 5 (by kernel_rfl) (by kernel_rfl) d0;have f23:a.tmps[(23:Nat)]?=some (.bool ll):=hF.new 22 23 (by kernel_rfl) (by kernel_rfl) d22;clear hF hdep;obtain⟨q1,n,q2,q3⟩:=hW.2 d0;exact XT (.tmp 5) (.const (.int .i64 3)) (.tmp 23) 157 rfl Tryz.underlying157 mb n _ (Yw f5) q3 (by unfold maxLen;omega) 3 ll rfl (Yw f23) (by omega) (fun w2 r1 r2=>hK0 w2 (Zba hW hsz2 d0 hun q2 HMB.out r1 r2))
  rcases List.mem_cons.1 hi with rfl|hi
  ·intro o ho;simp only[List.getElem?_toArray,List.getElem?_cons_zero,List.getElem?_cons_succ,Option.some.injEq]at ho;subst ho;intro listed a w' hF hsz hun hdep hW K hK;rw[if_pos (show Region.wanted _ _=true from rfl)];have hsz2:listed.size=26:=hsz;clear hsz;have hK0:∀ w2,MapW w1.drew mb zz pp ll (listed.setIfInBounds 24 true) w2→K (a.put (some 24) (.map (some mb))) w2:=hK;clear hK;have d0:listed.getD 0 false=true:=hdep ⟨0,.data⟩ (by simp) rfl;have f5:a.tmps[(5:Nat)]?=some (.map (some mb)):=hF.new 0 5 (by kernel_rfl) (by kernel_rfl) d0;clear hF hdep
   go_simp
   exact hK0 _ (JM hW 24 (by omega) hun (by decide))
  rcases List.mem_cons.1 hi with rfl|hi
  ·intro o ho;simp only[List.getElem?_toArray,List.getElem?_cons_zero,List.getElem?_cons_succ,Option.some.injEq]at ho;subst ho;intro listed a w' hF hsz hun hdep hW K hK;rw[if_pos (show Region.wanted _ _=true from rfl)];have hsz2:listed.size=26:=hsz;clear hsz;have hK0:∀ w2,MapW w1.drew mb zz pp ll (listed.setIfInBounds 25 true) w2→K (a.put (some 4) (.map (some mb))) w2:=hK;clear hK;have d24:listed.getD 24 false=true:=hdep ⟨24,.data⟩ (by simp) rfl;have f24:a.tmps[(24:Nat)]?=some (.map (some mb)):=hF.new 24 24 (by kernel_rfl) (by kernel_rfl) d24;clear hF hdep
   go_simp
   exact hK0 _ (JM hW 25 (by omega) hun (by decide))
  cases hi
 ·intro listed w' hall hW;obtain⟨hlw,n,-, hmap⟩:=hW.2 (hall 0 (by decide));rw[hall 4 (by decide),hall 8 (by decide),hall 13 (by decide),hall 18 (by decide),hall 23 (by decide)]at hmap;have HMAP:=Hd hmap;clear hmap hW hall;simp[finA,Zhf,Act.put,mapV];have hl2:Later w1 w':=Later.trans (Later.drew (Later.refl _)) hlw;clear hHeld hlw
  obtain⟨mv,hmv⟩:∃ mv,mapF true true true true true zz pp ll ll zz kd=mv:=⟨_,rfl⟩
  obtain⟨k0,k1,k2,k3⟩:=HC.out w' hl2;have HMV:=Hd hmv;clear hmv;cases mv
  ·have hLK:∀ W,W=w'→(Instr.lookup 157 (.map (some mb)) (.int .i64 kd) false).run Tryz.prog W=.ok (.bool false) W:=fun W e=>by rw[e,HMAP.out.lookup Tryz.underlying157 hIk,HMV.out]
   have hLK:=hLK w' rfl
   go_wp2_with fail
   go_ret
   rw[HMV.out];exact⟨rfl,hl1.trans hl2⟩
  ·have hLK:(Instr.lookup 157 (.map (some mb)) (.int .i64 kd) false).run Tryz.prog w'=.ok (.bool true) w':=by rw[HMAP.out.lookup Tryz.underlying157 hIk,HMV.out]
   go_wp2_with (first
    |(go_at_call 23;(with_reducible refine(HIN.out _).mono ?_);rintro e w2 ⟨rfl,rfl⟩)
    |fail)
   go_ret
   rw[HMV.out];exact⟨by simp,hl1.trans hl2⟩
end Go.Proofs.YtbchkjfnakabkaaGreatDoor
