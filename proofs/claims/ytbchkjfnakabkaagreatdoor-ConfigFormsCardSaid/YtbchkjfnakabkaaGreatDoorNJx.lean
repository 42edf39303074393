import Derived.Test.YtbchkjfnakabkaaGreatDoorNI
import Derived.Test.YtbchkjfnakabkaaGreatDoorNMB
import Derived.Test.YtbchkjfnakabkaaGreatDoorYP
import Derived.Test.YtbchkjfnakabkaaGreatDoorYM
set_option linter.unusedSimpArgs false
set_option linter.unusedVariables false
set_option maxHeartbeats 16000000
set_option maxRecDepth 100000
namespace Go.Proofs.YtbchkjfnakabkaaGreatDoor
open Go.RowKit PX PC Go.Shelf Go.Maps
open Go.Act renaming put → p0
open List renaming getElem_toArray → p1, getElem_cons_succ → p2, getElem_cons_zero → p3, setIfInBounds_toArray → p4, set_cons_zero → p5, set_cons_succ → p6
def lvB(a b:Vol):Bool:=decide (a.level≠b.level)
def Gt(l:List Vol)(j:Nat)(k:Int):Bool:=(l.take j).any fun v=>decide (v.level=k)
theorem ZaF(l:List Vol):(fun _:Int=>false)=Gt l 0:=by funext k;simp[Gt]
theorem ZaG(l:List Vol)(j:Nat)(h:j<l.length)(x:Vol)(hx:l[j]=x):(fun k=>if k=x.level then true else Gt l j k)=Gt l (j+1):=by
 funext k
 unfold Gt;rw[Zx h,hx,List.any_append];by_cases e:k=x.level
 ·simp[e]
 ·have:decide (x.level=k)=false:=decide_eq_false (fun q=>e q.symm);simp[e,this]
theorem Zcg(l:List Vol)(j:Nat)(h:j<l.length)(x:Vol)(hx:l[j]=x)(hp:Xc lvB (l.take j)=true):Xc lvB (l.take (j+1))=!Gt l j x.level:=by
 rw[Zx h,pairB_snoc,hp,hx,Bool.true_and];unfold Gt lvB;generalize l.take j=m
 induction m with
 |nil=>rfl
 |cons y m ih=>rw[List.all_cons,ih,List.any_cons];by_cases e:y.level=x.level<;>simp[e]
theorem Zgk{l:List Vol}(h:∀ x∈l,0≤x.first∧x.first≤4096):∃ d:List VolB,d.map (·.1)=l:=by
 induction l with
 |nil=>exact⟨[],rfl⟩
 |cons x l ih=>
  obtain⟨d,hd⟩:=ih fun y hy=>h y (List.mem_cons_of_mem _ hy)
  exact⟨⟨x,h x (List.mem_cons_self ..)⟩::d,by rw[List.map_cons,hd]⟩
theorem ZdB{w:World}{B g cap:Nat}{l:List Vol}(d:List VolB)(hd:d.map (·.1)=l)(h:w.ownsRow B 28 4 (.slice (some ⟨g,0,none⟩) l.length cap) l.length (ZE volC l)):Go.Sort.HoldsK encB 4 w g 0 d.toArray:=by
 intro j hj;rw[Go.Sort.size_flatK,List.size_toArray]at hj;have hl:l.length=d.length:=by rw[←hd,List.length_map]
 have hj4:j/4<l.length:=by omega
 have hm:j%4<4:=Nat.mod_lt _ (by decide);have e1:j=j/4*4+j%4:=by omega
 have hc:=h.cellAt j (by omega);have hf:=h.frozenAt j;rw[Nat.zero_add];refine⟨?_,hf⟩;rw[hc,Go.Sort.get_flatK _ _ _ _ (by rw[List.size_toArray];omega)];have h2:=YQ volC 4 (fun _=>rfl) l (j/4) hj4 (j%4) hm;rw[←e1]at h2;rw[h2];have hj5:j/4<d.length:=by omega
 have e2:l[j/4]=(d[j/4]).1:=by subst hd;simp
 rw[e2];have e3:d.toArray[j/4]! = d[j/4]:=by simp[hj5]
 rw[e3];have hq:j%4<(encB d[j/4]).length:=hm;rw[getElem!_pos (encB d[j/4]) (j%4) hq];exact List.getElem?_eq_getElem hq
theorem Zg4{c:Cfg}(hS:UR c)(ha:(ext0 c).all (XW c)=true)(hb:inB c.boot 0 (c.sectors - 2)=true):(∀x∈c.exts,0≤x.first∧x.first≤4096)∧(∀x∈c.exts,1≤x.count)∧∀ x∈c.exts,x.count≤4096:=by
 have hx:∀ x∈c.exts,0≤x.first∧x.first≤4096∧1≤x.count∧x.count≤4096:=fun x hx=>by
  have e:c.exts=ext0 c++[⟨0,c.boot,2,0⟩]:=by unfold Cfg.exts ext0;simp
  rw[e]at hx;rcases List.mem_append.1 hx with hx|hx
  ·have:=ZdO hS (List.all_eq_true.1 ha x hx);omega
  ·rw[List.mem_singleton.1 hx];rw[ZR]at hb;have:=hS.2;refine⟨hb.1,?_,?_,?_⟩
   ·show c.boot≤4096;omega
   ·show(1:Int)≤2;omega
   ·show(2:Int)≤4096;omega
 exact⟨fun x h=>⟨(hx x h).1,(hx x h).2.1⟩,fun x h=>(hx x h).2.2.1,fun x h=>(hx x h).2.2.2⟩
theorem Gg(c:Cfg):c.exts=ext0 c++[⟨0,c.boot,2,0⟩]:=by unfold Cfg.exts ext0;simp
theorem Qx(c:Cfg):(ext0 c).length=c.volumes.length+1:=by unfold ext0;simp
theorem WB{a w:World}{B n:Nat}{v:Value}{xs:List Value}(hl:Later a w)(h:a.ownsRow B 28 4 v n xs):w.ownsRow B 28 4 v n xs:=by
 refine⟨h.1,?_⟩;rcases h.2 with h|⟨g,cap,cur,h1,h2,h3,h4⟩
 ·exact .inl h
 ·exact .inr ⟨g,cap,cur,h1,h2,hl.block h3,h4⟩
theorem Zf8{l e:List Vol}{d:List VolB}(h:l.Perm (d.map (·.1)))(hd:d.map (·.1)=e):l.Perm e:=hd▸h
theorem ZdS{w:World}{B g cap el:Nat}{c:Cfg}{d:List VolB}(hd:d.map (·.1)=c.exts)(hd8:d.length=(ext0 c).length+1)(hd9:d.length≤12)(hel:(ext0 c).length=el)
 (h:w.ownsRow B 28 4 (.slice (some ⟨g,0,none⟩) (el+1) cap) (el+1) (ZE volC (ext0 c)++[.int .i64 0,.int .i64 c.boot,.int .i64 2,.int .i64 0])) :
 Calls Tryz.prog 121 #[.slice (some ⟨g,0,none⟩) (el+1) cap,.func (.func 122) #[] #[]] w (Zaf g (d.map (·.1)) w):=by
 have e1:c.exts.length=el+1:=by rw[←hd,List.length_map,hd8,hel]
 have e2:ZE volC (ext0 c)++[.int .i64 0,.int .i64 c.boot,.int .i64 2,.int .i64 0]=ZE volC c.exts:=by rw[Gg,XQ];rfl
 rw[e2]at h;have hg:=(h.lt g rfl).2;have:=Zez w g cap d.toArray (ZdB (cap:=cap) d hd (by rw[e1];exact h)) hg (by rw[List.size_toArray];exact hd9);rw[List.size_toArray,hd8,hel]at this;exact this
theorem Zab:∀ {l:List Vol} {k:Nat},XJ (l.take k)=false→XJ l=false
 |[],k,h=>by simp at h;exact h
 |[x],0,h=>by simp[XJ]at h
 |[x],k+1,h=>by simp[XJ]at h
 |x::y::l,0,h=>by simp[XJ]at h
 |x::y::l,1,h=>by simp[XJ]at h
 |x::y::l,k+2,h=>by
  simp only[List.take_succ_cons,XJ]at h ⊢;rw[Bool.and_eq_false_iff]at h ⊢;rcases h with h|h
  ·exact .inl h
  ·exact .inr (Zab (l:=y::l) (k:=k+1) (show XJ (List.take (k+1) (y::l))=false from h))
end Go.Proofs.YtbchkjfnakabkaaGreatDoor
namespace Go.Proofs.YtbchkjfnakabkaaGreatDoor
open Go.RowKit PX PC Go.Shelf Go.Maps
open Go.Act renaming put → p0
open List renaming getElem_toArray → p1, getElem_cons_succ → p2, getElem_cons_zero → p3, setIfInBounds_toArray → p4, set_cons_zero → p5, set_cons_succ → p6
theorem ZfD(w:World)(fb:Nat)(c:Cfg)(vF vP vW vO vV vR vK lv:Value)(h:FormIn w fb c vF vP vW vO vV vR vK lv)(hI:CfgI c)(hW:CfgW c)(hL:U7 c)
 (hyes:(((inB c.sectors 1 4096&&decide (c.volumes.length≤8))&&((ext0 c).all (XW c)&&c.volumes.all (JB c)))&&(decide (c.audit.level=0)&&inB c.boot 0 (c.sectors - 2)))=true) :
 Calls Tryz.prog 101 #[.pointer (some ⟨fb,0,none⟩)] w fun e w'=>e=.returned (.bool c.diskB)∧Later w w':=by
 have hmm:=@run_makeMap Tryz.prog;obtain⟨iV,hiV,hz0,hz1,hz2⟩:=info_parts E6;simp only[Bool.and_eq_true,decide_eq_true_eq]at hyes;obtain⟨⟨⟨hw,h8⟩,ha,hb⟩,hz,hbt⟩:=hyes;have hSec:UR c:=ZR.1 hw
 have hD:c.diskB=(Xc lvB c.volumes&&Xc Yk c.exts):=by
  unfold Cfg.diskB;rw[hw,decide_eq_true h8,show(c.volumes++[c.audit]).all (XW c)=true from ha,hb,decide_eq_true hz,hbt];simp only[Bool.true_and];rfl
 have HX:=Hd (Zg4 hSec ha hbt);have hsw:IntKind.i64.wrap (c.sectors - 2)=c.sectors - 2:=by have:=hSec.1;have:=hSec.2;rw[IntKind.wrap_i64];omega
 have HSP:=Hd hD;clear hD;obtain⟨a5,c5,rfl,q0,q1,q2⟩:=Zm h.rV;obtain⟨cb,w1,hcb,hw1,hlw,hblk,hcell⟩:=Vf (w:=w) (fb:=fb);have h1:=h.later hlw;have hfl:=h1.lt;have HC:=Hd (fun(w':World) (hl:Later w1 w')=>And.intro (hl.cell hcell) (And.intro (show w'.cell? ⟨fb,5,none⟩=some (.slice a5 c.volumes.length c5) from(h1.later hl).cell 5) (And.intro (show w'.cell? ⟨fb,6,none⟩=some (.int .i64 c.audit.level) from(h1.later hl).cell 6) (And.intro (show w'.cell? ⟨fb,7,none⟩=some (.int .i64 c.audit.first) from(h1.later hl).cell 7) (And.intro (show w'.cell? ⟨fb,8,none⟩=some (.int .i64 c.audit.count) from(h1.later hl).cell 8) (show w'.cell? ⟨fb,9,none⟩=some (.int .i64 c.audit.journal) from(h1.later hl).cell 9))))));have HH:=Hd (And.intro h1 (And.intro hlw hcell));have HVI:=Hd (h.rV);have HW1:=Hd hw1;have e20:(c.volumes.length+[c.audit].length)*32≤140737488355328:=by unfold CfgW at hW;simp only[List.length_cons,List.length_nil];omega
 have HCAT:=Hd (fun(w':World) (b2 cap2 b1:Nat) (hl:Later w1 w') (k0:w'.cell? ⟨b2,0,none⟩=some (.slice a5 c.volumes.length c5)) (k1:w'.cell? ⟨b2,1,none⟩=some (.slice (some ⟨b1,0,none⟩) 1 1)) (kb:w'.heap[b1]?=some (.cells #[.int .i64 c.audit.level,.int .i64 c.audit.first,.int .i64 c.audit.count,.int .i64 c.audit.journal] 28 (0,0)))=>
  GY w' b2 cap2 _ _ c.volumes [c.audit] (h1.rV.later hl) ⟨some ⟨b1,0,none⟩,1,rfl,Nat.le_refl _,by omega,by simp,.inr ⟨b1,0,rfl,Za kb,fun i hi j hj=>by
   have hi0:i=0:=by simp at hi;omega
   subst hi0;rw[Zb kb];rw[Nat.zero_mul,Nat.add_zero,Nat.zero_add]
   simp[volC]⟩⟩ k0 k1 (by simp) e20)
 clear hw1 h h1 hlw hblk hcell e20
 obtain⟨W2,hW2⟩:∃ W2,(((w1.alloc (.cells #[.int .i64 c.audit.level,.int .i64 c.audit.first,.int .i64 c.audit.count,.int .i64 c.audit.journal] 28)).alloc (.cells #[.slice a5 c.volumes.length c5,.slice (some ⟨w1.heap.size,0,none⟩) 1 1] 26)).drew)=W2:=⟨_,rfl⟩
 have hlW:Later w1 W2:=by rw[←hW2];exact(((Later.refl w1).alloc _).alloc _).drew
 have hkb:W2.heap[w1.heap.size]?=some (.cells #[.int .i64 c.audit.level,.int .i64 c.audit.first,.int .i64 c.audit.count,.int .i64 c.audit.journal] 28 (0,0)):=by rw[←hW2];exact Vd (Zd (Ze w1 _) _)
 have hk2:W2.heap[w1.heap.size+1]?=some (.cells #[.slice a5 c.volumes.length c5,.slice (some ⟨w1.heap.size,0,none⟩) 1 1] 26 (0,0)):=by rw[←hW2];exact Vd (Zt (by simp))
 have HCAT2:=Hd (HCAT.out W2 (w1.heap.size+1) 2 w1.heap.size hlW (Zb hk2 0) (Zb hk2 1) hkb);have HW2:=Hd (And.intro hW2 hlW);clear hW2 hlW hkb hk2 HCAT;have hex:c.volumes++[c.audit]=ext0 c:=rfl;rw[hex]at HCAT2;have HS1:=Hd (fun w2=>Xw w2 c.sectors 1 4096);have HBT:=Hd (fun w2=>Xw w2 c.boot 0 (c.sectors - 2))
 have HA1:=Hd (fun(w3:World) (v:Value) (hl3:Later w1 w3) (hown:w3.ownsRow W2.heap.size 28 4 v (ext0 c).length (ZE volC (ext0 c))) (hS:UR c) (hv8:c.volumes.length≤8) (w2:World) (h2:Later w3 w2)=>
  QF w2 v (ext0 c) ((ZcT (by unfold ext0;simp;omega) hown).row.later h2) 118 #[.pointer (some ⟨cb,0,none⟩)] (enters_of Tryz.func118 (by kernel_rfl) rfl) (XW c) (by unfold ext0;simp;omega)
   (fun w4 h4 x hx=>WR w4 cb fb c x (Zga hI x hx) (((hl3.trans h2).trans h4).cell HH.out.2.2) ((HH.out.1.later ((hl3.trans h2).trans h4)).cell 11) hS))
 have HA2:=Hd (fun(hL:U7 c) (hS:UR c) (hA:(ext0 c).all (XW c)=true) (w2:World) (h2:Later w1 w2)=>
  QF w2 _ c.volumes (HH.out.1.rV.later h2) 119 #[.pointer (some ⟨cb,0,none⟩)] (enters_of Tryz.func119 (by kernel_rfl) rfl) (JB c) (by omega)
   (fun w4 h4 x hx=>WQ w4 cb fb c x (by have:=ZdO hS (List.all_eq_true.1 hA x (by unfold ext0;exact List.mem_append_left _ hx));omega) ((h2.trans h4).cell HH.out.2.2) ((HH.out.1.later (h2.trans h4)).cell 0) hL))
 obtain⟨s1,hs1⟩:∃ b,inB c.sectors 1 4096=b:=⟨_,rfl⟩
 obtain⟨A1,hA1⟩:∃ b,(ext0 c).all (XW c)=b:=⟨_,rfl⟩
 obtain⟨A2,hA2⟩:∃ b,c.volumes.all (JB c)=b:=⟨_,rfl⟩
 obtain⟨bt,hbt⟩:∃ b,inB c.boot 0 (c.sectors - 2)=b:=⟨_,rfl⟩
 have HB:=Hd (And.intro hs1 (And.intro hA1 (And.intro hA2 hbt)));rw[hs1]at HS1;rw[hbt]at HBT;rw[hA1]at HA1;rw[hA2]at HA2;clear hs1 hA1 hA2 hbt hex
 obtain⟨n,hn⟩:∃ n,c.volumes.length=n:=⟨_,rfl⟩
 have HN:=Hd hn;rw[hn]at q0 q2 HC HW2 HA2;clear hn;obtain⟨k0,k1,k2,k3,k4,k5⟩:=HC.out w1 (Later.refl _);have HC4:=Hd (fun(w':World) (hl:Later w1 w')=>And.intro (hl.cell HH.out.2.2) (And.intro (HC.out w' hl).2.1 (And.intro (HC.out w' hl).2.2.1 (And.intro (show w'.cell? ⟨fb,10,none⟩=some (.int .i64 c.boot) from(HH.out.1.later hl).cell 10) (show w'.cell? ⟨fb,11,none⟩=some (.int .i64 c.sectors) from(HH.out.1.later hl).cell 11)))));obtain rfl:s1=true:=HB.out.1.symm.trans hw;obtain rfl:A1=true:=HB.out.2.1.symm.trans ha;obtain rfl:A2=true:=HB.out.2.2.1.symm.trans hb;obtain rfl:bt=true:=HB.out.2.2.2.symm.trans hbt;have hd8:decide ((8:Int)<(n:Int))=false:=decide_eq_false (by have:=HN.out;omega);have hzz:(c.audit.level != 0)=false:=by simpa using hz
 have HBOOT:=Hd (ZR.1 hbt);clear hw ha hb hbt hz
 go_enter Tryz.func101,Tryz.ntmps101
 go_upto_region 1 with fail
 rw[HW1.out]
 go_region_held3 (fun w'=>w'.cell? ⟨cb,0,none⟩=some (.pointer (some ⟨fb,0,none⟩))∧w'.cell? ⟨fb,5,none⟩=some (.slice a5 n c5)∧w'.cell? ⟨fb,6,none⟩=some (.int .i64 c.audit.level)∧w'.cell? ⟨fb,7,none⟩=some (.int .i64 c.audit.first)∧w'.cell? ⟨fb,8,none⟩=some (.int .i64 c.audit.count)∧w'.cell? ⟨fb,9,none⟩=some (.int .i64 c.audit.journal))
  (exact(fun hl=>(HC.out _ hl)) La)
  (first
   |(go_at_call 117;rw[HW2.out.1];(with_reducible refine HCAT2.out.mono ?_);rintro e w3 ⟨v,rfl,hown,hlc⟩;have hl3:=HW2.out.2.trans hlc;have HOWN:=Hd hown;clear hown hlc)
   |fail)
 go_upto_region 4 with fail
 obtain⟨j0,j1,j2,j3,j4⟩:=HC4.out w3 hl3;clear k0 k1 k2 k3 k4 k5;refine wp_region_held_drew (S:=fun w'=>w'.cell? ⟨cb,0,none⟩=some (.pointer (some ⟨fb,0,none⟩))∧w'.cell? ⟨fb,5,none⟩=some (.slice a5 n c5)∧w'.cell? ⟨fb,6,none⟩=some (.int .i64 c.audit.level)∧w'.cell? ⟨fb,10,none⟩=some (.int .i64 c.boot)∧w'.cell? ⟨fb,11,none⟩=some (.int .i64 c.sectors)) (by kernel_rfl) (HC4.out _ La) (fun hHeld=>?_);refine tkS 0 hHeld ?_;refine tkS 1 hHeld ?_;refine tkS 2 hHeld ?_;refine tkS 3 hHeld ?_;refine tkS 4 hHeld ?_;refine wpAnyH_ready (rs:=[5]) (by kernel_rfl) (by simp) ?_;refine AllReadyH.cons rfl (fun K hK=>?_) AllReadyH.nil
 go_simp
 refine(HS1.out _).mono ?_;rintro e w4 ⟨rfl,rfl⟩;refine hK.out _ _ ?_ (fun hHeld=>?_)
 ·exact HC4.out _ La
 clear hK K
 (try simp only[p0,p1,p2,p3,p4,p5,p6])
 refine tkS 6 hHeld ?_;refine tkS 7 hHeld ?_;refine tkS 8 hHeld ?_;refine tkS 9 hHeld ?_;refine tkS 10 hHeld ?_;refine tkS 11 hHeld ?_;refine tkS 12 hHeld ?_;refine tkS 13 hHeld ?_;refine tkS 14 hHeld ?_;refine tkS 15 hHeld ?_;refine tkS 16 hHeld ?_;refine tkS 17 hHeld ?_;refine tkS 18 hHeld ?_;refine wpAnyH_ready (rs:=[19]) (by kernel_rfl) (by simp) ?_;refine AllReadyH.cons rfl (fun K hK=>?_) AllReadyH.nil
 go_simp
 refine(HA1.out _ v hl3 HOWN.out hSec h8 _ La).mono ?_;rintro e w5 ⟨rfl,hl5⟩;refine hK.out _ _ ?_ (fun hHeld=>?_)
 ·exact HC4.out _ La
 clear hK K
 (try simp only[p0,p1,p2,p3,p4,p5,p6])
 refine tkS 20 hHeld ?_;refine tkS 21 hHeld ?_;refine tkS 22 hHeld ?_;refine tkS 23 hHeld ?_;refine tkS 24 hHeld ?_;refine tkS 25 hHeld ?_;refine tkS 26 hHeld ?_;refine tkS 27 hHeld ?_;refine tkS 28 hHeld ?_;refine wpAnyH_ready (rs:=[29]) (by kernel_rfl) (by simp) ?_;refine AllReadyH.cons rfl (fun K hK=>?_) AllReadyH.nil
 go_simp
 refine(HA2.out hL hSec HB.out.2.1 _ La).mono ?_;rintro e w6 ⟨rfl,hl6⟩;refine hK.out _ _ ?_ (fun hHeld=>?_)
 ·exact HC4.out _ La
 clear hK K
 (try simp only[p0,p1,p2,p3,p4,p5,p6])
 refine tkS 30 hHeld ?_;refine tkS 31 hHeld ?_;refine tkS 32 hHeld ?_;refine tkS 33 hHeld ?_;refine tkS 34 hHeld ?_;refine tkS 35 hHeld ?_;refine tkS 36 hHeld ?_;refine tkS 37 hHeld ?_;refine tkS 38 hHeld ?_;refine tkS 39 hHeld ?_;refine tkS 40 hHeld ?_;refine tkS 41 hHeld ?_;refine tkS 42 hHeld ?_;refine tkS 43 hHeld ?_;refine tkS 44 hHeld ?_;refine tkS 45 hHeld ?_;refine tkS 46 hHeld ?_;refine tkS 47 hHeld ?_;refine tkS 48 hHeld ?_;refine tkS 49 hHeld ?_;refine tkS 50 hHeld ?_;refine tkS 51 hHeld ?_;refine tkS 52 hHeld ?_;refine wpAnyH_ready (rs:=[53]) (by kernel_rfl) (by simp) ?_;refine AllReadyH.cons rfl (fun K hK=>?_) AllReadyH.nil
 go_simp
 refine(HBT.out _).mono ?_;rintro e w7 ⟨rfl,rfl⟩;refine hK.out _ _ ?_ (fun hHeld=>?_)
 ·exact HC4.out _ La
 clear hK K
 (try simp only[p0,p1,p2,p3,p4,p5,p6])
 refine tkS 54 hHeld ?_;refine tkS 55 hHeld ?_;refine wpAnyH_done (by kernel_rfl) ?_ _;have hl36:Later w3 w7:=La;have hl16:Later w1 w7:=hl3.trans hl36;have HOWN6:=Hd (WB hl36 HOWN.out)
 obtain⟨mb,hmb⟩:∃ mb,w7.heap.size=mb:=⟨_,rfl⟩
 obtain⟨wm,hwm⟩:∃ wm,w7.alloc (.map #[] 0)=wm:=⟨_,rfl⟩
 have hlm:Later w7 wm:=by rw[←hwm];exact(Later.refl _).alloc _
 have hbm0:BMap wm mb 0 (Gt c.volumes 0):=by rw[←hwm,←hmb,←ZaF];exact BMap.made w7
 have HMB:=Hd (show w7.heap.size≤mb by omega);have HMB2:=Hd hmb;have HWM:=Hd hwm;clear hmb hwm j0 j1 j2 j3 j4 hl5 hl6 hl36
 go_upto_region 7 with fail
 rw[HWM.out,HMB2.out];obtain⟨j0,j1,j2,j3,j4⟩:=HC4.out wm (hl16.trans hlm)
 go_wp2_with fail
 go_loopw [88] (fun vi wr=>∃ j:Nat,j≤n∧vi=.int .i64 (j:Int)∧BMap wr mb j (Gt c.volumes j)∧Xc lvB (c.volumes.take j)=true∧Later w7 wr) (fun vi _=>n - (intOf vi).toNat)
 case atStart=>exact⟨0,by omega,rfl,hbm0,rfl,hlm⟩
 case round=>
  obtain⟨j,hj,rfl,hbm,hp,hb⟩:=hrel;clear hbm0 j0 j1 j2 j3 j4;have hl0r:Later w wr:=(HH.out.2.1.trans hl16).trans hb;by_cases hlt:j<n
  ·have hlt2:j<c.volumes.length:=by rw[HN.out];exact hlt
   obtain⟨b,o,rfl,hb',hcc⟩:=ZG (HVI.out.later hl0r) hlt2
   obtain⟨x,hx⟩:∃ x,c.volumes[j]=x:=⟨_,rfl⟩
   have HSS:=Hd (And.intro (ZaG c.volumes j hlt2 x hx) (Zcg c.volumes j hlt2 x hx hp));have hxI:=hI.volumes x (by rw[←hx];exact List.getElem_mem hlt2);rw[hx]at hcc;clear hx;obtain⟨x1,x2,x3,x4⟩:=x;have hk1:-9223372036854775808≤x1∧x1≤9223372036854775807:=hxI.1 x1 (by simp);have c0:=hcc 0 (by omega);have c1:=hcc 1 (by omega);have c2:=hcc 2 (by omega);have c3:=hcc 3 (by omega);simp only[volC,List.getElem?_cons_zero,List.getElem?_cons_succ,Nat.add_zero]at c0 c1 c2 c3
   obtain⟨s,hs⟩:∃ s,Gt c.volumes j x1=s:=⟨_,rfl⟩
   have HS:=Hd hs;have HBM:=Hd (hbm.later ((Later.refl wr).alloc (.cells #[.int .i64 x1,.int .i64 x2,.int .i64 x3,.int .i64 x4] 28)));have HPP:=Hd hp;have HXI:=Hd hxI;clear hcc hbm hs hp hxI;cases s
   ·go_wp2_with (first
     |(at_lookup;refine YU rfl _ _ 157 rfl Tryz.underlying157 mb j _ rfl HBM.out x1 rfl hk1 ?_;rw[HS.out])
     |(at_mapUpdate;refine VT rfl _ _ _ 157 rfl Tryz.underlying157 mb j _ rfl HBM.out (by unfold maxLen;omega) x1 true rfl rfl hk1 ?_;intro w8 hbm8 hg8)
     |fail)
    refine⟨⟨j+1,by omega,by simp,?_,?_,?_⟩,by simp only[intOf];omega⟩
    ·rw[←HSS.out.1];exact hbm8
    ·rw[HSS.out.2,HS.out];rfl
    ·exact Later.grown (hb.alloc _) hg8 (fun k e=>by cases e;exact HMB.out)
   ·go_wp2_with (first
     |(at_lookup;refine YU rfl _ _ 157 rfl Tryz.underlying157 mb j _ rfl HBM.out x1 rfl hk1 ?_;rw[HS.out])
     |fail)
    go_ret
    refine⟨Zs ?_,hl0r.alloc _⟩;have h1:Xc lvB c.volumes=false:=Qj (j+1) (by rw[HSS.out.2,HS.out];rfl);rw[HSP.out,h1,Bool.false_and]
  ·obtain rfl:j=n:=by omega
   have hpp:Xc lvB c.volumes=true:=by
    rw[←HN.out,List.take_length]at hp;exact hp
   have HPP:=Hd hpp;clear hp hpp hbm;have hown:=WB hb HOWN6.out;obtain⟨j0,j1,j2,j3,j4⟩:=HC4.out wr (hl16.trans hb);have HO:=Hd hown;have hl1r:Later w1 wr:=hl16.trans hb;have hW12:w1.heap.size≤W2.heap.size:=HW2.out.2.out.size;have hw1:w.heap.size≤w1.heap.size:=HH.out.2.1.out.size
   have hbase:W2.heap.size≤wr.heap.size:=by
    obtain⟨g,cap,e,-, -⟩:=Ys hown (by rw[Qx];omega);have:=hown.lt g (by rw[e];rfl);omega
   obtain⟨d,hd⟩:=Zgk HX.out.1;have hd8:d.length=(ext0 c).length+1:=by rw[←List.length_map (f:=fun(x:VolB)=>x.1),hd,Gg];simp
   have hd9:d.length≤12:=by rw[hd8,Qx];omega
   have he9:(ext0 c).length≤9:=by rw[Qx];omega
   have HDD:=Hd (And.intro hd (And.intro hd8 hd9));have HL1:=Hd hl1r
   obtain⟨el,hel⟩:∃ el,(ext0 c).length=el:=⟨_,rfl⟩
   have HEL:=Hd hel;rw[hel]at he9 HO;clear hown hd hd8 hd9 hl1r hel hW12 hw1
   go_wp2_with (first
    | (at_builtin;refine wpList_append_own _ rfl (.tmp 100) (.tmp 107) 26 rfl W2.heap.size 28 iV (.agg #[.int .i64 0,.int .i64 0,.int .i64 0,.int .i64 0]) 4 32 Tryz.underlying26 hiV hz0 hz1 hz2 rfl (by decide) v el (ZE volC (ext0 c)) rfl (HO.out.alloc _) ⟨wr.heap.size,0,none⟩ 1 1 [.int .i64 0,.int .i64 c.boot,.int .i64 2,.int .i64 0] rfl rfl (XC wr [.int .i64 0,.int .i64 c.boot,.int .i64 2,.int .i64 0] 28) (by intro u hu;simp only [List.mem_cons,List.not_mem_nil,or_false] at hu;(repeat' (rcases hu with hu | hu))<;>(subst_vars;rfl)) (by unfold maxLen;omega) (by omega) (by simp;omega) ?_
       intro v9 w9 hown9 hgrow9 _;obtain⟨g,cap,rfl,hc1,hc2⟩:=Ys hown9 (by omega);have hgl:=hown9.lt g rfl;have HS9:=Hd (ZdS HDD.out.1 HDD.out.2.1 HDD.out.2.2 HEL.out hown9);have HL9:=Hd (show Later w w9 from(HH.out.2.1.trans (Later.grown (HL1.out.alloc _) hgrow9 (fun k e=>by have h5:=((HO.out.alloc (.cells #[.int .i64 0,.int .i64 c.boot,.int .i64 2,.int .i64 0] 28)).lt k e).1;have h6:=HW2.out.2.out.size;omega))));have hgw:w.heap.size≤g:=by have h6:=HW2.out.2.out.size;have h7:=HH.out.2.1.out.size;omega
       clear hown9 hgrow9)
    |(go_at_call 121;(with_reducible refine HS9.out.mono ?_);rintro e w10 ⟨l,rfl,hperm,hsrt,hcl,hon⟩;have hl10:Later w w10:=Below.trans HL9.out (hon.below HL9.out.out.size (fun k hk=>by have:k=g:=hk;omega));have HQ:=Hd (And.intro hperm (And.intro hsrt hcl));clear hperm hsrt hcl hon)
    |fail)
   have hll:l.length=el+1:=by rw[HQ.out.1.length_eq,HDD.out.1,Gg,List.length_append,HEL.out];rfl
   have HLL:=Hd hll
   have hmem:∀ x∈l,(0≤x.first∧x.first≤4096)∧x.count≤4096∧1≤x.count:=fun x hx=>by
    have:=HQ.out.1.mem_iff.1 hx;rw[HDD.out.1]at this;exact⟨HX.out.1 x this,HX.out.2.2 x this,HX.out.2.1 x this⟩
   have HME:=Hd hmem
   have hgb:g<w10.heap.size:=by
    have h0:=HQ.out.2.2 0 (by omega) 0 (by omega);exact World.block_lt_of_cell? w10 ⟨g,0,none⟩ (u:=.int .i64 l[0].level) (by simpa [volC] using h0)
   clear hmem hll
   have hc1t:XJ (l.take (0+1))=true:=by
    cases l with
    |nil=>rfl
    |cons x l=>rfl
   go_wp2_with fail
   go_loopw [9] (fun vi wr2=>∃ k:Nat,k≤el∧vi=.int .i64 ((k+1:Nat):Int)∧XJ (l.take (k+1))=true∧Later w10 wr2) (fun vi _=>el+1 - (intOf vi).toNat)
   case atStart=>exact⟨0,by omega,rfl,hc1t,Later.refl _⟩
   case round=>
    obtain⟨k,hk,rfl,hch,hb2⟩:=hrel;clear hc1t;by_cases hlt2:k<el
    ·have hk0:k<l.length:=by have:=HLL.out;omega
     have hk1:k+1<l.length:=by have:=HLL.out;omega
     have HCS:=Hd (G0 l k hk1);rw[hch,Bool.true_and,List.getElem?_eq_getElem hk0]at HCS;have c0:=hb2.cell (p:=⟨g,k*4+1,none⟩) (HQ.out.2.2 k hk0 1 (by omega));have c1:=hb2.cell (p:=⟨g,k*4+2,none⟩) (HQ.out.2.2 k hk0 2 (by omega));have c2:=hb2.cell (p:=⟨g,(k+1)*4+1,none⟩) (HQ.out.2.2 (k+1) hk1 1 (by omega));have m0:=HME.out _ (List.getElem_mem hk0);have m1:=HME.out _ (List.getElem_mem hk1);have hf1:fst l (k+1)=l[k+1].first:=by unfold fst;rw[List.getElem?_eq_getElem hk1];rfl
     rw[hf1]at HCS
     obtain⟨x,hx⟩:∃ x,l[k]=x:=⟨_,rfl⟩
     obtain⟨y,hy⟩:∃ y,l[k+1]=y:=⟨_,rfl⟩
     rw[hx]at c0 c1 m0 HCS;rw[hy]at c2 m1 HCS;clear hx hy hf1;obtain⟨x1,x2,x3,x4⟩:=x;obtain⟨y1,y2,y3,y4⟩:=y;simp only[volC,List.getElem?_cons_zero,List.getElem?_cons_succ]at c0 c1 c2 m0 m1;simp only[Option.map_some,Option.getD_some]at HCS;have hsub:IntKind.i64.wrap (((k+1:Nat):Int) - 1)=(k:Int):=by rw[IntKind.wrap_i64];omega
     have hsum:IntKind.i64.wrap (x2+x3)=x2+x3:=by rw[IntKind.wrap_i64];omega
     have hn0:¬ ((k:Int)<0):=by omega
     have hn1:¬ (((k+1:Nat):Int)<0):=by omega
     by_cases hle:x2+x3≤y2
     ·have hdd:decide (y2<x2+x3)=false:=decide_eq_false (by omega);rw[decide_eq_true hle]at HCS;clear hle
      go_upto_region 19 with fail
      go_region
      go_wp2_with fail
      refine⟨⟨k+1,by omega,by simp,HCS.out,hb2.drew⟩,by simp only[intOf];omega⟩
     ·have hdd:decide (y2<x2+x3)=true:=decide_eq_true (by omega);rw[decide_eq_false hle]at HCS;clear hle
      go_upto_region 19 with fail
      go_region
      go_wp2_with fail
      go_ret
      refine⟨Zs ?_,(hl10.trans hb2).drew⟩;have hno:XJ l=false:=Zab HCS.out;rw[HSP.out,←Zaa (Zf8 HQ.out.1 HDD.out.1) HQ.out.2.1 HX.out.2.1,hno,Bool.and_false]
    ·obtain rfl:k=el:=by omega
     go_wp2_with fail
     go_ret
     refine⟨Zs ?_,hl10.trans hb2⟩;have hyes:XJ l=true:=by rw[←hch,List.take_of_length_le (by rw[HLL.out];omega)]
     rw[HSP.out,←Zaa (Zf8 HQ.out.1 HDD.out.1) HQ.out.2.1 HX.out.2.1,hyes,HPP.out];rfl
end Go.Proofs.YtbchkjfnakabkaaGreatDoor
