import Derived.Test.YtbchkjfnakabkaaGreatDoorNI
import Derived.Test.YtbchkjfnakabkaaGreatDoorNMB
set_option linter.unusedSimpArgs false
set_option linter.unusedVariables false
set_option maxHeartbeats 16000000
set_option maxRecDepth 100000
namespace Go.Proofs.YtbchkjfnakabkaaGreatDoor
open Go.RowKit PX PC Go.Shelf Go.Maps
open Go.Act renaming put -> p0
open List renaming getElem_toArray -> p1, getElem_cons_succ -> p2, getElem_cons_zero -> p3, setIfInBounds_toArray -> p4, set_cons_zero -> p5, set_cons_succ -> p6
def lvB(a b:Vol):Bool:=decide (a.level≠b.level)
def GH(l:List Vol)(j:Nat)(k:Int):Bool:=(l.take j).any λv=>decide (v.level=k)
theorem Zbf(l:List Vol):(λ_:Int=>false)=GH l 0:=by funext k;simp[GH]
theorem Zbg(l:List Vol)(j:Nat)(h:j<l.length)(x:Vol)(hx:l[j]=x):(λk=>if k=x.level then true else GH l j k)=GH l (j+1):=by
 funext k
 unfold GH;rw[Zs h,hx,List.any_append];by_cases e:k=x.level
 ·simp[e]
 ·have:decide (x.level=k)=false:=decide_eq_false (λq=>e q.symm);simp[e,this]
theorem ZcY(l:List Vol)(j:Nat)(h:j<l.length)(x:Vol)(hx:l[j]=x)(hp:Z8 lvB (l.take j)=true):Z8 lvB (l.take (j+1))=!GH l j x.level:=by
 rw[Zs h,pairB_snoc,hp,hx,Bool.true_and];unfold GH lvB;generalize l.take j=m
 induction m with
 |nil=>rfl
 |cons y m ih=>rw[List.all_cons,ih,List.any_cons];by_cases e:y.level=x.level<;>simp[e]
theorem Zg6{l:List Vol}(h:∀ x∈l,0<=x.first/\x.first<=4096):∃ d:List VolB,d.map (·.1)=l:=by
 induction l with
 |nil=>exact⟨[],rfl⟩
 |cons x l ih=>
  obtain⟨d,hd⟩:=ih λy hy=>h y (List.mem_cons_of_mem _ hy)
  exact⟨⟨x,h x (List.mem_cons_self ..)⟩::d,by rw[List.map_cons,hd]⟩
theorem Zeh{w:World}{B g cap:Nat}{l:List Vol}(d:List VolB)(hd:d.map (·.1)=l)(h:w.ownsRow B 28 4 (.slice (some ⟨g,0,none⟩) l.length cap) l.length (ZG volC l)):Go.Sort.HoldsK encB 4 w g 0 d.toArray:=by
 intro j hj;rw[Go.Sort.size_flatK,List.size_toArray]at hj;have hl:l.length=d.length:=by rw[<-hd,List.length_map]
 have d2:j/4<l.length:=by omega
 have hm:j%4<4:=Nat.mod_lt _ (by decide);have e1:j=j/4*4+j%4:=by omega
 have hc:=h.cellAt j (by omega);have hf:=h.frozenAt j;rw[Nat.zero_add];refine⟨?_,hf⟩;rw[hc,Go.Sort.get_flatK _ _ _ _ (by rw[List.size_toArray];omega)];have h2:=YY volC 4 (λ_=>rfl) l (j/4) d2 (j%4) hm;rw[<-e1]at h2;rw[h2];have M1:j/4<d.length:=by omega
 have e2:l[j/4]=(d[j/4]).1:=by subst hd;simp
 rw[e2];have e3:d.toArray[j/4]! = d[j/4]:=by simp[M1]
 rw[e3];have hq:j%4<(encB d[j/4]).length:=hm;rw[getElem!_pos (encB d[j/4]) (j%4) hq];exact List.getElem?_eq_getElem hq
theorem ZhQ{c:Cfg}(hS:U5 c)(ha:(ext0 c).all (X1 c)=true)(hb:inB c.boot 0 (c.sectors - 2)=true):(∀x∈c.exts,0<=x.first/\x.first<=4096)/\(∀x∈c.exts,1<=x.count)/\∀ x∈c.exts,x.count<=4096:=by
 have hx:∀ x∈c.exts,0<=x.first/\x.first<=4096/\1<=x.count/\x.count<=4096:=λx hx=>by
  have e:c.exts=ext0 c++[⟨0,c.boot,2,0⟩]:=by unfold Cfg.exts ext0;simp
  rw[e]at hx;rcases List.mem_append.1 hx with hx|hx
  ·have:=Zeu hS (List.all_eq_true.1 ha x hx);omega
  ·rw[List.mem_singleton.1 hx];rw[ZI]at hb;have:=hS.2;refine⟨hb.1,?_,?_,?_⟩
   ·show c.boot<=4096;omega
   ·show(1:Int)<=2;omega
   ·show(2:Int)<=4096;omega
 exact⟨λx h=>⟨(hx x h).1,(hx x h).2.1⟩,λx h=>(hx x h).2.2.1,λx h=>(hx x h).2.2.2⟩
theorem Gu(c:Cfg):c.exts=ext0 c++[⟨0,c.boot,2,0⟩]:=by unfold Cfg.exts ext0;simp
theorem QT(c:Cfg):(ext0 c).length=c.volumes.length+1:=by unfold ext0;simp
theorem W3{a w:World}{B n:Nat}{v:Value}{xs:List Value}(hl:Later a w)(h:a.ownsRow B 28 4 v n xs):w.ownsRow B 28 4 v n xs:=by
 refine⟨h.1,?_⟩;rcases h.2 with h|⟨g,cap,cur,h1,h2,h3,h4⟩
 ·exact .inl h
 ·exact .inr ⟨g,cap,cur,h1,h2,hl.block h3,h4⟩
theorem ZgU{l e:List Vol}{d:List VolB}(h:l.Perm (d.map (·.1)))(hd:d.map (·.1)=e):l.Perm e:=hd▸h
theorem Zey{w:World}{B g cap el:Nat}{c:Cfg}{d:List VolB}(hd:d.map (·.1)=c.exts)(s0:d.length=(ext0 c).length+1)(O0:d.length<=12)(hel:(ext0 c).length=el)
 (h:w.ownsRow B 28 4 (.slice (some ⟨g,0,none⟩) (el+1) cap) (el+1) (ZG volC (ext0 c)++[.int .i64 0,.int .i64 c.boot,.int .i64 2,.int .i64 0])) :
 Calls Tryz.prog 121 #[.slice (some ⟨g,0,none⟩) (el+1) cap,.func (.func 122) #[] #[]] w (ZaN g (d.map (·.1)) w):=by
 have e1:c.exts.length=el+1:=by rw[<-hd,List.length_map,s0,hel]
 have e2:ZG volC (ext0 c)++[.int .i64 0,.int .i64 c.boot,.int .i64 2,.int .i64 0]=ZG volC c.exts:=by rw[Gu,XV];rfl
 rw[e2]at h;have hg:=(h.lt g rfl).2;have:=Zfi w g cap d.toArray (Zeh (cap:=cap) d hd (by rw[e1];exact h)) hg (by rw[List.size_toArray];exact O0);rw[List.size_toArray,s0,hel]at this;exact this
theorem ZaJ:∀ {l:List Vol} {k:Nat},XM (l.take k)=false->XM l=false
 |[],k,h=>by simp at h;exact h
 |[x],0,h=>by simp[XM]at h
 |[x],k+1,h=>by simp[XM]at h
 |x::y::l,0,h=>by simp[XM]at h
 |x::y::l,1,h=>by simp[XM]at h
 |x::y::l,k+2,h=>by
  simp only[List.take_succ_cons,XM]at h ⊢;rw[Bool.and_eq_false_iff]at h ⊢;rcases h with h|h
  ·exact .inl h
  ·exact .inr (ZaJ (l:=y::l) (k:=k+1) (show XM (List.take (k+1) (y::l))=false from h))
end Go.Proofs.YtbchkjfnakabkaaGreatDoor
namespace Go.Proofs.YtbchkjfnakabkaaGreatDoor
open Go.RowKit PX PC Go.Shelf Go.Maps
open Go.Act renaming put -> p0
open List renaming getElem_toArray -> p1, getElem_cons_succ -> p2, getElem_cons_zero -> p3, setIfInBounds_toArray -> p4, set_cons_zero -> p5, set_cons_succ -> p6
theorem Zgp(w:World)(fb:Nat)(c:Cfg)(vF vP vW vO vV vR vK lv:Value)(h:FormIn w fb c vF vP vW vO vV vR vK lv)(hI:CfgI c)(hW:CfgW c)(hL:El c)
 (f0:(((inB c.sectors 1 4096&&decide (c.volumes.length<=8))&&((ext0 c).all (X1 c)&&c.volumes.all (JR c)))&&(decide (c.audit.level=0)&&inB c.boot 0 (c.sectors - 2)))=true) :
 Calls Tryz.prog 101 #[.pointer (some ⟨fb,0,none⟩)] w λe w'=>e=.returned (.bool c.diskB)/\Later w w':=by
 have hmm:=@run_makeMap Tryz.prog;obtain⟨iV,hiV,hz0,hz1,hz2⟩:=info_parts Gh;simp only[Bool.and_eq_true,decide_eq_true_eq]at f0;obtain⟨⟨⟨hw,h8⟩,ha,hb⟩,hz,hbt⟩:=f0;have d0:U5 c:=ZI.1 hw
 have hD:c.diskB=(Z8 lvB c.volumes&&Z8 X4 c.exts):=by
  unfold Cfg.diskB;rw[hw,decide_eq_true h8,show(c.volumes++[c.audit]).all (X1 c)=true from ha,hb,decide_eq_true hz,hbt];simp only[Bool.true_and];rfl
 have HX:=Hd (ZhQ d0 ha hbt);have hsw:IntKind.i64.wrap (c.sectors - 2)=c.sectors - 2:=by have:=d0.1;have:=d0.2;rw[IntKind.wrap_i64];omega
 have g1:=Hd hD;clear hD;obtain⟨a5,c5,rfl,q0,q1,q2⟩:=Zl h.rV;obtain⟨cb,w1,hcb,N0,hlw,hblk,hcell⟩:=Vx (w:=w) (fb:=fb);have h1:=h.later hlw;have hfl:=h1.lt;have HC:=Hd (λ(w':World) (hl:Later w1 w')=>And.intro (hl.cell hcell) (And.intro (show w'.cell? ⟨fb,5,none⟩=some (.slice a5 c.volumes.length c5) from(h1.later hl).cell 5) (And.intro (show w'.cell? ⟨fb,6,none⟩=some (.int .i64 c.audit.level) from(h1.later hl).cell 6) (And.intro (show w'.cell? ⟨fb,7,none⟩=some (.int .i64 c.audit.first) from(h1.later hl).cell 7) (And.intro (show w'.cell? ⟨fb,8,none⟩=some (.int .i64 c.audit.count) from(h1.later hl).cell 8) (show w'.cell? ⟨fb,9,none⟩=some (.int .i64 c.audit.journal) from(h1.later hl).cell 9))))));have HH:=Hd (And.intro h1 (And.intro hlw hcell));have Z1:=Hd (h.rV);have L1:=Hd N0;have e20:(c.volumes.length+[c.audit].length)*32<=140737488355328:=by unfold CfgW at hW;simp only[List.length_cons,List.length_nil];omega
 have C0:=Hd (λ(w':World) (b2 cap2 b1:Nat) (hl:Later w1 w') (k0:w'.cell? ⟨b2,0,none⟩=some (.slice a5 c.volumes.length c5)) (k1:w'.cell? ⟨b2,1,none⟩=some (.slice (some ⟨b1,0,none⟩) 1 1)) (kb:w'.heap[b1]?=some (.cells #[.int .i64 c.audit.level,.int .i64 c.audit.first,.int .i64 c.audit.count,.int .i64 c.audit.journal] 28 (0,0)))=>
  Qg w' b2 cap2 _ _ c.volumes [c.audit] (h1.rV.later hl) ⟨some ⟨b1,0,none⟩,1,rfl,Nat.le_refl _,by omega,by simp,.inr ⟨b1,0,rfl,Zb kb,λi hi j hj=>by
   have R1:i=0:=by simp at hi;omega
   subst R1;rw[Za kb];rw[Nat.zero_mul,Nat.add_zero,Nat.zero_add]
   simp[volC]⟩⟩ k0 k1 (by simp) e20)
 clear N0 h h1 hlw hblk hcell e20
 obtain⟨W2,hW2⟩:∃ W2,(((w1.alloc (.cells #[.int .i64 c.audit.level,.int .i64 c.audit.first,.int .i64 c.audit.count,.int .i64 c.audit.journal] 28)).alloc (.cells #[.slice a5 c.volumes.length c5,.slice (some ⟨w1.heap.size,0,none⟩) 1 1] 26)).drew)=W2:=⟨_,rfl⟩
 have d1:Later w1 W2:=by rw[<-hW2];exact(((Later.refl w1).alloc _).alloc _).drew
 have v1:W2.heap[w1.heap.size]?=some (.cells #[.int .i64 c.audit.level,.int .i64 c.audit.first,.int .i64 c.audit.count,.int .i64 c.audit.journal] 28 (0,0)):=by rw[<-hW2];exact Vw (Ze (Zd w1 _) _)
 have R0:W2.heap[w1.heap.size+1]?=some (.cells #[.slice a5 c.volumes.length c5,.slice (some ⟨w1.heap.size,0,none⟩) 1 1] 26 (0,0)):=by rw[<-hW2];exact Vw (Zq (by simp))
 have l0:=Hd (C0.out W2 (w1.heap.size+1) 2 w1.heap.size d1 (Za R0 0) (Za R0 1) v1);have y0:=Hd (And.intro hW2 d1);clear hW2 d1 v1 R0 C0;have C1:c.volumes++[c.audit]=ext0 c:=rfl;rw[C1]at l0;have I1:=Hd (λw2=>XA w2 c.sectors 1 4096);have H1:=Hd (λw2=>XA w2 c.boot 0 (c.sectors - 2))
 have n1:=Hd (λ(w3:World) (v:Value) (v0:Later w1 w3) (b0:w3.ownsRow W2.heap.size 28 4 v (ext0 c).length (ZG volC (ext0 c))) (hS:U5 c) (hv8:c.volumes.length<=8) (w2:World) (h2:Later w3 w2)=>
  Q2 w2 v (ext0 c) ((ZdB (by unfold ext0;simp;omega) b0).row.later h2) 118 #[.pointer (some ⟨cb,0,none⟩)] (enters_of Tryz.func118 (by kernel_rfl) rfl) (X1 c) (by unfold ext0;simp;omega)
   (λw4 h4 x hx=>Dm w4 cb fb c x (ZgW hI x hx) (((v0.trans h2).trans h4).cell HH.out.2.2) ((HH.out.1.later ((v0.trans h2).trans h4)).cell 11) hS))
 have T0:=Hd (λ(hL:El c) (hS:U5 c) (hA:(ext0 c).all (X1 c)=true) (w2:World) (h2:Later w1 w2)=>
  Q2 w2 _ c.volumes (HH.out.1.rV.later h2) 119 #[.pointer (some ⟨cb,0,none⟩)] (enters_of Tryz.func119 (by kernel_rfl) rfl) (JR c) (by omega)
   (λw4 h4 x hx=>Dl w4 cb fb c x (by have:=Zeu hS (List.all_eq_true.1 hA x (by unfold ext0;exact List.mem_append_left _ hx));omega) ((h2.trans h4).cell HH.out.2.2) ((HH.out.1.later (h2.trans h4)).cell 0) hL))
 obtain⟨s1,hs1⟩:∃ b,inB c.sectors 1 4096=b:=⟨_,rfl⟩
 obtain⟨A1,hA1⟩:∃ b,(ext0 c).all (X1 c)=b:=⟨_,rfl⟩
 obtain⟨A2,hA2⟩:∃ b,c.volumes.all (JR c)=b:=⟨_,rfl⟩
 obtain⟨bt,hbt⟩:∃ b,inB c.boot 0 (c.sectors - 2)=b:=⟨_,rfl⟩
 have HB:=Hd (And.intro hs1 (And.intro hA1 (And.intro hA2 hbt)));rw[hs1]at I1;rw[hbt]at H1;rw[hA1]at n1;rw[hA2]at T0;clear hs1 hA1 hA2 hbt C1
 obtain⟨n,hn⟩:∃ n,c.volumes.length=n:=⟨_,rfl⟩
 have HN:=Hd hn;rw[hn]at q0 q2 HC y0 T0;clear hn;obtain⟨k0,k1,k2,k3,k4,k5⟩:=HC.out w1 (Later.refl _);have o0:=Hd (λ(w':World) (hl:Later w1 w')=>And.intro (hl.cell HH.out.2.2) (And.intro (HC.out w' hl).2.1 (And.intro (HC.out w' hl).2.2.1 (And.intro (show w'.cell? ⟨fb,10,none⟩=some (.int .i64 c.boot) from(HH.out.1.later hl).cell 10) (show w'.cell? ⟨fb,11,none⟩=some (.int .i64 c.sectors) from(HH.out.1.later hl).cell 11)))));obtain rfl:s1=true:=HB.out.1.symm.trans hw;obtain rfl:A1=true:=HB.out.2.1.symm.trans ha;obtain rfl:A2=true:=HB.out.2.2.1.symm.trans hb;obtain rfl:bt=true:=HB.out.2.2.2.symm.trans hbt;have s0:decide ((8:Int)<(n:Int))=false:=decide_eq_false (by have:=HN.out;omega);have hzz:(c.audit.level != 0)=false:=by simpa using hz
 have HBOOT:=Hd (ZI.1 hbt);clear hw ha hb hbt hz
 go_enter Tryz.func101,Tryz.ntmps101
 go_upto_region 1 with fail
 rw[L1.out]
 go_region_held3 (fun w'=>w'.cell? ⟨cb,0,none⟩=some (.pointer (some ⟨fb,0,none⟩))∧w'.cell? ⟨fb,5,none⟩=some (.slice a5 n c5)∧w'.cell? ⟨fb,6,none⟩=some (.int .i64 c.audit.level)∧w'.cell? ⟨fb,7,none⟩=some (.int .i64 c.audit.first)∧w'.cell? ⟨fb,8,none⟩=some (.int .i64 c.audit.count)∧w'.cell? ⟨fb,9,none⟩=some (.int .i64 c.audit.journal))
  (exact(λhl=>(HC.out _ hl)) La)
  (first
   |(go_at_call 117;rw[y0.out.1];(with_reducible refine l0.out.mono ?_);rintro e w3 ⟨v,rfl,b0,hlc⟩;have v0:=y0.out.2.trans hlc;have z0:=Hd b0;clear b0 hlc)
   |fail)
 go_upto_region 4 with fail
 obtain⟨j0,j1,j2,j3,j4⟩:=o0.out w3 v0;clear k0 k1 k2 k3 k4 k5;refine wp_region_held_drew (S:=λw'=>w'.cell? ⟨cb,0,none⟩=some (.pointer (some ⟨fb,0,none⟩))/\w'.cell? ⟨fb,5,none⟩=some (.slice a5 n c5)/\w'.cell? ⟨fb,6,none⟩=some (.int .i64 c.audit.level)/\w'.cell? ⟨fb,10,none⟩=some (.int .i64 c.boot)/\w'.cell? ⟨fb,11,none⟩=some (.int .i64 c.sectors)) (by kernel_rfl) (o0.out _ La) (λa0=>?_);refine tkS 0 a0 ?_;refine tkS 1 a0 ?_;refine tkS 2 a0 ?_;refine tkS 3 a0 ?_;refine tkS 4 a0 ?_;refine rd1 5 (λK hK=>?_)
 go_simp
 refine(I1.out _).mono ?_;rintro e w4 ⟨rfl,rfl⟩;refine hK.out _ _ ?_ (λa0=>?_)
 ·exact o0.out _ La
 clear hK K
 (try simp only[p0,p1,p2,p3,p4,p5,p6])
 refine tkS 6 a0 ?_;refine tkS 7 a0 ?_;refine tkS 8 a0 ?_;refine tkS 9 a0 ?_;refine tkS 10 a0 ?_;refine tkS 11 a0 ?_;refine tkS 12 a0 ?_;refine tkS 13 a0 ?_;refine tkS 14 a0 ?_;refine tkS 15 a0 ?_;refine tkS 16 a0 ?_;refine tkS 17 a0 ?_;refine tkS 18 a0 ?_;refine rd1 19 (λK hK=>?_)
 go_simp
 refine(n1.out _ v v0 z0.out d0 h8 _ La).mono ?_;rintro e w5 ⟨rfl,hl5⟩;refine hK.out _ _ ?_ (λa0=>?_)
 ·exact o0.out _ La
 clear hK K
 (try simp only[p0,p1,p2,p3,p4,p5,p6])
 refine tkS 20 a0 ?_;refine tkS 21 a0 ?_;refine tkS 22 a0 ?_;refine tkS 23 a0 ?_;refine tkS 24 a0 ?_;refine tkS 25 a0 ?_;refine tkS 26 a0 ?_;refine tkS 27 a0 ?_;refine tkS 28 a0 ?_;refine rd1 29 (λK hK=>?_)
 go_simp
 refine(T0.out hL d0 HB.out.2.1 _ La).mono ?_;rintro e w6 ⟨rfl,hl6⟩;refine hK.out _ _ ?_ (λa0=>?_)
 ·exact o0.out _ La
 clear hK K
 (try simp only[p0,p1,p2,p3,p4,p5,p6])
 refine tkS 30 a0 ?_;refine tkS 31 a0 ?_;refine tkS 32 a0 ?_;refine tkS 33 a0 ?_;refine tkS 34 a0 ?_;refine tkS 35 a0 ?_;refine tkS 36 a0 ?_;refine tkS 37 a0 ?_;refine tkS 38 a0 ?_;refine tkS 39 a0 ?_;refine tkS 40 a0 ?_;refine tkS 41 a0 ?_;refine tkS 42 a0 ?_;refine tkS 43 a0 ?_;refine tkS 44 a0 ?_;refine tkS 45 a0 ?_;refine tkS 46 a0 ?_;refine tkS 47 a0 ?_;refine tkS 48 a0 ?_;refine tkS 49 a0 ?_;refine tkS 50 a0 ?_;refine tkS 51 a0 ?_;refine tkS 52 a0 ?_;refine rd1 53 (λK hK=>?_)
 go_simp
 refine(H1.out _).mono ?_;rintro e w7 ⟨rfl,rfl⟩;refine hK.out _ _ ?_ (λa0=>?_)
 ·exact o0.out _ La
 clear hK K
 (try simp only[p0,p1,p2,p3,p4,p5,p6])
 refine tkS 54 a0 ?_;refine tkS 55 a0 ?_;refine wpAnyH_done (by kernel_rfl) ?_ _;have t0:Later w3 w7:=La;have g0:Later w1 w7:=v0.trans t0;have H0:=Hd (W3 t0 z0.out)
 obtain⟨mb,hmb⟩:∃ mb,w7.heap.size=mb:=⟨_,rfl⟩
 obtain⟨wm,hwm⟩:∃ wm,w7.alloc (.map #[] 0)=wm:=⟨_,rfl⟩
 have r1:Later w7 wm:=by rw[<-hwm];exact(Later.refl _).alloc _
 have I0:BMap wm mb 0 (GH c.volumes 0):=by rw[<-hwm,<-hmb,<-Zbf];exact BMap.made w7
 have T1:=Hd (show w7.heap.size<=mb by omega);have S0:=Hd hmb;have S1:=Hd hwm;clear hmb hwm j0 j1 j2 j3 j4 hl5 hl6 t0
 go_upto_region 7 with fail
 rw[S1.out,S0.out];obtain⟨j0,j1,j2,j3,j4⟩:=o0.out wm (g0.trans r1)
 go_wp2_with fail
 go_loopw [88] (λvi wr=>∃ j:Nat,j<=n/\vi=.int .i64 (j:Int)/\BMap wr mb j (GH c.volumes j)/\Z8 lvB (c.volumes.take j)=true/\Later w7 wr) (λvi _=>n - (intOf vi).toNat)
 case atStart=>exact⟨0,by omega,rfl,I0,rfl,r1⟩
 case round=>
  obtain⟨j,hj,rfl,hbm,hp,hb⟩:=hrel;clear I0 j0 j1 j2 j3 j4;have F0:Later w wr:=(HH.out.2.1.trans g0).trans hb;by_cases hlt:j<n
  ·have e0:j<c.volumes.length:=by rw[HN.out];exact hlt
   obtain⟨b,o,rfl,hb',hcc⟩:=Zz (Z1.out.later F0) e0
   obtain⟨x,hx⟩:∃ x,c.volumes[j]=x:=⟨_,rfl⟩
   have i1:=Hd (And.intro (Zbg c.volumes j e0 x hx) (ZcY c.volumes j e0 x hx hp));have f1:=hI.volumes x (by rw[<-hx];exact List.getElem_mem e0);rw[hx]at hcc;clear hx;obtain⟨x1,x2,x3,x4⟩:=x;have n0:-9223372036854775808<=x1/\x1<=9223372036854775807:=f1.1 x1 (by simp);have c0:=hcc 0 (by omega);have c1:=hcc 1 (by omega);have c2:=hcc 2 (by omega);have c3:=hcc 3 (by omega);simp only[volC,List.getElem?_cons_zero,List.getElem?_cons_succ,Nat.add_zero]at c0 c1 c2 c3
   obtain⟨s,hs⟩:∃ s,GH c.volumes j x1=s:=⟨_,rfl⟩
   have HS:=Hd hs;have W0:=Hd (hbm.later ((Later.refl wr).alloc (.cells #[.int .i64 x1,.int .i64 x2,.int .i64 x3,.int .i64 x4] 28)));have F1:=Hd hp;have HXI:=Hd f1;clear hcc hbm hs hp f1;cases s
   ·go_wp2_with (first
     |(at_lookup;refine Y2 rfl _ _ 157 rfl Tryz.underlying157 mb j _ rfl W0.out x1 rfl n0 ?_;rw[HS.out])
     |(at_mapUpdate;refine Uc rfl _ _ _ 157 rfl Tryz.underlying157 mb j _ rfl W0.out (by unfold maxLen;omega) x1 true rfl rfl n0 ?_;intro w8 hbm8 hg8)
     |fail)
    refine⟨⟨j+1,by omega,by simp,?_,?_,?_⟩,by simp only[intOf];omega⟩
    ·rw[<-i1.out.1];exact hbm8
    ·rw[i1.out.2,HS.out];rfl
    ·exact Later.grown (hb.alloc _) hg8 (λk e=>by cases e;exact T1.out)
   ·go_wp2_with (first
     |(at_lookup;refine Y2 rfl _ _ 157 rfl Tryz.underlying157 mb j _ rfl W0.out x1 rfl n0 ?_;rw[HS.out])
     |fail)
    go_ret
    refine⟨Zw ?_,F0.alloc _⟩;have h1:Z8 lvB c.volumes=false:=QE (j+1) (by rw[i1.out.2,HS.out];rfl);rw[g1.out,h1,Bool.false_and]
  ·obtain rfl:j=n:=by omega
   have E1:Z8 lvB c.volumes=true:=by
    rw[<-HN.out,List.take_length]at hp;exact hp
   have F1:=Hd E1;clear hp E1 hbm;have b0:=W3 hb H0.out;obtain⟨j0,j1,j2,j3,j4⟩:=o0.out wr (g0.trans hb);have HO:=Hd b0;have L0:Later w1 wr:=g0.trans hb;have l1:w1.heap.size<=W2.heap.size:=y0.out.2.out.size;have N0:w.heap.size<=w1.heap.size:=HH.out.2.1.out.size
   have hbase:W2.heap.size<=wr.heap.size:=by
    obtain⟨g,cap,e,-, -⟩:=Xz b0 (by rw[QT];omega);have:=b0.lt g (by rw[e];rfl);omega
   obtain⟨d,hd⟩:=Zg6 HX.out.1;have s0:d.length=(ext0 c).length+1:=by rw[<-List.length_map (f:=λ(x:VolB)=>x.1),hd,Gu];simp
   have O0:d.length<=12:=by rw[s0,QT];omega
   have O1:(ext0 c).length<=9:=by rw[QT];omega
   have r0:=Hd (And.intro hd (And.intro s0 O0));have a2:=Hd L0
   obtain⟨el,hel⟩:∃ el,(ext0 c).length=el:=⟨_,rfl⟩
   have t1:=Hd hel;rw[hel]at O1 HO;clear b0 hd s0 O0 L0 hel l1 N0
   go_wp2_with (first
    | (at_builtin;refine wpList_append_own _ rfl (.tmp 100) (.tmp 107) 26 rfl W2.heap.size 28 iV (.agg #[.int .i64 0,.int .i64 0,.int .i64 0,.int .i64 0]) 4 32 Tryz.underlying26 hiV hz0 hz1 hz2 rfl (by decide) v el (ZG volC (ext0 c)) rfl (HO.out.alloc _) ⟨wr.heap.size,0,none⟩ 1 1 [.int .i64 0,.int .i64 c.boot,.int .i64 2,.int .i64 0] rfl rfl (XF wr [.int .i64 0,.int .i64 c.boot,.int .i64 2,.int .i64 0] 28) (by intro u hu;simp only [List.mem_cons,List.not_mem_nil,or_false] at hu;(repeat' (rcases hu with hu | hu))<;>(subst_vars;rfl)) (by unfold maxLen;omega) (by omega) (by simp;omega) ?_
       intro v9 w9 hown9 hgrow9 _;obtain⟨g,cap,rfl,hc1,hc2⟩:=Xz hown9 (by omega);have hgl:=hown9.lt g rfl;have W1:=Hd (Zey r0.out.1 r0.out.2.1 r0.out.2.2 t1.out hown9);have z1:=Hd (show Later w w9 from(HH.out.2.1.trans (Later.grown (a2.out.alloc _) hgrow9 (λk e=>by have h5:=((HO.out.alloc (.cells #[.int .i64 0,.int .i64 c.boot,.int .i64 2,.int .i64 0] 28)).lt k e).1;have h6:=y0.out.2.out.size;omega))));have hgw:w.heap.size<=g:=by have h6:=y0.out.2.out.size;have h7:=HH.out.2.1.out.size;omega
       clear hown9 hgrow9)
    |(go_at_call 121;(with_reducible refine W1.out.mono ?_);rintro e w10 ⟨l,rfl,hperm,hsrt,hcl,hon⟩;have M0:Later w w10:=Below.trans z1.out (hon.below z1.out.out.size (λk hk=>by have:k=g:=hk;omega));have HQ:=Hd (And.intro hperm (And.intro hsrt hcl));clear hperm hsrt hcl hon)
    |fail)
   have J1:l.length=el+1:=by rw[HQ.out.1.length_eq,r0.out.1,Gu,List.length_append,t1.out];rfl
   have a1:=Hd J1
   have A0:∀ x∈l,(0<=x.first/\x.first<=4096)/\x.count<=4096/\1<=x.count:=λx hx=>by
    have:=HQ.out.1.mem_iff.1 hx;rw[r0.out.1]at this;exact⟨HX.out.1 x this,HX.out.2.2 x this,HX.out.2.1 x this⟩
   have o1:=Hd A0
   have hgb:g<w10.heap.size:=by
    have h0:=HQ.out.2.2 0 (by omega) 0 (by omega);exact World.block_lt_of_cell? w10 ⟨g,0,none⟩ (u:=.int .i64 l[0].level) (by simpa [volC] using h0)
   clear A0 J1
   have K0:XM (l.take (0+1))=true:=by
    cases l with
    |nil=>rfl
    |cons x l=>rfl
   go_wp2_with fail
   go_loopw [9] (λvi wr2=>∃ k:Nat,k<=el/\vi=.int .i64 ((k+1:Nat):Int)/\XM (l.take (k+1))=true/\Later w10 wr2) (λvi _=>el+1 - (intOf vi).toNat)
   case atStart=>exact⟨0,by omega,rfl,K0,Later.refl _⟩
   case round=>
    obtain⟨k,hk,rfl,hch,hb2⟩:=hrel;clear K0;by_cases e0:k<el
    ·have P0:k<l.length:=by have:=a1.out;omega
     have n0:k+1<l.length:=by have:=a1.out;omega
     have i0:=Hd (Qi l k n0);rw[hch,Bool.true_and,List.getElem?_eq_getElem P0]at i0;have c0:=hb2.cell (p:=⟨g,k*4+1,none⟩) (HQ.out.2.2 k P0 1 (by omega));have c1:=hb2.cell (p:=⟨g,k*4+2,none⟩) (HQ.out.2.2 k P0 2 (by omega));have c2:=hb2.cell (p:=⟨g,(k+1)*4+1,none⟩) (HQ.out.2.2 (k+1) n0 1 (by omega));have m0:=o1.out _ (List.getElem_mem P0);have m1:=o1.out _ (List.getElem_mem n0);have K1:fst l (k+1)=l[k+1].first:=by unfold fst;rw[List.getElem?_eq_getElem n0];rfl
     rw[K1]at i0
     obtain⟨x,hx⟩:∃ x,l[k]=x:=⟨_,rfl⟩
     obtain⟨y,hy⟩:∃ y,l[k+1]=y:=⟨_,rfl⟩
     rw[hx]at c0 c1 m0 i0;rw[hy]at c2 m1 i0;clear hx hy K1;obtain⟨x1,x2,x3,x4⟩:=x;obtain⟨y1,y2,y3,y4⟩:=y;simp only[volC,List.getElem?_cons_zero,List.getElem?_cons_succ]at c0 c1 c2 m0 m1;simp only[Option.map_some,Option.getD_some]at i0;have hsub:IntKind.i64.wrap (((k+1:Nat):Int) - 1)=(k:Int):=by rw[IntKind.wrap_i64];omega
     have hsum:IntKind.i64.wrap (x2+x3)=x2+x3:=by rw[IntKind.wrap_i64];omega
     have hn0:¬ ((k:Int)<0):=by omega
     have hn1:¬ (((k+1:Nat):Int)<0):=by omega
     by_cases hle:x2+x3<=y2
     ·have N1:decide (y2<x2+x3)=false:=decide_eq_false (by omega);rw[decide_eq_true hle]at i0;clear hle
      go_upto_region 19 with fail
      go_region
      go_wp2_with fail
      refine⟨⟨k+1,by omega,by simp,i0.out,hb2.drew⟩,by simp only[intOf];omega⟩
     ·have N1:decide (y2<x2+x3)=true:=decide_eq_true (by omega);rw[decide_eq_false hle]at i0;clear hle
      go_upto_region 19 with fail
      go_region
      go_wp2_with fail
      go_ret
      refine⟨Zw ?_,(M0.trans hb2).drew⟩;have P1:XM l=false:=ZaJ i0.out;rw[g1.out,<-ZaI (ZgU HQ.out.1 r0.out.1) HQ.out.2.1 HX.out.2.1,P1,Bool.and_false]
    ·obtain rfl:k=el:=by omega
     go_wp2_with fail
     go_ret
     refine⟨Zw ?_,M0.trans hb2⟩;have f0:XM l=true:=by rw[<-hch,List.take_of_length_le (by rw[a1.out];omega)]
     rw[g1.out,<-ZaI (ZgU HQ.out.1 r0.out.1) HQ.out.2.1 HX.out.2.1,f0,F1.out];rfl
