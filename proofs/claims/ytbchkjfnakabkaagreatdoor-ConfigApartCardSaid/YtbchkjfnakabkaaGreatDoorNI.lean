import Derived.Test.YtbchkjfnakabkaaGreatDoorNH
import Derived.Test.YtbchkjfnakabkaaGreatDoorNXx
set_option linter.unusedSimpArgs false
set_option linter.unusedVariables false
set_option maxHeartbeats 16000000
set_option maxRecDepth 100000
namespace Go.Proofs.YtbchkjfnakabkaaGreatDoor
open Go.RowKit PX PC Go.Shelf
open Go.Act renaming put -> p0
open List renaming getElem_toArray -> p1, getElem_cons_succ -> p2, getElem_cons_zero -> p3, setIfInBounds_toArray -> p4, set_cons_zero -> p5, set_cons_succ -> p6
def CfgW(c:Cfg):Prop:=c.volumes.length*32<=140737488351232/\c.ports.length*40<=140737488351232/\c.rules.length*56<=140737488351232
def ext0(c:Cfg):List Vol:=c.volumes++[c.audit]
theorem Zfl{s l A B z b:Bool}(h:(((s&&l)&&(A&&B))&&(z&&b))=false):s=false\/(s=true/\l=false)\/(s=true/\l=true/\A=false)\/(s=true/\l=true/\A=true/\B=false)\/(s=true/\l=true/\A=true/\B=true/\z=false)\/(s=true/\l=true/\A=true/\B=true/\z=true/\b=false):=by
 cases s<;>cases l<;>cases A<;>cases B<;>cases z<;>cases b<;>simp_all
theorem FormIn.lt{w:World}{fb:Nat}{c:Cfg}{vF vP vW vO vV vR vK lv:Value}(h:FormIn w fb c vF vP vW vO vV vR vK lv):fb<w.heap.size:=Zb h.blk
theorem ZgW{c:Cfg}(hI:CfgI c):∀ x∈ext0 c,volI x:=by
 intro x hx;unfold ext0 at hx;rcases List.mem_append.1 hx with hx|hx
 ·exact hI.volumes x hx
 ·rw[List.mem_singleton.1 hx];exact hI.audit
theorem ZdB{w:World}{B:Nat}{v:Value}{l:List Vol}(hl:l.length<=255)(h:w.ownsRow B 28 4 v l.length (ZG volC l)):RowHi B w 4 v (l.map volC):=JV (by omega) (by omega) (λ_=>rfl) hl h
theorem Zh1(w:World)(fb:Nat)(c:Cfg)(vF vP vW vO vV vR vK lv:Value)(h:FormIn w fb c vF vP vW vO vV vR vK lv)(hI:CfgI c)(hW:CfgW c)(hL:El c)
 (hno:(((inB c.sectors 1 4096&&decide (c.volumes.length<=8))&&((ext0 c).all (X1 c)&&c.volumes.all (JR c)))&&(decide (c.audit.level=0)&&inB c.boot 0 (c.sectors - 2)))=false) :
 Calls Tryz.prog 101 #[.pointer (some ⟨fb,0,none⟩)] w λe w'=>e=.returned (.bool c.diskB)/\Later w w':=by
 obtain⟨a5,c5,rfl,q0,q1,q2⟩:=Zl h.rV;obtain⟨cb,w1,hcb,hw1,i0,hblk,hcell⟩:=Vx (w:=w) (fb:=fb);have h1:=h.later i0;have hfl:=h1.lt;have HC:=Hd (λ(w':World) (hl:Later w1 w')=>And.intro (hl.cell hcell) (And.intro (show w'.cell? ⟨fb,5,none⟩=some (.slice a5 c.volumes.length c5) from(h1.later hl).cell 5) (And.intro (show w'.cell? ⟨fb,6,none⟩=some (.int .i64 c.audit.level) from(h1.later hl).cell 6) (And.intro (show w'.cell? ⟨fb,7,none⟩=some (.int .i64 c.audit.first) from(h1.later hl).cell 7) (And.intro (show w'.cell? ⟨fb,8,none⟩=some (.int .i64 c.audit.count) from(h1.later hl).cell 8) (show w'.cell? ⟨fb,9,none⟩=some (.int .i64 c.audit.journal) from(h1.later hl).cell 9))))));have HH:=Hd (And.intro h1 (And.intro i0 hcell));have HVI:=Hd (h.rV);have m0:=Hd hw1;have e20:(c.volumes.length+[c.audit].length)*32<=140737488355328:=by unfold CfgW at hW;simp only[List.length_cons,List.length_nil];omega
 have o0:=Hd (λ(w':World) (b2 cap2 b1:Nat) (hl:Later w1 w') (k0:w'.cell? ⟨b2,0,none⟩=some (.slice a5 c.volumes.length c5)) (k1:w'.cell? ⟨b2,1,none⟩=some (.slice (some ⟨b1,0,none⟩) 1 1)) (kb:w'.heap[b1]?=some (.cells #[.int .i64 c.audit.level,.int .i64 c.audit.first,.int .i64 c.audit.count,.int .i64 c.audit.journal] 28 (0,0)))=>
  Qg w' b2 cap2 _ _ c.volumes [c.audit] (h1.rV.later hl) ⟨some ⟨b1,0,none⟩,1,rfl,Nat.le_refl _,by omega,by simp,.inr ⟨b1,0,rfl,Zb kb,λi hi j hj=>by
   have F0:i=0:=by simp at hi;omega
   subst F0;rw[Za kb];rw[Nat.zero_mul,Nat.add_zero,Nat.zero_add]
   simp[volC]⟩⟩ k0 k1 (by simp) e20)
 clear hw1 h h1 i0 hblk hcell e20
 obtain⟨W2,hW2⟩:∃ W2,(((w1.alloc (.cells #[.int .i64 c.audit.level,.int .i64 c.audit.first,.int .i64 c.audit.count,.int .i64 c.audit.journal] 28)).alloc (.cells #[.slice a5 c.volumes.length c5,.slice (some ⟨w1.heap.size,0,none⟩) 1 1] 26)).drew)=W2:=⟨_,rfl⟩
 have y0:Later w1 W2:=by rw[<-hW2];exact(((Later.refl w1).alloc _).alloc _).drew
 have z0:W2.heap[w1.heap.size]?=some (.cells #[.int .i64 c.audit.level,.int .i64 c.audit.first,.int .i64 c.audit.count,.int .i64 c.audit.journal] 28 (0,0)):=by rw[<-hW2];exact Vw (Ze (Zd w1 _) _)
 have v0:W2.heap[w1.heap.size+1]?=some (.cells #[.slice a5 c.volumes.length c5,.slice (some ⟨w1.heap.size,0,none⟩) 1 1] 26 (0,0)):=by rw[<-hW2];exact Vw (Zq (by simp))
 have d0:=Hd (o0.out W2 (w1.heap.size+1) 2 w1.heap.size y0 (Za v0 0) (Za v0 1) z0);have g0:=Hd (And.intro hW2 y0);clear hW2 y0 z0 v0 o0;have A0:c.volumes++[c.audit]=ext0 c:=rfl;rw[A0]at d0;have l0:=Hd (λw2=>XA w2 c.sectors 1 4096);have C0:=Hd (λw2=>XA w2 c.boot 0 (c.sectors - 2))
 have n0:=Hd (λ(w3:World) (v:Value) (f0:Later w1 w3) (hown:w3.ownsRow W2.heap.size 28 4 v (ext0 c).length (ZG volC (ext0 c))) (hS:U5 c) (hv8:c.volumes.length<=8) (w2:World) (h2:Later w3 w2)=>
  Q2 w2 v (ext0 c) ((ZdB (by unfold ext0;simp;omega) hown).row.later h2) 118 #[.pointer (some ⟨cb,0,none⟩)] (enters_of Tryz.func118 (by kernel_rfl) rfl) (X1 c) (by unfold ext0;simp;omega)
   (λw4 h4 x hx=>Dm w4 cb fb c x (ZgW hI x hx) (((f0.trans h2).trans h4).cell HH.out.2.2) ((HH.out.1.later ((f0.trans h2).trans h4)).cell 11) hS))
 have r0:=Hd (λ(hL:El c) (hS:U5 c) (hA:(ext0 c).all (X1 c)=true) (w2:World) (h2:Later w1 w2)=>
  Q2 w2 _ c.volumes (HH.out.1.rV.later h2) 119 #[.pointer (some ⟨cb,0,none⟩)] (enters_of Tryz.func119 (by kernel_rfl) rfl) (JR c) (by omega)
   (λw4 h4 x hx=>Dl w4 cb fb c x (by have:=Zeu hS (List.all_eq_true.1 hA x (by unfold ext0;exact List.mem_append_left _ hx));omega) ((h2.trans h4).cell HH.out.2.2) ((HH.out.1.later (h2.trans h4)).cell 0) hL))
 obtain⟨s1,hs1⟩:∃ b,inB c.sectors 1 4096=b:=⟨_,rfl⟩
 obtain⟨A1,hA1⟩:∃ b,(ext0 c).all (X1 c)=b:=⟨_,rfl⟩
 obtain⟨A2,hA2⟩:∃ b,c.volumes.all (JR c)=b:=⟨_,rfl⟩
 obtain⟨bt,hbt⟩:∃ b,inB c.boot 0 (c.sectors - 2)=b:=⟨_,rfl⟩
 have HB:=Hd (And.intro hs1 (And.intro hA1 (And.intro hA2 hbt)));rw[hs1]at l0;rw[hbt]at C0;rw[hA1]at n0;rw[hA2]at r0;clear hs1 hA1 hA2 hbt A0
 obtain⟨n,hn⟩:∃ n,c.volumes.length=n:=⟨_,rfl⟩
 have HN:=Hd hn;rw[hn]at q0 q2 HC g0 r0;clear hn;obtain⟨k0,k1,k2,k3,k4,k5⟩:=HC.out w1 (Later.refl _);have c0:=Hd (λ(w':World) (hl:Later w1 w')=>And.intro (hl.cell HH.out.2.2) (And.intro (HC.out w' hl).2.1 (And.intro (HC.out w' hl).2.2.1 (And.intro (show w'.cell? ⟨fb,10,none⟩=some (.int .i64 c.boot) from(HH.out.1.later hl).cell 10) (show w'.cell? ⟨fb,11,none⟩=some (.int .i64 c.sectors) from(HH.out.1.later hl).cell 11)))));rcases Zfl hno with hw|⟨hw,h8⟩|⟨hw,h8,ha⟩|⟨hw,h8,ha,hb⟩|⟨hw,h8,ha,hb,hz⟩|⟨hw,h8,ha,hb,hz,hbt⟩
 ·obtain rfl:s1=false:=HB.out.1.symm.trans hw
  have hD:c.diskB=false:=by
   unfold Cfg.diskB;rw[hw];simp
  have h0:=Hd hD;clear hw hD
  go_enter Tryz.func101,Tryz.ntmps101
  go_upto_region 1 with fail
  rw[m0.out]
  go_region_held3 (fun w'=>w'.cell? ⟨cb,0,none⟩=some (.pointer (some ⟨fb,0,none⟩))∧w'.cell? ⟨fb,5,none⟩=some (.slice a5 n c5)∧w'.cell? ⟨fb,6,none⟩=some (.int .i64 c.audit.level)∧w'.cell? ⟨fb,7,none⟩=some (.int .i64 c.audit.first)∧w'.cell? ⟨fb,8,none⟩=some (.int .i64 c.audit.count)∧w'.cell? ⟨fb,9,none⟩=some (.int .i64 c.audit.journal))
   (exact(λhl=>(HC.out _ hl)) La)
   (first
    |(go_at_call 117;rw[g0.out.1];(with_reducible refine d0.out.mono ?_);rintro e w3 ⟨v,rfl,hown,hlc⟩;have f0:=g0.out.2.trans hlc;have e0:=Hd hown;clear hown hlc)
    |fail)
  go_upto_region 4 with fail
  obtain⟨j0,j1,j2,j3,j4⟩:=c0.out w3 f0;clear k0 k1 k2 k3 k4 k5;refine wp_region_held_drew (S:=λw'=>w'.cell? ⟨cb,0,none⟩=some (.pointer (some ⟨fb,0,none⟩))/\w'.cell? ⟨fb,5,none⟩=some (.slice a5 n c5)/\w'.cell? ⟨fb,6,none⟩=some (.int .i64 c.audit.level)/\w'.cell? ⟨fb,10,none⟩=some (.int .i64 c.boot)/\w'.cell? ⟨fb,11,none⟩=some (.int .i64 c.sectors)) (by kernel_rfl) (c0.out _ La) (λa0=>?_);refine tkS 0 a0 ?_;refine tkS 1 a0 ?_;refine tkS 2 a0 ?_;refine tkS 3 a0 ?_;refine tkS 4 a0 ?_;refine rd1 5 (λK hK=>?_)
  go_simp
  refine(l0.out _).mono ?_;rintro e w4 ⟨rfl,rfl⟩;refine hK.out _ _ ?_ (λa0=>?_)
  ·exact c0.out _ La
  clear hK K
  (try simp only[p0,p1,p2,p3,p4,p5,p6])
  refine tkS 6 a0 ?_;refine tkS 7 a0 ?_;refine tkV 8 a0 ?_;refine tkV 9 a0 ?_;refine tkV 10 a0 ?_;refine tkV 11 a0 ?_;refine tkV 12 a0 ?_;refine tkV 13 a0 ?_;refine tkV 14 a0 ?_;refine tkS 15 a0 ?_;refine tkS 16 a0 ?_;refine tkV 17 a0 ?_;refine tkV 18 a0 ?_;refine tkV 19 a0 ?_;refine tkV 20 a0 ?_;refine tkS 21 a0 ?_;refine tkS 22 a0 ?_;refine tkV 23 a0 ?_;refine tkV 24 a0 ?_;refine tkV 25 a0 ?_;refine tkV 26 a0 ?_;refine tkV 27 a0 ?_;refine tkV 28 a0 ?_;refine tkV 29 a0 ?_;refine tkV 30 a0 ?_;refine tkS 31 a0 ?_;refine tkS 32 a0 ?_;refine tkV 33 a0 ?_;refine tkV 34 a0 ?_;refine tkV 35 a0 ?_;refine tkV 36 a0 ?_;refine tkV 37 a0 ?_;refine tkV 38 a0 ?_;refine tkV 39 a0 ?_;refine tkS 40 a0 ?_;refine tkS 41 a0 ?_;refine tkV 42 a0 ?_;refine tkV 43 a0 ?_;refine tkV 44 a0 ?_;refine tkV 45 a0 ?_;refine tkV 46 a0 ?_;refine tkV 47 a0 ?_;refine tkV 48 a0 ?_;refine tkV 49 a0 ?_;refine tkV 50 a0 ?_;refine tkV 51 a0 ?_;refine tkV 52 a0 ?_;refine tkV 53 a0 ?_;refine tkV 54 a0 ?_;refine tkS 55 a0 ?_;refine wpAnyH_done (by kernel_rfl) ?_ _
  go_wp2_with fail
  go_ret
  have i0:=HH.out.2.1;exact⟨Zw h0.out.symm,La⟩
 ·obtain rfl:s1=true:=HB.out.1.symm.trans hw;have h8:=of_decide_eq_false h8;have b0:U5 c:=ZI.1 hw;have s0:IntKind.i64.wrap (c.sectors - 2)=c.sectors - 2:=by have:=b0.1;have:=b0.2;rw[IntKind.wrap_i64];omega
  have hD:c.diskB=false:=by
   unfold Cfg.diskB;rw[decide_eq_false h8];simp
  have t0:decide ((8:Int)<(n:Int))=true:=decide_eq_true (by have:=HN.out;omega);have h0:=Hd hD;clear hw hD
  go_enter Tryz.func101,Tryz.ntmps101
  go_upto_region 1 with fail
  rw[m0.out]
  go_region_held3 (fun w'=>w'.cell? ⟨cb,0,none⟩=some (.pointer (some ⟨fb,0,none⟩))∧w'.cell? ⟨fb,5,none⟩=some (.slice a5 n c5)∧w'.cell? ⟨fb,6,none⟩=some (.int .i64 c.audit.level)∧w'.cell? ⟨fb,7,none⟩=some (.int .i64 c.audit.first)∧w'.cell? ⟨fb,8,none⟩=some (.int .i64 c.audit.count)∧w'.cell? ⟨fb,9,none⟩=some (.int .i64 c.audit.journal))
   (exact(λhl=>(HC.out _ hl)) La)
   (first
    |(go_at_call 117;rw[g0.out.1];(with_reducible refine d0.out.mono ?_);rintro e w3 ⟨v,rfl,hown,hlc⟩;have f0:=g0.out.2.trans hlc;have e0:=Hd hown;clear hown hlc)
    |fail)
  go_upto_region 4 with fail
  obtain⟨j0,j1,j2,j3,j4⟩:=c0.out w3 f0;clear k0 k1 k2 k3 k4 k5;refine wp_region_held_drew (S:=λw'=>w'.cell? ⟨cb,0,none⟩=some (.pointer (some ⟨fb,0,none⟩))/\w'.cell? ⟨fb,5,none⟩=some (.slice a5 n c5)/\w'.cell? ⟨fb,6,none⟩=some (.int .i64 c.audit.level)/\w'.cell? ⟨fb,10,none⟩=some (.int .i64 c.boot)/\w'.cell? ⟨fb,11,none⟩=some (.int .i64 c.sectors)) (by kernel_rfl) (c0.out _ La) (λa0=>?_);refine tkS 0 a0 ?_;refine tkS 1 a0 ?_;refine tkS 2 a0 ?_;refine tkS 3 a0 ?_;refine tkS 4 a0 ?_;refine rd1 5 (λK hK=>?_)
  go_simp
  refine(l0.out _).mono ?_;rintro e w4 ⟨rfl,rfl⟩;refine hK.out _ _ ?_ (λa0=>?_)
  ·exact c0.out _ La
  clear hK K
  (try simp only[p0,p1,p2,p3,p4,p5,p6])
  refine tkS 6 a0 ?_;refine tkS 7 a0 ?_;refine tkS 8 a0 ?_;refine tkS 9 a0 ?_;refine tkS 10 a0 ?_;refine tkS 11 a0 ?_;refine tkS 12 a0 ?_;refine tkS 13 a0 ?_;refine tkS 14 a0 ?_;refine tkS 15 a0 ?_;refine tkS 16 a0 ?_;refine tkV 17 a0 ?_;refine tkV 18 a0 ?_;refine tkV 19 a0 ?_;refine tkV 20 a0 ?_;refine tkS 21 a0 ?_;refine tkS 22 a0 ?_;refine tkV 23 a0 ?_;refine tkV 24 a0 ?_;refine tkV 25 a0 ?_;refine tkV 26 a0 ?_;refine tkV 27 a0 ?_;refine tkV 28 a0 ?_;refine tkV 29 a0 ?_;refine tkV 30 a0 ?_;refine tkS 31 a0 ?_;refine tkS 32 a0 ?_;refine tkV 33 a0 ?_;refine tkV 34 a0 ?_;refine tkV 35 a0 ?_;refine tkV 36 a0 ?_;refine tkV 37 a0 ?_;refine tkV 38 a0 ?_;refine tkV 39 a0 ?_;refine tkS 40 a0 ?_;refine tkS 41 a0 ?_;refine tkV 42 a0 ?_;refine tkV 43 a0 ?_;refine tkV 44 a0 ?_;refine tkV 45 a0 ?_;refine tkV 46 a0 ?_;refine tkV 47 a0 ?_;refine tkV 48 a0 ?_;refine tkV 49 a0 ?_;refine tkV 50 a0 ?_;refine tkV 51 a0 ?_;refine tkV 52 a0 ?_;refine tkV 53 a0 ?_;refine tkV 54 a0 ?_;refine tkS 55 a0 ?_;refine wpAnyH_done (by kernel_rfl) ?_ _
  go_wp2_with fail
  go_ret
  have i0:=HH.out.2.1;exact⟨Zw h0.out.symm,La⟩
 ·obtain rfl:s1=true:=HB.out.1.symm.trans hw;obtain rfl:A1=false:=HB.out.2.1.symm.trans ha;have h8:=of_decide_eq_true h8;have b0:U5 c:=ZI.1 hw;have s0:IntKind.i64.wrap (c.sectors - 2)=c.sectors - 2:=by have:=b0.1;have:=b0.2;rw[IntKind.wrap_i64];omega
  have hD:c.diskB=false:=by
   unfold Cfg.diskB;rw[show(c.volumes++[c.audit]).all (X1 c)=false from ha];simp
  have t0:decide ((8:Int)<(n:Int))=false:=decide_eq_false (by have:=HN.out;omega);have h0:=Hd hD;clear hw ha hD
  go_enter Tryz.func101,Tryz.ntmps101
  go_upto_region 1 with fail
  rw[m0.out]
  go_region_held3 (fun w'=>w'.cell? ⟨cb,0,none⟩=some (.pointer (some ⟨fb,0,none⟩))∧w'.cell? ⟨fb,5,none⟩=some (.slice a5 n c5)∧w'.cell? ⟨fb,6,none⟩=some (.int .i64 c.audit.level)∧w'.cell? ⟨fb,7,none⟩=some (.int .i64 c.audit.first)∧w'.cell? ⟨fb,8,none⟩=some (.int .i64 c.audit.count)∧w'.cell? ⟨fb,9,none⟩=some (.int .i64 c.audit.journal))
   (exact(λhl=>(HC.out _ hl)) La)
   (first
    |(go_at_call 117;rw[g0.out.1];(with_reducible refine d0.out.mono ?_);rintro e w3 ⟨v,rfl,hown,hlc⟩;have f0:=g0.out.2.trans hlc;have e0:=Hd hown;clear hown hlc)
    |fail)
  go_upto_region 4 with fail
  obtain⟨j0,j1,j2,j3,j4⟩:=c0.out w3 f0;clear k0 k1 k2 k3 k4 k5;refine wp_region_held_drew (S:=λw'=>w'.cell? ⟨cb,0,none⟩=some (.pointer (some ⟨fb,0,none⟩))/\w'.cell? ⟨fb,5,none⟩=some (.slice a5 n c5)/\w'.cell? ⟨fb,6,none⟩=some (.int .i64 c.audit.level)/\w'.cell? ⟨fb,10,none⟩=some (.int .i64 c.boot)/\w'.cell? ⟨fb,11,none⟩=some (.int .i64 c.sectors)) (by kernel_rfl) (c0.out _ La) (λa0=>?_);refine tkS 0 a0 ?_;refine tkS 1 a0 ?_;refine tkS 2 a0 ?_;refine tkS 3 a0 ?_;refine tkS 4 a0 ?_;refine rd1 5 (λK hK=>?_)
  go_simp
  refine(l0.out _).mono ?_;rintro e w4 ⟨rfl,rfl⟩;refine hK.out _ _ ?_ (λa0=>?_)
  ·exact c0.out _ La
  clear hK K
  (try simp only[p0,p1,p2,p3,p4,p5,p6])
  refine tkS 6 a0 ?_;refine tkS 7 a0 ?_;refine tkS 8 a0 ?_;refine tkS 9 a0 ?_;refine tkS 10 a0 ?_;refine tkS 11 a0 ?_;refine tkS 12 a0 ?_;refine tkS 13 a0 ?_;refine tkS 14 a0 ?_;refine tkS 15 a0 ?_;refine tkS 16 a0 ?_;refine tkS 17 a0 ?_;refine tkS 18 a0 ?_;refine rd1 19 (λK hK=>?_)
  go_simp
  refine(n0.out _ v f0 e0.out b0 h8 _ La).mono ?_;rintro e w5 ⟨rfl,hl5⟩;refine hK.out _ _ ?_ (λa0=>?_)
  ·exact c0.out _ La
  clear hK K
  (try simp only[p0,p1,p2,p3,p4,p5,p6])
  refine tkS 20 a0 ?_;refine tkS 21 a0 ?_;refine tkS 22 a0 ?_;refine tkV 23 a0 ?_;refine tkV 24 a0 ?_;refine tkV 25 a0 ?_;refine tkV 26 a0 ?_;refine tkV 27 a0 ?_;refine tkV 28 a0 ?_;refine tkV 29 a0 ?_;refine tkV 30 a0 ?_;refine tkS 31 a0 ?_;refine tkS 32 a0 ?_;refine tkV 33 a0 ?_;refine tkV 34 a0 ?_;refine tkV 35 a0 ?_;refine tkV 36 a0 ?_;refine tkV 37 a0 ?_;refine tkV 38 a0 ?_;refine tkV 39 a0 ?_;refine tkS 40 a0 ?_;refine tkS 41 a0 ?_;refine tkV 42 a0 ?_;refine tkV 43 a0 ?_;refine tkV 44 a0 ?_;refine tkV 45 a0 ?_;refine tkV 46 a0 ?_;refine tkV 47 a0 ?_;refine tkV 48 a0 ?_;refine tkV 49 a0 ?_;refine tkV 50 a0 ?_;refine tkV 51 a0 ?_;refine tkV 52 a0 ?_;refine tkV 53 a0 ?_;refine tkV 54 a0 ?_;refine tkS 55 a0 ?_;refine wpAnyH_done (by kernel_rfl) ?_ _
  go_wp2_with fail
  go_ret
  have i0:=HH.out.2.1;exact⟨Zw h0.out.symm,La⟩
 ·obtain rfl:s1=true:=HB.out.1.symm.trans hw;obtain rfl:A1=true:=HB.out.2.1.symm.trans ha;obtain rfl:A2=false:=HB.out.2.2.1.symm.trans hb;have h8:=of_decide_eq_true h8;have b0:U5 c:=ZI.1 hw;have s0:IntKind.i64.wrap (c.sectors - 2)=c.sectors - 2:=by have:=b0.1;have:=b0.2;rw[IntKind.wrap_i64];omega
  have hD:c.diskB=false:=by
   unfold Cfg.diskB;rw[hb];simp
  have t0:decide ((8:Int)<(n:Int))=false:=decide_eq_false (by have:=HN.out;omega);have h0:=Hd hD;clear hw ha hb hD
  go_enter Tryz.func101,Tryz.ntmps101
  go_upto_region 1 with fail
  rw[m0.out]
  go_region_held3 (fun w'=>w'.cell? ⟨cb,0,none⟩=some (.pointer (some ⟨fb,0,none⟩))∧w'.cell? ⟨fb,5,none⟩=some (.slice a5 n c5)∧w'.cell? ⟨fb,6,none⟩=some (.int .i64 c.audit.level)∧w'.cell? ⟨fb,7,none⟩=some (.int .i64 c.audit.first)∧w'.cell? ⟨fb,8,none⟩=some (.int .i64 c.audit.count)∧w'.cell? ⟨fb,9,none⟩=some (.int .i64 c.audit.journal))
   (exact(λhl=>(HC.out _ hl)) La)
   (first
    |(go_at_call 117;rw[g0.out.1];(with_reducible refine d0.out.mono ?_);rintro e w3 ⟨v,rfl,hown,hlc⟩;have f0:=g0.out.2.trans hlc;have e0:=Hd hown;clear hown hlc)
    |fail)
  go_upto_region 4 with fail
  obtain⟨j0,j1,j2,j3,j4⟩:=c0.out w3 f0;clear k0 k1 k2 k3 k4 k5;refine wp_region_held_drew (S:=λw'=>w'.cell? ⟨cb,0,none⟩=some (.pointer (some ⟨fb,0,none⟩))/\w'.cell? ⟨fb,5,none⟩=some (.slice a5 n c5)/\w'.cell? ⟨fb,6,none⟩=some (.int .i64 c.audit.level)/\w'.cell? ⟨fb,10,none⟩=some (.int .i64 c.boot)/\w'.cell? ⟨fb,11,none⟩=some (.int .i64 c.sectors)) (by kernel_rfl) (c0.out _ La) (λa0=>?_);refine tkS 0 a0 ?_;refine tkS 1 a0 ?_;refine tkS 2 a0 ?_;refine tkS 3 a0 ?_;refine tkS 4 a0 ?_;refine rd1 5 (λK hK=>?_)
  go_simp
  refine(l0.out _).mono ?_;rintro e w4 ⟨rfl,rfl⟩;refine hK.out _ _ ?_ (λa0=>?_)
  ·exact c0.out _ La
  clear hK K
  (try simp only[p0,p1,p2,p3,p4,p5,p6])
  refine tkS 6 a0 ?_;refine tkS 7 a0 ?_;refine tkS 8 a0 ?_;refine tkS 9 a0 ?_;refine tkS 10 a0 ?_;refine tkS 11 a0 ?_;refine tkS 12 a0 ?_;refine tkS 13 a0 ?_;refine tkS 14 a0 ?_;refine tkS 15 a0 ?_;refine tkS 16 a0 ?_;refine tkS 17 a0 ?_;refine tkS 18 a0 ?_;refine rd1 19 (λK hK=>?_)
  go_simp
  refine(n0.out _ v f0 e0.out b0 h8 _ La).mono ?_;rintro e w5 ⟨rfl,hl5⟩;refine hK.out _ _ ?_ (λa0=>?_)
  ·exact c0.out _ La
  clear hK K
  (try simp only[p0,p1,p2,p3,p4,p5,p6])
  refine tkS 20 a0 ?_;refine tkS 21 a0 ?_;refine tkS 22 a0 ?_;refine tkS 23 a0 ?_;refine tkS 24 a0 ?_;refine tkS 25 a0 ?_;refine tkS 26 a0 ?_;refine tkS 27 a0 ?_;refine tkS 28 a0 ?_;refine rd1 29 (λK hK=>?_)
  go_simp
  refine(r0.out hL b0 HB.out.2.1 _ La).mono ?_;rintro e w6 ⟨rfl,hl6⟩;refine hK.out _ _ ?_ (λa0=>?_)
  ·exact c0.out _ La
  clear hK K
  (try simp only[p0,p1,p2,p3,p4,p5,p6])
  refine tkS 30 a0 ?_;refine tkS 31 a0 ?_;refine tkS 32 a0 ?_;refine tkV 33 a0 ?_;refine tkV 34 a0 ?_;refine tkV 35 a0 ?_;refine tkV 36 a0 ?_;refine tkV 37 a0 ?_;refine tkV 38 a0 ?_;refine tkV 39 a0 ?_;refine tkS 40 a0 ?_;refine tkS 41 a0 ?_;refine tkV 42 a0 ?_;refine tkV 43 a0 ?_;refine tkV 44 a0 ?_;refine tkV 45 a0 ?_;refine tkV 46 a0 ?_;refine tkV 47 a0 ?_;refine tkV 48 a0 ?_;refine tkV 49 a0 ?_;refine tkV 50 a0 ?_;refine tkV 51 a0 ?_;refine tkV 52 a0 ?_;refine tkV 53 a0 ?_;refine tkV 54 a0 ?_;refine tkS 55 a0 ?_;refine wpAnyH_done (by kernel_rfl) ?_ _
  go_wp2_with fail
  go_ret
  have i0:=HH.out.2.1;exact⟨Zw h0.out.symm,La⟩
 ·obtain rfl:s1=true:=HB.out.1.symm.trans hw;obtain rfl:A1=true:=HB.out.2.1.symm.trans ha;obtain rfl:A2=true:=HB.out.2.2.1.symm.trans hb;have h8:=of_decide_eq_true h8;have hz:=of_decide_eq_false hz;have b0:U5 c:=ZI.1 hw;have s0:IntKind.i64.wrap (c.sectors - 2)=c.sectors - 2:=by have:=b0.1;have:=b0.2;rw[IntKind.wrap_i64];omega
  have hD:c.diskB=false:=by
   unfold Cfg.diskB;rw[decide_eq_false hz];simp
  have t0:decide ((8:Int)<(n:Int))=false:=decide_eq_false (by have:=HN.out;omega);have H0:(c.audit.level != 0)=true:=by simpa using hz
  have h0:=Hd hD;clear hw ha hb hD hz
  go_enter Tryz.func101,Tryz.ntmps101
  go_upto_region 1 with fail
  rw[m0.out]
  go_region_held3 (fun w'=>w'.cell? ⟨cb,0,none⟩=some (.pointer (some ⟨fb,0,none⟩))∧w'.cell? ⟨fb,5,none⟩=some (.slice a5 n c5)∧w'.cell? ⟨fb,6,none⟩=some (.int .i64 c.audit.level)∧w'.cell? ⟨fb,7,none⟩=some (.int .i64 c.audit.first)∧w'.cell? ⟨fb,8,none⟩=some (.int .i64 c.audit.count)∧w'.cell? ⟨fb,9,none⟩=some (.int .i64 c.audit.journal))
   (exact(λhl=>(HC.out _ hl)) La)
   (first
    |(go_at_call 117;rw[g0.out.1];(with_reducible refine d0.out.mono ?_);rintro e w3 ⟨v,rfl,hown,hlc⟩;have f0:=g0.out.2.trans hlc;have e0:=Hd hown;clear hown hlc)
    |fail)
  go_upto_region 4 with fail
  obtain⟨j0,j1,j2,j3,j4⟩:=c0.out w3 f0;clear k0 k1 k2 k3 k4 k5;refine wp_region_held_drew (S:=λw'=>w'.cell? ⟨cb,0,none⟩=some (.pointer (some ⟨fb,0,none⟩))/\w'.cell? ⟨fb,5,none⟩=some (.slice a5 n c5)/\w'.cell? ⟨fb,6,none⟩=some (.int .i64 c.audit.level)/\w'.cell? ⟨fb,10,none⟩=some (.int .i64 c.boot)/\w'.cell? ⟨fb,11,none⟩=some (.int .i64 c.sectors)) (by kernel_rfl) (c0.out _ La) (λa0=>?_);refine tkS 0 a0 ?_;refine tkS 1 a0 ?_;refine tkS 2 a0 ?_;refine tkS 3 a0 ?_;refine tkS 4 a0 ?_;refine rd1 5 (λK hK=>?_)
  go_simp
  refine(l0.out _).mono ?_;rintro e w4 ⟨rfl,rfl⟩;refine hK.out _ _ ?_ (λa0=>?_)
  ·exact c0.out _ La
  clear hK K
  (try simp only[p0,p1,p2,p3,p4,p5,p6])
  refine tkS 6 a0 ?_;refine tkS 7 a0 ?_;refine tkS 8 a0 ?_;refine tkS 9 a0 ?_;refine tkS 10 a0 ?_;refine tkS 11 a0 ?_;refine tkS 12 a0 ?_;refine tkS 13 a0 ?_;refine tkS 14 a0 ?_;refine tkS 15 a0 ?_;refine tkS 16 a0 ?_;refine tkS 17 a0 ?_;refine tkS 18 a0 ?_;refine rd1 19 (λK hK=>?_)
  go_simp
  refine(n0.out _ v f0 e0.out b0 h8 _ La).mono ?_;rintro e w5 ⟨rfl,hl5⟩;refine hK.out _ _ ?_ (λa0=>?_)
  ·exact c0.out _ La
  clear hK K
  (try simp only[p0,p1,p2,p3,p4,p5,p6])
  refine tkS 20 a0 ?_;refine tkS 21 a0 ?_;refine tkS 22 a0 ?_;refine tkS 23 a0 ?_;refine tkS 24 a0 ?_;refine tkS 25 a0 ?_;refine tkS 26 a0 ?_;refine tkS 27 a0 ?_;refine tkS 28 a0 ?_;refine rd1 29 (λK hK=>?_)
  go_simp
  refine(r0.out hL b0 HB.out.2.1 _ La).mono ?_;rintro e w6 ⟨rfl,hl6⟩;refine hK.out _ _ ?_ (λa0=>?_)
  ·exact c0.out _ La
  clear hK K
  (try simp only[p0,p1,p2,p3,p4,p5,p6])
  refine tkS 30 a0 ?_;refine tkS 31 a0 ?_;refine tkS 32 a0 ?_;refine tkS 33 a0 ?_;refine tkS 34 a0 ?_;refine tkS 35 a0 ?_;refine tkS 36 a0 ?_;refine tkS 37 a0 ?_;refine tkS 38 a0 ?_;refine tkS 39 a0 ?_;refine tkS 40 a0 ?_;refine tkS 41 a0 ?_;refine tkV 42 a0 ?_;refine tkV 43 a0 ?_;refine tkV 44 a0 ?_;refine tkV 45 a0 ?_;refine tkV 46 a0 ?_;refine tkV 47 a0 ?_;refine tkV 48 a0 ?_;refine tkV 49 a0 ?_;refine tkV 50 a0 ?_;refine tkV 51 a0 ?_;refine tkV 52 a0 ?_;refine tkV 53 a0 ?_;refine tkV 54 a0 ?_;refine tkS 55 a0 ?_;refine wpAnyH_done (by kernel_rfl) ?_ _
  go_wp2_with fail
  go_ret
  have i0:=HH.out.2.1;exact⟨Zw h0.out.symm,La⟩
 ·obtain rfl:s1=true:=HB.out.1.symm.trans hw;obtain rfl:A1=true:=HB.out.2.1.symm.trans ha;obtain rfl:A2=true:=HB.out.2.2.1.symm.trans hb;obtain rfl:bt=false:=HB.out.2.2.2.symm.trans hbt;have h8:=of_decide_eq_true h8;have hz:=of_decide_eq_true hz;have b0:U5 c:=ZI.1 hw;have s0:IntKind.i64.wrap (c.sectors - 2)=c.sectors - 2:=by have:=b0.1;have:=b0.2;rw[IntKind.wrap_i64];omega
  have hD:c.diskB=false:=by
   unfold Cfg.diskB;rw[hbt];simp
  have t0:decide ((8:Int)<(n:Int))=false:=decide_eq_false (by have:=HN.out;omega);have H0:(c.audit.level != 0)=false:=by simpa using hz
  have h0:=Hd hD;clear hw ha hb hbt hD hz
  go_enter Tryz.func101,Tryz.ntmps101
  go_upto_region 1 with fail
  rw[m0.out]
  go_region_held3 (fun w'=>w'.cell? ⟨cb,0,none⟩=some (.pointer (some ⟨fb,0,none⟩))∧w'.cell? ⟨fb,5,none⟩=some (.slice a5 n c5)∧w'.cell? ⟨fb,6,none⟩=some (.int .i64 c.audit.level)∧w'.cell? ⟨fb,7,none⟩=some (.int .i64 c.audit.first)∧w'.cell? ⟨fb,8,none⟩=some (.int .i64 c.audit.count)∧w'.cell? ⟨fb,9,none⟩=some (.int .i64 c.audit.journal))
   (exact(λhl=>(HC.out _ hl)) La)
   (first
    |(go_at_call 117;rw[g0.out.1];(with_reducible refine d0.out.mono ?_);rintro e w3 ⟨v,rfl,hown,hlc⟩;have f0:=g0.out.2.trans hlc;have e0:=Hd hown;clear hown hlc)
    |fail)
  go_upto_region 4 with fail
  obtain⟨j0,j1,j2,j3,j4⟩:=c0.out w3 f0;clear k0 k1 k2 k3 k4 k5;refine wp_region_held_drew (S:=λw'=>w'.cell? ⟨cb,0,none⟩=some (.pointer (some ⟨fb,0,none⟩))/\w'.cell? ⟨fb,5,none⟩=some (.slice a5 n c5)/\w'.cell? ⟨fb,6,none⟩=some (.int .i64 c.audit.level)/\w'.cell? ⟨fb,10,none⟩=some (.int .i64 c.boot)/\w'.cell? ⟨fb,11,none⟩=some (.int .i64 c.sectors)) (by kernel_rfl) (c0.out _ La) (λa0=>?_);refine tkS 0 a0 ?_;refine tkS 1 a0 ?_;refine tkS 2 a0 ?_;refine tkS 3 a0 ?_;refine tkS 4 a0 ?_;refine rd1 5 (λK hK=>?_)
  go_simp
  refine(l0.out _).mono ?_;rintro e w4 ⟨rfl,rfl⟩;refine hK.out _ _ ?_ (λa0=>?_)
  ·exact c0.out _ La
  clear hK K
  (try simp only[p0,p1,p2,p3,p4,p5,p6])
  refine tkS 6 a0 ?_;refine tkS 7 a0 ?_;refine tkS 8 a0 ?_;refine tkS 9 a0 ?_;refine tkS 10 a0 ?_;refine tkS 11 a0 ?_;refine tkS 12 a0 ?_;refine tkS 13 a0 ?_;refine tkS 14 a0 ?_;refine tkS 15 a0 ?_;refine tkS 16 a0 ?_;refine tkS 17 a0 ?_;refine tkS 18 a0 ?_;refine rd1 19 (λK hK=>?_)
  go_simp
  refine(n0.out _ v f0 e0.out b0 h8 _ La).mono ?_;rintro e w5 ⟨rfl,hl5⟩;refine hK.out _ _ ?_ (λa0=>?_)
  ·exact c0.out _ La
  clear hK K
  (try simp only[p0,p1,p2,p3,p4,p5,p6])
  refine tkS 20 a0 ?_;refine tkS 21 a0 ?_;refine tkS 22 a0 ?_;refine tkS 23 a0 ?_;refine tkS 24 a0 ?_;refine tkS 25 a0 ?_;refine tkS 26 a0 ?_;refine tkS 27 a0 ?_;refine tkS 28 a0 ?_;refine rd1 29 (λK hK=>?_)
  go_simp
  refine(r0.out hL b0 HB.out.2.1 _ La).mono ?_;rintro e w6 ⟨rfl,hl6⟩;refine hK.out _ _ ?_ (λa0=>?_)
  ·exact c0.out _ La
  clear hK K
  (try simp only[p0,p1,p2,p3,p4,p5,p6])
  refine tkS 30 a0 ?_;refine tkS 31 a0 ?_;refine tkS 32 a0 ?_;refine tkS 33 a0 ?_;refine tkS 34 a0 ?_;refine tkS 35 a0 ?_;refine tkS 36 a0 ?_;refine tkS 37 a0 ?_;refine tkS 38 a0 ?_;refine tkS 39 a0 ?_;refine tkS 40 a0 ?_;refine tkS 41 a0 ?_;refine tkS 42 a0 ?_;refine tkS 43 a0 ?_;refine tkS 44 a0 ?_;refine tkS 45 a0 ?_;refine tkS 46 a0 ?_;refine tkS 47 a0 ?_;refine tkS 48 a0 ?_;refine tkS 49 a0 ?_;refine tkS 50 a0 ?_;refine tkS 51 a0 ?_;refine tkS 52 a0 ?_;refine rd1 53 (λK hK=>?_)
  go_simp
  refine(C0.out _).mono ?_;rintro e w7 ⟨rfl,rfl⟩;refine hK.out _ _ ?_ (λa0=>?_)
  ·exact c0.out _ La
  clear hK K
  (try simp only[p0,p1,p2,p3,p4,p5,p6])
  refine tkS 54 a0 ?_;refine tkS 55 a0 ?_;refine wpAnyH_done (by kernel_rfl) ?_ _
  go_wp2_with fail
  go_ret
  have i0:=HH.out.2.1;exact⟨Zw h0.out.symm,La⟩
