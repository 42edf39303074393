import Derived.Test.YtbchkjfnakabkaaGreatDoorNJx
import Derived.Test.YtbchkjfnakabkaaGreatDoorNW
set_option linter.unusedSimpArgs false
set_option linter.unusedVariables false
set_option maxHeartbeats 8000000
set_option maxRecDepth 100000
namespace Go.Proofs.YtbchkjfnakabkaaGreatDoor
open Go.RowKit PX PC Go.Maps
theorem Zet(w:World)(fb:Nat)(c:Cfg)(vF vP vW vO vV vR vK lv:Value)(h:FormIn w fb c vF vP vW vO vV vR vK lv)(hI:CfgI c)(hW:CfgW c)(hL:El c) :
 Calls Tryz.prog 101 #[.pointer (some ⟨fb,0,none⟩)] w λe w'=>e=.returned (.bool c.diskB)/\Later w w':=by
 cases hh:(((inB c.sectors 1 4096&&decide (c.volumes.length<=8))&&((ext0 c).all (X1 c)&&c.volumes.all (JR c)))&&(decide (c.audit.level=0)&&inB c.boot 0 (c.sectors - 2)))
 ·exact Zh1 w fb c vF vP vW vO vV vR vK lv h hI hW hL hh
 ·exact Zgp w fb c vF vP vW vO vV vR vK lv h hI hW hL hh
theorem BU{c:Cfg}(h1:inB c.windows.length 1 64=true)(h2:c.windows.all (JQ c)=true):U4 c:=by
 rw[ZI]at h1;refine⟨by omega,λx hx=>?_⟩;have:=List.all_eq_true.1 h2 x hx;unfold JQ at this;rw[Bool.and_eq_true,ZI]at this;exact this.2
theorem DM(c:Cfg):c.windowsB=((inB c.windows.length 1 64&&c.windows.all (JQ c))&&(Z7 c.windows 0 c.parts&&(c.rules.isEmpty || hasT c.windows 4 0))):=rfl
theorem Dc(w:World)(fb:Nat)(c:Cfg)(vF vP vW vO vV vR vK lv:Value)(h:FormIn w fb c vF vP vW vO vV vR vK lv)(hI:CfgI c)(hL:El c) :
 Calls Tryz.prog 99 #[.pointer (some ⟨fb,0,none⟩)] w λe w'=>e=.returned (.bool c.windowsB)/\Later w w':=by
 obtain⟨aP,cP,rfl,p1,p2,p3⟩:=Zl h.rP;obtain⟨aW,cW,rfl,q1,q2,q3⟩:=Zl h.rW;obtain⟨aR,cR,rfl,r1,r2,r3⟩:=Zl h.rR;obtain⟨cb,w1,hcb,hw1,hlw,hblk,hcell⟩:=Vx (w:=w) (fb:=fb);have h1:=h.later hlw;have hfl:=h1.lt;have HF:=Hd (And.intro h1 (And.intro hcell hlw));have l0:=Hd hw1;have HC:=Hd (λ(w':World) (hl:Later w1 w')=>And.intro (hl.cell hcell) (And.intro (show w'.cell? ⟨fb,2,none⟩=some (.slice aP c.parts.length cP) from(h1.later hl).cell 2) (And.intro (show w'.cell? ⟨fb,3,none⟩=some (.slice aW c.windows.length cW) from(h1.later hl).cell 3) (show w'.cell? ⟨fb,12,none⟩=some (.slice aR c.rules.length cR) from(h1.later hl).cell 12))));have e0:=Hd (λ(w':World)=>XA w' (c.windows.length:Int) 1 64)
 have a0:=Hd (fun (w':World) (hl:Later w1 w')=>Zii w' _ c.windows (h1.rW.later hl) 110 #[.pointer (some ⟨cb,0,none⟩)] (enters_of Tryz.func110 (by kernel_rfl) rfl) (JQ c) (by omega)
  (λw2 h2 x hx=>Wf w2 cb fb c x aP cP ((hl.trans h2).cell hcell) ((h1.later (hl.trans h2)).cell 0) ((h1.later (hl.trans h2)).cell 2) (by omega) hL (hI.windows x hx)))
 have b0:=Hd (λ(hw:U4 c) (w':World) (hl:Later w1 w') (k i:Int)=>Zgh w' fb c _ k i (show w'.cell? ⟨fb,3,none⟩=some (.slice aW c.windows.length cW) from(h1.later hl).cell 3) (h1.rW.later hl) hw);have q0:=Hd (λ(w':World) (hl:Later w1 w')=>h1.rP.later hl)
 obtain⟨nW,hnW⟩:∃ n,c.windows.length=n:=⟨_,rfl⟩
 obtain⟨n,hn⟩:∃ n,c.parts.length=n:=⟨_,rfl⟩
 obtain⟨m,hm⟩:∃ n,c.rules.length=n:=⟨_,rfl⟩
 have f0:=Hd (And.intro hnW (And.intro hn hm));rw[hnW]at e0 a0 q1 q3 HC;rw[hn]at p1 p3 HC q0;rw[hm]at r1 r3 HC;clear h h1 hw1 hlw hblk hcell hnW hn hm hL;have t0:=DM c;rw[t0,f0.out.1];clear t0;obtain⟨k0,k1,k2,k3⟩:=HC.out w1 (Later.refl _);cases hi:inB nW 1 64
 ·rw[hi]at e0;clear hi
  go_enter Tryz.func99,Tryz.ntmps99
  go_upto_region 1 with fail
  rw[l0.out]
  go_wp2_with (first
   |(go_at_call 23;(with_reducible refine(e0.out _).mono ?_);rintro e w' ⟨rfl,rfl⟩)
   |fail)
  go_ret
  exact⟨rfl,HF.out.2.2⟩
 ·rw[hi]at e0;cases ha:c.windows.all (JQ c)
  ·rw[ha]at a0;clear hi ha
   go_enter Tryz.func99,Tryz.ntmps99
   go_upto_region 1 with fail
   rw[l0.out]
   go_wp2_with (first
    |(go_at_call 23;(with_reducible refine(e0.out _).mono ?_);rintro e w' ⟨rfl,rfl⟩)
    |(go_at_call 112;(with_reducible refine(a0.out _ La).mono ?_);rintro e w' ⟨rfl,hl1⟩)
    |fail)
   go_ret
   exact⟨rfl,HF.out.2.2.trans hl1⟩
  ·rw[ha]at a0;have h0:=Hd (BU (c:=c) (by rw[f0.out.1];exact hi) ha);clear hi ha
   go_enter Tryz.func99,Tryz.ntmps99
   go_upto_region 1 with fail
   rw[l0.out]
   go_wp2_with (first
    |(go_at_call 23;(with_reducible refine(e0.out _).mono ?_);rintro e w9 ⟨rfl,hw9⟩;obtain rfl:=hw9.symm)
    |(go_at_call 112;(with_reducible refine(a0.out _ La).mono ?_);rintro e w2 ⟨rfl,hl2⟩;obtain⟨j0,j1,j2,j3⟩:=HC.out w2 hl2;clear k0 k1 k2 k3)
    |fail)
   go_loopw [31] (λvi wr=>∃ j:Nat,j<=n/\vi=.int .i64 (j:Int)/\Z7 c.windows 0 (c.parts.take j)=true/\Later w1 wr) (λvi _=>n - (intOf vi).toNat)
   case atStart=>exact⟨0,by omega,rfl,rfl,hl2⟩
   case round=>
    obtain⟨j,hj,rfl,hall,hb⟩:=hrel;clear j0 j1 j2 j3;by_cases hlt:j<n
    ·have g0:j<c.parts.length:=by rw[f0.out.2.1];exact hlt
     obtain⟨b,o,rfl,hb',hcc⟩:=Zz (q0.out wr hb) g0;have HS:=Hd (show Z7 c.windows 0 (c.parts.take (j+1))=Zel c.windows j c.parts[j] by rw[Zs g0,Bn,hall,Bool.true_and,List.length_take,Nat.min_eq_left (by omega)])
     obtain⟨x,hx⟩:∃ x,c.parts[j]=x:=⟨_,rfl⟩
     rw[hx]at hcc HS;clear hx;obtain⟨x1,x2⟩:=x;have c0:=hcc 0 (by omega);have c1:=hcc 1 (by omega);simp only[XQ,List.getElem?_cons_zero,List.getElem?_cons_succ,Nat.add_zero]at c0 c1;clear hcc
     obtain⟨w3,hw3⟩:∃ w3,wr.alloc (.cells #[.int .i64 x1,.int .i64 x2] 49)=w3:=⟨_,rfl⟩
     have p0:Later wr w3:=by rw[<-hw3];exact(Later.refl _).alloc _
     obtain⟨pb,hpb⟩:∃ pb,wr.heap.size=pb:=⟨_,rfl⟩
     have r0:w3.heap[pb]?=some (.cells #[.int .i64 x1,.int .i64 x2] 49 (0,0)):=by rw[<-hw3,<-hpb];exact Zd wr _
     have HK:=Hd (λ(w':World) (hl:Later w3 w')=>And.intro (((hb.trans p0).trans hl).cell HF.out.2.1) (Za (hl.block r0) 0));have d0:Later w1 w3:=hb.trans p0;have H1:=Hd (λ(w':World) (hl:Later w3 w')=>b0.out h0.out w' (d0.trans hl) 1 (j:Int));have H2:=Hd (λ(w':World) (hl:Later w3 w')=>b0.out h0.out w' (d0.trans hl) 2 x1);have H3:=Hd (λ(w':World) (hl:Later w3 w')=>b0.out h0.out w' (d0.trans hl) 3 x1)
     obtain⟨b1,hb1⟩:∃ b1,hasW c 1 (j:Int)=b1:=⟨_,rfl⟩
     obtain⟨b2,hb2⟩:∃ b2,hasW c 2 x1=b2:=⟨_,rfl⟩
     obtain⟨b3,hb3⟩:∃ b3,hasW c 3 x1=b3:=⟨_,rfl⟩
     have i0:Hid (Z7 c.windows 0 (c.parts.take (j+1))=(b1&&(b2&&b3))):=Hd (HS.out.trans (by rw[<-hb1,<-hb2,<-hb3];rfl));rw[hb1]at H1;rw[hb2]at H2;rw[hb3]at H3;have y0:=Hd hw3;have z0:=Hd hpb;clear hb1 hb2 hb3 hw3 hpb r0 HS hall;obtain⟨k0,k1⟩:=HK.out w3 (Later.refl _)
     go_upto_region 7 with fail
     rw[y0.out,z0.out];cases b1
     ·go_wp2_with (first
       |(go_at_call 113;(with_reducible refine(H1.out _ La).mono ?_);rintro e w4 ⟨rfl,hl4⟩;obtain⟨k0,k1⟩:=HK.out w4 La)
       |fail)
      go_ret
      refine⟨Zw ?_,(by have:=HF.out.2.2;exact this.trans La)⟩;have h1:Z7 c.windows 0 c.parts=false:=Jd (j:=j+1) (by rw[i0.out];rfl);rw[h1];rfl
     ·cases b2
      ·go_wp2_with (first
        |(go_at_call 113;(with_reducible refine(H1.out _ La).mono ?_);rintro e w4 ⟨rfl,hl4⟩;obtain⟨k0,k1⟩:=HK.out w4 La)
        |(go_at_call 113;(with_reducible refine(H2.out _ La).mono ?_);rintro e w5 ⟨rfl,hl5⟩;obtain⟨k0,k1⟩:=HK.out w5 La)
        |fail)
       go_ret
       refine⟨Zw ?_,(by have:=HF.out.2.2;exact this.trans La)⟩;have h1:Z7 c.windows 0 c.parts=false:=Jd (j:=j+1) (by rw[i0.out];rfl);rw[h1];rfl
      ·cases b3
       ·go_wp2_with (first
         |(go_at_call 113;(with_reducible refine(H1.out _ La).mono ?_);rintro e w4 ⟨rfl,hl4⟩;obtain⟨k0,k1⟩:=HK.out w4 La)
         |(go_at_call 113;(with_reducible refine(H2.out _ La).mono ?_);rintro e w5 ⟨rfl,hl5⟩;obtain⟨k0,k1⟩:=HK.out w5 La)
         |(go_at_call 113;(with_reducible refine(H3.out _ La).mono ?_);rintro e w6 ⟨rfl,hl6⟩;obtain⟨k0,k1⟩:=HK.out w6 La)
         |fail)
        go_ret
        refine⟨Zw ?_,(by have:=HF.out.2.2;exact this.trans La)⟩;have h1:Z7 c.windows 0 c.parts=false:=Jd (j:=j+1) (by rw[i0.out];rfl);rw[h1];rfl
       ·go_wp2_with (first
         |(go_at_call 113;(with_reducible refine(H1.out _ La).mono ?_);rintro e w4 ⟨rfl,hl4⟩;obtain⟨k0,k1⟩:=HK.out w4 La)
         |(go_at_call 113;(with_reducible refine(H2.out _ La).mono ?_);rintro e w5 ⟨rfl,hl5⟩;obtain⟨k0,k1⟩:=HK.out w5 La)
         |(go_at_call 113;(with_reducible refine(H3.out _ La).mono ?_);rintro e w6 ⟨rfl,hl6⟩;obtain⟨k0,k1⟩:=HK.out w6 La)
         |fail)
        refine⟨⟨j+1,by omega,by simp,by rw[i0.out];rfl,La⟩,by simp only[intOf];omega⟩
    ·obtain rfl:j=n:=by omega
     have hp:Z7 c.windows 0 c.parts=true:=by rw[<-f0.out.2.1,List.take_length]at hall;exact hall
     have HP:=Hd hp;clear hp hall;obtain⟨k0,k1,k2,k3⟩:=HC.out wr hb;have HG:=Hd (λ(w':World) (hl:Later w1 w')=>b0.out h0.out w' hl 4 0)
     obtain⟨bg,hbg⟩:∃ bg,hasW c 4 0=bg:=⟨_,rfl⟩
     have v0:=Hd (show hasT c.windows 4 0=bg from hbg);rw[hbg]at HG;have s0:=Hd hb;clear hbg;by_cases hm0:m=0
     ·have he:((m:Int)==0)=true:=by simpa using hm0
      have hr:c.rules.isEmpty=true:=by rw[List.isEmpty_iff];exact List.eq_nil_of_length_eq_zero (by rw[f0.out.2.2];exact hm0)
      have HR:=Hd hr;clear hm0 hr
      go_wp2_with fail
      go_ret
      exact⟨Zw (by rw[HP.out,HR.out];rfl),HF.out.2.2.trans s0.out⟩
     ·have he:((m:Int)==0)=false:=by simpa using hm0
      have hr:c.rules.isEmpty=false:=by
       rw[Bool.eq_false_iff];intro e;rw[List.isEmpty_iff]at e;have:=f0.out.2.2;rw[e]at this;exact hm0 this.symm
      have HR:=Hd hr;clear hm0 hr
      go_wp2_with (first
       |(go_at_call 113;(with_reducible refine(HG.out _ La).mono ?_);rintro e w5 ⟨rfl,hl5⟩)
       |fail)
      go_ret
      exact⟨Zw (by rw[HP.out,HR.out,v0.out];cases bg<;>rfl),(HF.out.2.2.trans s0.out).trans hl5⟩
def Zin(w:World)(c:Cfg)(e:Ending)(w':World):Prop:=
 ∃ (q:Option Addr) (k:Int),e=.returned (.tuple #[.pointer q,.int .i64 k])/\(k==0)=latB c.levels c.flows/\(latB c.levels c.flows=true->LatOf w' c (.pointer q))/\Later w w'
theorem ZhA(w:World)(c:Cfg)(a:Option Addr)(cap:Nat)(h:RowAt w 2 (.slice a c.flows.length cap) (c.flows.map Xx))(hI:CfgI c):Calls Tryz.prog 106 #[.int .i64 c.levels,.slice a c.flows.length cap] w (Zin w c):=by
 have hc:Calls Tryz.prog 106 #[.int .i64 c.levels,.slice a c.flows.length cap] w (U6 c.levels c.flows w):=by
  by_cases h1:1<=c.levels/\c.levels<=8/\c.flows.length<=64
  ·obtain⟨N,hN⟩:=Int.eq_ofNat_of_zero_le (show 0<=c.levels by omega);rw[hN];exact ZfQ w N c.flows a cap (by omega) (by omega) h1.2.2 h hI.flows
  ·obtain⟨_,_,hv,q1,q2,q3⟩:=Zl h;exact ZhB w c.levels c.flows a cap h1 (by omega)
 refine hc.mono λe w' ⟨hh,hl⟩=>?_
 rcases hh with⟨hlat,lb,N,U,D,hn,rfl,h1,h2,-⟩|⟨hno,k,rfl,hk⟩
 ·exact⟨_,0,rfl,by rw[YA.2 hlat];rfl,λ_=>⟨⟨lb,N,U,D,rfl,hn,h1,h2⟩⟩,hl⟩
 ·have:latB c.levels c.flows=false:=by rw[Bool.eq_false_iff];exact λq=>hno (YA.1 q)
  refine⟨_,k,rfl,by rw[this];simpa using hk,λq=>?_,hl⟩;rw[this]at q;cases q
theorem Bq(w:World)(fb:Nat)(c:Cfg)(vF vP vW vO vV vR vK lv:Value)(h:FormIn w fb c vF vP vW vO vV vR vK lv)(hI:CfgI c) :
 Calls Tryz.prog 97 #[.pointer (some ⟨fb,0,none⟩)] w λe w'=>e=.returned (.bool (latB c.levels c.flows))/\∃ lv' w1,Later w w1/\w'=w1.setCell ⟨fb,17,none⟩ lv'/\(latB c.levels c.flows=true->LatOf w1 c lv'):=by
 obtain⟨aF,cF,rfl,p1,p2,p3⟩:=Zl h.rF;have k0:w.cell? ⟨fb,0,none⟩=some (.int .i64 c.levels):=h.cell 0;have k1:w.cell? ⟨fb,1,none⟩=some (.slice aF c.flows.length cF):=h.cell 1;have n0:=Hd (λ(w':World) (hl:Later w w')=>ZhA w' c aF cF (h.rF.later hl) hI);have HC:=Hd (λ(w':World) (hl:Later w w')=>And.intro (hl.cell k0) (hl.cell k1));have HB:=Hd (λ(w':World) (hl:Later w w')=>hl.block h.blk);clear h
 go_enter Tryz.func97,Tryz.ntmps97
 go_upto_region 1 with fail
 go_region_held3 (fun w'=>w'.cell? ⟨fb,0,none⟩=some (.int .i64 c.levels)∧w'.cell? ⟨fb,1,none⟩=some (.slice aF c.flows.length cF))
  (exact(λhl=>(HC.out _ hl)) La)
  (first
   |(go_at_call 106;(with_reducible refine(n0.out _ La).mono ?_);rintro e w2 ⟨q,k,rfl,hk,hlat,hl2⟩;have HK:=Hd hk;have o0:=Hd hlat;clear hk hlat)
   |fail)
 have hb:=HB.out w2 La;have m0:(w2.cell? ⟨fb,17,none⟩).isSome=true:=by rw[Za hb 17];rfl
 have m1:=Zc hb 17;obtain⟨u,hu⟩:=Option.isSome_iff_exists.1 m0;clear hb m0
 go_wp2_with fail
 go_ret
 exact⟨Zw (by rw[<-HK.out]),.pointer q,w2,La,rfl,o0.out⟩
