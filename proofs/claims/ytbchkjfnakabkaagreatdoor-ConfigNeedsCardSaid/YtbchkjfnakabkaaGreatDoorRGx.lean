import Derived.Test.YtbchkjfnakabkaaGreatDoorRR
import Derived.Test.YtbchkjfnakabkaaGreatDoorRFx
import Derived.Test.YtbchkjfnakabkaaGreatDoorRD3
import Derived.Test.YtbchkjfnakabkaaGreatDoorND
import Derived.Test.YtbchkjfnakabkaaGreatDoorYM
import Derived.Test.YtbchkjfnakabkaaGreatDoorRA
set_option linter.unusedSimpArgs false
set_option linter.unusedVariables false
set_option maxHeartbeats 8000000
set_option maxRecDepth 100000
namespace Go.Proofs.YtbchkjfnakabkaaGreatDoor
open Go.RowKit PX PC
theorem Zfs(c:Cfg):c.fine=(latB c.levels c.flows&&(Jx c&&(c.windowsB&&c.diskB))):=by
 unfold Cfg.fine Jx;cases latB c.levels c.flows<;>cases c.partsB<;>cases c.portsB<;>cases c.windowsB<;>cases c.diskB<;>cases c.rulesB<;>cases c.textsB<;>rfl
theorem Zcu(w:World)(c:Cfg)(v:V7)(h:RowsOf w c v)(hI:CfgI c) :
 Calls Tryz.prog 21 #[.agg (cfgA c v)] w fun e w'=>e=.returned (.bool c.fine)∧Later w w':=by
 obtain⟨p,hp⟩:∃ p,w.heap.size=p:=⟨_,rfl⟩
 obtain⟨w1,hw1⟩:∃ w1,w.alloc (.cells (cfgA c v) 32)=w1:=⟨_,rfl⟩
 have hl1:Later w w1:=by rw[←hw1];exact(Later.refl w).alloc _
 have hv1:VarAt w1 p c v:=by unfold VarAt;rw[←hw1,←hp];exact Ze w _
 have k0:w1.cell? ⟨p,0,none⟩=some (.int .i64 c.levels):=Zb hv1 0;have k1:w1.cell? ⟨p,1,none⟩=some v.F:=Zb hv1 1;have HV1:=Hd (fun(w':World) (k:Later w1 w')=>hv1.later k);have HNW:=ZeJ w1 c.levels v.F c.flows (h.rF.later hl1);have HL1:=Hd hl1;have HW1:=Hd hw1;have HP:=Hd hp;have HRO:=Hd (fun(w':World) (k:Later w1 w')=>(show RowsOf w' c v from Rows7.later h (hl1.trans k)));have HII:=Hd hI;have HFD:=Hd (Zfs c)
 obtain⟨lv,hlv⟩:∃ lv,c.levels=lv:=⟨_,rfl⟩
 obtain⟨vF,hvF⟩:∃ x,v.F=x:=⟨_,rfl⟩
 rw[hlv]at k0 HNW;rw[hvF]at k1 HNW;have HLV:=Hd hlv;clear h hI hp hw1 hl1 hv1 hlv hvF;cases hb:latB c.levels c.flows
 ·have HNO:Calls Tryz.prog 71 #[.int .i64 lv,vF] w1 fun e w'=>∃ k:Int,e=.returned (.tuple #[.pointer none,.int .i64 k])∧(k==0)=false∧Later w1 w':=HNW.mono fun e w' hh=>by
   rcases hh with⟨h1,-⟩|⟨-, h2⟩
   ·rw[HLV.out,h1]at hb;cases hb
   ·exact h2
  have HN:=Hd HNO;have HB:=Hd hb;clear HNO HNW hb
  go_enter Tryz.func21,Tryz.ntmps21
  go_upto_region 1 with fail
  rw[HP.out,HW1.out]
  go_upto_region 2 with(first
   |(go_at_call 71;(with_reducible refine HN.out.mono ?_);rintro e w2 ⟨kk,rfl,hkk,hl2⟩)
   |fail)
  have hkk2:(kk != 0)=true:=by rw[bne,hkk];rfl
  go_wp2_with fail
  (try go_ret)
  exact⟨by rw[HFD.out,HB.out];rfl,HL1.out.trans hl2⟩
 ·have HNO:Calls Tryz.prog 71 #[.int .i64 lv,vF] w1 fun e w'=>∃ (lb:Nat) (M:Mat),e=.returned (.tuple #[.pointer (some ⟨lb,0,none⟩),.int .i64 0])∧DocLat w' lb lv.toNat M∧(∀a b:Nat,a<lv.toNat→b<lv.toNat→M a b=rchB c.flows a b)∧Later w1 w':=HNW.mono fun e w' hh=>by
   rcases hh with⟨-, h2⟩|⟨h1,-⟩
   ·exact h2
   ·rw[HLV.out,h1]at hb;cases hb
  have hlat:=Y1.1 hb;rw[HLV.out]at hlat
  have hlv8:1≤lv∧lv≤8:=⟨hlat.1,hlat.2⟩
  obtain⟨N,rfl⟩:∃ N:Nat,lv=N:=⟨lv.toNat,by omega⟩
  have hN8:1≤N∧N≤8:=by omega
  rw[Int.toNat_natCast]at HNO;have HN:=Hd HNO;have HB:=Hd hb;have HN8:=Hd hN8;clear HNO HNW hb hlat hlv8 hN8
  obtain⟨r1,hr1⟩:∃ b,Jx c=b:=⟨_,rfl⟩
  obtain⟨r2,hr2⟩:∃ b,c.windowsB=b:=⟨_,rfl⟩
  obtain⟨r3,hr3⟩:∃ b,c.diskB=b:=⟨_,rfl⟩
  have HFN:Hid (c.fine=(r1&&(r2&&r3))):=Hd (by rw[HFD.out,HB.out,hr1,hr2,hr3];rfl);have HC1:=Hd hr1
  have HWI:=Hd (fun(w':World) (k:Later w1 w')=>(show Calls Tryz.prog 73 #[.agg (cfgA c v)] w' fun e w2=>e=.returned (.bool r2)∧Later w' w2 by
   rw[←hr2];exact Q5 w' c v (HRO.out w' k) (by rw[HLV.out];have:=HN8.out;omega) (by rw[HLV.out];have:=HN8.out;omega)))
  have HDI:=Hd (fun(w':World) (k:Later w1 w')=>(show Calls Tryz.prog 74 #[.agg (cfgA c v)] w' fun e w2=>e=.returned (.bool r3)∧Later w' w2 by
   rw[←hr3];exact Zcx w' c v N (HRO.out w' k) HII.out HLV.out HN8.out.1 HN8.out.2))
  clear hr1 hr2 hr3
  go_enter Tryz.func21,Tryz.ntmps21
  go_upto_region 1 with fail
  rw[HP.out,HW1.out]
  go_upto_region 2 with(first
   |(go_at_call 71;(with_reducible refine HN.out.mono ?_);rintro e w2 ⟨lb,M,rfl,hD,hM,hl2⟩)
   |fail)
  have HRE:=Hd (fun(w':World) (k:Later w2 w')=>(show Calls Tryz.prog 72 #[.agg (cfgA c v),.pointer (some ⟨lb,0,none⟩)] w' fun e w3=>e=.returned (.bool r1)∧Later w' w3 by
   rw[←HC1.out];exact Zck w' c v lb N M (HRO.out w' (hl2.trans k)) HII.out HLV.out HN8.out.1 HN8.out.2 (hD.later k) hM))
  clear k0 k1 hD hM;cases r1
  ·go_wp2_with (first
    |(go_at_call 72;(with_reducible refine(HRE.out _ (Later.refl _)).mono ?_);rintro e w3 ⟨rfl,hl3⟩)
    |((with_reducible refine Xn (p:=p) (c:=c) (v:=v) 1 ?_ ?_ ?_ ?_ ?_);rfl;rfl;exact(HV1.out _ La);rfl)
    |fail)
   (try go_ret)
   exact⟨by rw[HFN.out];rfl,HL1.out.trans (hl2.trans hl3)⟩
  ·cases r2
   ·go_wp2_with (first
     |(go_at_call 72;(with_reducible refine(HRE.out _ (Later.refl _)).mono ?_);rintro e w3 ⟨rfl,hl3⟩)
     |(go_at_call 73;(with_reducible refine(HWI.out _ La).mono ?_);rintro e w4 ⟨rfl,hl4⟩)
     |((with_reducible refine Xn (p:=p) (c:=c) (v:=v) 1 ?_ ?_ ?_ ?_ ?_);rfl;rfl;exact(HV1.out _ La);rfl)
     |fail)
    (try go_ret)
    exact⟨by rw[HFN.out];rfl,HL1.out.trans (hl2.trans (hl3.trans hl4))⟩
   ·go_wp2_with (first
     |(go_at_call 72;(with_reducible refine(HRE.out _ (Later.refl _)).mono ?_);rintro e w3 ⟨rfl,hl3⟩)
     |(go_at_call 73;(with_reducible refine(HWI.out _ La).mono ?_);rintro e w4 ⟨rfl,hl4⟩)
     |(go_at_call 74;(with_reducible refine(HDI.out _ La).mono ?_);rintro e w5 ⟨rfl,hl5⟩)
     |((with_reducible refine Xn (p:=p) (c:=c) (v:=v) 1 ?_ ?_ ?_ ?_ ?_);rfl;rfl;exact(HV1.out _ La);rfl)
     |fail)
    (try go_ret)
    exact⟨by rw[HFN.out];rfl,HL1.out.trans (hl2.trans (hl3.trans (hl4.trans hl5)))⟩
end Go.Proofs.YtbchkjfnakabkaaGreatDoor
namespace Go.Proofs.YtbchkjfnakabkaaGreatDoor
open Go.RowKit PX PC
theorem Zgn(n:Int){m:Nat}(h:1≤m):-(m:Int)<n.tmod m∧n.tmod m<m:=by
 have h1:=Int.emod_nonneg n (show(m:Int)≠0 by omega);have h2:=Int.emod_lt_of_pos n (show(0:Int)<m by omega);rw[Int.tmod_eq_emod];split<;>omega
theorem ZcH(w:World)(n:Int)(m:Nat)(h1:1≤m)(h2:m≤140737488355328) :
 Calls Tryz.prog 20 #[.int .i64 n,.int .i64 (m:Int)] w fun e w'=>(∃k:Nat,e=.returned (.int .i64 (k:Int))∧k<m)∧w'=w:=by
 obtain⟨r,hr⟩:∃ r,n.tmod (m:Int)=r:=⟨_,rfl⟩
 have hb:=Zgn n h1;rw[hr]at hb;have hm0:¬ (m:Int)=0:=by omega
 have hm1:((m:Int)==0)=false:=by simpa using hm0
 have hw:IntKind.i64.wrap (n.tmod (m:Int))=r:=by rw[hr,IntKind.wrap_i64];omega
 by_cases hs:r<0
 ·have hd:decide (r<0)=true:=decide_eq_true hs
  obtain⟨k,hk⟩:∃ k:Nat,r+(m:Int)=k:=⟨(r+m).toNat,by omega⟩
  have hwk:IntKind.i64.wrap (r+(m:Int))=(k:Int):=by rw[hk,IntKind.wrap_i64];omega
  have HK:=Hd (show k<m by omega);clear hb hs hk
  go_enter Tryz.func20,Tryz.ntmps20
  go_wp2_with fail
  (try go_ret)
  exact⟨⟨k,rfl,HK.out⟩,rfl⟩
 ·have hd:decide (r<0)=false:=decide_eq_false hs;obtain⟨k,hk⟩:=Int.eq_ofNat_of_zero_le (show 0≤r by omega);subst hk;have HK:=Hd (show k<m by omega);clear hb hs
  go_enter Tryz.func20,Tryz.ntmps20
  go_wp2_with fail
  (try go_ret)
  exact⟨⟨k,rfl,HK.out⟩,rfl⟩
end Go.Proofs.YtbchkjfnakabkaaGreatDoor
namespace Go.Proofs.YtbchkjfnakabkaaGreatDoor
open Go.RowKit PX PC
theorem ZeH{α:Type}{w:World}{g n cap k i q:Nat}{f:α→List Value}{l:List α}{y:α}{u:Value}(hf:∀ x,(f x).length=k)(h:RowAt w k (.slice (some ⟨g,0,none⟩) n cap) (l.map f))(hi:i<l.length)(hq:q<k)(hy:f y=(f l[i]).set q u) :
 RowAt (w.setCell ⟨g,i*k+q,none⟩ u) k (.slice (some ⟨g,0,none⟩) n cap) ((l.set i y).map f):=by
 obtain⟨a',cap',hv,h1,h2,h3,h4⟩:=h;have hln:n=l.length:=by injection hv with _ e _;rw[e,List.length_map]
 rcases h4 with h4|⟨b,o,rfl,hb,hc⟩
 ·have:=List.map_eq_nil_iff.1 h4;subst this;simp at hi
 ·injection hv with e1 e2 e3;injection e1 with e1;injection e1 with e1 e4 _;subst e1 e3 e4;rw[List.length_map]at *;refine⟨some ⟨g,0,none⟩,cap,by rw[List.length_map,List.length_set,hln],by rw[List.length_map,List.length_set];exact h1,h2,by rw[List.length_map,List.length_set];exact h3,.inr ⟨g,0,rfl,by simpa using hb,fun i' hi' j hj=>?_⟩⟩;rw[List.length_map,List.length_set]at hi';have hc':=hc i' (by rw[List.length_map];exact hi') j hj;rw[List.getElem_map]at hc' ⊢;by_cases e:i'=i∧j=q
  ·obtain⟨rfl,rfl⟩:=e;have hlt:j<(f l[i']).length:=by rw[hf];exact hq
   rw[List.getElem_set_self,hy,List.getElem?_set_self hlt];rw[List.getElem?_eq_getElem hlt]at hc';have e0:(0:Nat)+i'*k+j=i'*k+j:=by omega
   rw[e0]at hc' ⊢;exact World.cell?_setCell_same _ _ _ hc'
  ·have hne:(⟨g,i*k+q,none⟩:Addr)≠⟨g,0+i'*k+j,none⟩:=by
    intro he;have he2:i*k+q=0+i'*k+j:=congrArg Addr.off he;apply e;have e5:i*k+q=i'*k+j:=by omega
    have e6:i=i':=by
     have a1:=congrArg (·/k) e5;rw[Nat.add_comm,Nat.add_mul_div_right _ _ (by omega),Nat.div_eq_of_lt hq,Nat.add_comm (i'*k),Nat.add_mul_div_right _ _ (by omega),Nat.div_eq_of_lt hj]at a1;omega
    subst e6;exact⟨rfl,by omega⟩
   rw[World.cell?_setCell_other _ _ _ _ hne,hc'];by_cases e2:i'=i
   ·subst e2;have hjq:¬ j=q:=fun e3=>e ⟨rfl,e3⟩
    rw[List.getElem_set_self,hy,List.getElem?_set_ne (fun e3=>hjq e3.symm)]
   ·rw[List.getElem_set_ne (fun e3=>e2 e3.symm)]
theorem RowAt.far{w:World}{k q j:Nat}{v:Value}{css:List (List Value)}{u:Value}(h:RowAt w k v css)(hne:∀ g,v.ownBlock=some g→q≠g):RowAt (w.setCell ⟨q,j,none⟩ u) k v css:=by
 obtain⟨a',cap',hv,h1,h2,h3,h4⟩:=h;refine⟨a',cap',hv,h1,h2,h3,?_⟩;rcases h4 with h4|⟨b,o,rfl,hb,hc⟩
 ·exact .inl h4
 ·have hqb:=hne b (by rw[hv];rfl);refine .inr ⟨b,o,rfl,by simpa using hb,fun i hi j' hj=>?_⟩;rw[World.cell?_setCell_far _ _ _ _ hqb];exact hc i hi j' hj
theorem ZeG{α:Type}{w:World}{k n cap r:Nat}{a:Option Addr}{f:α→List Value}{l:List α}(h:RowAt w k (.slice a n cap) (l.map f))(hr:r≤l.length):RowAt w k (.slice a r cap) ((l.take r).map f):=by
 obtain⟨a',cap',hv,h1,h2,h3,h4⟩:=h;injection hv with e1 e2 e3;subst e1 e2 e3;rw[List.length_map]at *;have hlen:((l.take r).map f).length=r:=by rw[List.length_map,List.length_take];omega
 refine⟨a,cap,by rw[hlen],by rw[hlen];omega,h2,by rw[hlen];exact Nat.le_trans (Nat.mul_le_mul_right _ hr) h3,?_⟩;rcases h4 with h4|⟨b,o,rfl,hb,hc⟩
 ·have:=List.map_eq_nil_iff.1 h4;subst this;exact .inl (by simp)
 ·refine .inr ⟨b,o,rfl,hb,fun i hi j hj=>?_⟩;rw[hlen]at hi;rw[hc i (by rw[List.length_map];omega) j hj,List.getElem_map,List.getElem_map,List.getElem_take]
theorem ZbW{l:List Win}(h:∀ x∈l,winI x){k:Nat}{y:Win}(hy:winI y):∀ x∈l.set k y,winI x:=by
 intro x hx;rcases List.mem_or_eq_of_mem_set hx with hx|rfl
 ·exact h x hx
 ·exact hy
theorem ZbB(w:World)(c:Cfg)(v:V7)(which:Int)(h0:RowsOf w c v)(hI:CfgI c)(hW:CfgW c) :
 Calls Tryz.prog 9 #[.agg (cfgA c v),.int .i64 which] w fun e w'=>e=.returned (.bool true)∧Later w w':=by
 have HFX:=Hd DY;obtain⟨aW,cW,eqW,pW1,pW2,pW3⟩:=Zm h0.rW;obtain⟨aR,cR,eqR,pR1,pR2,pR3⟩:=Zm h0.rR
 obtain⟨nW,hnW⟩:∃ n,c.windows.length=n:=⟨_,rfl⟩
 obtain⟨nR,hnR⟩:∃ n,c.rules.length=n:=⟨_,rfl⟩
 rw[hnW]at eqW pW1 pW3;rw[hnR]at eqR pR1 pR3;have hWR:nR*56≤140737488351232:=by rw[←hnR];exact hW.2.2
 obtain⟨p,hp⟩:∃ p,w.heap.size=p:=⟨_,rfl⟩
 obtain⟨w1,hw1⟩:∃ w1,w.alloc (.cells (cfgA c v) 32)=w1:=⟨_,rfl⟩
 have hl1:Later w w1:=by rw[←hw1];exact(Later.refl w).alloc _
 have hv1:VarAt w1 p c v:=by unfold VarAt;rw[←hw1,←hp];exact Ze w _
 have HV1:=Hd (fun(w':World) (k:Later w1 w')=>hv1.later k);have HK3:=Hd (fun(w':World) (k:Later w1 w')=>(show w'.cell? ⟨p,3,none⟩=some (.slice aW nW cW) by rw[Zb (hv1.later k) 3,←eqW];rfl));have HK12:=Hd (fun(w':World) (k:Later w1 w')=>(show w'.cell? ⟨p,12,none⟩=some (.slice aR nR cR) by rw[Zb (hv1.later k) 12,←eqR];rfl));have HRW:=Hd (fun(w':World) (k:Later w1 w')=>(show RowAt w' 3 (.slice aW nW cW) (c.windows.map winC) by rw[←eqW];exact h0.rW.later (hl1.trans k)));have HRR:=Hd (fun(w':World) (k:Later w1 w')=>(show RowAt w' 5 (.slice aR nR cR) (c.rules.map ruC) by rw[←eqR];exact h0.rR.later (hl1.trans k)));have HND:=Hd (fun(w':World) (k:Later w1 w')=>ET w' c v (Rows7.later h0 (hl1.trans k)) hI hW);have HFI:=Hd (fun(w':World) (k:Later w1 w')=>Zcu w' c v (Rows7.later h0 (hl1.trans k)) hI);have HNW:=Hd hnW;have HNR:=Hd hnR;have HIW:=Hd (And.intro hI hW);have H0:=Hd h0;have HONE:=Hd h0.one;have HL1:=Hd hl1;have HW1:=Hd hw1;have HP:=Hd hp;have hpw:p<w1.heap.size:=hv1.lt;have hp0:w.heap.size≤p:=by omega
 have hw1s:w.heap.size≤w1.heap.size:=by omega
 obtain⟨nb,hnb⟩:∃ n,c.needB=n:=⟨_,rfl⟩
 obtain⟨fi,hfi⟩:∃ b,c.fine=b:=⟨_,rfl⟩
 rw[hnb]at HND;rw[hfi]at HFI;have HNB:Hid (nb=if fi then c.need else 0):=Hd (by rw[←hnb,←hfi];rfl);have HFF:=Hd hfi;clear hp hw1 hnW hnR eqW eqR h0 hI hW hv1 hl1 hnb hfi;cases fi
 ·have hnb:=HNB.out;rw[if_neg (by decide)]at hnb;subst hnb
  go_enter Tryz.func9,Tryz.ntmps9
  go_upto_region 1 with fail
  rw[HP.out,HW1.out]
  go_wp2_with (first
   |((with_reducible refine Xn (p:=p) (c:=c) (v:=v) 2 ?_ ?_ ?_ ?_ ?_);rfl;rfl;exact(HV1.out _ La);rfl)
   |(go_at_call 12;(with_reducible refine(HND.out _ La).mono ?_);rintro e w2 ⟨rfl,hl2⟩)
   |(go_at_call 21;(with_reducible refine(HFI.out _ La).mono ?_);rintro e w3 ⟨rfl,hl3⟩)
   |(go_at_call 14;(with_reducible refine(HFX.out _).mono ?_);rintro e w4 ⟨rfl,hl4⟩)
   |fail)
  (try go_ret)
  exact⟨rfl,HL1.out.trans La⟩
 ·have hnb:=HNB.out;rw[if_pos rfl]at hnb;have hnb2:2≤nb:=by rw[hnb];exact Qo
  have hnb0:(nb==0)=false:=by simp;omega
  obtain⟨-, -, hwin,-⟩:=YJ HFF.out;have htk:=Zbq hwin
  have hnW1:1≤nW∧nW≤64:=by
   have h1:=hwin;unfold Cfg.windowsB at h1;rw[Bool.and_eq_true,Bool.and_eq_true,ZR]at h1;have:=HNW.out;omega
  obtain⟨hnW1,hnW64⟩:=hnW1;have HTK:=Hd htk;have HNB2:=Hd hnb;have HWIN:=Hd hwin;clear hnb hwin htk;have hlt:w1.heap.size≤w1.heap.size:=Nat.le_refl _
  go_enter Tryz.func9,Tryz.ntmps9
  go_upto_region 1 with fail
  rw[HP.out,HW1.out]
  go_upto_region 6 with(first
   |((with_reducible refine Xn (p:=p) (c:=c) (v:=v) 2 ?_ ?_ ?_ ?_ ?_);rfl;rfl;exact(HV1.out _ La);rfl)
   |(go_at_call 12;(with_reducible refine(HND.out _ La).mono ?_);rintro e w2 ⟨rfl,hl2⟩)
   |(go_at_call 21;(with_reducible refine(HFI.out _ La).mono ?_);rintro e w3 ⟨rfl,hl3⟩)
   |fail)
  have hl13:Later w1 w3:=hl2.trans hl3;clear hl2 hl3
  go_upto_region 7 with(first
   |((with_reducible refine Xn (p:=p) (c:=c) (v:=v) 2 ?_ ?_ ?_ ?_ ?_);rfl;rfl;exact(HV1.out _ La);rfl)
   |refine wpList_store_row rfl 32 (.tmp 6) (.tmp 22) rfl w3.heap.size (cfgA c v) rfl rfl 32 _ (Ze _ _) (Xz _ _) rfl HONE.out ?_
   |fail)
  generalize hW4:World.setRow _ _ _=w4
  obtain⟨q,hq⟩:∃ q,w3.heap.size=q:=⟨_,rfl⟩
  have hv4:VarAt w4 q c v:=by rw[←hW4,←hq];exact(Vy _ _ _ _).1
  have hl4:Later w1 w4:=by rw[←hW4];exact hl13.trans (Vy _ _ _ _).2
  have hq1:w1.heap.size≤q:=by rw[←hq];exact hl13.size
  rw[hq];have hq4:q<w4.heap.size:=hv4.lt;have hp4:p<w4.heap.size:=by have:=hl4.size;omega
  have k3:=HK3.out w4 hl4;have HV4:=Hd hv4;have HL4:=Hd hl4;clear hW4 hq hv4 hl13
  go_upto_region 8 with(first
   | (at_builtin;refine Jz ZfC rfl (.tmp 23) (.tmp 25) rfl (W0:=w4) La _ [] c.windows (by rfl) (UD winC (Ze _ _) (Nat.le_refl _)) aW nW cW HNW.out (by rfl) (HRW.out _ (HL4.out.trans La)) (by rw [HNW.out];simp;omega) ?_
      intro v1 w5 hown1 hl5 hk1;rw[List.nil_append,HNW.out]at hown1
      obtain⟨g,cap,cur,rfl,hg,hbg,hc1,hc2⟩:∃ g cap cur,v1=.slice (some ⟨g,0,none⟩) nW cap∧w4.heap.size≤g∧w5.heap[g]?=some (.cells cur 55 (0,0))∧nW≤cap∧cap≤9223372036854775807:=by
       rcases hown1.2 with⟨-, h0⟩|⟨g,cap,cur,rfl,hg,hb,hc1,hc2,-⟩
       ·omega
       ·exact⟨g,cap,cur,rfl,hg,hb,hc1,hc2⟩
      have z1:=Zb (hl5.block HV4.out) 3;have z2:=Zc (hl5.block HV4.out) 3;have z3:=Za (hl5.block HV4.out);have HR5:=Hd (show RowAt w5 3 (.slice (some ⟨g,0,none⟩) nW cap) (c.windows.map winC) from V1 (fun _=>rfl) (by rw[HNW.out];exact pW3) (by rw[HNW.out];exact hown1));have HBG:=Hd hbg
      clear hown1 hk1 hbg)
   |fail)
  generalize hW6:World.setCell _ _ _=w6;have hgq:q≠g:=by omega
  have hv6:VarAt w6 q c { v with W:=.slice (some ⟨g,0,none⟩) nW cap }:=by rw[←hW6];exact VarAt.set (HV4.out.later hl5) 3 _ rfl
  have hr6:RowAt w6 3 (.slice (some ⟨g,0,none⟩) nW cap) (c.windows.map winC):=by rw[←hW6];exact HR5.out.far (fun g' e=>by have this:g=g':=(by simpa [Value.ownBlock] using e);omega)
  have hl6:Later w1 w6:=by rw[←hW6];exact Later.setC (HL4.out.trans hl5) (by omega) _ _
  have hb6:w6.heap[g]?=some (.cells cur 55 (0,0)):=by rw[←hW6];exact((V0 w5 q 3 _).block g (Za HBG.out) (fun e=>hgq e.symm)).trans HBG.out
  have HV6:=Hd hv6;have HR6:=Hd hr6;have HL6:=Hd hl6;have HB6:=Hd hb6;have q3:w6.cell? ⟨q,3,none⟩=some (.slice (some ⟨g,0,none⟩) nW cap):=Zb hv6 3;clear hW6 z1 z2 z3 k3 hl5 hv6 hr6 hl6 hb6;have HPL:=Hd (ZcH w6 which nW hnW1 (by omega))
  go_upto_region 9 with(first
   |(go_at_call 20;(with_reducible refine HPL.out.mono ?_);rintro e w9 ⟨⟨k,rfl,hk⟩,hw9⟩;have hw9:=hw9.symm;subst hw9)
   |fail)
  have hkL:k<c.windows.length:=by rw[HNW.out];exact hk
  obtain⟨b',o',he,hb',hcc⟩:=ZG HR6.out hkL;injection he with he;injection he with ha1 ha2 _;subst ha1 ha2;have htk:=HTK.out _ (List.getElem_mem hkL);have hset:=fun h2=>Wm k hkL (fun y hy=>(HTK.out y hy).2) h2
  have hwI:=HIW.out.1.windows _ (List.getElem_mem hkL)
  obtain⟨x,hx⟩:∃ x,c.windows[k]=x:=⟨_,rfl⟩
  rw[hx]at hcc htk hset hwI;have HXX:=Hd hx;obtain⟨x0,x1,x2⟩:=x;have e2:=hcc 2 (by omega);simp only[winC,List.getElem?_cons_zero,List.getElem?_cons_succ,Nat.add_zero,Nat.zero_add]at e2;have f2:=Zc HB6.out (k*3+2);have l2:=Za HB6.out;have hwx:IntKind.i64.wrap (x2+1)=x2+1:=by rw[IntKind.wrap_i64];simp only at htk;omega
  have HSET:=Hd hset;have HWX:=Hd hwI;have HTX:=Hd htk;clear hcc hx hset hwI htk hb'
  go_upto_if 39 with fail
  go_cut [] from 39 to 48 (fun wx=>∃ W':List Win,U4 c.windows W'∧(∀y∈W',winI y)∧RowAt wx 3 (.slice (some ⟨g,0,none⟩) nW cap) (W'.map winC)∧VarAt wx q c { v with W:=.slice (some ⟨g,0,none⟩) nW cap }∧Later w1 wx)
  case first=>
   go_wp2_with fail
   ·go_meet
    case rel=>
     have hlt5:x2<255:=by first|assumption|omega
     refine⟨c.windows.set k ⟨x0,x1,x2+1⟩,HSET.out hlt5,ZbW HIW.out.1.windows ?_,?_,((V0 w6 g (k*3+2) _).block q HV6.out.lt (fun e=>hgq e)).trans HV6.out,Later.setC HL6.out (by omega) _ _⟩
     ·have h1:=HWX.out;have h2:1≤x2∧x2≤255:=HTX.out;intro n hn;simp only[List.mem_cons,List.not_mem_nil,or_false]at hn;rcases hn with rfl|rfl|rfl
      ·exact h1 _ (by simp)
      ·exact h1 _ (by simp)
      ·exact⟨by omega,by omega⟩
     ·exact ZeH (fun _=>rfl) HR6.out (by rw[HNW.out];exact hk) (by omega) (by rw[HXX.out];rfl)
   ·go_meet
    case rel=>exact⟨c.windows,UE (fun y hy=>(HTK.out y hy).2),HIW.out.1.windows,HR6.out,HV6.out,HL6.out⟩
  case rest=>
   obtain⟨W',hmw,hwi,hrw,hvx,hlx⟩:=hcut
   obtain⟨w7,hw7⟩:∃ y,wc=y:=⟨_,rfl⟩
   rw[hw7]at hrw hvx hlx ⊢;clear hw7 e2 f2 l2 hwx q3
   obtain⟨d,hd⟩:∃ d:Cfg,({ c with windows:=W' }:Cfg)=d:=⟨_,rfl⟩
   obtain⟨vd,hvd⟩:∃ x:V7,({ v with W:=.slice (some ⟨g,0,none⟩) nW cap }:V7)=x:=⟨_,rfl⟩
   have hvD:VarAt w7 q d vd:=by rw[←hd,←hvd];exact hvx
   have hrD:RowsOf w7 d vd:=by
    rw[←hd,←hvd];have hh:=Rows7.later H0.out (HL1.out.trans hlx);exact⟨hh.rF,hh.rP,hrw,hh.rO,hh.rV,hh.rR,hh.rK⟩
   have hID:CfgI d:=by
    rw[←hd];have i:=HIW.out.1;exact⟨i.levels,i.flows,i.parts,hwi,i.ports,i.volumes,i.audit,i.boot,i.sectors,i.rules,i.keys,i.login,i.recovery,i.bound⟩
   have hWD:CfgW d:=by rw[←hd];exact HIW.out.2
   have hfD:d.fine=true:=by rw[←hd];exact Zc4 hmw HFF.out
   have hnD:d.need≤nb:=by rw[←hd,HNB2.out];exact Zc3 hmw HWIN.out
   have hdr:d.rules=c.rules:=by rw[←hd]
   have hvW:vd.W=.slice (some ⟨g,0,none⟩) nW cap:=by rw[←hvd]
   obtain⟨nm,hnm⟩:∃ n,d.needB=n:=⟨_,rfl⟩
   have hnm1:nm=d.need:=by rw[←hnm];unfold Cfg.needB;rw[if_pos hfD]
   have hnm2:2≤nm:=by rw[hnm1];exact Qo
   have d1:(nm==0)=false:=by simp;omega
   have d2:decide (nb<nm)=false:=decide_eq_false (by omega);have HNM:=Hd (fun(w':World) (k:Later w7 w')=>hnm▸ET w' d vd (Rows7.later hrD k) hID hWD);have HVD:=Hd (fun(w':World) (k:Later w7 w')=>hvD.later k);have HLX:=Hd hlx;have HDD:=Hd (And.intro hrD (And.intro hID (And.intro hWD (And.intro hfD (And.intro hdr (And.intro hvW hnm1))))));have HHR:=Hd (fun(w':World) (k:Later w7 w')=>HK12.out w' (hlx.trans k));have HDE:=Hd (And.intro hd hvd);clear hd hvd hvD hrD hID hWD hfD hnD hdr hnm hnm1 hrw hvx hlx hmw hwi hvW;by_cases hr:0<nR
   ·have c1:decide ((0:Int)<(nR:Int))=true:=decide_eq_true (by omega);have c2:decide (0<nR)=true:=decide_eq_true hr
    obtain⟨r,hr1⟩:∃ r,nR=r+1:=⟨nR - 1,by omega⟩
    have hwr:IntKind.i64.wrap ((nR:Int) - 1)=(r:Int):=by rw[IntKind.wrap_i64];omega
    obtain⟨b,o,hao,-, -⟩:=ZG (HRR.out w1 (Later.refl _)) (show 0<c.rules.length by rw[HNR.out];exact hr);subst hao;have HR1:=Hd hr1;have hrn:r≤nR:=by omega
    have hrc:r≤cR:=by omega
    clear hr hr1
    go_upto_region 15 with(first
     |((with_reducible refine Xn (p:=q) (c:=d) (v:=vd) 6 ?_ ?_ ?_ ?_ ?_);rfl;rfl;exact(HVD.out _ La);rfl)
     |(go_at_call 12;(with_reducible refine(HNM.out _ La).mono ?_);rintro e w8 ⟨rfl,hl8⟩;have k12:=HHR.out w8 hl8)
     |fail)
    have hp8:p<w8.heap.size:=by have:=HLX.out.size;have:=hl8.size;omega
    go_upto_region 16 with(first
     | (at_builtin;refine Jz Zhe rfl (.tmp 62) (.tmp 69) rfl (W0:=w8) La _ [] (c.rules.take r) (by rfl) (UD ruC (Ze _ _) (Nat.le_refl _)) (some ⟨b,o,none⟩) r cR (by rw [List.length_take,HNR.out];omega) (by rfl) (ZeG (HRR.out _ (HLX.out.trans (hl8.trans La))) (by rw [HNR.out];omega)) (by rw [List.length_take,HNR.out];simp;omega) ?_
        intro v2 w9 hown2 hl9 hk2;have z1:=Zb (HVD.out w9 (hl8.trans hl9)) 12;have z2:=Zc (HVD.out w9 (hl8.trans hl9)) 12;have z3:=Za (HVD.out w9 (hl8.trans hl9));rw[List.nil_append]at hown2
        obtain⟨a2,c2,e2⟩:∃ a2 c2,v2=.slice a2 r c2:=by
         obtain⟨a2,c2,e2,-⟩:=Zm (V1 (l:=c.rules.take r) (k:=5) (f:=ruC) (fun _=>rfl) (by rw[List.length_take,HNR.out];omega) hown2);exact⟨a2,c2,by rw[e2,List.length_take,HNR.out];congr 1;omega⟩
        subst e2;have HO2:=Hd hown2
        clear hown2 hk2)
     |fail)
    generalize hW10:World.setCell _ _ _=w10;have hq8:q<w8.heap.size:=(HVD.out w8 hl8).lt;have hl10:Later w1 w10:=by rw[←hW10];exact Later.setC (HLX.out.trans (hl8.trans hl9)) (by omega) _ _
    obtain⟨hrD,hID,hWD,hfD,hdr,hvW,hnm1⟩:=HDD.out;have hrl:(c.rules.take r).length=r:=by rw[List.length_take,HNR.out];omega
    have ho2:=HO2.out
    obtain⟨v2,hv2⟩:∃ x,Value.slice a2 r c2=x:=⟨_,rfl⟩
    rw[hv2]at ho2 hW10;have hfar:∀ g',v2.ownBlock=some g'→q≠g':=fun g' e=>by have:=(ho2.lt g' e).1;omega
    have hrows:RowsOf w10 { d with rules:=c.rules.take r } { vd with R:=v2 }:=by
     have hh:=Rows7.later H0.out (HL1.out.trans hl10);obtain⟨ed,ev⟩:=HDE.out;subst ed ev;refine⟨hh.rF,hh.rP,?_,hh.rO,hh.rV,?_,hh.rK⟩
     ·rw[←hW10];exact(hrD.rW.later (hl8.trans hl9)).far fun g' e=>by have this:g=g':=(by simpa [Value.ownBlock] using e);omega
     ·rw[←hW10];exact RowAt.far (V1 (fun _=>rfl) (by rw[hrl];omega) ho2) hfar
    have hvar:VarAt w10 q { d with rules:=c.rules.take r } { vd with R:=v2 }:=by rw[←hW10];exact VarAt.set (HVD.out w9 (hl8.trans hl9)) 12 _ rfl
    have hI2:CfgI { d with rules:=c.rules.take r }:=⟨hID.levels,hID.flows,hID.parts,hID.windows,hID.ports,hID.volumes,hID.audit,hID.boot,hID.sectors,fun x hx=>HIW.out.1.rules x (List.mem_of_mem_take hx),hID.keys,hID.login,hID.recovery,hID.bound⟩
    have hW2:CfgW { d with rules:=c.rules.take r }:=⟨hWD.1,hWD.2.1,by show(c.rules.take r).length*56≤_;rw[hrl];omega⟩
    have hsub:(c.rules.take r).Sublist d.rules:=by rw[hdr];exact List.take_sublist _ _
    have hf2:=ZaI hsub hfD;have hn2:=ZaH hsub (YJ hfD).2.2.1;rw[←hnm1]at hn2
    obtain⟨d3,hd3⟩:∃ x:Cfg,{ d with rules:=c.rules.take r }=x:=⟨_,rfl⟩
    obtain⟨v3,hv3⟩:∃ x:V7,{ vd with R:=v2 }=x:=⟨_,rfl⟩
    rw[hd3,hv3]at hrows hvar;rw[hd3]at hI2 hW2 hf2 hn2
    obtain⟨nu,hnu⟩:∃ n,d3.needB=n:=⟨_,rfl⟩
    have hnu1:nu=d3.need:=by rw[←hnu];unfold Cfg.needB;rw[if_pos hf2]
    have hnu2:2≤nu:=by rw[hnu1];exact Qo
    have d3':(nu==0)=false:=by simp;omega
    have d4:decide (nm<nu)=false:=decide_eq_false (by omega);have HNU:=Hd (fun(w':World) (k:Later w10 w')=>hnu▸ET w' d3 v3 (Rows7.later hrows k) hI2 hW2);have HVE:=Hd (fun(w':World) (k:Later w10 w')=>hvar.later k);have HL10:=Hd hl10;clear hW10 hq8 hl10 hrD hID hWD hfD hdr hvW hnm1 hrl ho2 hfar hrows hvar hI2 hW2 hsub hf2 hn2 hd3 hv3 hnu hnu1 z1 z2 z3 k12 d1 d2
    go_wp2_with (first
     |((with_reducible refine Xn (p:=q) (c:=d3) (v:=v3) 6 ?_ ?_ ?_ ?_ ?_);rfl;rfl;exact(HVE.out _ La);rfl)
     |(go_at_call 12;(with_reducible refine(HNU.out _ La).mono ?_);rintro e w11 ⟨rfl,hl11⟩)
     |(go_at_call 14;(with_reducible refine(HFX.out _).mono ?_);rintro e w12 ⟨rfl,hl12⟩)
     |fail)
    (try go_ret)
    exact⟨rfl,HL1.out.trans (HL10.out.trans (hl11.trans hl12))⟩
   ·have c1:decide ((0:Int)<(nR:Int))=false:=decide_eq_false (by omega);have c2:decide (0<nR)=false:=decide_eq_false hr;clear hr
    go_wp2_with (first
     |((with_reducible refine Xn (p:=q) (c:=d) (v:=vd) 6 ?_ ?_ ?_ ?_ ?_);rfl;rfl;exact(HVD.out _ La);rfl)
     |(go_at_call 12;(with_reducible refine(HNM.out _ La).mono ?_);rintro e w8 ⟨rfl,hl8⟩;have k12:=HHR.out w8 hl8)
     |(go_at_call 14;(with_reducible refine(HFX.out _).mono ?_);rintro e w9 ⟨rfl,hl9⟩)
     |fail)
    (try go_ret)
    exact⟨rfl,HL1.out.trans (HLX.out.trans (hl8.trans hl9))⟩
theorem ZbA(w:World)(cs:List Value)(c:Cfg)(which:Int)(h:CfgIn w cs c)(hI:CfgI c)(hW:CfgW c) :
 Calls Tryz.prog 9 #[.agg cs.toArray,.int .i64 which] w fun e w'=>e=.returned (.bool true)∧Below w.heap.size w w':=by
 obtain⟨v,hv,hr⟩:=h.asA;rw[hv]
 exact(ZbB w c v which hr hI hW).mono fun e w' ⟨he,hl⟩=>⟨he,hl.out⟩
end Go.Proofs.YtbchkjfnakabkaaGreatDoor
