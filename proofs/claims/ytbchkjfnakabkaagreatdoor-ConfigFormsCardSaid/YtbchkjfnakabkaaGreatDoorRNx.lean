import Derived.Test.YtbchkjfnakabkaaGreatDoorRR
import Derived.Test.YtbchkjfnakabkaaGreatDoorRFx
import Derived.Test.YtbchkjfnakabkaaGreatDoorRD3
import Derived.Test.YtbchkjfnakabkaaGreatDoorYP
import Derived.Test.YtbchkjfnakabkaaGreatDoorRA
import Derived.Test.YtbchkjfnakabkaaGreatDoorYM
set_option linter.unusedSimpArgs false
set_option linter.unusedVariables false
set_option maxHeartbeats 8000000
set_option maxRecDepth 100000
namespace Go.Proofs.YtbchkjfnakabkaaGreatDoor
open Go.RowKit PX PC
theorem Zfs(c:Cfg):c.fine=(latB c.levels c.flows&&(Jx c&&(c.windowsB&&c.diskB))):=by
 unfold Cfg.fine Jx;cases latB c.levels c.flows<;>cases c.partsB<;>cases c.portsB<;>cases c.windowsB<;>cases c.diskB<;>cases c.rulesB<;>cases c.textsB<;>rfl
theorem Zcu(w:World)(c:Cfg)(v:V7)(h:RowsOf w c v)(hI:CfgI c) :
 Calls Tryz.prog 21 #[.agg (cfgA c v)] w fun e w'=>e=.returned (.bool c.fine)∧Later w w':=by
 obtain⟨p,hp⟩:∃ p,w.heap.size=p:=⟨_,rfl⟩
 obtain⟨w1,hw1⟩:∃ w1,w.alloc (.cells (cfgA c v) 32)=w1:=⟨_,rfl⟩
 have c0:Later w w1:=by rw[←hw1];exact(Later.refl w).alloc _
 have d0:VarAt w1 p c v:=by unfold VarAt;rw[←hw1,←hp];exact Ze w _
 have k0:w1.cell? ⟨p,0,none⟩=some (.int .i64 c.levels):=Zb d0 0;have k1:w1.cell? ⟨p,1,none⟩=some v.F:=Zb d0 1;have b0:=Hd (fun(w':World) (k:Later w1 w')=>d0.later k);have O0:=ZeJ w1 c.levels v.F c.flows (h.rF.later c0);have l0:=Hd c0;have o0:=Hd hw1;have HP:=Hd hp;have g0:=Hd (fun(w':World) (k:Later w1 w')=>(show RowsOf w' c v from Rows7.later h (c0.trans k)));have l1:=Hd hI;have j2:=Hd (Zfs c)
 obtain⟨lv,hlv⟩:∃ lv,c.levels=lv:=⟨_,rfl⟩
 obtain⟨vF,hvF⟩:∃ x,v.F=x:=⟨_,rfl⟩
 rw[hlv]at k0 O0;rw[hvF]at k1 O0;have H0:=Hd hlv;clear h hI hp hw1 c0 d0 hlv hvF;cases hb:latB c.levels c.flows
 ·have n0:Calls Tryz.prog 71 #[.int .i64 lv,vF] w1 fun e w'=>∃ k:Int,e=.returned (.tuple #[.pointer none,.int .i64 k])∧(k==0)=false∧Later w1 w':=O0.mono fun e w' hh=>by
   rcases hh with⟨h1,-⟩|⟨-, h2⟩
   ·rw[H0.out,h1]at hb;cases hb
   ·exact h2
  have HN:=Hd n0;have HB:=Hd hb;clear n0 O0 hb
  go_enter Tryz.func21,Tryz.ntmps21
  go_upto_region 1 with fail
  rw[HP.out,o0.out]
  go_upto_region 2 with(first
   |(go_at_call 71;(with_reducible refine HN.out.mono ?_);rintro e w2 ⟨kk,rfl,hkk,hl2⟩)
   |fail)
  have hkk2:(kk != 0)=true:=by rw[bne,hkk];rfl
  go_wp2_with fail
  (try go_ret)
  exact⟨by rw[j2.out,HB.out];rfl,l0.out.trans hl2⟩
 ·have n0:Calls Tryz.prog 71 #[.int .i64 lv,vF] w1 fun e w'=>∃ (lb:Nat) (M:Mat),e=.returned (.tuple #[.pointer (some ⟨lb,0,none⟩),.int .i64 0])∧DocLat w' lb lv.toNat M∧(∀a b:Nat,a<lv.toNat→b<lv.toNat→M a b=rchB c.flows a b)∧Later w1 w':=O0.mono fun e w' hh=>by
   rcases hh with⟨-, h2⟩|⟨h1,-⟩
   ·exact h2
   ·rw[H0.out,h1]at hb;cases hb
  have j0:=Y1.1 hb;rw[H0.out]at j0
  have J1:1≤lv∧lv≤8:=⟨j0.1,j0.2⟩
  obtain⟨N,rfl⟩:∃ N:Nat,lv=N:=⟨lv.toNat,by omega⟩
  have R1:1≤N∧N≤8:=by omega
  rw[Int.toNat_natCast]at n0;have HN:=Hd n0;have HB:=Hd hb;have P0:=Hd R1;clear n0 O0 hb j0 J1 R1
  obtain⟨r1,hr1⟩:∃ b,Jx c=b:=⟨_,rfl⟩
  obtain⟨r2,hr2⟩:∃ b,c.windowsB=b:=⟨_,rfl⟩
  obtain⟨r3,hr3⟩:∃ b,c.diskB=b:=⟨_,rfl⟩
  have T1:Hid (c.fine=(r1&&(r2&&r3))):=Hd (by rw[j2.out,HB.out,hr1,hr2,hr3];rfl);have s1:=Hd hr1
  have n2:=Hd (fun(w':World) (k:Later w1 w')=>(show Calls Tryz.prog 73 #[.agg (cfgA c v)] w' fun e w2=>e=.returned (.bool r2)∧Later w' w2 by
   rw[←hr2];exact Q5 w' c v (g0.out w' k) (by rw[H0.out];have:=P0.out;omega) (by rw[H0.out];have:=P0.out;omega)))
  have a3:=Hd (fun(w':World) (k:Later w1 w')=>(show Calls Tryz.prog 74 #[.agg (cfgA c v)] w' fun e w2=>e=.returned (.bool r3)∧Later w' w2 by
   rw[←hr3];exact Zcx w' c v N (g0.out w' k) l1.out H0.out P0.out.1 P0.out.2))
  clear hr1 hr2 hr3
  go_enter Tryz.func21,Tryz.ntmps21
  go_upto_region 1 with fail
  rw[HP.out,o0.out]
  go_upto_region 2 with(first
   |(go_at_call 71;(with_reducible refine HN.out.mono ?_);rintro e w2 ⟨lb,M,rfl,hD,hM,hl2⟩)
   |fail)
  have L1:=Hd (fun(w':World) (k:Later w2 w')=>(show Calls Tryz.prog 72 #[.agg (cfgA c v),.pointer (some ⟨lb,0,none⟩)] w' fun e w3=>e=.returned (.bool r1)∧Later w' w3 by
   rw[←s1.out];exact Zck w' c v lb N M (g0.out w' (hl2.trans k)) l1.out H0.out P0.out.1 P0.out.2 (hD.later k) hM))
  clear k0 k1 hD hM;cases r1
  ·go_wp2_with (first
    |(go_at_call 72;(with_reducible refine(L1.out _ (Later.refl _)).mono ?_);rintro e w3 ⟨rfl,hl3⟩)
    |((with_reducible refine Xn (p:=p) (c:=c) (v:=v) 1 ?_ ?_ ?_ ?_ ?_);rfl;rfl;exact(b0.out _ La);rfl)
    |fail)
   (try go_ret)
   exact⟨by rw[T1.out];rfl,l0.out.trans (hl2.trans hl3)⟩
  ·cases r2
   ·go_wp2_with (first
     |(go_at_call 72;(with_reducible refine(L1.out _ (Later.refl _)).mono ?_);rintro e w3 ⟨rfl,hl3⟩)
     |(go_at_call 73;(with_reducible refine(n2.out _ La).mono ?_);rintro e w4 ⟨rfl,hl4⟩)
     |((with_reducible refine Xn (p:=p) (c:=c) (v:=v) 1 ?_ ?_ ?_ ?_ ?_);rfl;rfl;exact(b0.out _ La);rfl)
     |fail)
    (try go_ret)
    exact⟨by rw[T1.out];rfl,l0.out.trans (hl2.trans (hl3.trans hl4))⟩
   ·go_wp2_with (first
     |(go_at_call 72;(with_reducible refine(L1.out _ (Later.refl _)).mono ?_);rintro e w3 ⟨rfl,hl3⟩)
     |(go_at_call 73;(with_reducible refine(n2.out _ La).mono ?_);rintro e w4 ⟨rfl,hl4⟩)
     |(go_at_call 74;(with_reducible refine(a3.out _ La).mono ?_);rintro e w5 ⟨rfl,hl5⟩)
     |((with_reducible refine Xn (p:=p) (c:=c) (v:=v) 1 ?_ ?_ ?_ ?_ ?_);rfl;rfl;exact(b0.out _ La);rfl)
     |fail)
    (try go_ret)
    exact⟨by rw[T1.out];rfl,l0.out.trans (hl2.trans (hl3.trans (hl4.trans hl5)))⟩
open Go.RowKit PX PC
theorem Qav{a b:Int}{n:Nat}(hb:1≤b)(h1:a≤n*b)(h2:n=0∨((n:Int) - 1)*b<a)(ha:0≤a):upI a b=n:=by
 unfold upI
 have hu:(a+b - 1)/b≤n:=by
  refine Int.le_of_lt_add_one ((Int.ediv_lt_iff_lt_mul (by omega)).2 ?_);rw[Int.add_mul,Int.one_mul];omega
 have hl:(n:Int)≤(a+b - 1)/b:=by
  rw[Int.le_ediv_iff_mul_le (by omega)];rcases h2 with rfl|h2
  ·simp;omega
  ·rw[Int.sub_mul,Int.one_mul]at h2;omega
 omega
theorem Qaj(w:World)(a b:Int)(ha:0≤a)(ha2:a≤100000)(hb:1≤b)(hb2:b≤100000) :
 Calls Tryz.prog 26 #[.int .i64 a,.int .i64 b] w fun e w'=>e=.returned (.int .i64 (upI a b))∧w'=w:=by
 go_enter Tryz.func26,Tryz.ntmps26
 go_wp2_with fail
 go_loopw [5] (fun vn wr=>∃ n:Nat,vn=.int .i64 (n:Int)∧(n=0∨((n:Int) - 1)*b<a)∧wr=w) (fun vn _=>(a - intOf vn).toNat)
 case atStart=>exact⟨0,rfl,.inl rfl,rfl⟩
 case round=>
  obtain⟨n,rfl,hn,hwr⟩:=hrel;subst hwr
  have hna:(n:Int)≤a:=by
   rcases hn with rfl|h
   ·simpa using ha
   ·have h3:((n:Int) - 1)*1≤((n:Int) - 1)*b∨n=0:=by
     by_cases e:n=0
     ·exact .inr e
     ·exact .inl (Int.mul_le_mul_of_nonneg_left hb (by omega))
    omega
  have hp0:0≤(n:Int)*b:=Int.mul_nonneg (by omega) (by omega);have N0:(n:Int)*b≤100000*100000:=Int.mul_le_mul (by omega) hb2 (by omega) (by omega);have hwa:IntKind.i64.wrap ((n:Int)*b)=(n:Int)*b:=by rw[IntKind.wrap_i64];omega
  by_cases hlt:(n:Int)*b<a
  ·have hd:decide ((n:Int)*b<a)=true:=decide_eq_true hlt;have HX:=Hd hlt
   have f0:(n:Int)<a:=by
    have:(n:Int)*1≤(n:Int)*b:=Int.mul_le_mul_of_nonneg_left hb (by omega);omega
   clear hlt hn
   go_wp2_with fail
   exact⟨⟨n+1,by simp,.inr (by have:=HX.out;simpa using this),by first|trivial|rfl⟩,by simp only[intOf];omega⟩
  ·have hd:decide ((n:Int)*b<a)=false:=decide_eq_false hlt;have HU:=Hd (Qav hb (by omega) hn ha);clear hlt hn
   go_wp2_with fail
   go_ret
   exact⟨ZT HU.out.symm,rfl⟩
end Go.Proofs.YtbchkjfnakabkaaGreatDoor
namespace Go.Proofs.YtbchkjfnakabkaaGreatDoor.PC
open PX
def Qaa(c:Cfg):Nat→Int
 |0=>0
 |l+1=>if 0<cntL c.parts (l:Int) then max (Qaa c l) (upI (cntL c.parts (l:Int)) (c.tk 2 (l:Int))) else Qaa c l
theorem Qac(c:Cfg):∀ l:Nat,0≤Qaa c l
 |0=>Int.le_refl _
 |l+1=>by
  have:=Qac c l;unfold Qaa;split
  ·exact Int.le_trans this (Int.le_max_left ..)
  ·exact this
theorem Qae(c:Cfg){m:Int}(h0:0≤m):∀ l:Nat,(∀k:Nat,k<l→0<cntL c.parts (k:Int)→upI (cntL c.parts (k:Int)) (c.tk 2 (k:Int))≤m)→Qaa c l≤m
 |0,_=>h0
 |l+1,h=>by
  have h1:=Qae c h0 l fun k hk=>h k (by omega)
  unfold Qaa;split
  ·rename_i hp;exact Int.max_le.2 ⟨h1,h l (by omega) hp⟩
  ·exact h1
theorem Qak(c:Cfg){k:Nat}(hp:0<cntL c.parts (k:Int)):∀ l:Nat,k<l→upI (cntL c.parts (k:Int)) (c.tk 2 (k:Int))≤Qaa c l
 |0,h=>by omega
 |l+1,h=>by
  unfold Qaa;by_cases e:k=l
  ·subst e;rw[if_pos hp];exact Int.le_max_right ..
  ·have:=Qak c hp l (by omega);split
   ·exact Int.le_trans this (Int.le_max_left ..)
   ·exact this
theorem Qau{l:List Prt}{p:Prt}(h:p∈l):0<cntL l p.level:=by
 unfold cntL;exact List.length_pos_of_mem (List.mem_filter.2 ⟨h,by simp⟩)
theorem Qaf{l:List Prt}{n:Int}(h:0<cntL l n):∃ p∈l,p.level=n:=by
 unfold cntL at h;obtain⟨p,hp⟩:=List.exists_mem_of_length_pos h;rw[List.mem_filter,decide_eq_true_eq]at hp;exact⟨p,hp.1,hp.2⟩
theorem Qas(c:Cfg){N:Nat}(h:∀ p∈c.parts,0≤p.level∧p.level<N):Qaa c N=c.mostP:=by
 refine Int.le_antisymm (Qae c (X5 _) N fun k hk hp=>?_) (Eh (Qac c N) fun x hx=>?_)
 ·obtain⟨p,N0,hp2⟩:=Qaf hp;refine Ej (List.mem_map.2 ⟨p,N0,?_⟩);show upI _ _=_;rw[hp2]
 ·obtain⟨p,N0,rfl⟩:=List.mem_map.1 hx;obtain⟨k,hk⟩:=Int.eq_ofNat_of_zero_le (h p N0).1;have hq:=Qau N0;have hl:=(h p N0).2;show upI _ _≤_;rw[hk]at hq hl ⊢;exact Qak c hq N (by omega)
def Qab(l:List Ru)(K:List (Int × Int)):Prop:=K.Nodup∧K.length≤l.length∧∀ y,y∈K↔∃ r∈l,(r.fr,r.tu)=y
theorem Qal:Qab [] []:=⟨List.nodup_nil,Nat.le_refl _,fun y=>by simp⟩
theorem Qao{l:List Ru}{K:List (Int × Int)}{r:Ru}(h:Qab l K)(hr:(r.fr,r.tu)∈K):Qab (l++[r]) K:=by
 refine⟨h.1,by rw[List.length_append];exact Nat.le_trans h.2.1 (Nat.le_add_right ..),fun y=>?_⟩;rw[h.2.2 y];constructor
 ·rintro⟨q,hq,e⟩;exact⟨q,List.mem_append_left _ hq,e⟩
 ·rintro⟨q,hq,e⟩;rw[List.mem_append,List.mem_singleton]at hq;rcases hq with hq|rfl
  ·exact⟨q,hq,e⟩
  ·rw[e]at hr;exact(h.2.2 y).1 hr
theorem Qan{l:List Ru}{K:List (Int × Int)}{r:Ru}(h:Qab l K)(hr:(r.fr,r.tu)∉K):Qab (l++[r]) (K++[(r.fr,r.tu)]):=by
 refine⟨List.nodup_append.2 ⟨h.1,by simp,fun a ha b hb e=>hr (by rw[List.mem_singleton.1 hb]at e;rw[←e];exact ha)⟩,by rw[List.length_append,List.length_append];exact Nat.add_le_add_right h.2.1 1,fun y=>?_⟩;rw[List.mem_append,h.2.2 y,List.mem_singleton];constructor
 ·rintro(⟨q,hq,e⟩|e)
  ·exact⟨q,List.mem_append_left _ hq,e⟩
  ·exact⟨r,by simp,e.symm⟩
 ·rintro⟨q,hq,e⟩;rw[List.mem_append,List.mem_singleton]at hq;rcases hq with hq|rfl
  ·exact .inl ⟨q,hq,e⟩
  ·exact .inr e.symm
theorem Qat{l:List Ru}{K:List (Int × Int)}(h:Qab l K)(hl:∀ r∈l,lev 8 r.fr∧lev 8 r.tu):K.length=YY l:=
 DI l K id h.1 hl (fun _ _ _ _ _ _ e=>e) (fun y=>h.2.2 y)
end Go.Proofs.YtbchkjfnakabkaaGreatDoor.PC
namespace Go.Proofs.YtbchkjfnakabkaaGreatDoor
open Go.RowKit PX PC
open Go.Act renaming put → p0
open List renaming getElem_toArray → p1, getElem_cons_succ → p2, getElem_cons_zero → p3, setIfInBounds_toArray → p4, set_cons_zero → p5, set_cons_succ → p6
theorem Qai:ElemT Yl 2 16 47 22 (.agg #[.int .i64 0,.int .i64 0]):=
 ⟨by kernel_rfl,Tryz.underlying22,rfl,by decide,by decide,fun _=>rfl,by intro x u hu;simp only[Yl,List.mem_cons,List.not_mem_nil,or_false]at hu;rcases hu with rfl|rfl<;>rfl⟩
def Qad(K:List (Int × Int))(x:Int × Int)(k:Nat)(tb:Bool):Prop:=tb=true↔x∈K.take k
theorem Qag{w w':World}{B k n:Nat}{e:TypeId}{v:Value}{xs:List Value}(h:w.ownsRow B e k v n xs)(hl:Later w w'):w'.ownsRow B e k v n xs:=
 Only.ownsRow (Only.of_below (r:=fun _=>False) hl) h fun _ _ hr=>hr
theorem Qar(w:World)(c:Cfg)(v:V7)(h:RowsOf w c v)(hlev:∀ r∈c.rules,lev 8 r.fr∧lev 8 r.tu)(h32:c.rules.length≤32) :
 Calls Tryz.prog 28 #[.agg (cfgA c v)] w fun e w'=>(∃a cap,e=.returned (.slice a (YY c.rules) cap))∧Later w w':=by
 obtain⟨aR,pR,eR,gR1,gR2,gR3⟩:=Zm h.rR;have K1:=h.rR;rw[eR]at K1
 obtain⟨nR,hnR⟩:∃ n,c.rules.length=n:=⟨_,rfl⟩
 obtain⟨p,hp⟩:∃ p,w.heap.size=p:=⟨_,rfl⟩
 obtain⟨w1,hw1⟩:∃ w1,w.alloc (.cells (cfgA c v) 32)=w1:=⟨_,rfl⟩
 have c0:Later w w1:=by rw[←hw1];exact(Later.refl w).alloc _
 have d0:VarAt w1 p c v:=by unfold VarAt;rw[←hw1,←hp];exact Ze w _
 have HK:=Hd (fun(w':World) (k:Later w1 w')=>(show w'.cell? ⟨p,12,none⟩=some (.slice aR nR pR) by rw[Zb (d0.later k) 12,←hnR,←eR];rfl));have L2:=Hd (fun(w':World) (k:Later w1 w')=>(show RowAt w' 5 (.slice aR nR pR) (c.rules.map ruC) by rw[←hnR];exact K1.later (c0.trans k)));have HN:=Hd hnR;have I1:=Hd hlev;have l0:=Hd c0;have o0:=Hd hw1;have HP:=Hd hp;have R2:=Hd (show w1.heap.size=p+1 by rw[←hw1,←hp];simp);have hb32:nR≤32:=by omega
 obtain⟨iE,hiE,hz0,hz1,hz2⟩:=info_parts Qai.info;clear h hlev h32 K1 hnR eR gR1 gR2 gR3 hw1 hp d0 c0
 go_enter Tryz.func28,Tryz.ntmps28
 go_upto_region 2 with fail
 rw[HP.out,o0.out]
 have Z2:Hid ((w1.alloc (.cells #[] 47)).ownsRow w1.heap.size 47 2 (.slice (some ⟨p+1,0,none⟩) 0 0) ([]:List (Int × Int)).length (ZE Yl [])):=Hd (by
  have:=UD (w:=w1.alloc (.cells #[] 47)) (base:=w1.heap.size) (k:=2) Yl (Ze _ _) (Nat.le_refl _)
  rwa [R2.out]at this ⊢)
 have K2:Hid (Later w1 (w1.alloc (.cells #[] 47))):=Hd ((Later.refl w1).alloc _)
 go_wp2_with fail
 go_loopw [3,4] (fun vo vi wx=>∃ (j:Nat) (K:List (Int × Int)) (a:Option Addr) (cap:Nat),j≤nR∧vi=.int .i64 (j:Int)∧vo=.slice a K.length cap∧Qab (c.rules.take j) K∧wx.ownsRow w1.heap.size 47 2 (.slice a K.length cap) K.length (ZE Yl K)∧Later w1 wx) (fun _ vi _=>nR - (intOf vi).toNat)
 case atStart=>exact⟨0,[],_,_,by omega,rfl,rfl,by simpa using Qal,Z2.out,K2.out⟩
 case round=>
  obtain⟨j,K,oa,ocap,hj,rfl,rfl,hK,hown,hl⟩:=hrel;have kk:=HK.out _ hl;by_cases hlt:j<nR
  ·have M1:j<c.rules.length:=by rw[HN.out];exact hlt
   obtain⟨b,o,hao,hb',hcc⟩:=ZG (L2.out _ hl) M1;have r0:=Zx M1
   obtain⟨x,hx⟩:∃ x,c.rules[j]=x:=⟨_,rfl⟩
   rw[hx]at hcc r0;obtain⟨x0,x1,x2,x3,x4⟩:=x;have e0:=hcc 0 (by omega);have e1:=hcc 1 (by omega);simp only[ruC,List.getElem?_cons_zero,List.getElem?_cons_succ,Nat.add_zero]at e0 e1;subst hao;have hdn:decide (j<nR)=true:=decide_eq_true hlt;have f3:K.length≤32:=by have:=hK.2.1;rw[List.length_take]at this;omega
   have n1:=Hd hK;have I0:=Hd hown;have HL:=Hd hl;have q2:=Hd r0;clear hcc r0 hx hK hown hb' M1;have i0:=Hd (fun(w':World) (k:Later wr w')=>(show w'.cell? ⟨p,12,none⟩=some (.slice (some ⟨b,o,none⟩) nR pR)∧w'.cell? ⟨b,o+j*5,none⟩=some (.int .i64 x0)∧w'.cell? ⟨b,o+j*5+1,none⟩=some (.int .i64 x1) from⟨k.cell kk,k.cell e0,k.cell e1⟩))
   obtain⟨nK,hnK⟩:∃ n,K.length=n:=⟨_,rfl⟩
   rw[hnK]at I0 f3 ⊢;have t0:=Hd hnK;clear hnK e0 e1
   go_upto_region 5 with fail
   clear kk;refine wp_region_held_drew (S:=fun w'=>w'.cell? ⟨p,12,none⟩=some (.slice (some ⟨b,o,none⟩) nR pR)∧w'.cell? ⟨b,o+j*5,none⟩=some (.int .i64 x0)∧w'.cell? ⟨b,o+j*5+1,none⟩=some (.int .i64 x1)) (by kernel_rfl) (i0.out _ La) (fun a0=>?_);refine tkS 0 a0 ?_;refine tkS 1 a0 ?_;refine tkS 2 a0 ?_;refine tkS 3 a0 ?_;refine tkS 4 a0 ?_;refine tkS 5 a0 ?_;refine tkS 6 a0 ?_;refine tkS 7 a0 ?_;refine tkS 8 a0 ?_;refine tkS 9 a0 ?_;refine tkS 10 a0 ?_;refine tkS 11 a0 ?_;refine tkS 12 a0 ?_;refine wpAnyH_ready (rs:=[13]) (by kernel_rfl) (by simp) ?_;refine AllReadyH.cons rfl (fun K hK=>?_) AllReadyH.nil
   go_simp
   refine hK.out _ _ ?_ (fun a0=>?_)
   ·exact i0.out _ La
   clear hK K
   (try simp only[p0,p1,p2,p3,p4,p5,p6])
   refine wpAnyH_ready (rs:=[14]) (by kernel_rfl) (by simp) ?_;refine AllReadyH.cons rfl (fun K hK=>?_) AllReadyH.nil
   go_simp
   refine hK.out _ _ ?_ (fun a0=>?_)
   ·exact i0.out _ La
   clear hK K
   (try simp only[p0,p1,p2,p3,p4,p5,p6])
   refine wpAnyH_done (by kernel_rfl) ?_ _;clear a0 i0
   obtain⟨bx,hbx⟩:∃ g,wr.heap.size=g:=⟨_,rfl⟩
   obtain⟨wy,hwy⟩:∃ y,(wr.alloc (.cells #[.int .i64 x0,.int .i64 x1] 47)).drew=y:=⟨_,rfl⟩
   rw[hbx,hwy];have y2:wy.heap[bx]?=some (.cells #[.int .i64 x0,.int .i64 x1] 47 (0,0)):=by rw[←hwy];exact Zt hbx
   have E2:Later wr wy:=by rw[←hwy];exact((Later.refl _).alloc _).drew
   have z2:RowAt wr 2 (.slice oa nK ocap) (K.map Yl):=V1 (l:=K) (f:=Yl) (k:=2) (fun _=>rfl) (by rw[t0.out];omega) (by rw[t0.out];exact I0.out);have W2:=Hd (fun(w':World) (k:Later wr w')=>z2.later k)
   have j1:=Hd y2;have O1:=Hd E2;clear y2 E2 z2 hwy hbx
   go_wp2_with fail
   go_loopw [6,7] (fun vt vk wx=>∃ (k:Nat) (tb:Bool),k≤nK∧vk=.int .i64 (k:Int)∧vt=.bool tb∧Qad K (x0,x1) k tb∧Later wy wx) (fun _ vk _=>nK - (intOf vk).toNat)
   case atStart=>exact⟨0,false,by omega,rfl,rfl,by unfold Qad;simp,Later.refl _⟩
   case round=>
    obtain⟨k,tb,hk,rfl,rfl,ht,hlk⟩:=hrel;by_cases f0:k<nK
    ·have u1:k<K.length:=by rw[t0.out];exact f0
     have v0:=Zx u1;have hdk:decide (k<nK)=true:=decide_eq_true f0;obtain⟨gb,go,hoa,-, hcc⟩:=ZG (W2.out _ (O1.out.trans hlk)) u1
     obtain⟨y,hy⟩:∃ y,K[k]=y:=⟨_,rfl⟩
     rw[hy]at hcc v0;unfold Qad at ht;have s0:=Hd v0;have HT:=Hd ht;have R0:=Hd hlk;cases tb
     ·obtain⟨y0,y1⟩:=y;have q0:=hcc 0 (by omega);have q1:=hcc 1 (by omega);simp only[Yl,List.getElem?_cons_zero,List.getElem?_cons_succ,Nat.add_zero]at q0 q1;have z0:=Zb (hlk.block j1.out) 0;have z1:=Zb (hlk.block j1.out) 1;subst hoa;clear hcc v0 hy ht hlk u1;cases hs:Zgv y0 y1 x0 x1
      ·have N2:=Hd (show(x0,x1)≠(y0,y1) from fun e=>by
        simp only[Prod.mk.injEq]at e;rw[show Zgv y0 y1 x0 x1=true from decide_eq_true ⟨e.1.symm,e.2.symm⟩]at hs
        cases hs)
       go_upto_region 10 with fail
       go_quiet (fail)
       go_wp2_with fail
       refine⟨⟨k+1,false,by omega,by simp,by first|rfl|rw[hs],?_,Later.drewN R0.out _⟩,by simp only[intOf];omega⟩;unfold Qad;rw[s0.out,List.mem_append,List.mem_singleton,←HT.out];exact⟨fun q=>.inl q,fun q=>q.elim id (fun q=>absurd q N2.out)⟩
      ·have P2:=Hd (show(x0,x1)=(y0,y1) by
        have h:=of_decide_eq_true hs
        rw[h.1,h.2])
       go_upto_region 10 with fail
       go_quiet (fail)
       go_wp2_with fail
       refine⟨⟨k+1,true,by omega,by simp,by first|rfl|rw[hs],?_,Later.drewN R0.out _⟩,by simp only[intOf];omega⟩;unfold Qad;rw[s0.out,List.mem_append,List.mem_singleton];exact⟨fun _=>.inr P2.out,fun _=>rfl⟩
     ·clear hcc v0 hy ht hlk u1 hoa
      go_upto_region 10 with fail
      go_quiet (fail)
      go_wp2_with fail
      refine⟨⟨k+1,true,by omega,by simp,by rfl,?_,Later.drewN R0.out _⟩,by simp only[intOf];omega⟩;unfold Qad;rw[s0.out,List.mem_append];exact⟨fun _=>.inl (HT.out.1 rfl),fun _=>rfl⟩
    ·have I2:k=nK:=by omega
     subst I2;unfold Qad at ht;rw[List.take_of_length_le (by rw[t0.out];exact Nat.le_refl _)]at ht;have z0:=Zb (hlk.block j1.out) 0;have z1:=Zb (hlk.block j1.out) 1;have R0:=Hd (HL.out.trans (O1.out.trans hlk));have f1:=Hd (Qag I0.out (O1.out.trans hlk));have hlb:=Za (hlk.block j1.out);clear hlk;cases tb
     ·have g1:(x0,x1)∉K:=fun q=>by have:=ht.2 q;cases this
      have W1:=Hd (Qan (r:=⟨x0,x1,x2,x3,x4⟩) n1.out g1);clear ht g1
      go_wp2_with (first
       | (at_builtin;refine Jz Qai rfl (.tmp 46) (.tmp 48) rfl (W0:=w1) (R0.out.trans La) _ K [(x0,x1)] (by rfl) (by rw [t0.out];exact Qag f1.out La) _ 1 1 rfl (by rfl) (Zco (x:=(x0,x1)) (f:=Yl) (Ze _ _) rfl (by decide)) (by rw [t0.out];simp;omega) ?_
          intro v2 w5 hown2 hl5 hk2
          obtain⟨a2,c2,e2⟩:∃ a2 c2,v2=.slice a2 (K++[(x0,x1)]).length c2:=by
           obtain⟨a2,c2,e2,-⟩:=Zm (V1 (l:=K++[(x0,x1)]) (k:=2) (f:=Yl) (fun _=>rfl) (by rw[List.length_append,t0.out];simp;omega) hown2);exact⟨a2,c2,e2⟩
          subst e2;have k3:=Hd hown2
          clear hown2 hk2)
       |fail)
      exact⟨⟨j+1,K++[(x0,x1)],a2,c2,by omega,by simp,by first|rfl|simp,by rw[q2.out];exact W1.out,k3.out,hl5⟩,by simp only[intOf];omega⟩
     ·have S0:(x0,x1)∈K:=ht.1 rfl;have W1:=Hd (Qao (r:=⟨x0,x1,x2,x3,x4⟩) n1.out S0);clear ht S0
      go_wp2_with fail
      exact⟨⟨j+1,K,oa,ocap,by omega,by simp,by rw[t0.out],by rw[q2.out];exact W1.out,by rw[t0.out];exact f1.out,R0.out⟩,by simp only[intOf];omega⟩
  ·have M2:j=nR:=by omega
   subst M2;rw[List.take_of_length_le (by rw[HN.out];exact Nat.le_refl _)]at hK;have a1:=Qat hK I1.out;have T2:=Hd (l0.out.trans hl);rw[a1]
   obtain⟨pn,hpn2⟩:∃ n,YY c.rules=n:=⟨_,rfl⟩
   rw[hpn2];have b3:=Hd hpn2;clear hK hown hl a1 hpn2
   go_wp2_with fail
   (try go_ret)
   exact⟨⟨oa,ocap,by rw[b3.out];rfl⟩,T2.out⟩
open Go.RowKit PX PC
theorem Qam(c:Cfg)(hN:NeedOK c)(l:Nat):Qaa c l≤8:=by
 refine Qae c (by omega) l fun k hk hp=>?_
 obtain⟨q,hq,e⟩:=Qaf hp;have h1:=hN.ticks q hq;rw[e]at h1;have h2:=ZfX (a:=(cntL c.parts (k:Int):Int)) (by omega) h1;have h3:=Zd0 c.parts (k:Int);have h4:=hN.parts.2;show upI _ (sumT c.windows 2 (k:Int))≤8;omega
theorem Qah(w:World)(c:Cfg)(v:V7)(h:RowsOf w c v)(hI:CfgI c) :
 Calls Tryz.prog 13 #[.agg (cfgA c v)] w fun e w'=>e=.returned (.int .i64 c.needB)∧Later w w':=by
 obtain⟨p,hp⟩:∃ p,w.heap.size=p:=⟨_,rfl⟩
 obtain⟨w1,hw1⟩:∃ w1,w.alloc (.cells (cfgA c v) 32)=w1:=⟨_,rfl⟩
 have c0:Later w w1:=by rw[←hw1];exact(Later.refl w).alloc _
 have d0:VarAt w1 p c v:=by unfold VarAt;rw[←hw1,←hp];exact Ze w _
 have b0:=Hd (fun(w':World) (k:Later w1 w')=>d0.later k);have g0:=Hd (fun(w':World) (k:Later w1 w')=>(show RowsOf w' c v from Rows7.later h (c0.trans k)));have l0:=Hd c0;have o0:=Hd hw1;have HP:=Hd hp;have l1:=Hd hI;obtain⟨aP,pP,eP,gP1,gP2,gP3⟩:=Zm h.rP;have Z1:=h.rP;rw[eP]at Z1
 obtain⟨nP,hnP⟩:∃ n,c.parts.length=n:=⟨_,rfl⟩
 obtain⟨aR,pR,eR,gR1,gR2,gR3⟩:=Zm h.rR
 obtain⟨nR,hnR⟩:∃ n,c.rules.length=n:=⟨_,rfl⟩
 have n1:=Hd (fun(w':World) (k:Later w1 w')=>(show w'.cell? ⟨p,2,none⟩=some (.slice aP nP pP) by rw[Zb (d0.later k) 2,←hnP,←eP];rfl));have j3:=Hd (fun(w':World) (k:Later w1 w')=>(show w'.cell? ⟨p,12,none⟩=some (.slice aR nR pR) by rw[Zb (d0.later k) 12,←hnR,←eR];rfl));have d3:=Hd (fun(w':World) (k:Later w1 w')=>(show RowAt w' 2 (.slice aP nP pP) (c.parts.map X9) by rw[←hnP];exact Z1.later (c0.trans k)));have i1:=Hd hnP;have l2:=Hd hnR;have hbP:nP≤140737488355328:=by omega
 have hbR:nR≤140737488355328:=by omega
 have C0:=Hd (fun(w':World) (k:Later w1 w')=>Zcu w' c v (g0.out w' k) hI)
 obtain⟨fi,hfi⟩:∃ b,c.fine=b:=⟨_,rfl⟩
 rw[hfi]at C0;have S1:Hid (c.needB=if fi then c.need else 0):=Hd (by rw[←hfi];rfl)
 obtain⟨PT,hPT⟩:∃ PT,(fun(e:Ending) (w':World)=>e=.returned (.int .i64 c.needB)∧Later w w')=PT:=⟨_,rfl⟩
 rw[hPT];have M0:=Hd (fun(w':World) (n:Int) (hb:c.needB=n) (k:Later w1 w')=>(show PT (.returned (.int .i64 n)) w' by rw[←hPT];exact⟨by rw[hb],c0.trans k⟩));have C2:=Hd hfi;clear h hI hp hw1 c0 d0 Z1 hnP hnR eP gP1 gP2 gP3 eR gR1 gR2 gR3 hfi hPT;cases fi
 ·go_enter Tryz.func13,Tryz.ntmps13
  go_upto_region 1 with fail
  rw[HP.out,o0.out]
  go_wp2_with (first
   |((with_reducible refine Xn (p:=p) (c:=c) (v:=v) 1 ?_ ?_ ?_ ?_ ?_);rfl;rfl;exact b0.out _ La;rfl)
   |(go_at_call 21;(with_reducible refine(C0.out _ La).mono ?_);rintro e w2 ⟨rfl,hl2⟩)
   |fail)
  (try go_ret)
  exact M0.out _ 0 (by rw[S1.out];rfl) La
 ·have g1:=EU C2.out;obtain⟨j0,hpa,hwin,-⟩:=YJ C2.out;have E1:=Y1.1 j0;obtain⟨N,hN⟩:=Int.eq_ofNat_of_zero_le (show 0≤c.levels by have:=E1.lo;omega);have R1:N≤8:=by have:=E1.hi;omega
  have o1:=Hd (show ∀x∈c.windows,0≤x.ticks∧x.ticks≤255 from fun x hx=>by have:=Zbq hwin x hx;omega)
  have o2:Hid (255*(c.windows.length:Int)≤16320):=Hd (by
   have h1:=hwin;unfold Cfg.windowsB at h1;rw[Bool.and_eq_true,Bool.and_eq_true,ZR]at h1
   omega)
  have g3:Hid (Qaa c N=c.mostP):=Hd (Qas c fun q hq=>by
   have:=hpa;unfold Cfg.partsB at this;rw[Bool.and_eq_true]at this;have h2:=JZ (List.all_eq_true.1 this.2 q hq);unfold Cfg.lvl at h2;rw[ZR]at h2
   omega)
  have n0:=Hd g1;have c3:=Hd (fun(w':World) (k:Later w1 w')=>(show w'.cell? ⟨p,0,none⟩=some (.int .i64 (N:Int)) by rw[Zb (b0.out w' k) 0,←hN];rfl));clear g1 j0 hpa hwin E1 hN
  go_enter Tryz.func13,Tryz.ntmps13
  go_upto_region 1 with fail
  rw[HP.out,o0.out]
  go_upto_region 3 with(first
   |((with_reducible refine Xn (p:=p) (c:=c) (v:=v) 1 ?_ ?_ ?_ ?_ ?_);rfl;rfl;exact b0.out _ La;rfl)
   |(go_at_call 21;(with_reducible refine(C0.out _ La).mono ?_);rintro e w2 ⟨rfl,hl2⟩)
   |fail)
  go_wp2_with fail
  go_loopw [3,4] (fun vm vl wx=>∃ l:Nat,l≤N∧vl=.int .i64 (l:Int)∧vm=.int .i64 (Qaa c l)∧Later w1 wx) (fun _ vl _=>N - (intOf vl).toNat)
  case atStart=>exact⟨0,by omega,rfl,rfl,hl2⟩
  case round=>
   obtain⟨l,hl,rfl,rfl,hlw⟩:=hrel;have k0:=c3.out _ hlw;by_cases hlt:l<N
   ·obtain⟨wz,hwz⟩:∃ y,wr=y:=⟨_,rfl⟩
    rw[hwz]at hlw k0 ⊢;clear hwz;have v1:=Hd hlw;clear hlw
    go_wp2_with fail
    go_loopw [5,6] (fun vn vi wx=>∃ i:Nat,i≤nP∧vi=.int .i64 (i:Int)∧vn=.int .i64 (cntL (c.parts.take i) (l:Int):Int)∧Later w1 wx) (fun _ vi _=>nP - (intOf vi).toNat)
    case atStart=>exact⟨0,by omega,rfl,by simp[cntL],v1.out⟩
    case round=>
     obtain⟨i,hi,rfl,rfl,hl2⟩:=hrel;have kP:=n1.out _ hl2;by_cases f0:i<nP
     ·obtain⟨b,o,hao,hb',hcc⟩:=ZG (d3.out _ hl2) (show i<c.parts.length by rw[i1.out];exact f0);have A0:=Un (c.parts.take i) (c.parts[i]'(by rw[i1.out];exact f0)) (l:Int);rw[←Zx (show i<c.parts.length by rw[i1.out];exact f0)]at A0
      obtain⟨x,hx⟩:∃ x,c.parts[i]'(by rw[i1.out];exact f0)=x:=⟨_,rfl⟩
      rw[hx]at hcc A0;obtain⟨x0,x1⟩:=x;have e0:=hcc 0 (by omega);simp only[X9,List.getElem?_cons_zero,Nat.add_zero]at e0;subst hao;have F1:=Zd0 (c.parts.take i) (l:Int);rw[List.length_take]at F1
      obtain⟨cn,hcn⟩:∃ n,cntL (c.parts.take i) (l:Int)=n:=⟨_,rfl⟩
      rw[hcn]at A0 F1 ⊢;have hwc:IntKind.i64.wrap ((cn:Int)+1)=(cn:Int)+1:=by rw[IntKind.wrap_i64];omega
      have w0:=Hd A0;have T0:=Hd hl2;clear hcc hb' hx A0 F1 hcn hl2;by_cases e:x0=(l:Int)
      ·have d1:(x0==(l:Int))=true:=by simpa using e
       have HE:=Hd e;clear e
       go_wp2_with fail
       exact⟨⟨i+1,by omega,by simp,by rw[w0.out,if_pos (show(⟨x0,x1⟩:Prt).level=(l:Int) from HE.out)];simp,T0.out⟩,by simp only[intOf];omega⟩
      ·have d1:(x0==(l:Int))=false:=by simpa using e
       have HE:=Hd e;clear e
       go_wp2_with fail
       exact⟨⟨i+1,by omega,by simp,by rw[w0.out,if_neg (show ¬(⟨x0,x1⟩:Prt).level=(l:Int) from HE.out)];simp,T0.out⟩,by simp only[intOf];omega⟩
     ·have m3:i=nP:=by omega
      subst m3;rw[List.take_of_length_le (by rw[i1.out];exact Nat.le_refl _)]
      obtain⟨mn,hmn⟩:∃ n,cntL c.parts (l:Int)=n:=⟨_,rfl⟩
      have A0:Qaa c (l+1)=if 0<mn then max (Qaa c l) (upI (mn:Int) (c.tk 2 (l:Int))) else Qaa c l:=by rw[←hmn];rfl
      have L0:=Zd0 c.parts (l:Int);rw[hmn]at L0 ⊢;have l3:=n0.out.parts.2
      have r0:0<mn→1≤c.tk 2 (l:Int):=fun hp=>by
       obtain⟨q,hq,e⟩:=Qaf (show 0<cntL c.parts (l:Int) by rw[hmn];exact hp);have:=n0.out.ticks q hq;rw[e]at this;exact this
      have w0:=Hd A0;have T0:=Hd hl2;have e3:=Hd (show mn≤8 by omega);have s0:=Hd r0;clear A0 L0 l3 r0 hl2 hmn;by_cases hp:0<mn
      ·have d1:decide ((0:Int)<(mn:Int))=true:=decide_eq_true (by omega);have d2:decide (0<mn)=true:=decide_eq_true hp;have HT:=Hd (fun(w':World) (k:Later w1 w')=>JV w' c v 2 (l:Int) (g0.out _ k) o1.out);have F2:=s0.out hp;have n3:=(Zb8 c.windows 2 (l:Int) o1.out).2;have F0:=Hd (fun(w':World)=>Qaj w' (mn:Int) (c.tk 2 (l:Int)) (by omega) (by have:=e3.out;omega) F2 (by have:=o2.out;show c.tk 2 (l:Int)≤100000;unfold Cfg.tk;omega));have f2:=Hd hp
       obtain⟨tk,r0⟩:∃ t,c.tk 2 (l:Int)=t:=⟨_,rfl⟩
       obtain⟨ov,hov⟩:∃ t,upI (mn:Int) tk=t:=⟨_,rfl⟩
       rw[r0]at HT F0 w0;rw[hov]at F0 w0
       obtain⟨mo,hmo⟩:∃ t,Qaa c l=t:=⟨_,rfl⟩
       rw[hmo]at w0 ⊢;clear F2 n3 hp r0 hov hmo;have S2:=T0.out
       go_wp2_with (first
        |((with_reducible refine Xn (p:=p) (c:=c) (v:=v) 1 ?_ ?_ ?_ ?_ ?_);rfl;rfl;exact b0.out _ La;rfl)
        |(go_at_call 27;(with_reducible refine(HT.out _ La).mono ?_);rintro e w7 ⟨rfl,hl7⟩)
        |(go_at_call 26;(with_reducible refine(F0.out _).mono ?_);rintro e w8 ⟨rfl,H1⟩;have H1:=H1.symm;subst H1)
        |fail)
       exact⟨⟨l+1,by omega,by simp,by rw[w0.out,if_pos f2.out],La⟩,by simp only[intOf];omega⟩
      ·have d1:decide ((0:Int)<(mn:Int))=false:=decide_eq_false (by omega);have d2:decide (0<mn)=false:=decide_eq_false hp;have f2:=Hd hp
       obtain⟨mo,hmo⟩:∃ t,Qaa c l=t:=⟨_,rfl⟩
       rw[hmo]at w0 ⊢;clear hp hmo
       go_wp2_with fail
       exact⟨⟨l+1,by omega,by simp,by rw[w0.out,if_neg f2.out],T0.out⟩,by simp only[intOf];omega⟩
   ·have o3:l=N:=by omega
    subst o3;have kR:=j3.out _ hlw;have L0:=Qam c n0.out l;have m1:=Qac c l;rw[g3.out]at L0 m1 ⊢
    obtain⟨mp,hmp⟩:∃ t,c.mostP=t:=⟨_,rfl⟩
    rw[hmp]at L0 m1 ⊢;have A2:=Hd hmp;have v1:=Hd hlw;clear hmp hlw;by_cases hr:0<nR
    ·have d1:decide ((0:Int)<(nR:Int))=true:=decide_eq_true (by omega);have d2:decide (0<nR)=true:=decide_eq_true hr;have P1:c.rules≠[]:=fun e=>by have:=l2.out;rw[e]at this;simp at this;omega
     have u2:=Hd (fun(w':World) (k:Later w1 w')=>Qar w' c v (g0.out _ k) n0.out.levs n0.out.few);have i2:=Hd (fun(w':World) (k:Later w1 w')=>JV w' c v 4 0 (g0.out _ k) o1.out);have hg:=n0.out.guard P1;have J2:=(Zb8 c.windows 4 0 o1.out).2;have c1:=ZcR c.rules;have F0:=Hd (fun(w':World)=>Qaj w' (4*(YY c.rules:Int)) (c.tk 4 0) (by omega) (by omega) hg (by have:=o2.out;show c.tk 4 0≤100000;unfold Cfg.tk;omega));have t1:=ZfX (a:=4*(YY c.rules:Int)) (by omega) hg;have u0:=GC (a:=4*(YY c.rules:Int)) (by omega) hg
     have m0:c.needB=2+max mp (upI (4*(YY c.rules:Int)) (c.tk 4 0)):=by
      rw[S1.out,if_pos (by trivial)];unfold Cfg.need Cfg.mostR;rw[A2.out,show c.rules.isEmpty=false from by cases hq:c.rules with|nil=>exact absurd hq P1|cons a l=>rfl];rfl
     obtain⟨pn,a1⟩:∃ t,YY c.rules=t:=⟨_,rfl⟩
     obtain⟨tk,r0⟩:∃ t,c.tk 4 0=t:=⟨_,rfl⟩
     rw[a1]at u2 F0 t1 u0 c1 m0;rw[r0]at i2 F0 t1 u0 m0
     obtain⟨ov,hov⟩:∃ t,upI (4*(pn:Int)) tk=t:=⟨_,rfl⟩
     rw[hov]at F0 t1 u0 m0;have hw4:IntKind.i64.wrap (4*(pn:Int))=4*(pn:Int):=by rw[IntKind.wrap_i64];omega
     obtain⟨mx,hmx⟩:∃ t,max mp ov=t:=⟨_,rfl⟩
     have C1:0≤mx∧mx≤256:=by omega
     have i3:IntKind.i64.wrap (2+mx)=2+mx:=by rw[IntKind.wrap_i64];omega
     rw[hmx]at m0;have K0:=Hd m0;clear m0 hg J2 c1 t1 u0 a1 r0 hov P1 hr C1 L0 m1
     go_upto_region 16 with fail
     clear k0 kR;have S2:=v1.out;refine wp_region_held_drew (S:=fun w'=>VarAt w' p c v) (by kernel_rfl) (b0.out _ La) (fun a0=>?_);refine tkS 0 a0 ?_;refine tkT (i:=1) (v:=.agg (cfgA c v)) (fun w hSw=>Ua rfl rfl hSw) a0 ?_
     (try simp only[p0,p1,p2,p3,p4,p5,p6])
     refine tkT (i:=5) (v:=.agg (cfgA c v)) (fun w hSw=>Ua rfl rfl hSw) a0 ?_
     (try simp only[p0,p1,p2,p3,p4,p5,p6])
     refine wpAnyH_ready (rs:=[2]) (by kernel_rfl) (by simp) ?_;refine AllReadyH.cons rfl (fun K hK=>?_) AllReadyH.nil
     go_simp
     refine(u2.out _ La).mono ?_;rintro e x2 ⟨⟨pa,pc,rfl⟩,hx2⟩;refine hK.out _ _ ?_ (fun a0=>?_)
     ·exact b0.out _ La
     clear hK K
     (try simp only[p0,p1,p2,p3,p4,p5,p6])
     refine tkS 3 a0 ?_;refine tkS 4 a0 ?_;refine wpAnyH_ready (rs:=[6]) (by kernel_rfl) (by simp) ?_;refine AllReadyH.cons rfl (fun K hK=>?_) AllReadyH.nil
     go_simp
     refine(i2.out _ La).mono ?_;rintro e x3 ⟨rfl,hx3⟩;refine hK.out _ _ ?_ (fun a0=>?_)
     ·exact b0.out _ La
     clear hK K
     (try simp only[p0,p1,p2,p3,p4,p5,p6])
     refine wpAnyH_ready (rs:=[7]) (by kernel_rfl) (by simp) ?_;refine AllReadyH.cons rfl (fun K hK=>?_) AllReadyH.nil
     go_simp
     refine(F0.out _).mono ?_;rintro e x4 ⟨rfl,rfl⟩;refine hK.out _ _ ?_ (fun a0=>?_)
     ·exact b0.out _ La
     clear hK K
     (try simp only[p0,p1,p2,p3,p4,p5,p6])
     refine tkS 8 a0 ?_;refine tkS 9 a0 ?_;refine wpAnyH_done (by kernel_rfl) ?_ _
     go_wp2_with fail
     (try go_ret)
     exact M0.out _ _ K0.out La
    ·have d1:decide ((0:Int)<(nR:Int))=false:=decide_eq_false (by omega);have d2:decide (0<nR)=false:=decide_eq_false hr;have i3:IntKind.i64.wrap (2+mp)=2+mp:=by rw[IntKind.wrap_i64];omega
     have K0:Hid (c.needB=2+mp):=Hd (by
      rw[S1.out,if_pos (by trivial)];unfold Cfg.need Cfg.mostR;rw[A2.out,show c.rules=[] from List.eq_nil_of_length_eq_zero (by rw[l2.out];omega)];simp only[List.isEmpty_nil,if_true]
      omega)
     clear hr L0 m1
     go_wp2_with fail
     (try go_ret)
     exact M0.out _ _ K0.out v1.out
open Go.RowKit PX PC
theorem Qap(w:World)(c:Cfg)(v:V7)(h:RowsOf w c v)(hI:CfgI c) :
 Calls Tryz.prog 11 #[.agg (cfgA c v)] w fun e w'=>e=.returned (.int .i64 (chkI c))∧Later w w':=by
 obtain⟨p,hp⟩:∃ p,w.heap.size=p:=⟨_,rfl⟩
 obtain⟨w1,hw1⟩:∃ w1,w.alloc (.cells (cfgA c v) 32)=w1:=⟨_,rfl⟩
 have c0:Later w w1:=by rw[←hw1];exact(Later.refl w).alloc _
 have d0:VarAt w1 p c v:=by unfold VarAt;rw[←hw1,←hp];exact Ze w _
 have b0:=Hd (fun(w':World) (k:Later w1 w')=>d0.later k);have g0:=Hd (fun(w':World) (k:Later w1 w')=>(show RowsOf w' c v from Rows7.later h (c0.trans k)));have l0:=Hd c0;have o0:=Hd hw1;have HP:=Hd hp;have l1:=Hd hI
 obtain⟨rc,hrc⟩:∃ x,c.recovery=x:=⟨_,rfl⟩
 obtain⟨bd,hbd⟩:∃ x,c.bound=x:=⟨_,rfl⟩
 obtain⟨fi,hfi⟩:∃ b,c.fine=b:=⟨_,rfl⟩
 have m2:=Hd (fun(w':World) (k:VarAt w' p c v)=>And.intro (show w'.cell? ⟨p,15,none⟩=some (.int .i64 rc) by rw[Zb k 15,←hrc];rfl) (show w'.cell? ⟨p,16,none⟩=some (.int .i64 bd) by rw[Zb k 16,←hbd];rfl));have i0:=Hd (fun(w':World) (k:Later w1 w')=>(show VarAt w' p c v∧w'.cell? ⟨p,15,none⟩=some (.int .i64 rc)∧w'.cell? ⟨p,16,none⟩=some (.int .i64 bd) from⟨b0.out _ k,(m2.out _ (b0.out _ k)).1,(m2.out _ (b0.out _ k)).2⟩));have C0:=Hd (fun(w':World) (k:Later w1 w')=>Zcu w' c v (g0.out w' k) hI);have t2:=Hd (fun(w':World) (k:Later w1 w')=>Qah w' c v (g0.out w' k) hI)
 obtain⟨nb,hnb⟩:∃ n,c.needB=n:=⟨_,rfl⟩
 have N1:=Hd (fun(w':World)=>Zw w' rc 1 65535);have H2:=Hd (fun(w':World)=>Zw w' bd nb 65535)
 obtain⟨b1,h1'⟩:∃ b,inB rc 1 65535=b:=⟨_,rfl⟩
 obtain⟨b2,h2'⟩:∃ b,inB bd nb 65535=b:=⟨_,rfl⟩
 have A1:Hid (chkI c=if fi&&(b1&&b2) then 0 else 111):=Hd (by
  unfold chkI Cfg.checkB;rw[hfi,hrc,hbd,h1'];cases fi
  ·rfl
  ·have hq:c.need=nb:=by rw[←hnb];unfold Cfg.needB;rw[if_pos hfi]
   rw[hq,h2'])
 rw[hfi]at C0;rw[hnb]at t2;rw[h1']at N1;rw[h2']at H2;clear h hI hp hw1 c0 d0 hrc hbd hfi hnb h1' h2';cases fi
 ·go_enter Tryz.func11,Tryz.ntmps11
  go_upto_region 1 with fail
  rw[HP.out,o0.out];refine wp_region_held_drew (S:=fun w'=>VarAt w' p c v∧w'.cell? ⟨p,15,none⟩=some (.int .i64 rc)∧w'.cell? ⟨p,16,none⟩=some (.int .i64 bd)) (by kernel_rfl) (i0.out _ La) (fun a0=>?_);refine tkT (i:=0) (v:=.agg (cfgA c v)) (fun w hSw=>Ua rfl rfl hSw.1) a0 ?_
  (try simp only[p0,p1,p2,p3,p4,p5,p6])
  refine wpAnyH_ready (rs:=[1]) (by kernel_rfl) (by simp) ?_;refine AllReadyH.cons rfl (fun K hK=>?_) AllReadyH.nil
  go_simp
  refine(C0.out _ La).mono ?_;rintro e x1 ⟨rfl,hx1⟩;refine hK.out _ _ ?_ (fun a0=>?_)
  ·exact i0.out _ La
  clear hK K
  (try simp only[p0,p1,p2,p3,p4,p5,p6])
  refine tkS 2 a0 ?_;refine tkS 3 a0 ?_;refine tkV 4 a0 ?_;refine tkV 5 a0 ?_;refine tkV 6 a0 ?_;refine tkV 7 a0 ?_;refine tkS 8 a0 ?_;refine tkS 9 a0 ?_;refine tkV 10 a0 ?_;refine tkV 11 a0 ?_;refine tkV 12 a0 ?_;refine tkV 13 a0 ?_;refine tkV 14 a0 ?_;refine tkV 15 a0 ?_;refine tkS 16 a0 ?_;refine wpAnyH_done (by kernel_rfl) ?_ _
  go_wp2_with fail
  (try go_ret)
  exact⟨by rw[A1.out];rfl,l0.out.trans La⟩
 ·cases b1
  ·go_enter Tryz.func11,Tryz.ntmps11
   go_upto_region 1 with fail
   rw[HP.out,o0.out];refine wp_region_held_drew (S:=fun w'=>VarAt w' p c v∧w'.cell? ⟨p,15,none⟩=some (.int .i64 rc)∧w'.cell? ⟨p,16,none⟩=some (.int .i64 bd)) (by kernel_rfl) (i0.out _ La) (fun a0=>?_);refine tkT (i:=0) (v:=.agg (cfgA c v)) (fun w hSw=>Ua rfl rfl hSw.1) a0 ?_
   (try simp only[p0,p1,p2,p3,p4,p5,p6])
   refine wpAnyH_ready (rs:=[1]) (by kernel_rfl) (by simp) ?_;refine AllReadyH.cons rfl (fun K hK=>?_) AllReadyH.nil
   go_simp
   refine(C0.out _ La).mono ?_;rintro e x1 ⟨rfl,hx1⟩;refine hK.out _ _ ?_ (fun a0=>?_)
   ·exact i0.out _ La
   clear hK K
   (try simp only[p0,p1,p2,p3,p4,p5,p6])
   refine tkS 2 a0 ?_;refine tkS 3 a0 ?_;refine tkS 4 a0 ?_;refine tkS 5 a0 ?_;refine wpAnyH_ready (rs:=[6]) (by kernel_rfl) (by simp) ?_;refine AllReadyH.cons rfl (fun K hK=>?_) AllReadyH.nil
   go_simp
   refine(N1.out _).mono ?_;rintro e x2 ⟨rfl,rfl⟩;refine hK.out _ _ ?_ (fun a0=>?_)
   ·exact i0.out _ La
   clear hK K
   (try simp only[p0,p1,p2,p3,p4,p5,p6])
   refine tkS 7 a0 ?_;refine tkS 8 a0 ?_;refine tkS 9 a0 ?_;refine tkV 10 a0 ?_;refine tkV 11 a0 ?_;refine tkV 12 a0 ?_;refine tkV 13 a0 ?_;refine tkV 14 a0 ?_;refine tkV 15 a0 ?_;refine tkS 16 a0 ?_;refine wpAnyH_done (by kernel_rfl) ?_ _
   go_wp2_with fail
   (try go_ret)
   exact⟨by rw[A1.out];rfl,l0.out.trans La⟩
  ·go_enter Tryz.func11,Tryz.ntmps11
   go_upto_region 1 with fail
   rw[HP.out,o0.out];refine wp_region_held_drew (S:=fun w'=>VarAt w' p c v∧w'.cell? ⟨p,15,none⟩=some (.int .i64 rc)∧w'.cell? ⟨p,16,none⟩=some (.int .i64 bd)) (by kernel_rfl) (i0.out _ La) (fun a0=>?_);refine tkT (i:=0) (v:=.agg (cfgA c v)) (fun w hSw=>Ua rfl rfl hSw.1) a0 ?_
   (try simp only[p0,p1,p2,p3,p4,p5,p6])
   refine wpAnyH_ready (rs:=[1]) (by kernel_rfl) (by simp) ?_;refine AllReadyH.cons rfl (fun K hK=>?_) AllReadyH.nil
   go_simp
   refine(C0.out _ La).mono ?_;rintro e x1 ⟨rfl,hx1⟩;refine hK.out _ _ ?_ (fun a0=>?_)
   ·exact i0.out _ La
   clear hK K
   (try simp only[p0,p1,p2,p3,p4,p5,p6])
   refine tkS 2 a0 ?_;refine tkS 3 a0 ?_;refine tkS 4 a0 ?_;refine tkS 5 a0 ?_;refine wpAnyH_ready (rs:=[6]) (by kernel_rfl) (by simp) ?_;refine AllReadyH.cons rfl (fun K hK=>?_) AllReadyH.nil
   go_simp
   refine(N1.out _).mono ?_;rintro e x2 ⟨rfl,rfl⟩;refine hK.out _ _ ?_ (fun a0=>?_)
   ·exact i0.out _ La
   clear hK K
   (try simp only[p0,p1,p2,p3,p4,p5,p6])
   refine tkS 7 a0 ?_;refine tkS 8 a0 ?_;refine tkS 9 a0 ?_;refine tkS 10 a0 ?_;refine tkS 11 a0 ?_;refine tkT (i:=12) (v:=.agg (cfgA c v)) (fun w hSw=>Ua rfl rfl hSw.1) a0 ?_
   (try simp only[p0,p1,p2,p3,p4,p5,p6])
   refine wpAnyH_ready (rs:=[13]) (by kernel_rfl) (by simp) ?_;refine AllReadyH.cons rfl (fun K hK=>?_) AllReadyH.nil
   go_simp
   refine(t2.out _ La).mono ?_;rintro e x3 ⟨rfl,hx3⟩;refine hK.out _ _ ?_ (fun a0=>?_)
   ·exact i0.out _ La
   clear hK K
   (try simp only[p0,p1,p2,p3,p4,p5,p6])
   refine wpAnyH_ready (rs:=[14]) (by kernel_rfl) (by simp) ?_;refine AllReadyH.cons rfl (fun K hK=>?_) AllReadyH.nil
   go_simp
   refine(H2.out _).mono ?_;rintro e x4 ⟨rfl,rfl⟩;refine hK.out _ _ ?_ (fun a0=>?_)
   ·exact i0.out _ La
   clear hK K
   (try simp only[p0,p1,p2,p3,p4,p5,p6])
   refine tkS 15 a0 ?_;refine tkS 16 a0 ?_;refine wpAnyH_done (by kernel_rfl) ?_ _;cases b2
   ·go_wp2_with fail
    (try go_ret)
    exact⟨by rw[A1.out];rfl,l0.out.trans La⟩
   ·go_wp2_with fail
    (try go_ret)
    exact⟨by rw[A1.out];rfl,l0.out.trans La⟩
open Go.RowKit PX PC
theorem Qaq(w:World)(c:Cfg)(v:V7)(h:RowsOf w c v)(hI:CfgI c)(hW:CfgW c) :
 Calls Tryz.prog 3 #[.agg (cfgA c v)] w fun e w'=>e=.returned (.bool true)∧Later w w':=by
 obtain⟨p,hp⟩:∃ p,w.heap.size=p:=⟨_,rfl⟩
 obtain⟨w1,hw1⟩:∃ w1,w.alloc (.cells (cfgA c v) 32)=w1:=⟨_,rfl⟩
 have c0:Later w w1:=by rw[←hw1];exact(Later.refl w).alloc _
 have d0:VarAt w1 p c v:=by unfold VarAt;rw[←hw1,←hp];exact Ze w _
 have b0:=Hd (fun(w':World) (k:Later w1 w')=>d0.later k);have g0:=Hd (fun(w':World) (k:Later w1 w')=>(show RowsOf w' c v from Rows7.later h (c0.trans k)));have l0:=Hd c0;have o0:=Hd hw1;have HP:=Hd hp;have l1:=Hd hI;have O2:=Hd DY;have s1:=Hd (fun(w':World) (k:Later w1 w')=>En w' c v (g0.out w' k) hI hW);have k2:=Hd (fun(w':World) (k:Later w1 w')=>Qap w' c v (g0.out w' k) hI);have g2:=Hd (fun(w':World) (k:Later w1 w')=>ET w' c v (g0.out w' k) hI hW);have s2:=Hd (fun(w':World) (k:Later w1 w')=>Qah w' c v (g0.out w' k) hI)
 obtain⟨ck,hck⟩:∃ n,chkI c=n:=⟨_,rfl⟩
 obtain⟨nb,hnb⟩:∃ n,c.needB=n:=⟨_,rfl⟩
 rw[hck]at s1 k2;rw[hnb]at g2 s2;have hq1:(ck==ck)=true:=by simp
 have hq2:(nb==nb)=true:=by simp
 clear h hI hp hw1 c0 d0 hck hnb
 go_enter Tryz.func3,Tryz.ntmps3
 go_upto_region 1 with fail
 rw[HP.out,o0.out];refine wp_region_held_drew (S:=fun w'=>VarAt w' p c v) (by kernel_rfl) (b0.out _ La) (fun a0=>?_);refine tkT (i:=0) (v:=.agg (cfgA c v)) (fun w hSw=>Ua rfl rfl hSw) a0 ?_
 (try simp only[p0,p1,p2,p3,p4,p5,p6])
 refine tkT (i:=2) (v:=.agg (cfgA c v)) (fun w hSw=>Ua rfl rfl hSw) a0 ?_
 (try simp only[p0,p1,p2,p3,p4,p5,p6])
 refine wpAnyH_ready (rs:=[1]) (by kernel_rfl) (by simp) ?_;refine AllReadyH.cons rfl (fun K hK=>?_) AllReadyH.nil
 go_simp
 refine(s1.out _ La).mono ?_;rintro e x1 ⟨rfl,hx1⟩;refine hK.out _ _ ?_ (fun a0=>?_)
 ·exact b0.out _ La
 clear hK K
 (try simp only[p0,p1,p2,p3,p4,p5,p6])
 refine wpAnyH_ready (rs:=[3]) (by kernel_rfl) (by simp) ?_;refine AllReadyH.cons rfl (fun K hK=>?_) AllReadyH.nil
 go_simp
 refine(k2.out _ La).mono ?_;rintro e x2 ⟨rfl,hx2⟩;refine hK.out _ _ ?_ (fun a0=>?_)
 ·exact b0.out _ La
 clear hK K
 (try simp only[p0,p1,p2,p3,p4,p5,p6])
 refine tkS 4 a0 ?_;refine tkS 5 a0 ?_;refine tkT (i:=6) (v:=.agg (cfgA c v)) (fun w hSw=>Ua rfl rfl hSw) a0 ?_
 (try simp only[p0,p1,p2,p3,p4,p5,p6])
 refine tkT (i:=8) (v:=.agg (cfgA c v)) (fun w hSw=>Ua rfl rfl hSw) a0 ?_
 (try simp only[p0,p1,p2,p3,p4,p5,p6])
 refine wpAnyH_ready (rs:=[7]) (by kernel_rfl) (by simp) ?_;refine AllReadyH.cons rfl (fun K hK=>?_) AllReadyH.nil
 go_simp
 refine(g2.out _ La).mono ?_;rintro e x3 ⟨rfl,hx3⟩;refine hK.out _ _ ?_ (fun a0=>?_)
 ·exact b0.out _ La
 clear hK K
 (try simp only[p0,p1,p2,p3,p4,p5,p6])
 refine wpAnyH_ready (rs:=[9]) (by kernel_rfl) (by simp) ?_;refine AllReadyH.cons rfl (fun K hK=>?_) AllReadyH.nil
 go_simp
 refine(s2.out _ La).mono ?_;rintro e x4 ⟨rfl,hx4⟩;refine hK.out _ _ ?_ (fun a0=>?_)
 ·exact b0.out _ La
 clear hK K
 (try simp only[p0,p1,p2,p3,p4,p5,p6])
 refine tkS 10 a0 ?_;refine tkS 11 a0 ?_;refine tkS 12 a0 ?_;refine wpAnyH_ready (rs:=[13]) (by kernel_rfl) (by simp) ?_;refine AllReadyH.cons rfl (fun K hK=>?_) AllReadyH.nil
 go_simp
 refine(O2.out _).mono ?_;rintro e x4f ⟨rfl,hx4f⟩;refine hK.out _ _ ?_ (fun a0=>?_)
 ·exact b0.out _ La
 clear hK K
 (try simp only[p0,p1,p2,p3,p4,p5,p6])
 refine tkS 14 a0 ?_;refine tkS 15 a0 ?_;refine wpAnyH_done (by kernel_rfl) ?_ _
 go_wp2_with fail
 (try go_ret)
 exact⟨rfl,l0.out.trans La⟩
theorem cforms_cfg(w:World)(cs:List Value)(c:Cfg)(h:CfgIn w cs c)(hI:CfgI c)(hW:CfgW c) :
 Calls Tryz.prog 3 #[.agg cs.toArray] w fun e w'=>e=.returned (.bool true)∧Below w.heap.size w w':=by
 obtain⟨v,hv,hr⟩:=h.asA;rw[hv]
 exact(Qaq w c v hr hI hW).mono fun e w' ⟨he,hl⟩=>⟨he,hl.out⟩
end Go.Proofs.YtbchkjfnakabkaaGreatDoor
