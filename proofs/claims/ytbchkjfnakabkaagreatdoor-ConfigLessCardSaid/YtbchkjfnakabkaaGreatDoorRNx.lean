import Derived.Test.YtbchkjfnakabkaaGreatDoorRR
import Derived.Test.YtbchkjfnakabkaaGreatDoorRD3
set_option linter.unusedSimpArgs false
set_option linter.unusedVariables false
set_option maxHeartbeats 8000000
set_option maxRecDepth 100000
namespace Go.Proofs.YtbchkjfnakabkaaGreatDoor
open Go.RowKit PX PC
theorem Zgm(c:Cfg):c.fine=(latB c.levels c.flows&&(JN c&&(c.windowsB&&c.diskB))):=by
 unfold Cfg.fine JN;cases latB c.levels c.flows<;>cases c.partsB<;>cases c.portsB<;>cases c.windowsB<;>cases c.diskB<;>cases c.rulesB<;>cases c.textsB<;>rfl
theorem WJ(w:World)(c:Cfg)(v:V7)(h:RowsOf w c v)(hI:CfgI c) :
 Calls Tryz.prog 21 #[.agg (cfgA c v)] w λe w'=>e=.returned (.bool c.fine)/\Later w w':=by
 obtain⟨p,hp⟩:∃ p,w.heap.size=p:=⟨_,rfl⟩
 obtain⟨w1,hw1⟩:∃ w1,w.alloc (.cells (cfgA c v) 32)=w1:=⟨_,rfl⟩
 have b0:Later w w1:=by rw[<-hw1];exact(Later.refl w).alloc _
 have f0:VarAt w1 p c v:=by unfold VarAt;rw[<-hw1,<-hp];exact Zd w _
 have k0:w1.cell? ⟨p,0,none⟩=some (.int .i64 c.levels):=Zb f0 0;have k1:w1.cell? ⟨p,1,none⟩=some v.F:=Zb f0 1;have d0:=Hd (λ(w':World) (k:Later w1 w')=>f0.later k);have R0:=ZfA w1 c.levels v.F c.flows (h.rF.later b0);have n0:=Hd b0;have r0:=Hd hw1;have HP:=Hd hp;have s0:=Hd (λ(w':World) (k:Later w1 w')=>(show RowsOf w' c v from Rows7.later h (b0.trans k)));have o1:=Hd hI;have l2:=Hd (Zgm c)
 obtain⟨lv,hlv⟩:∃ lv,c.levels=lv:=⟨_,rfl⟩
 obtain⟨vF,hvF⟩:∃ x,v.F=x:=⟨_,rfl⟩
 rw[hlv]at k0 R0;rw[hvF]at k1 R0;have K0:=Hd hlv;clear h hI hp hw1 b0 f0 hlv hvF;cases hb:latB c.levels c.flows
 ·have j0:Calls Tryz.prog 71 #[.int .i64 lv,vF] w1 λe w'=>∃ k:Int,e=.returned (.tuple #[.pointer none,.int .i64 k])/\(k==0)=false/\Later w1 w':=R0.mono λe w' hh=>by
   rcases hh with⟨h1,-⟩|⟨-, h2⟩
   ·rw[K0.out,h1]at hb;cases hb
   ·exact h2
  have HN:=Hd j0;have HB:=Hd hb;clear j0 R0 hb
  go_enter Tryz.func21,Tryz.ntmps21
  go_upto_region 1 with fail
  rw[HP.out,r0.out]
  go_upto_region 2 with(first
   |(go_at_call 71;(with_reducible refine HN.out.mono ?_);rintro e w2 ⟨kk,rfl,hkk,hl2⟩)
   |fail)
  have hkk2:(kk != 0)=true:=by rw[bne,hkk];rfl
  go_wp2_with fail
  (try go_ret)
  exact⟨by rw[l2.out,HB.out];rfl,n0.out.trans hl2⟩
 ·have j0:Calls Tryz.prog 71 #[.int .i64 lv,vF] w1 λe w'=>∃ (lb:Nat) (M:Mat),e=.returned (.tuple #[.pointer (some ⟨lb,0,none⟩),.int .i64 0])/\DocLat w' lb lv.toNat M/\(∀a b:Nat,a<lv.toNat->b<lv.toNat->M a b=rchB c.flows a b)/\Later w1 w':=R0.mono λe w' hh=>by
   rcases hh with⟨-, h2⟩|⟨h1,-⟩
   ·exact h2
   ·rw[K0.out,h1]at hb;cases hb
  have i0:=YE.1 hb;rw[K0.out]at i0
  have i2:1<=lv/\lv<=8:=⟨i0.1,i0.2⟩
  obtain⟨N,rfl⟩:∃ N:Nat,lv=N:=⟨lv.toNat,by omega⟩
  have Z1:1<=N/\N<=8:=by omega
  rw[Int.toNat_natCast]at j0;have HN:=Hd j0;have HB:=Hd hb;have S0:=Hd Z1;clear j0 R0 hb i0 i2 Z1
  obtain⟨r1,hr1⟩:∃ b,JN c=b:=⟨_,rfl⟩
  obtain⟨r2,hr2⟩:∃ b,c.windowsB=b:=⟨_,rfl⟩
  obtain⟨r3,hr3⟩:∃ b,c.diskB=b:=⟨_,rfl⟩
  have g2:Hid (c.fine=(r1&&(r2&&r3))):=Hd (by rw[l2.out,HB.out,hr1,hr2,hr3];rfl);have R2:=Hd hr1
  have y2:=Hd (λ(w':World) (k:Later w1 w')=>(show Calls Tryz.prog 73 #[.agg (cfgA c v)] w' λe w2=>e=.returned (.bool r2)/\Later w' w2 by
   rw[<-hr2];exact WC w' c v (s0.out w' k) (by rw[K0.out];have:=S0.out;omega) (by rw[K0.out];have:=S0.out;omega)))
  have W2:=Hd (λ(w':World) (k:Later w1 w')=>(show Calls Tryz.prog 74 #[.agg (cfgA c v)] w' λe w2=>e=.returned (.bool r3)/\Later w' w2 by
   rw[<-hr3];exact Zdm w' c v N (s0.out w' k) o1.out K0.out S0.out.1 S0.out.2))
  clear hr1 hr2 hr3
  go_enter Tryz.func21,Tryz.ntmps21
  go_upto_region 1 with fail
  rw[HP.out,r0.out]
  go_upto_region 2 with(first
   |(go_at_call 71;(with_reducible refine HN.out.mono ?_);rintro e w2 ⟨lb,M,rfl,hD,hM,hl2⟩)
   |fail)
  have P1:=Hd (λ(w':World) (k:Later w2 w')=>(show Calls Tryz.prog 72 #[.agg (cfgA c v),.pointer (some ⟨lb,0,none⟩)] w' λe w3=>e=.returned (.bool r1)/\Later w' w3 by
   rw[<-R2.out];exact Zda w' c v lb N M (s0.out w' (hl2.trans k)) o1.out K0.out S0.out.1 S0.out.2 (hD.later k) hM))
  clear k0 k1 hD hM;cases r1
  ·go_wp2_with (first
    |(go_at_call 72;(with_reducible refine(P1.out _ (Later.refl _)).mono ?_);rintro e w3 ⟨rfl,hl3⟩)
    |((with_reducible refine ZT (p:=p) (c:=c) (v:=v) 1 ?_ ?_ ?_ ?_ ?_);rfl;rfl;exact(d0.out _ La);rfl)
    |fail)
   (try go_ret)
   exact⟨by rw[g2.out];rfl,n0.out.trans (hl2.trans hl3)⟩
  ·cases r2
   ·go_wp2_with (first
     |(go_at_call 72;(with_reducible refine(P1.out _ (Later.refl _)).mono ?_);rintro e w3 ⟨rfl,hl3⟩)
     |(go_at_call 73;(with_reducible refine(y2.out _ La).mono ?_);rintro e w4 ⟨rfl,hl4⟩)
     |((with_reducible refine ZT (p:=p) (c:=c) (v:=v) 1 ?_ ?_ ?_ ?_ ?_);rfl;rfl;exact(d0.out _ La);rfl)
     |fail)
    (try go_ret)
    exact⟨by rw[g2.out];rfl,n0.out.trans (hl2.trans (hl3.trans hl4))⟩
   ·go_wp2_with (first
     |(go_at_call 72;(with_reducible refine(P1.out _ (Later.refl _)).mono ?_);rintro e w3 ⟨rfl,hl3⟩)
     |(go_at_call 73;(with_reducible refine(y2.out _ La).mono ?_);rintro e w4 ⟨rfl,hl4⟩)
     |(go_at_call 74;(with_reducible refine(W2.out _ La).mono ?_);rintro e w5 ⟨rfl,hl5⟩)
     |((with_reducible refine ZT (p:=p) (c:=c) (v:=v) 1 ?_ ?_ ?_ ?_ ?_);rfl;rfl;exact(d0.out _ La);rfl)
     |fail)
    (try go_ret)
    exact⟨by rw[g2.out];rfl,n0.out.trans (hl2.trans (hl3.trans (hl4.trans hl5)))⟩
open Go.RowKit PX PC
theorem Zhg(n:Int){m:Nat}(h:1<=m):-(m:Int)<n.tmod m/\n.tmod m<m:=by
 have h1:=Int.emod_nonneg n (show(m:Int)≠0 by omega);have h2:=Int.emod_lt_of_pos n (show(0:Int)<m by omega);rw[Int.tmod_eq_emod];split<;>omega
theorem E5(w:World)(n:Int)(m:Nat)(h1:1<=m)(h2:m<=140737488355328) :
 Calls Tryz.prog 20 #[.int .i64 n,.int .i64 (m:Int)] w λe w'=>(∃k:Nat,e=.returned (.int .i64 (k:Int))/\k<m)/\w'=w:=by
 obtain⟨r,hr⟩:∃ r,n.tmod (m:Int)=r:=⟨_,rfl⟩
 have hb:=Zhg n h1;rw[hr]at hb;have a1:¬ (m:Int)=0:=by omega
 have hm1:((m:Int)==0)=false:=by simpa using a1
 have hw:IntKind.i64.wrap (n.tmod (m:Int))=r:=by rw[hr,IntKind.wrap_i64];omega
 by_cases hs:r<0
 ·have hd:decide (r<0)=true:=decide_eq_true hs
  obtain⟨k,hk⟩:∃ k:Nat,r+(m:Int)=k:=⟨(r+m).toNat,by omega⟩
  have hwk:IntKind.i64.wrap (r+(m:Int))=(k:Int):=by rw[hk,IntKind.wrap_i64];omega
  have HK:=Hd (show k<m by omega);clear hb hs hk
  go_enter Tryz.func20,Tryz.ntmps20
  go_wp2_with fail
  (try go_ret)
  exact⟨⟨k,rfl,HK.out⟩,rfl⟩
 ·have hd:decide (r<0)=false:=decide_eq_false hs;obtain⟨k,hk⟩:=Int.eq_ofNat_of_zero_le (show 0<=r by omega);subst hk;have HK:=Hd (show k<m by omega);clear hb hs
  go_enter Tryz.func20,Tryz.ntmps20
  go_wp2_with fail
  (try go_ret)
  exact⟨⟨k,rfl,HK.out⟩,rfl⟩
open Go.RowKit PX PC
theorem ZiB{a b:Int}{n:Nat}(hb:1<=b)(h1:a<=n*b)(h2:n=0\/((n:Int) - 1)*b<a)(ha:0<=a):upI a b=n:=by
 unfold upI
 have hu:(a+b - 1)/b<=n:=by
  refine Int.le_of_lt_add_one ((Int.ediv_lt_iff_lt_mul (by omega)).2 ?_);rw[Int.add_mul,Int.one_mul];omega
 have hl:(n:Int)<=(a+b - 1)/b:=by
  rw[Int.le_ediv_iff_mul_le (by omega)];rcases h2 with rfl|h2
  ·simp;omega
  ·rw[Int.sub_mul,Int.one_mul]at h2;omega
 omega
theorem WH(w:World)(a b:Int)(ha:0<=a)(ha2:a<=100000)(hb:1<=b)(hb2:b<=100000) :
 Calls Tryz.prog 26 #[.int .i64 a,.int .i64 b] w λe w'=>e=.returned (.int .i64 (upI a b))/\w'=w:=by
 go_enter Tryz.func26,Tryz.ntmps26
 go_wp2_with fail
 go_loopw [5] (λvn wr=>∃ n:Nat,vn=.int .i64 (n:Int)/\(n=0\/((n:Int) - 1)*b<a)/\wr=w) (λvn _=>(a - intOf vn).toNat)
 case atStart=>exact⟨0,rfl,.inl rfl,rfl⟩
 case round=>
  obtain⟨n,rfl,hn,hwr⟩:=hrel;subst hwr
  have hna:(n:Int)<=a:=by
   rcases hn with rfl|h
   ·simpa using ha
   ·have h3:((n:Int) - 1)*1<=((n:Int) - 1)*b\/n=0:=by
     by_cases e:n=0
     ·exact .inr e
     ·exact .inl (Int.mul_le_mul_of_nonneg_left hb (by omega))
    omega
  have hp0:0<=(n:Int)*b:=Int.mul_nonneg (by omega) (by omega);have T0:(n:Int)*b<=100000*100000:=Int.mul_le_mul (by omega) hb2 (by omega) (by omega);have hwa:IntKind.i64.wrap ((n:Int)*b)=(n:Int)*b:=by rw[IntKind.wrap_i64];omega
  by_cases hlt:(n:Int)*b<a
  ·have hd:decide ((n:Int)*b<a)=true:=decide_eq_true hlt;have HX:=Hd hlt
   have c0:(n:Int)<a:=by
    have:(n:Int)*1<=(n:Int)*b:=Int.mul_le_mul_of_nonneg_left hb (by omega);omega
   clear hlt hn
   go_wp2_with fail
   exact⟨⟨n+1,by simp,.inr (by have:=HX.out;simpa using this),by first|trivial|rfl⟩,by simp only[intOf];omega⟩
  ·have hd:decide ((n:Int)*b<a)=false:=decide_eq_false hlt;have HU:=Hd (ZiB hb (by omega) hn ha);clear hlt hn
   go_wp2_with fail
   go_ret
   exact⟨ZU HU.out.symm,rfl⟩
end Go.Proofs.YtbchkjfnakabkaaGreatDoor
namespace Go.Proofs.YtbchkjfnakabkaaGreatDoor.PC
open PX
def Va(c:Cfg):Nat->Int
 |0=>0
 |l+1=>if 0<cntL c.parts (l:Int) then max (Va c l) (upI (cntL c.parts (l:Int)) (c.tk 2 (l:Int))) else Va c l
theorem J8(c:Cfg):∀ l:Nat,0<=Va c l
 |0=>Int.le_refl _
 |l+1=>by
  have:=J8 c l;unfold Va;split
  ·exact Int.le_trans this (Int.le_max_left ..)
  ·exact this
theorem QR(c:Cfg){m:Int}(h0:0<=m):∀ l:Nat,(∀k:Nat,k<l->0<cntL c.parts (k:Int)->upI (cntL c.parts (k:Int)) (c.tk 2 (k:Int))<=m)->Va c l<=m
 |0,_=>h0
 |l+1,h=>by
  have h1:=QR c h0 l λk hk=>h k (by omega)
  unfold Va;split
  ·rename_i hp;exact Int.max_le.2 ⟨h1,h l (by omega) hp⟩
  ·exact h1
theorem Zaz(c:Cfg){k:Nat}(hp:0<cntL c.parts (k:Int)):∀ l:Nat,k<l->upI (cntL c.parts (k:Int)) (c.tk 2 (k:Int))<=Va c l
 |0,h=>by omega
 |l+1,h=>by
  unfold Va;by_cases e:k=l
  ·subst e;rw[if_pos hp];exact Int.le_max_right ..
  ·have:=Zaz c hp l (by omega);split
   ·exact Int.le_trans this (Int.le_max_left ..)
   ·exact this
theorem ZaQ{l:List Prt}{p:Prt}(h:p∈l):0<cntL l p.level:=by
 unfold cntL;exact List.length_pos_of_mem (List.mem_filter.2 ⟨h,by simp⟩)
theorem Q3{l:List Prt}{n:Int}(h:0<cntL l n):∃ p∈l,p.level=n:=by
 unfold cntL at h;obtain⟨p,hp⟩:=List.exists_mem_of_length_pos h;rw[List.mem_filter,decide_eq_true_eq]at hp;exact⟨p,hp.1,hp.2⟩
theorem ZdR(c:Cfg){N:Nat}(h:∀ p∈c.parts,0<=p.level/\p.level<N):Va c N=c.mostP:=by
 refine Int.le_antisymm (QR c (YI _) N λk hk hp=>?_) (Ey (J8 c N) λx hx=>?_)
 ·obtain⟨p,T0,hp2⟩:=Q3 hp;refine Uq (List.mem_map.2 ⟨p,T0,?_⟩);show upI _ _=_;rw[hp2]
 ·obtain⟨p,T0,rfl⟩:=List.mem_map.1 hx;obtain⟨k,hk⟩:=Int.eq_ofNat_of_zero_le (h p T0).1;have hq:=ZaQ T0;have hl:=(h p T0).2;show upI _ _<=_;rw[hk]at hq hl ⊢;exact Zaz c hq N (by omega)
def V9(l:List Ru)(K:List (Int × Int)):Prop:=K.Nodup/\K.length<=l.length/\∀ y,y∈K↔∃ r∈l,(r.fr,r.tu)=y
theorem Bi:V9 [] []:=⟨List.nodup_nil,Nat.le_refl _,λy=>by simp⟩
theorem Bh{l:List Ru}{K:List (Int × Int)}{r:Ru}(h:V9 l K)(hr:(r.fr,r.tu)∈K):V9 (l++[r]) K:=by
 refine⟨h.1,by rw[List.length_append];exact Nat.le_trans h.2.1 (Nat.le_add_right ..),λy=>?_⟩;rw[h.2.2 y];constructor
 ·rintro⟨q,hq,e⟩;exact⟨q,List.mem_append_left _ hq,e⟩
 ·rintro⟨q,hq,e⟩;rw[List.mem_append,List.mem_singleton]at hq;rcases hq with hq|rfl
  ·exact⟨q,hq,e⟩
  ·rw[e]at hr;exact(h.2.2 y).1 hr
theorem Bj{l:List Ru}{K:List (Int × Int)}{r:Ru}(h:V9 l K)(hr:(r.fr,r.tu)∉K):V9 (l++[r]) (K++[(r.fr,r.tu)]):=by
 refine⟨List.nodup_append.2 ⟨h.1,by simp,λa ha b hb e=>hr (by rw[List.mem_singleton.1 hb]at e;rw[<-e];exact ha)⟩,by rw[List.length_append,List.length_append];exact Nat.add_le_add_right h.2.1 1,λy=>?_⟩;rw[List.mem_append,h.2.2 y,List.mem_singleton];constructor
 ·rintro(⟨q,hq,e⟩|e)
  ·exact⟨q,List.mem_append_left _ hq,e⟩
  ·exact⟨r,by simp,e.symm⟩
 ·rintro⟨q,hq,e⟩;rw[List.mem_append,List.mem_singleton]at hq;rcases hq with hq|rfl
  ·exact .inl ⟨q,hq,e⟩
  ·exact .inr e.symm
theorem ZdG{l:List Ru}{K:List (Int × Int)}(h:V9 l K)(hl:∀ r∈l,lev 8 r.fr/\lev 8 r.tu):K.length=XZ l:=
 E9 l K id h.1 hl (λ_ _ _ _ _ _ e=>e) (λy=>h.2.2 y)
end Go.Proofs.YtbchkjfnakabkaaGreatDoor.PC
namespace Go.Proofs.YtbchkjfnakabkaaGreatDoor
open Go.RowKit PX PC
open Go.Act renaming put -> p0
open List renaming getElem_toArray -> p1, getElem_cons_succ -> p2, getElem_cons_zero -> p3, setIfInBounds_toArray -> p4, set_cons_zero -> p5, set_cons_succ -> p6
theorem Du:ElemT XA 2 16 47 22 (.agg #[.int .i64 0,.int .i64 0]):=
 ⟨by kernel_rfl,Tryz.underlying22,rfl,by decide,by decide,λ_=>rfl,by intro x u hu;simp only[XA,List.mem_cons,List.not_mem_nil,or_false]at hu;rcases hu with rfl|rfl<;>rfl⟩
def GL(K:List (Int × Int))(x:Int × Int)(k:Nat)(tb:Bool):Prop:=tb=true↔x∈K.take k
theorem G9{w w':World}{B k n:Nat}{e:TypeId}{v:Value}{xs:List Value}(h:w.ownsRow B e k v n xs)(hl:Later w w'):w'.ownsRow B e k v n xs:=
 Only.ownsRow (Only.of_below (r:=λ_=>False) hl) h λ_ _ hr=>hr
theorem Zbw(w:World)(c:Cfg)(v:V7)(h:RowsOf w c v)(hlev:∀ r∈c.rules,lev 8 r.fr/\lev 8 r.tu)(h32:c.rules.length<=32) :
 Calls Tryz.prog 28 #[.agg (cfgA c v)] w λe w'=>(∃a cap,e=.returned (.slice a (XZ c.rules) cap))/\Later w w':=by
 obtain⟨aR,pR,eR,gR1,gR2,gR3⟩:=Zk h.rR;have M1:=h.rR;rw[eR]at M1
 obtain⟨nR,hnR⟩:∃ n,c.rules.length=n:=⟨_,rfl⟩
 obtain⟨p,hp⟩:∃ p,w.heap.size=p:=⟨_,rfl⟩
 obtain⟨w1,hw1⟩:∃ w1,w.alloc (.cells (cfgA c v) 32)=w1:=⟨_,rfl⟩
 have b0:Later w w1:=by rw[<-hw1];exact(Later.refl w).alloc _
 have f0:VarAt w1 p c v:=by unfold VarAt;rw[<-hw1,<-hp];exact Zd w _
 have HK:=Hd (λ(w':World) (k:Later w1 w')=>(show w'.cell? ⟨p,12,none⟩=some (.slice aR nR pR) by rw[Zb (f0.later k) 12,<-hnR,<-eR];rfl));have n3:=Hd (λ(w':World) (k:Later w1 w')=>(show RowAt w' 5 (.slice aR nR pR) (c.rules.map ruC) by rw[<-hnR];exact M1.later (b0.trans k)));have HN:=Hd hnR;have J1:=Hd hlev;have n0:=Hd b0;have r0:=Hd hw1;have HP:=Hd hp;have j3:=Hd (show w1.heap.size=p+1 by rw[<-hw1,<-hp];simp);have hb32:nR<=32:=by omega
 obtain⟨iE,hiE,hz0,hz1,hz2⟩:=info_parts Du.info;clear h hlev h32 M1 hnR eR gR1 gR2 gR3 hw1 hp f0 b0
 go_enter Tryz.func28,Tryz.ntmps28
 go_upto_region 2 with fail
 rw[HP.out,r0.out]
 have Z2:Hid ((w1.alloc (.cells #[] 47)).ownsRow w1.heap.size 47 2 (.slice (some ⟨p+1,0,none⟩) 0 0) ([]:List (Int × Int)).length (ZG XA [])):=Hd (by
  have:=Xy (w:=w1.alloc (.cells #[] 47)) (base:=w1.heap.size) (k:=2) XA (Zd _ _) (Nat.le_refl _)
  rwa [j3.out]at this ⊢)
 have O2:Hid (Later w1 (w1.alloc (.cells #[] 47))):=Hd ((Later.refl w1).alloc _)
 go_wp2_with fail
 go_loopw [3,4] (λvo vi wx=>∃ (j:Nat) (K:List (Int × Int)) (a:Option Addr) (cap:Nat),j<=nR/\vi=.int .i64 (j:Int)/\vo=.slice a K.length cap/\V9 (c.rules.take j) K/\wx.ownsRow w1.heap.size 47 2 (.slice a K.length cap) K.length (ZG XA K)/\Later w1 wx) (λ_ vi _=>nR - (intOf vi).toNat)
 case atStart=>exact⟨0,[],_,_,by omega,rfl,rfl,by simpa using Bi,Z2.out,O2.out⟩
 case round=>
  obtain⟨j,K,oa,ocap,hj,rfl,rfl,hK,hown,hl⟩:=hrel;have kk:=HK.out _ hl;by_cases hlt:j<nR
  ·have W1:j<c.rules.length:=by rw[HN.out];exact hlt
   obtain⟨b,o,hao,hb',hcc⟩:=Zz (n3.out _ hl) W1;have m0:=Zr W1
   obtain⟨x,hx⟩:∃ x,c.rules[j]=x:=⟨_,rfl⟩
   rw[hx]at hcc m0;obtain⟨x0,x1,x2,x3,x4⟩:=x;have e0:=hcc 0 (by omega);have e1:=hcc 1 (by omega);simp only[ruC,List.getElem?_cons_zero,List.getElem?_cons_succ,Nat.add_zero]at e0 e1;subst hao;have hdn:decide (j<nR)=true:=decide_eq_true hlt;have S2:K.length<=32:=by have:=hK.2.1;rw[List.length_take]at this;omega
   have C1:=Hd hK;have M0:=Hd hown;have HL:=Hd hl;have k2:=Hd m0;clear hcc m0 hx hK hown hb' W1;have g0:=Hd (λ(w':World) (k:Later wr w')=>(show w'.cell? ⟨p,12,none⟩=some (.slice (some ⟨b,o,none⟩) nR pR)/\w'.cell? ⟨b,o+j*5,none⟩=some (.int .i64 x0)/\w'.cell? ⟨b,o+j*5+1,none⟩=some (.int .i64 x1) from⟨k.cell kk,k.cell e0,k.cell e1⟩))
   obtain⟨nK,hnK⟩:∃ n,K.length=n:=⟨_,rfl⟩
   rw[hnK]at M0 S2 ⊢;have C0:=Hd hnK;clear hnK e0 e1
   go_upto_region 5 with fail
   clear kk;refine wp_region_held_drew (S:=λw'=>w'.cell? ⟨p,12,none⟩=some (.slice (some ⟨b,o,none⟩) nR pR)/\w'.cell? ⟨b,o+j*5,none⟩=some (.int .i64 x0)/\w'.cell? ⟨b,o+j*5+1,none⟩=some (.int .i64 x1)) (by kernel_rfl) (g0.out _ La) (λa0=>?_);refine tkS 0 a0 ?_;refine tkS 1 a0 ?_;refine tkS 2 a0 ?_;refine tkS 3 a0 ?_;refine tkS 4 a0 ?_;refine tkS 5 a0 ?_;refine tkS 6 a0 ?_;refine tkS 7 a0 ?_;refine tkS 8 a0 ?_;refine tkS 9 a0 ?_;refine tkS 10 a0 ?_;refine tkS 11 a0 ?_;refine tkS 12 a0 ?_;refine wpAnyH_ready (rs:=[13]) (by kernel_rfl) (by simp) ?_;refine AllReadyH.cons rfl (λK hK=>?_) AllReadyH.nil
   go_simp
   refine hK.out _ _ ?_ (λa0=>?_)
   ·exact g0.out _ La
   clear hK K
   (try simp only[p0,p1,p2,p3,p4,p5,p6])
   refine wpAnyH_ready (rs:=[14]) (by kernel_rfl) (by simp) ?_;refine AllReadyH.cons rfl (λK hK=>?_) AllReadyH.nil
   go_simp
   refine hK.out _ _ ?_ (λa0=>?_)
   ·exact g0.out _ La
   clear hK K
   (try simp only[p0,p1,p2,p3,p4,p5,p6])
   refine wpAnyH_done (by kernel_rfl) ?_ _;clear a0 g0
   obtain⟨bx,hbx⟩:∃ g,wr.heap.size=g:=⟨_,rfl⟩
   obtain⟨wy,hwy⟩:∃ y,(wr.alloc (.cells #[.int .i64 x0,.int .i64 x1] 47)).drew=y:=⟨_,rfl⟩
   rw[hbx,hwy];have H2:wy.heap[bx]?=some (.cells #[.int .i64 x0,.int .i64 x1] 47 (0,0)):=by rw[<-hwy];exact Zo hbx
   have s2:Later wr wy:=by rw[<-hwy];exact((Later.refl _).alloc _).drew
   have E2:RowAt wr 2 (.slice oa nK ocap) (K.map XA):=Z5 (l:=K) (f:=XA) (k:=2) (λ_=>rfl) (by rw[C0.out];omega) (by rw[C0.out];exact M0.out);have N2:=Hd (λ(w':World) (k:Later wr w')=>E2.later k)
   have g1:=Hd H2;have K1:=Hd s2;clear H2 s2 E2 hwy hbx
   go_wp2_with fail
   go_loopw [6,7] (λvt vk wx=>∃ (k:Nat) (tb:Bool),k<=nK/\vk=.int .i64 (k:Int)/\vt=.bool tb/\GL K (x0,x1) k tb/\Later wy wx) (λ_ vk _=>nK - (intOf vk).toNat)
   case atStart=>exact⟨0,false,by omega,rfl,rfl,by unfold GL;simp,Later.refl _⟩
   case round=>
    obtain⟨k,tb,hk,rfl,rfl,ht,hlk⟩:=hrel;by_cases c0:k<nK
    ·have t1:k<K.length:=by rw[C0.out];exact c0
     have A0:=Zr t1;have hdk:decide (k<nK)=true:=decide_eq_true c0;obtain⟨gb,go,hoa,-, hcc⟩:=Zz (N2.out _ (K1.out.trans hlk)) t1
     obtain⟨y,hy⟩:∃ y,K[k]=y:=⟨_,rfl⟩
     rw[hy]at hcc A0;unfold GL at ht;have o0:=Hd A0;have HT:=Hd ht;have P0:=Hd hlk;cases tb
     ·obtain⟨y0,y1⟩:=y;have q0:=hcc 0 (by omega);have q1:=hcc 1 (by omega);simp only[XA,List.getElem?_cons_zero,List.getElem?_cons_succ,Nat.add_zero]at q0 q1;have z0:=Zb (hlk.block g1.out) 0;have z1:=Zb (hlk.block g1.out) 1;subst hoa;clear hcc A0 hy ht hlk t1;cases hs:Zc6 y0 y1 x0 x1
      ·have f3:=Hd (show(x0,x1)≠(y0,y1) from λe=>by
        simp only[Prod.mk.injEq]at e;rw[show Zc6 y0 y1 x0 x1=true from decide_eq_true ⟨e.1.symm,e.2.symm⟩]at hs
        cases hs)
       go_upto_region 10 with fail
       go_quiet (fail)
       go_wp2_with fail
       refine⟨⟨k+1,false,by omega,by simp,by first|rfl|rw[hs],?_,Later.drewN P0.out _⟩,by simp only[intOf];omega⟩;unfold GL;rw[o0.out,List.mem_append,List.mem_singleton,<-HT.out];exact⟨λq=>.inl q,λq=>q.elim id (λq=>absurd q f3.out)⟩
      ·have i3:=Hd (show(x0,x1)=(y0,y1) by
        have h:=of_decide_eq_true hs
        rw[h.1,h.2])
       go_upto_region 10 with fail
       go_quiet (fail)
       go_wp2_with fail
       refine⟨⟨k+1,true,by omega,by simp,by first|rfl|rw[hs],?_,Later.drewN P0.out _⟩,by simp only[intOf];omega⟩;unfold GL;rw[o0.out,List.mem_append,List.mem_singleton];exact⟨λ_=>.inr i3.out,λ_=>rfl⟩
     ·clear hcc A0 hy ht hlk t1 hoa
      go_upto_region 10 with fail
      go_quiet (fail)
      go_wp2_with fail
      refine⟨⟨k+1,true,by omega,by simp,by rfl,?_,Later.drewN P0.out _⟩,by simp only[intOf];omega⟩;unfold GL;rw[o0.out,List.mem_append];exact⟨λ_=>.inl (HT.out.1 rfl),λ_=>rfl⟩
    ·have g3:k=nK:=by omega
     subst g3;unfold GL at ht;rw[List.take_of_length_le (by rw[C0.out];exact Nat.le_refl _)]at ht;have z0:=Zb (hlk.block g1.out) 0;have z1:=Zb (hlk.block g1.out) 1;have P0:=Hd (HL.out.trans (K1.out.trans hlk));have f1:=Hd (G9 M0.out (K1.out.trans hlk));have hlb:=Za (hlk.block g1.out);clear hlk;cases tb
     ·have i1:(x0,x1)∉K:=λq=>by have:=ht.2 q;cases this
      have L1:=Hd (Bj (r:=⟨x0,x1,x2,x3,x4⟩) C1.out i1);clear ht i1
      go_wp2_with (first
       | (at_builtin;refine EJ Du rfl (.tmp 46) (.tmp 48) rfl (W0:=w1) (P0.out.trans La) _ K [(x0,x1)] (by rfl) (by rw [C0.out];exact G9 f1.out La) _ 1 1 rfl (by rfl) (WG (x:=(x0,x1)) (f:=XA) (Zd _ _) rfl (by decide)) (by rw [C0.out];simp;omega) ?_
          intro v2 w5 hown2 hl5 hk2
          obtain⟨a2,c2,e2⟩:∃ a2 c2,v2=.slice a2 (K++[(x0,x1)]).length c2:=by
           obtain⟨a2,c2,e2,-⟩:=Zk (Z5 (l:=K++[(x0,x1)]) (k:=2) (f:=XA) (λ_=>rfl) (by rw[List.length_append,C0.out];simp;omega) hown2);exact⟨a2,c2,e2⟩
          subst e2;have T2:=Hd hown2
          clear hown2 hk2)
       |fail)
      exact⟨⟨j+1,K++[(x0,x1)],a2,c2,by omega,by simp,by first|rfl|simp,by rw[k2.out];exact L1.out,T2.out,hl5⟩,by simp only[intOf];omega⟩
     ·have l1:(x0,x1)∈K:=ht.1 rfl;have L1:=Hd (Bh (r:=⟨x0,x1,x2,x3,x4⟩) C1.out l1);clear ht l1
      go_wp2_with fail
      exact⟨⟨j+1,K,oa,ocap,by omega,by simp,by rw[C0.out],by rw[k2.out];exact L1.out,by rw[C0.out];exact f1.out,P0.out⟩,by simp only[intOf];omega⟩
  ·have J2:j=nR:=by omega
   subst J2;rw[List.take_of_length_le (by rw[HN.out];exact Nat.le_refl _)]at hK;have m1:=ZdG hK J1.out;have P2:=Hd (n0.out.trans hl);rw[m1]
   obtain⟨pn,hpn2⟩:∃ n,XZ c.rules=n:=⟨_,rfl⟩
   rw[hpn2];have d3:=Hd hpn2;clear hK hown hl m1 hpn2
   go_wp2_with fail
   (try go_ret)
   exact⟨⟨oa,ocap,by rw[d3.out];rfl⟩,P2.out⟩
open Go.RowKit PX PC
theorem Bq(c:Cfg)(hN:NeedOK c)(l:Nat):Va c l<=8:=by
 refine QR c (by omega) l λk hk hp=>?_
 obtain⟨q,hq,e⟩:=Q3 hp;have h1:=hN.ticks q hq;rw[e]at h1;have h2:=B5 (a:=(cntL c.parts (k:Int):Int)) (by omega) h1;have h3:=GF c.parts (k:Int);have h4:=hN.parts.2;show upI _ (sumT c.windows 2 (k:Int))<=8;omega
theorem Zdg(w:World)(c:Cfg)(v:V7)(h:RowsOf w c v)(hI:CfgI c) :
 Calls Tryz.prog 13 #[.agg (cfgA c v)] w λe w'=>e=.returned (.int .i64 c.needB)/\Later w w':=by
 obtain⟨p,hp⟩:∃ p,w.heap.size=p:=⟨_,rfl⟩
 obtain⟨w1,hw1⟩:∃ w1,w.alloc (.cells (cfgA c v) 32)=w1:=⟨_,rfl⟩
 have b0:Later w w1:=by rw[<-hw1];exact(Later.refl w).alloc _
 have f0:VarAt w1 p c v:=by unfold VarAt;rw[<-hw1,<-hp];exact Zd w _
 have d0:=Hd (λ(w':World) (k:Later w1 w')=>f0.later k);have s0:=Hd (λ(w':World) (k:Later w1 w')=>(show RowsOf w' c v from Rows7.later h (b0.trans k)));have n0:=Hd b0;have r0:=Hd hw1;have HP:=Hd hp;have o1:=Hd hI;obtain⟨aP,pP,eP,gP1,gP2,gP3⟩:=Zk h.rP;have T1:=h.rP;rw[eP]at T1
 obtain⟨nP,hnP⟩:∃ n,c.parts.length=n:=⟨_,rfl⟩
 obtain⟨aR,pR,eR,gR1,gR2,gR3⟩:=Zk h.rR
 obtain⟨nR,hnR⟩:∃ n,c.rules.length=n:=⟨_,rfl⟩
 have C1:=Hd (λ(w':World) (k:Later w1 w')=>(show w'.cell? ⟨p,2,none⟩=some (.slice aP nP pP) by rw[Zb (f0.later k) 2,<-hnP,<-eP];rfl));have a3:=Hd (λ(w':World) (k:Later w1 w')=>(show w'.cell? ⟨p,12,none⟩=some (.slice aR nR pR) by rw[Zb (f0.later k) 12,<-hnR,<-eR];rfl));have l3:=Hd (λ(w':World) (k:Later w1 w')=>(show RowAt w' 2 (.slice aP nP pP) (c.parts.map XT) by rw[<-hnP];exact T1.later (b0.trans k)));have c1:=Hd hnP;have m2:=Hd hnR;have hbP:nP<=140737488355328:=by omega
 have hbR:nR<=140737488355328:=by omega
 have F0:=Hd (λ(w':World) (k:Later w1 w')=>WJ w' c v (s0.out w' k) hI)
 obtain⟨fi,hfi⟩:∃ b,c.fine=b:=⟨_,rfl⟩
 rw[hfi]at F0;have F1:Hid (c.needB=if fi then c.need else 0):=Hd (by rw[<-hfi];rfl)
 obtain⟨PT,hPT⟩:∃ PT,(λ(e:Ending) (w':World)=>e=.returned (.int .i64 c.needB)/\Later w w')=PT:=⟨_,rfl⟩
 rw[hPT];have O0:=Hd (λ(w':World) (n:Int) (hb:c.needB=n) (k:Later w1 w')=>(show PT (.returned (.int .i64 n)) w' by rw[<-hPT];exact⟨by rw[hb],b0.trans k⟩));have t2:=Hd hfi;clear h hI hp hw1 b0 f0 T1 hnP hnR eP gP1 gP2 gP3 eR gR1 gR2 gR3 hfi hPT;cases fi
 ·go_enter Tryz.func13,Tryz.ntmps13
  go_upto_region 1 with fail
  rw[HP.out,r0.out]
  go_wp2_with (first
   |((with_reducible refine ZT (p:=p) (c:=c) (v:=v) 1 ?_ ?_ ?_ ?_ ?_);rfl;rfl;exact d0.out _ La;rfl)
   |(go_at_call 21;(with_reducible refine(F0.out _ La).mono ?_);rintro e w2 ⟨rfl,hl2⟩)
   |fail)
  (try go_ret)
  exact O0.out _ 0 (by rw[F1.out];rfl) La
 ·have i1:=Uo t2.out;obtain⟨i0,hpa,hwin,-⟩:=XY t2.out;have O1:=YE.1 i0;obtain⟨N,hN⟩:=Int.eq_ofNat_of_zero_le (show 0<=c.levels by have:=O1.lo;omega);have Z1:N<=8:=by have:=O1.hi;omega
  have E1:=Hd (show ∀x∈c.windows,0<=x.ticks/\x.ticks<=255 from λx hx=>by have:=Zcf hwin x hx;omega)
  have F2:Hid (255*(c.windows.length:Int)≤16320):=Hd (by
   have h1:=hwin;unfold Cfg.windowsB at h1;rw[Bool.and_eq_true,Bool.and_eq_true,ZI]at h1
   omega)
  have K2:Hid (Va c N=c.mostP):=Hd (ZdR c λq hq=>by
   have:=hpa;unfold Cfg.partsB at this;rw[Bool.and_eq_true]at this;have h2:=Jq (List.all_eq_true.1 this.2 q hq);unfold Cfg.lvl at h2;rw[ZI]at h2
   omega)
  have j0:=Hd i1;have I2:=Hd (λ(w':World) (k:Later w1 w')=>(show w'.cell? ⟨p,0,none⟩=some (.int .i64 (N:Int)) by rw[Zb (d0.out w' k) 0,<-hN];rfl));clear i1 i0 hpa hwin O1 hN
  go_enter Tryz.func13,Tryz.ntmps13
  go_upto_region 1 with fail
  rw[HP.out,r0.out]
  go_upto_region 3 with(first
   |((with_reducible refine ZT (p:=p) (c:=c) (v:=v) 1 ?_ ?_ ?_ ?_ ?_);rfl;rfl;exact d0.out _ La;rfl)
   |(go_at_call 21;(with_reducible refine(F0.out _ La).mono ?_);rintro e w2 ⟨rfl,hl2⟩)
   |fail)
  go_wp2_with fail
  go_loopw [3,4] (λvm vl wx=>∃ l:Nat,l<=N/\vl=.int .i64 (l:Int)/\vm=.int .i64 (Va c l)/\Later w1 wx) (λ_ vl _=>N - (intOf vl).toNat)
  case atStart=>exact⟨0,by omega,rfl,rfl,hl2⟩
  case round=>
   obtain⟨l,hl,rfl,rfl,hlw⟩:=hrel;have k0:=I2.out _ hlw;by_cases hlt:l<N
   ·obtain⟨wz,hwz⟩:∃ y,wr=y:=⟨_,rfl⟩
    rw[hwz]at hlw k0 ⊢;clear hwz;have A1:=Hd hlw;clear hlw
    go_wp2_with fail
    go_loopw [5,6] (λvn vi wx=>∃ i:Nat,i<=nP/\vi=.int .i64 (i:Int)/\vn=.int .i64 (cntL (c.parts.take i) (l:Int):Int)/\Later w1 wx) (λ_ vi _=>nP - (intOf vi).toNat)
    case atStart=>exact⟨0,by omega,rfl,by simp[cntL],A1.out⟩
    case round=>
     obtain⟨i,hi,rfl,rfl,hl2⟩:=hrel;have kP:=C1.out _ hl2;by_cases c0:i<nP
     ·obtain⟨b,o,hao,hb',hcc⟩:=Zz (l3.out _ hl2) (show i<c.parts.length by rw[c1.out];exact c0);have H0:=Vh (c.parts.take i) (c.parts[i]'(by rw[c1.out];exact c0)) (l:Int);rw[<-Zr (show i<c.parts.length by rw[c1.out];exact c0)]at H0
      obtain⟨x,hx⟩:∃ x,c.parts[i]'(by rw[c1.out];exact c0)=x:=⟨_,rfl⟩
      rw[hx]at hcc H0;obtain⟨x0,x1⟩:=x;have e0:=hcc 0 (by omega);simp only[XT,List.getElem?_cons_zero,Nat.add_zero]at e0;subst hao;have H1:=GF (c.parts.take i) (l:Int);rw[List.length_take]at H1
      obtain⟨cn,hcn⟩:∃ n,cntL (c.parts.take i) (l:Int)=n:=⟨_,rfl⟩
      rw[hcn]at H0 H1 ⊢;have hwc:IntKind.i64.wrap ((cn:Int)+1)=(cn:Int)+1:=by rw[IntKind.wrap_i64];omega
      have t0:=Hd H0;have n1:=Hd hl2;clear hcc hb' hx H0 H1 hcn hl2;by_cases e:x0=(l:Int)
      ·have d1:(x0==(l:Int))=true:=by simpa using e
       have HE:=Hd e;clear e
       go_wp2_with fail
       exact⟨⟨i+1,by omega,by simp,by rw[t0.out,if_pos (show(⟨x0,x1⟩:Prt).level=(l:Int) from HE.out)];simp,n1.out⟩,by simp only[intOf];omega⟩
      ·have d1:(x0==(l:Int))=false:=by simpa using e
       have HE:=Hd e;clear e
       go_wp2_with fail
       exact⟨⟨i+1,by omega,by simp,by rw[t0.out,if_neg (show ¬(⟨x0,x1⟩:Prt).level=(l:Int) from HE.out)];simp,n1.out⟩,by simp only[intOf];omega⟩
     ·have M2:i=nP:=by omega
      subst M2;rw[List.take_of_length_le (by rw[c1.out];exact Nat.le_refl _)]
      obtain⟨mn,hmn⟩:∃ n,cntL c.parts (l:Int)=n:=⟨_,rfl⟩
      have H0:Va c (l+1)=if 0<mn then max (Va c l) (upI (mn:Int) (c.tk 2 (l:Int))) else Va c l:=by rw[<-hmn];rfl
      have N0:=GF c.parts (l:Int);rw[hmn]at N0 ⊢;have c3:=j0.out.parts.2
      have m0:0<mn->1<=c.tk 2 (l:Int):=λhp=>by
       obtain⟨q,hq,e⟩:=Q3 (show 0<cntL c.parts (l:Int) by rw[hmn];exact hp);have:=j0.out.ticks q hq;rw[e]at this;exact this
      have t0:=Hd H0;have n1:=Hd hl2;have L2:=Hd (show mn<=8 by omega);have o0:=Hd m0;clear H0 N0 c3 m0 hl2 hmn;by_cases hp:0<mn
      ·have d1:decide ((0:Int)<(mn:Int))=true:=decide_eq_true (by omega);have d2:decide (0<mn)=true:=decide_eq_true hp;have HT:=Hd (λ(w':World) (k:Later w1 w')=>YS w' c v 2 (l:Int) (s0.out _ k) E1.out);have C2:=o0.out hp;have o3:=(Qz c.windows 2 (l:Int) E1.out).2;have I0:=Hd (λ(w':World)=>WH w' (mn:Int) (c.tk 2 (l:Int)) (by omega) (by have:=L2.out;omega) C2 (by have:=F2.out;show c.tk 2 (l:Int)<=100000;unfold Cfg.tk;omega));have f2:=Hd hp
       obtain⟨tk,m0⟩:∃ t,c.tk 2 (l:Int)=t:=⟨_,rfl⟩
       obtain⟨ov,hov⟩:∃ t,upI (mn:Int) tk=t:=⟨_,rfl⟩
       rw[m0]at HT I0 t0;rw[hov]at I0 t0
       obtain⟨mo,hmo⟩:∃ t,Va c l=t:=⟨_,rfl⟩
       rw[hmo]at t0 ⊢;clear C2 o3 hp m0 hov hmo;have b3:=n1.out
       go_wp2_with (first
        |((with_reducible refine ZT (p:=p) (c:=c) (v:=v) 1 ?_ ?_ ?_ ?_ ?_);rfl;rfl;exact d0.out _ La;rfl)
        |(go_at_call 27;(with_reducible refine(HT.out _ La).mono ?_);rintro e w7 ⟨rfl,hl7⟩)
        |(go_at_call 26;(with_reducible refine(I0.out _).mono ?_);rintro e w8 ⟨rfl,I1⟩;have I1:=I1.symm;subst I1)
        |fail)
       exact⟨⟨l+1,by omega,by simp,by rw[t0.out,if_pos f2.out],La⟩,by simp only[intOf];omega⟩
      ·have d1:decide ((0:Int)<(mn:Int))=false:=decide_eq_false (by omega);have d2:decide (0<mn)=false:=decide_eq_false hp;have f2:=Hd hp
       obtain⟨mo,hmo⟩:∃ t,Va c l=t:=⟨_,rfl⟩
       rw[hmo]at t0 ⊢;clear hp hmo
       go_wp2_with fail
       exact⟨⟨l+1,by omega,by simp,by rw[t0.out,if_neg f2.out],n1.out⟩,by simp only[intOf];omega⟩
   ·have k3:l=N:=by omega
    subst k3;have kR:=a3.out _ hlw;have N0:=Bq c j0.out l;have a1:=J8 c l;rw[K2.out]at N0 a1 ⊢
    obtain⟨mp,hmp⟩:∃ t,c.mostP=t:=⟨_,rfl⟩
    rw[hmp]at N0 a1 ⊢;have q2:=Hd hmp;have A1:=Hd hlw;clear hmp hlw;by_cases hr:0<nR
    ·have d1:decide ((0:Int)<(nR:Int))=true:=decide_eq_true (by omega);have d2:decide (0<nR)=true:=decide_eq_true hr;have S1:c.rules≠[]:=λe=>by have:=m2.out;rw[e]at this;simp at this;omega
     have o2:=Hd (λ(w':World) (k:Later w1 w')=>Zbw w' c v (s0.out _ k) j0.out.levs j0.out.few);have A2:=Hd (λ(w':World) (k:Later w1 w')=>YS w' c v 4 0 (s0.out _ k) E1.out);have hg:=j0.out.guard S1;have e3:=(Qz c.windows 4 0 E1.out).2;have j1:=WQ c.rules;have I0:=Hd (λ(w':World)=>WH w' (4*(XZ c.rules:Int)) (c.tk 4 0) (by omega) (by omega) hg (by have:=F2.out;show c.tk 4 0<=100000;unfold Cfg.tk;omega));have v1:=B5 (a:=4*(XZ c.rules:Int)) (by omega) hg;have v0:=UJ (a:=4*(XZ c.rules:Int)) (by omega) hg
     have l0:c.needB=2+max mp (upI (4*(XZ c.rules:Int)) (c.tk 4 0)):=by
      rw[F1.out,if_pos (by trivial)];unfold Cfg.need Cfg.mostR;rw[q2.out,show c.rules.isEmpty=false from by cases hq:c.rules with|nil=>exact absurd hq S1|cons a l=>rfl];rfl
     obtain⟨pn,m1⟩:∃ t,XZ c.rules=t:=⟨_,rfl⟩
     obtain⟨tk,m0⟩:∃ t,c.tk 4 0=t:=⟨_,rfl⟩
     rw[m1]at o2 I0 v1 v0 j1 l0;rw[m0]at A2 I0 v1 v0 l0
     obtain⟨ov,hov⟩:∃ t,upI (4*(pn:Int)) tk=t:=⟨_,rfl⟩
     rw[hov]at I0 v1 v0 l0;have hw4:IntKind.i64.wrap (4*(pn:Int))=4*(pn:Int):=by rw[IntKind.wrap_i64];omega
     obtain⟨mx,hmx⟩:∃ t,max mp ov=t:=⟨_,rfl⟩
     have R1:0<=mx/\mx<=256:=by omega
     have m3:IntKind.i64.wrap (2+mx)=2+mx:=by rw[IntKind.wrap_i64];omega
     rw[hmx]at l0;have L0:=Hd l0;clear l0 hg e3 j1 v1 v0 m1 m0 hov S1 hr R1 N0 a1
     go_upto_region 16 with fail
     clear k0 kR;have b3:=A1.out;refine wp_region_held_drew (S:=λw'=>VarAt w' p c v) (by kernel_rfl) (d0.out _ La) (λa0=>?_);refine tkS 0 a0 ?_;refine tkT (i:=1) (v:=.agg (cfgA c v)) (λw hSw=>YK rfl rfl hSw) a0 ?_
     (try simp only[p0,p1,p2,p3,p4,p5,p6])
     refine tkT (i:=5) (v:=.agg (cfgA c v)) (λw hSw=>YK rfl rfl hSw) a0 ?_
     (try simp only[p0,p1,p2,p3,p4,p5,p6])
     refine wpAnyH_ready (rs:=[2]) (by kernel_rfl) (by simp) ?_;refine AllReadyH.cons rfl (λK hK=>?_) AllReadyH.nil
     go_simp
     refine(o2.out _ La).mono ?_;rintro e x2 ⟨⟨pa,pc,rfl⟩,hx2⟩;refine hK.out _ _ ?_ (λa0=>?_)
     ·exact d0.out _ La
     clear hK K
     (try simp only[p0,p1,p2,p3,p4,p5,p6])
     refine tkS 3 a0 ?_;refine tkS 4 a0 ?_;refine wpAnyH_ready (rs:=[6]) (by kernel_rfl) (by simp) ?_;refine AllReadyH.cons rfl (λK hK=>?_) AllReadyH.nil
     go_simp
     refine(A2.out _ La).mono ?_;rintro e x3 ⟨rfl,hx3⟩;refine hK.out _ _ ?_ (λa0=>?_)
     ·exact d0.out _ La
     clear hK K
     (try simp only[p0,p1,p2,p3,p4,p5,p6])
     refine wpAnyH_ready (rs:=[7]) (by kernel_rfl) (by simp) ?_;refine AllReadyH.cons rfl (λK hK=>?_) AllReadyH.nil
     go_simp
     refine(I0.out _).mono ?_;rintro e x4 ⟨rfl,rfl⟩;refine hK.out _ _ ?_ (λa0=>?_)
     ·exact d0.out _ La
     clear hK K
     (try simp only[p0,p1,p2,p3,p4,p5,p6])
     refine tkS 8 a0 ?_;refine tkS 9 a0 ?_;refine wpAnyH_done (by kernel_rfl) ?_ _
     go_wp2_with fail
     (try go_ret)
     exact O0.out _ _ L0.out La
    ·have d1:decide ((0:Int)<(nR:Int))=false:=decide_eq_false (by omega);have d2:decide (0<nR)=false:=decide_eq_false hr;have m3:IntKind.i64.wrap (2+mp)=2+mp:=by rw[IntKind.wrap_i64];omega
     have L0:Hid (c.needB=2+mp):=Hd (by
      rw[F1.out,if_pos (by trivial)];unfold Cfg.need Cfg.mostR;rw[q2.out,show c.rules=[] from List.eq_nil_of_length_eq_zero (by rw[m2.out];omega)];simp only[List.isEmpty_nil,if_true]
      omega)
     clear hr N0 a1
     go_wp2_with fail
     (try go_ret)
     exact O0.out _ _ L0.out A1.out
open Go.RowKit PX PC
theorem Ql(w:World)(c:Cfg)(v:V7)(h:RowsOf w c v)(hI:CfgI c) :
 Calls Tryz.prog 11 #[.agg (cfgA c v)] w λe w'=>e=.returned (.int .i64 (chkI c))/\Later w w':=by
 obtain⟨p,hp⟩:∃ p,w.heap.size=p:=⟨_,rfl⟩
 obtain⟨w1,hw1⟩:∃ w1,w.alloc (.cells (cfgA c v) 32)=w1:=⟨_,rfl⟩
 have b0:Later w w1:=by rw[<-hw1];exact(Later.refl w).alloc _
 have f0:VarAt w1 p c v:=by unfold VarAt;rw[<-hw1,<-hp];exact Zd w _
 have d0:=Hd (λ(w':World) (k:Later w1 w')=>f0.later k);have s0:=Hd (λ(w':World) (k:Later w1 w')=>(show RowsOf w' c v from Rows7.later h (b0.trans k)));have n0:=Hd b0;have r0:=Hd hw1;have HP:=Hd hp;have o1:=Hd hI
 obtain⟨rc,hrc⟩:∃ x,c.recovery=x:=⟨_,rfl⟩
 obtain⟨bd,hbd⟩:∃ x,c.bound=x:=⟨_,rfl⟩
 obtain⟨fi,hfi⟩:∃ b,c.fine=b:=⟨_,rfl⟩
 have j2:=Hd (λ(w':World) (k:VarAt w' p c v)=>And.intro (show w'.cell? ⟨p,15,none⟩=some (.int .i64 rc) by rw[Zb k 15,<-hrc];rfl) (show w'.cell? ⟨p,16,none⟩=some (.int .i64 bd) by rw[Zb k 16,<-hbd];rfl));have g0:=Hd (λ(w':World) (k:Later w1 w')=>(show VarAt w' p c v/\w'.cell? ⟨p,15,none⟩=some (.int .i64 rc)/\w'.cell? ⟨p,16,none⟩=some (.int .i64 bd) from⟨d0.out _ k,(j2.out _ (d0.out _ k)).1,(j2.out _ (d0.out _ k)).2⟩));have F0:=Hd (λ(w':World) (k:Later w1 w')=>WJ w' c v (s0.out w' k) hI);have n2:=Hd (λ(w':World) (k:Later w1 w')=>Zdg w' c v (s0.out w' k) hI)
 obtain⟨nb,hnb⟩:∃ n,c.needB=n:=⟨_,rfl⟩
 have N1:=Hd (λ(w':World)=>Zu w' rc 1 65535);have z2:=Hd (λ(w':World)=>Zu w' bd nb 65535)
 obtain⟨b1,h1'⟩:∃ b,inB rc 1 65535=b:=⟨_,rfl⟩
 obtain⟨b2,h2'⟩:∃ b,inB bd nb 65535=b:=⟨_,rfl⟩
 have s1:Hid (chkI c=if fi&&(b1&&b2) then 0 else 111):=Hd (by
  unfold chkI Cfg.checkB;rw[hfi,hrc,hbd,h1'];cases fi
  ·rfl
  ·have hq:c.need=nb:=by rw[<-hnb];unfold Cfg.needB;rw[if_pos hfi]
   rw[hq,h2'])
 rw[hfi]at F0;rw[hnb]at n2;rw[h1']at N1;rw[h2']at z2;clear h hI hp hw1 b0 f0 hrc hbd hfi hnb h1' h2';cases fi
 ·go_enter Tryz.func11,Tryz.ntmps11
  go_upto_region 1 with fail
  rw[HP.out,r0.out];refine wp_region_held_drew (S:=λw'=>VarAt w' p c v/\w'.cell? ⟨p,15,none⟩=some (.int .i64 rc)/\w'.cell? ⟨p,16,none⟩=some (.int .i64 bd)) (by kernel_rfl) (g0.out _ La) (λa0=>?_);refine tkT (i:=0) (v:=.agg (cfgA c v)) (λw hSw=>YK rfl rfl hSw.1) a0 ?_
  (try simp only[p0,p1,p2,p3,p4,p5,p6])
  refine wpAnyH_ready (rs:=[1]) (by kernel_rfl) (by simp) ?_;refine AllReadyH.cons rfl (λK hK=>?_) AllReadyH.nil
  go_simp
  refine(F0.out _ La).mono ?_;rintro e x1 ⟨rfl,hx1⟩;refine hK.out _ _ ?_ (λa0=>?_)
  ·exact g0.out _ La
  clear hK K
  (try simp only[p0,p1,p2,p3,p4,p5,p6])
  refine tkS 2 a0 ?_;refine tkS 3 a0 ?_;refine tkV 4 a0 ?_;refine tkV 5 a0 ?_;refine tkV 6 a0 ?_;refine tkV 7 a0 ?_;refine tkS 8 a0 ?_;refine tkS 9 a0 ?_;refine tkV 10 a0 ?_;refine tkV 11 a0 ?_;refine tkV 12 a0 ?_;refine tkV 13 a0 ?_;refine tkV 14 a0 ?_;refine tkV 15 a0 ?_;refine tkS 16 a0 ?_;refine wpAnyH_done (by kernel_rfl) ?_ _
  go_wp2_with fail
  (try go_ret)
  exact⟨by rw[s1.out];rfl,n0.out.trans La⟩
 ·cases b1
  ·go_enter Tryz.func11,Tryz.ntmps11
   go_upto_region 1 with fail
   rw[HP.out,r0.out];refine wp_region_held_drew (S:=λw'=>VarAt w' p c v/\w'.cell? ⟨p,15,none⟩=some (.int .i64 rc)/\w'.cell? ⟨p,16,none⟩=some (.int .i64 bd)) (by kernel_rfl) (g0.out _ La) (λa0=>?_);refine tkT (i:=0) (v:=.agg (cfgA c v)) (λw hSw=>YK rfl rfl hSw.1) a0 ?_
   (try simp only[p0,p1,p2,p3,p4,p5,p6])
   refine wpAnyH_ready (rs:=[1]) (by kernel_rfl) (by simp) ?_;refine AllReadyH.cons rfl (λK hK=>?_) AllReadyH.nil
   go_simp
   refine(F0.out _ La).mono ?_;rintro e x1 ⟨rfl,hx1⟩;refine hK.out _ _ ?_ (λa0=>?_)
   ·exact g0.out _ La
   clear hK K
   (try simp only[p0,p1,p2,p3,p4,p5,p6])
   refine tkS 2 a0 ?_;refine tkS 3 a0 ?_;refine tkS 4 a0 ?_;refine tkS 5 a0 ?_;refine wpAnyH_ready (rs:=[6]) (by kernel_rfl) (by simp) ?_;refine AllReadyH.cons rfl (λK hK=>?_) AllReadyH.nil
   go_simp
   refine(N1.out _).mono ?_;rintro e x2 ⟨rfl,rfl⟩;refine hK.out _ _ ?_ (λa0=>?_)
   ·exact g0.out _ La
   clear hK K
   (try simp only[p0,p1,p2,p3,p4,p5,p6])
   refine tkS 7 a0 ?_;refine tkS 8 a0 ?_;refine tkS 9 a0 ?_;refine tkV 10 a0 ?_;refine tkV 11 a0 ?_;refine tkV 12 a0 ?_;refine tkV 13 a0 ?_;refine tkV 14 a0 ?_;refine tkV 15 a0 ?_;refine tkS 16 a0 ?_;refine wpAnyH_done (by kernel_rfl) ?_ _
   go_wp2_with fail
   (try go_ret)
   exact⟨by rw[s1.out];rfl,n0.out.trans La⟩
  ·go_enter Tryz.func11,Tryz.ntmps11
   go_upto_region 1 with fail
   rw[HP.out,r0.out];refine wp_region_held_drew (S:=λw'=>VarAt w' p c v/\w'.cell? ⟨p,15,none⟩=some (.int .i64 rc)/\w'.cell? ⟨p,16,none⟩=some (.int .i64 bd)) (by kernel_rfl) (g0.out _ La) (λa0=>?_);refine tkT (i:=0) (v:=.agg (cfgA c v)) (λw hSw=>YK rfl rfl hSw.1) a0 ?_
   (try simp only[p0,p1,p2,p3,p4,p5,p6])
   refine wpAnyH_ready (rs:=[1]) (by kernel_rfl) (by simp) ?_;refine AllReadyH.cons rfl (λK hK=>?_) AllReadyH.nil
   go_simp
   refine(F0.out _ La).mono ?_;rintro e x1 ⟨rfl,hx1⟩;refine hK.out _ _ ?_ (λa0=>?_)
   ·exact g0.out _ La
   clear hK K
   (try simp only[p0,p1,p2,p3,p4,p5,p6])
   refine tkS 2 a0 ?_;refine tkS 3 a0 ?_;refine tkS 4 a0 ?_;refine tkS 5 a0 ?_;refine wpAnyH_ready (rs:=[6]) (by kernel_rfl) (by simp) ?_;refine AllReadyH.cons rfl (λK hK=>?_) AllReadyH.nil
   go_simp
   refine(N1.out _).mono ?_;rintro e x2 ⟨rfl,rfl⟩;refine hK.out _ _ ?_ (λa0=>?_)
   ·exact g0.out _ La
   clear hK K
   (try simp only[p0,p1,p2,p3,p4,p5,p6])
   refine tkS 7 a0 ?_;refine tkS 8 a0 ?_;refine tkS 9 a0 ?_;refine tkS 10 a0 ?_;refine tkS 11 a0 ?_;refine tkT (i:=12) (v:=.agg (cfgA c v)) (λw hSw=>YK rfl rfl hSw.1) a0 ?_
   (try simp only[p0,p1,p2,p3,p4,p5,p6])
   refine wpAnyH_ready (rs:=[13]) (by kernel_rfl) (by simp) ?_;refine AllReadyH.cons rfl (λK hK=>?_) AllReadyH.nil
   go_simp
   refine(n2.out _ La).mono ?_;rintro e x3 ⟨rfl,hx3⟩;refine hK.out _ _ ?_ (λa0=>?_)
   ·exact g0.out _ La
   clear hK K
   (try simp only[p0,p1,p2,p3,p4,p5,p6])
   refine wpAnyH_ready (rs:=[14]) (by kernel_rfl) (by simp) ?_;refine AllReadyH.cons rfl (λK hK=>?_) AllReadyH.nil
   go_simp
   refine(z2.out _).mono ?_;rintro e x4 ⟨rfl,rfl⟩;refine hK.out _ _ ?_ (λa0=>?_)
   ·exact g0.out _ La
   clear hK K
   (try simp only[p0,p1,p2,p3,p4,p5,p6])
   refine tkS 15 a0 ?_;refine tkS 16 a0 ?_;refine wpAnyH_done (by kernel_rfl) ?_ _;cases b2
   ·go_wp2_with fail
    (try go_ret)
    exact⟨by rw[s1.out];rfl,n0.out.trans La⟩
   ·go_wp2_with fail
    (try go_ret)
    exact⟨by rw[s1.out];rfl,n0.out.trans La⟩
end Go.Proofs.YtbchkjfnakabkaaGreatDoor
