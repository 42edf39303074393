import Derived.Test.YtbchkjfnakabkaaGreatDoorRDx
import Derived.Test.YtbchkjfnakabkaaGreatDoorRR
set_option linter.unusedSimpArgs false
set_option linter.unusedVariables false
set_option maxHeartbeats 8000000
set_option maxRecDepth 100000
namespace Go.Proofs.YtbchkjfnakabkaaGreatDoor.PC
open PX
def Zi6(n:Nat)(l:List (Int × Int))(M M':Mat):Prop:=(∀k x,M k x=true->M' k x=true)/\∀ p∈l,∀k,k<n->M k p.1.toNat=true->M' k p.2.toNat=true
inductive Turned (n:Nat) (l:List (Int × Int)):Nat->Mat->Prop
 |start {M:Mat}:(∀k,k<n->M k k=true)->Turned n l 0 M
 |step {t:Nat} {M M':Mat}:Turned n l t M->Zi6 n l M M'->Turned n l (t+1) M'
def ZgI(n:Nat)(l:List (Int × Int))(M:Mat)(k:Nat):Prop:=∃ C:Nat->Bool,C k=true/\(∀x,C x=true->M k x=true)/\∀ p∈l,C p.1.toNat=true->C p.2.toNat=true
theorem ZcJ{n:Nat}{l:List (Int × Int)}(hl:∀ p∈l,lev n p.1/\lev n p.2):∀ {t:Nat} {M:Mat},Turned n l t M->∀ k,k<n->M k k=true/\(ZgI n l M k\/t+1<=((List.range n).filter (M k)).length):=by
 intro t M h
 induction h with
 |start h0=>
  intro k hk;exact⟨h0 k hk,.inr (List.length_pos_of_mem (List.mem_filter.2 ⟨List.mem_range.2 hk,h0 k hk⟩))⟩
 |@step t M M' _ hT ih=>
  intro k hk;obtain⟨h1,h2⟩:=ih k hk;refine⟨hT.1 _ _ h1,?_⟩;rcases h2 with⟨C,c1,c2,c3⟩|h2
  ·exact .inl ⟨C,c1,λx hx=>hT.1 _ _ (c2 x hx),c3⟩
  ·by_cases he:∀ x,x<n->M' k x=true->M k x=true
   ·refine .inl ⟨M k,h1,λx hx=>hT.1 _ _ hx,λp hp hx=>?_⟩;have:=(hl p hp).2;unfold lev at this;exact he _ (by omega) (hT.2 p hp k hk hx)
   ·refine .inr ?_;obtain⟨x,hx⟩:=Classical.not_forall.1 he;obtain⟨hx1,hx2⟩:=Classical.not_imp.1 hx;obtain⟨hx2,hx3⟩:=Classical.not_imp.1 hx2;have:=UU (M k) (M' k) (hT.1 k) (List.range n) x (List.mem_range.2 hx1) (by simpa using hx3) hx2;omega
theorem Za2{n:Nat}{l:List (Int × Int)}{M:Mat}(hl:∀ p∈l,lev n p.1/\lev n p.2)(h:Turned n l n M){a b:Nat}(ha:a<n)(hr:Rch l a b):M a b=true:=by
 rcases(ZcJ hl h a ha).2 with⟨C,c1,c2,c3⟩|h2
 ·refine c2 b ?_
  have key:∀ x y:Int,Rch l x y->x=a->C y.toNat=true:=by
   intro x y hr
   induction hr with
   |refl=>intro e;subst e;exact c1
   |step h1 he ih=>intro e;exact c3 _ he (ih e)
  have:=key _ _ hr rfl
  simpa using this
 ·have:=List.length_filter_le (M a) (List.range n);rw[List.length_range]at this;omega
end Go.Proofs.YtbchkjfnakabkaaGreatDoor.PC
namespace Go.Proofs.YtbchkjfnakabkaaGreatDoor
open Go.RowKit PX PC
def hdA(n k:Nat)(R:Nat->Nat):Array Value:=((List.range n).map λa=>if a<k then Value.slice (some ⟨R a,0,none⟩) n n else .slice none 0 0).toArray
theorem QR(n k:Nat)(R:Nat->Nat):(hdA n k R).size=n:=by simp[hdA]
theorem Gk{n k a:Nat}(R:Nat->Nat)(h:a<n):(hdA n k R)[a]?=some (if a<k then Value.slice (some ⟨R a,0,none⟩) n n else .slice none 0 0):=by simp[hdA,h]
theorem ZhO(n k g:Nat)(R:Nat->Nat):(hdA n k R).setIfInBounds k (.slice (some ⟨g,0,none⟩) n n)=hdA n (k+1) (λa=>if a=k then g else R a):=by
 apply Array.ext_getElem?;intro i;by_cases h:i<n
 ·by_cases e:k=i
  ·subst e;rw[Array.getElem?_setIfInBounds_self_of_lt (by rw[QR];exact h),Gk _ h];simp
  ·rw[Array.getElem?_setIfInBounds_ne e,Gk _ h,Gk _ h];have e2:¬ i=k:=λq=>e q.symm
   by_cases hk:i<k
   ·rw[if_pos hk,if_pos (by omega),if_neg e2]
   ·rw[if_neg hk,if_neg (by omega)]
 ·rw[Array.getElem?_eq_none (by simp[QR];omega),Array.getElem?_eq_none (by simp[QR];omega)]
theorem Zfq(n:Nat)(f:Nat->Bool)(b:Nat)(v:Bool):(rowM n f).setIfInBounds b (.bool v)=rowM n (λy=>if y=b then v else f y):=by
 apply Array.ext_getElem?;intro i;by_cases h:i<n
 ·by_cases e:b=i
  ·subst e;rw[Array.getElem?_setIfInBounds_self_of_lt (by rw[Ji];exact h),Yh _ h];simp
  ·rw[Array.getElem?_setIfInBounds_ne e,Yh _ h,Yh _ h];rw[if_neg (λq=>e q.symm)]
 ·rw[Array.getElem?_eq_none (by simp[Ji];omega),Array.getElem?_eq_none (by simp[Ji];omega)]
structure MatAt (B fb n k:Nat) (R:Nat->Nat) (w:World) (M:Mat):Prop where
 blk:w.heap[fb]?=some (.cells (hdA n k R) 46 (0,0))
 row:∀ a,a<k->w.heap[R a]?=some (.cells (rowM n (M a)) 4 (0,0))
 ne:∀ a,a<k->R a≠fb/\B<=R a
 inj:∀ a b,a<k->b<k->R a=R b->a=b
 own:B<=fb
theorem MatAt.later{B fb n k:Nat}{R:Nat->Nat}{w w':World}{M:Mat}(h:MatAt B fb n k R w M)(hl:Later w w'):MatAt B fb n k R w' M:=⟨hl.block h.blk,λa ha=>hl.block (h.row a ha),h.ne,h.inj,h.own⟩
def putM(M:Mat)(a b:Nat)(v:Bool):Mat:=λx y=>if x=a then(if y=b then v else M x y) else M x y
theorem MatAt.put{B fb n k:Nat}{R:Nat->Nat}{w:World}{M:Mat}(h:MatAt B fb n k R w M){a b:Nat}(ha:a<k)(v:Bool):MatAt B fb n k R (w.setCell ⟨R a,b,none⟩ (.bool v)) (putM M a b v):=by
 have J1:Only (λq=>q=R a) w (w.setCell ⟨R a,b,none⟩ (.bool v)):=(Only.refl (λq=>q=R a) w).setCell (p:=⟨R a,b,none⟩) (.inl rfl) _;refine⟨(J1.block fb (Zb h.blk) (λe=>(h.ne a ha).1 e.symm)).trans h.blk,λx hx=>?_,h.ne,h.inj,h.own⟩;by_cases e:x=a
 ·subst e;rw[Zf (h.row x hx) b,Zfq]
  congr 3
  exact funext λy=>by simp[putM]
 ·rw[(J1.block (R x) (Zb (h.row x hx)) (λe'=>e (h.inj x a hx ha e'))).trans (h.row x hx)]
  congr 3
  exact funext λy=>by simp[putM,e]
theorem MatAt.read{B fb n k:Nat}{R:Nat->Nat}{w:World}{M:Mat}(h:MatAt B fb n k R w M){a b:Nat}(ha:a<k)(M2:k<=n)(hb:b<n) :
 w.cell? ⟨fb,a,none⟩=some (.slice (some ⟨R a,0,none⟩) n n)/\w.cell? ⟨R a,b,none⟩=some (.bool (M a b))/\w.frozen? ⟨R a,b,none⟩=false/\R a<w.heap.size:=by
 refine⟨?_,?_,Zc (h.row a ha) b,Zb (h.row a ha)⟩
 ·rw[Za h.blk a,Gk _ (by omega),if_pos ha]
 ·rw[Za (h.row a ha) b,Yh _ hb]
def YX(M:Mat)(a b m:Nat):Mat:=λx y=>if x<m/\y=b then(M x b || M x a) else M x y
theorem Zb0(M:Mat)(a b:Nat):YX M a b 0=M:=by
 funext x y
 unfold YX;rw[if_neg (by omega)]
theorem Zb1(M:Mat)(a b m:Nat):putM (YX M a b m) m b (YX M a b m m b || YX M a b m m a)=YX M a b (m+1):=by
 have h1:YX M a b m m b=M m b:=by unfold YX;rw[if_neg (by omega)]
 have h2:YX M a b m m a=M m a:=by unfold YX;rw[if_neg (by omega)]
 rw[h1,h2]
 funext x y
 unfold putM YX;by_cases e:x=m
 ·subst e;by_cases f:y=b
  ·subst f;rw[if_pos rfl,if_pos rfl,if_pos ⟨by omega,rfl⟩]
  ·rw[if_pos rfl,if_neg f,if_neg (by omega),if_neg (λq=>f q.2)]
 ·rw[if_neg e];by_cases f:x<m/\y=b
  ·rw[if_pos f,if_pos ⟨by omega,f.2⟩]
  ·rw[if_neg f,if_neg (λq=>f ⟨by omega,q.2⟩)]
theorem Qb(M:Mat)(a b m x y:Nat)(h:M x y=true):YX M a b m x y=true:=by
 unfold YX;split
 ·rename_i e;rw[<-e.2,h];rfl
 ·exact h
theorem Zb2(M:Mat)(a b m x:Nat)(hx:x<m)(h:M x a=true):YX M a b m x b=true:=by
 unfold YX;rw[if_pos ⟨hx,rfl⟩,h,Bool.or_true]
theorem Bo{n:Nat}{l:List (Int × Int)}{M:Mat}{a b m:Nat}(h:JM n l M)(ha:a<n)(hm:((a:Int),(b:Int))∈l):JM n l (YX M a b m):=by
 intro x y hx hy hq;unfold YX at hq;split at hq
 ·rename_i e;rw[Bool.or_eq_true]at hq;rcases hq with hq|hq
  ·rw[e.2];exact h x b hx (by rw[<-e.2];exact hy) hq
  ·rw[e.2];exact .step (h x a hx ha hq) hm
 ·exact h x y hx hy hq
def ZeX(n:Nat)(l:List (Int × Int))(j:Nat)(M0 M:Mat):Prop:=(∀k x,M0 k x=true->M k x=true)/\∀ p∈l.take j,∀k,k<n->M0 k p.1.toNat=true->M k p.2.toNat=true
theorem Za3(n:Nat)(l:List (Int × Int))(M:Mat):ZeX n l 0 M M:=⟨λ_ _ h=>h,λp hp=>by simp at hp⟩
theorem Za4{n:Nat}{l:List (Int × Int)}{j:Nat}{M0 M:Mat}(h:ZeX n l j M0 M)(hj:j<l.length){a b:Nat}(he:l[j]=((a:Int),(b:Int))):ZeX n l (j+1) M0 (YX M a b n):=by
 refine⟨λk x hx=>Qb _ _ _ _ _ _ (h.1 k x hx),λp hp k hk hx=>?_⟩;rw[Zs hj,List.mem_append,List.mem_singleton]at hp;rcases hp with hp|rfl
 ·exact Qb _ _ _ _ _ _ (h.2 p hp k hk hx)
 ·rw[he]at hx ⊢;exact Zb2 _ _ _ _ _ hk (h.1 _ _ hx)
theorem ZcK{n:Nat}{l:List (Int × Int)}{M0 M:Mat}(h:ZeX n l l.length M0 M):Zi6 n l M0 M:=⟨h.1,λp hp=>h.2 p (by rw[List.take_length];exact hp)⟩
end Go.Proofs.YtbchkjfnakabkaaGreatDoor
namespace Go.Proofs.YtbchkjfnakabkaaGreatDoor.PC
open PX
def Va(c:Cfg):Nat->Int
 |0=>0
 |l+1=>if 0<cntL c.parts (l:Int) then max (Va c l) (upI (cntL c.parts (l:Int)) (c.tk 2 (l:Int))) else Va c l
theorem J8(c:Cfg):∀ l:Nat,0<=Va c l
 |0=>Int.le_refl _
 |l+1=>by
  have:=J8 c l;unfold Va;split
  ·exact Int.le_trans this (Int.le_max_left ..)
  ·exact this
theorem QK(c:Cfg){m:Int}(h0:0<=m):∀ l:Nat,(∀k:Nat,k<l->0<cntL c.parts (k:Int)->upI (cntL c.parts (k:Int)) (c.tk 2 (k:Int))<=m)->Va c l<=m
 |0,_=>h0
 |l+1,h=>by
  have h1:=QK c h0 l λk hk=>h k (by omega)
  unfold Va;split
  ·rename_i hp;exact Int.max_le.2 ⟨h1,h l (by omega) hp⟩
  ·exact h1
theorem Zaq(c:Cfg){k:Nat}(hp:0<cntL c.parts (k:Int)):∀ l:Nat,k<l->upI (cntL c.parts (k:Int)) (c.tk 2 (k:Int))<=Va c l
 |0,h=>by omega
 |l+1,h=>by
  unfold Va;by_cases e:k=l
  ·subst e;rw[if_pos hp];exact Int.le_max_right ..
  ·have:=Zaq c hp l (by omega);split
   ·exact Int.le_trans this (Int.le_max_left ..)
   ·exact this
theorem ZaH{l:List Prt}{p:Prt}(h:p∈l):0<cntL l p.level:=by
 unfold cntL;exact List.length_pos_of_mem (List.mem_filter.2 ⟨h,by simp⟩)
theorem QU{l:List Prt}{n:Int}(h:0<cntL l n):∃ p∈l,p.level=n:=by
 unfold cntL at h;obtain⟨p,hp⟩:=List.exists_mem_of_length_pos h;rw[List.mem_filter,decide_eq_true_eq]at hp;exact⟨p,hp.1,hp.2⟩
theorem ZdL(c:Cfg){N:Nat}(h:∀ p∈c.parts,0<=p.level/\p.level<N):Va c N=c.mostP:=by
 refine Int.le_antisymm (QK c (YE _) N λk hk hp=>?_) (Ev (J8 c N) λx hx=>?_)
 ·obtain⟨p,a1,hp2⟩:=QU hp;refine Uo (List.mem_map.2 ⟨p,a1,?_⟩);show upI _ _=_;rw[hp2]
 ·obtain⟨p,a1,rfl⟩:=List.mem_map.1 hx;obtain⟨k,hk⟩:=Int.eq_ofNat_of_zero_le (h p a1).1;have hq:=ZaH a1;have hl:=(h p a1).2;show upI _ _<=_;rw[hk]at hq hl ⊢;exact Zaq c hq N (by omega)
def V6(l:List Ru)(K:List (Int × Int)):Prop:=K.Nodup/\K.length<=l.length/\∀ y,y∈K↔∃ r∈l,(r.fr,r.tu)=y
theorem D9:V6 [] []:=⟨List.nodup_nil,Nat.le_refl _,λy=>by simp⟩
theorem D8{l:List Ru}{K:List (Int × Int)}{r:Ru}(h:V6 l K)(hr:(r.fr,r.tu)∈K):V6 (l++[r]) K:=by
 refine⟨h.1,by rw[List.length_append];exact Nat.le_trans h.2.1 (Nat.le_add_right ..),λy=>?_⟩;rw[h.2.2 y];constructor
 ·rintro⟨q,hq,e⟩;exact⟨q,List.mem_append_left _ hq,e⟩
 ·rintro⟨q,hq,e⟩;rw[List.mem_append,List.mem_singleton]at hq;rcases hq with hq|rfl
  ·exact⟨q,hq,e⟩
  ·rw[e]at hr;exact(h.2.2 y).1 hr
theorem Ba{l:List Ru}{K:List (Int × Int)}{r:Ru}(h:V6 l K)(hr:(r.fr,r.tu)∉K):V6 (l++[r]) (K++[(r.fr,r.tu)]):=by
 refine⟨List.nodup_append.2 ⟨h.1,by simp,λa ha b hb e=>hr (by rw[List.mem_singleton.1 hb]at e;rw[<-e];exact ha)⟩,by rw[List.length_append,List.length_append];exact Nat.add_le_add_right h.2.1 1,λy=>?_⟩;rw[List.mem_append,h.2.2 y,List.mem_singleton];constructor
 ·rintro(⟨q,hq,e⟩|e)
  ·exact⟨q,List.mem_append_left _ hq,e⟩
  ·exact⟨r,by simp,e.symm⟩
 ·rintro⟨q,hq,e⟩;rw[List.mem_append,List.mem_singleton]at hq;rcases hq with hq|rfl
  ·exact .inl ⟨q,hq,e⟩
  ·exact .inr e.symm
theorem Zdz{l:List Ru}{K:List (Int × Int)}(h:V6 l K)(hl:∀ r∈l,lev 8 r.fr/\lev 8 r.tu):K.length=Yk l:=
 E5 l K id h.1 hl (λ_ _ _ _ _ _ e=>e) (λy=>h.2.2 y)
end Go.Proofs.YtbchkjfnakabkaaGreatDoor.PC
namespace Go.Proofs.YtbchkjfnakabkaaGreatDoor
open Go.RowKit PX PC
theorem Zga{W:List Win}{k i:Int}(h:hasT W k i=true):∃ x∈W,x.kind=k/\x.index=i:=by
 have h1:0<sumT W k i:=of_decide_eq_true h;clear h
 induction W with
 |nil=>simp[sumT]at h1
 |cons y W ih=>
  by_cases e:y.kind=k/\y.index=i
  ·exact⟨y,List.mem_cons_self .., e⟩
  ·simp only[sumT,if_neg e,Int.zero_add]at h1;obtain⟨x,hx,hy⟩:=ih h1;exact⟨x,List.mem_cons_of_mem _ hx,hy⟩
theorem ZbI{c:Cfg}(h:c.fine=true):3<=c.need:=by
 obtain⟨-, hp,hw,-⟩:=Jq h;unfold Cfg.partsB at hp;rw[Bool.and_eq_true,ZI]at hp
 obtain⟨q,hq⟩:∃ q,q∈c.parts:=by
  cases hc:c.parts with
  |nil=>rw[hc]at hp;simp at hp
  |cons q l=>exact⟨q,List.mem_cons_self ..⟩
 have h1:=E3 hw q hq;have h2:=ZaH hq;have h3:upI (cntL c.parts q.level) (c.tk 2 q.level)<=c.mostP:=Uo (List.mem_map.2 ⟨q,hq,rfl⟩)
 have h4:1<=upI (cntL c.parts q.level) (c.tk 2 q.level):=by
  unfold upI;have h5:0<c.tk 2 q.level:=h1;exact(Int.le_ediv_iff_mul_le h5).2 (by omega)
 show 3<=2+max c.mostP c.mostR;omega
theorem Zcm{E:List Vol}(h:Z8 X4 E=true){i:Nat}(hi:i<E.length){k:Nat}(hk:hasS E[i] k=true):∀ y∈E.take i,hasS y k=false:=by
 intro y hy
 have h1:Z8 X4 (E.take (i+1))=true:=by
  have h0:=h;rw[<-List.take_append_drop (i+1) E]at h0;exact E6 _ _ _ h0
 rw[Zs hi,pairB_snoc,Bool.and_eq_true,List.all_eq_true]at h1;have h2:=U1.1 (h1.2 y hy);have h3:=Y7.1 hk;cases e:hasS y k
 ·rfl
 ·have:=Y7.1 e;omega
end Go.Proofs.YtbchkjfnakabkaaGreatDoor
namespace Go.Proofs.YtbchkjfnakabkaaGreatDoor
open Go.RowKit PX PC
theorem UM{α:Type}{w:World}{g k:Nat}{f:α->List Value}{x y:α}{cs:Array Value}{e:TypeId}(hf:∀ x,(f x).length=k)(h:w.heap[g]?=some (.cells cs e (0,0)))(hc:cs=(f x++f y).toArray)(hk:k<=100):RowAt w k (.slice (some ⟨g,0,none⟩) 2 2) ([x,y].map f):=by
 refine⟨some ⟨g,0,none⟩,2,rfl,Nat.le_refl _,by omega,by show 2*k<=_;omega,.inr ⟨g,0,rfl,Zb h,λi hi j hj=>?_⟩⟩;have hi3:i<2:=hi;rw[Za h,hc];rcases(by omega:i=0\/i=1) with rfl|rfl
 ·simp[List.getElem?_append_left (show j<(f x).length by rw[hf];exact hj)]
 ·have e:0+1*k+j=(f x).length+j:=by rw[hf];omega
  rw[e];show(f x++f y).toArray[(f x).length+j]?=(f y)[j]?;rw[List.getElem?_toArray,List.getElem?_append_right (Nat.le_add_right ..),Nat.add_sub_cancel_left]
def putI(f:Nat->Nat)(b v:Nat):Nat->Nat:=λk=>if k=b then v else f k
theorem Zfr(n:Nat)(f:Nat->Nat)(b v:Nat):(rowI n f).setIfInBounds b (.int .i64 (v:Int))=rowI n (putI f b v):=by
 apply Array.ext_getElem?;intro i;by_cases h:i<n
 ·by_cases e:b=i
  ·subst e;rw[Array.getElem?_setIfInBounds_self_of_lt (by rw[Jj];exact h),Jv _ h];simp[putI]
  ·rw[Array.getElem?_setIfInBounds_ne e,Jv _ h,Jv _ h];simp[putI,show ¬i=b from λq=>e q.symm]
 ·rw[Array.getElem?_eq_none (by simp[Jj];omega),Array.getElem?_eq_none (by simp[Jj];omega)]
theorem UsedAt.put{w:World}{ub n:Nat}{f:Nat->Nat}(h:UsedAt w ub n f)(b v:Nat):UsedAt (w.setCell ⟨ub,b,none⟩ (.int .i64 (v:Int))) ub n (putI f b v):=by
 unfold UsedAt at h ⊢;rw[Zf h b,Zfr]
theorem Zd8:(Tryz.prog.info? 46).map (λi=>(i.zero,i.size,i.bytes))=some (some (.slice none 0 0),1,24):=by kernel_rfl
theorem ZfS(W:World)(n:Nat)(hn:n<=8):(Instr.makeSlice 45 (.int .i64 (n:Int)) (.int .i64 (n:Int))).run Tryz.prog W=.ok (.slice (some ⟨W.heap.size,0,none⟩) n n) (W.alloc (.cells (hdA n 0 λ_=>0) 46)):=by
 obtain⟨i0,hi,hz0,hz1,hz2⟩:=info_parts Zd8;have h:=run_makeSlice (P:=Tryz.prog) W 45 46 i0 (.slice none 0 0) Tryz.underlying45 hi hz0 .i64 .i64 (n:Int) (n:Int) (by omega) (by omega) (by rw[hz1];omega) (by rw[hz2];omega) (by omega);have e:(n:Int).toNat=n:=by omega
 have e2:madeCells (Value.slice none 0 0).cells (n*1)=hdA n 0 λ_=>0:=by
  apply Array.toList_inj.1;rw[show(Value.slice none 0 0).cells=#[.slice none 0 0] from rfl,toList_madeCells_one,Nat.mul_one];unfold hdA;apply List.ext_getElem?;intro i;by_cases hi:i<n<;>simp[hi]
 rw[hz1,e,e2]at h;exact h
def UX(i:Nat):Mat:=λx y=>decide (x=y)&&decide (x<i)
theorem ZeA(i y:Nat):UX i i y=false:=by simp[UX]
theorem ZeB(i:Nat):putM (UX i) i i true=UX (i+1):=by
 funext x y
 unfold putM UX;by_cases e:x=i
 ·subst e;by_cases f:y=x
  ·subst f;simp
  ·rw[if_pos rfl,if_neg f,decide_eq_false (show ¬x=y from λq=>f q.symm)];rfl
 ·rw[if_neg e]
  congr 1
  exact decide_eq_decide.2 (by omega)
theorem By(n:Nat)(l:List (Int × Int))(i:Nat):JM n l (UX i):=by
 intro x y hx hy h;unfold UX at h;rw[Bool.and_eq_true,decide_eq_true_eq]at h;rw[h.1];exact .refl _
theorem Bx(n:Nat)(l:List (Int × Int)):Turned n l 0 (UX n):=.start λk hk=>by simp[UX,hk]
theorem MatAt.make2{B fb n k g:Nat}{R:Nat->Nat}{w:World}{M:Mat}(h:MatAt B fb n k R w M)(hk:k<n)(hg:w.heap.size=g)(hB:B<=w.heap.size)(hM:∀ y,M k y=false) :
 MatAt B fb n (k+1) (λa=>if a=k then g else R a) ((w.setCell ⟨fb,k,none⟩ (.slice (some ⟨g,0,none⟩) n n)).alloc (.cells (rowM n λ_=>false) 4)) M:=by
 have hfb:fb<w.heap.size:=Zb h.blk;have J1:Only (λq=>q=fb) w (w.setCell ⟨fb,k,none⟩ (.slice (some ⟨g,0,none⟩) n n)):=(Only.refl (λq=>q=fb) _).setCell (p:=⟨fb,k,none⟩) (.inl rfl) _;have hs:(w.setCell ⟨fb,k,none⟩ (.slice (some ⟨g,0,none⟩) n n)).heap.size=g:=by simpa using hg
 refine⟨Ze (by rw[Zf h.blk k,ZhO]) _,λa ha=>?_,λa ha=>?_,λa b ha hb e=>?_,h.own⟩
 ·by_cases e:a=k
  ·subst e;rw[if_pos rfl,Zq hs]
   congr 2
   congr 1
   exact funext λy=>(hM y).symm
  ·rw[if_neg e];exact Ze ((J1.block (R a) (Zb (h.row a (by omega))) (λe2=>(h.ne a (by omega)).1 e2)).trans (h.row a (by omega))) _
 ·by_cases e:a=k
  ·rw[if_pos e];omega
  ·rw[if_neg e];exact h.ne a (by omega)
 ·have hl:=λx (hx:x<k)=>Zb (h.row x hx)
  by_cases e1:a=k
  ·by_cases e2:b=k
   ·omega
   ·rw[if_pos e1,if_neg e2]at e;have:=hl b (by omega);omega
  ·by_cases e2:b=k
   ·rw[if_neg e1,if_pos e2]at e;have:=hl a (by omega);omega
   ·rw[if_neg e1,if_neg e2]at e;exact h.inj a b (by omega) (by omega) e
end Go.Proofs.YtbchkjfnakabkaaGreatDoor
namespace Go.Proofs.YtbchkjfnakabkaaGreatDoor
open Go.RowKit PX PC
theorem Bh{c:Cfg}{N:Nat}(hN:c.levels=N){n:Int}(h:c.lvl n=true):∃ k:Nat,n=k/\k<N:=by
 unfold Cfg.lvl at h;rw[ZI,hN]at h;obtain⟨k,rfl⟩:=Int.eq_ofNat_of_zero_le h.1;exact⟨k,rfl,by omega⟩
theorem G0{c:Cfg}{N:Nat}(hN:c.levels=N)(h:c.partsB=true){q:Prt}(hq:q∈c.parts):∃ k:Nat,q.level=k/\k<N:=by
 unfold Cfg.partsB at h;rw[Bool.and_eq_true,List.all_eq_true]at h;have:=h.2 q hq;unfold YU at this;rw[Bool.and_eq_true]at this;exact Bh hN this.2
theorem Zdl{c:Cfg}{n:Int}(h:c.prt n=true):∃ k:Nat,n=k/\k<c.parts.length:=by
 unfold Cfg.prt at h;rw[ZI]at h;obtain⟨k,rfl⟩:=Int.eq_ofNat_of_zero_le h.1;exact⟨k,rfl,by omega⟩
theorem Zam{c:Cfg}{k:Nat}(h:k<c.parts.length):c.levelOf k=c.parts[k].level:=by
 unfold Cfg.levelOf;rw[Int.toNat_natCast,List.getElem?_eq_getElem h];rfl
theorem Zfy{c:Cfg}{N:Nat}(hN:c.levels=N)(h2:c.partsB=true)(h:c.portsB=true){p:Por}(hp:p∈c.ports) :
 ∃ a b la lb:Nat,p.fr=a/\p.tu=b/\a<c.parts.length/\b<c.parts.length/\(∀ha:a<c.parts.length,c.parts[a].level=la)/\(∀hb:b<c.parts.length,c.parts[b].level=lb)/\la<N/\lb<N/\Rch c.flows la lb:=by
 unfold Cfg.portsB at h;rw[Bool.and_eq_true,List.all_eq_true]at h;have h3:=h.2 p hp;unfold JZ at h3;simp only[Bool.and_eq_true]at h3;obtain⟨-, ⟨⟨h4,h5⟩,-⟩,-, h6⟩:=h3;obtain⟨a,ea,ha⟩:=Zdl h4;obtain⟨b,eb,hb⟩:=Zdl h5;obtain⟨la,ela,hla⟩:=G0 hN h2 (List.getElem_mem ha);obtain⟨lb,elb,t2⟩:=G0 hN h2 (List.getElem_mem hb);rw[ea,eb,Zam ha,Zam hb,ela,elb]at h6;exact⟨a,b,la,lb,ea,eb,ha,hb,λ_=>ela,λ_=>elb,hla,t2,Er.1 h6⟩
theorem Zfn{c:Cfg}{N:Nat}(hN:c.levels=N)(h:c.rulesB=true){r:Ru}(hr:r∈c.rules):∃ a b:Nat,r.fr=a/\r.tu=b/\a<N/\b<N/\¬ Rch c.flows a b:=by
 unfold Cfg.rulesB at h;rw[Bool.and_eq_true,List.all_eq_true]at h;have h3:=h.2 r hr;unfold ruOK at h3;simp only[Bool.and_eq_true,Bool.not_eq_true']at h3;obtain⟨⟨⟨h4,h5⟩,h6⟩,-⟩:=h3;obtain⟨a,ea,ha⟩:=Bh hN h4;obtain⟨b,eb,hb⟩:=Bh hN h5;rw[ea,eb]at h6;exact⟨a,b,ea,eb,ha,hb,λk=>by rw[Er.2 k]at h6;cases h6⟩
theorem Da{W:List Win}:∀ {l:List Prt} {i:Nat},Z7 W i l=true->∀ (j:Nat) (hj:j<l.length),hasT W 1 ((i+j:Nat):Int)=true/\hasT W 2 l[j].level=true/\hasT W 3 l[j].level=true
 |p::l,i,h,j,hj=>by
  unfold Z7 at h;simp only[Bool.and_eq_true]at h
  match j,hj with
  |0,_=>exact⟨h.1.1,h.1.2.1,h.1.2.2⟩
  |j+1,hj=>
   have:=Da h.2 j (by simpa using hj);rw[show i+(j+1)=i+1+j by omega];exact this
def Vf(l:List Win)(k i:Int):Bool:=l.any λx=>decide (x.kind=k)&&decide (x.index=i)
theorem Qc(l:List Win)(x:Win)(k i:Int):Vf (l++[x]) k i=(Vf l k i || (decide (x.kind=k)&&decide (x.index=i))):=by
 unfold Vf;rw[List.any_append];simp
theorem Br{l:List Win}{x:Win}{k i:Int}(hf:true=Vf l k i):true=Vf (l++[x]) k i:=by
 rw[Qc,<-hf];rfl
theorem JC{l:List Win}{x0 x1 x2 k i:Int}{b:Bool}(hf:false=Vf l k i)(hb:(decide (x0=k)&&decide (x1=i))=b):b=Vf (l++[⟨x0,x1,x2⟩]) k i:=by
 rw[Qc,<-hf,<-hb];rfl
theorem Gs{W:List Win}{k i:Int}(h:hasT W k i=true):Vf W k i=true:=by
 obtain⟨x,hx,h1,h2⟩:=Zga h;unfold Vf;rw[List.any_eq_true];exact⟨x,hx,by simp[h1,h2]⟩
theorem Qq{c:Cfg}(h:c.windowsB=true)(j:Nat)(hj:j<c.parts.length):Vf c.windows 1 (j:Int)=true/\Vf c.windows 2 c.parts[j].level=true/\Vf c.windows 3 c.parts[j].level=true:=by
 simp only[Cfg.windowsB,Bool.and_eq_true]at h;obtain⟨h1,h2,h3⟩:=Da h.2.1 j hj;rw[Nat.zero_add]at h1;exact⟨Gs h1,Gs h2,Gs h3⟩
end Go.Proofs.YtbchkjfnakabkaaGreatDoor
namespace Go.Proofs.YtbchkjfnakabkaaGreatDoor
open Go.RowKit PX PC
theorem Zgf(c:Cfg):c.fine=(latB c.levels c.flows&&(JN c&&(c.windowsB&&c.diskB))):=by
 unfold Cfg.fine JN;cases latB c.levels c.flows<;>cases c.partsB<;>cases c.portsB<;>cases c.windowsB<;>cases c.diskB<;>cases c.rulesB<;>cases c.textsB<;>rfl
theorem WA(w:World)(c:Cfg)(v:V7)(h:RowsOf w c v)(hI:CfgI c) :
 Calls Tryz.prog 21 #[.agg (cfgA c v)] w λe w'=>e=.returned (.bool c.fine)/\Later w w':=by
 obtain⟨p,hp⟩:∃ p,w.heap.size=p:=⟨_,rfl⟩
 obtain⟨w1,hw1⟩:∃ w1,w.alloc (.cells (cfgA c v) 32)=w1:=⟨_,rfl⟩
 have b0:Later w w1:=by rw[<-hw1];exact(Later.refl w).alloc _
 have j0:VarAt w1 p c v:=by unfold VarAt;rw[<-hw1,<-hp];exact Zd w _
 have k0:w1.cell? ⟨p,0,none⟩=some (.int .i64 c.levels):=Za j0 0;have k1:w1.cell? ⟨p,1,none⟩=some v.F:=Za j0 1;have d0:=Hd (λ(w':World) (k:Later w1 w')=>j0.later k);have S0:=Zft w1 c.levels v.F c.flows (h.rF.later b0);have n0:=Hd b0;have t0:=Hd hw1;have HP:=Hd hp;have r0:=Hd (λ(w':World) (k:Later w1 w')=>(show RowsOf w' c v from Rows7.later h (b0.trans k)));have A1:=Hd hI;have J2:=Hd (Zgf c)
 obtain⟨lv,hlv⟩:∃ lv,c.levels=lv:=⟨_,rfl⟩
 obtain⟨vF,hvF⟩:∃ x,v.F=x:=⟨_,rfl⟩
 rw[hlv]at k0 S0;rw[hvF]at k1 S0;have O0:=Hd hlv;clear h hI hp hw1 b0 j0 hlv hvF;cases hb:latB c.levels c.flows
 ·have m0:Calls Tryz.prog 71 #[.int .i64 lv,vF] w1 λe w'=>∃ k:Int,e=.returned (.tuple #[.pointer none,.int .i64 k])/\(k==0)=false/\Later w1 w':=S0.mono λe w' hh=>by
   rcases hh with⟨h1,-⟩|⟨-, h2⟩
   ·rw[O0.out,h1]at hb;cases hb
   ·exact h2
  have HN:=Hd m0;have HB:=Hd hb;clear m0 S0 hb
  go_enter Tryz.func21,Tryz.ntmps21
  go_upto_region 1 with fail
  rw[HP.out,t0.out]
  go_upto_region 2 with(first
   |(go_at_call 71;(with_reducible refine HN.out.mono ?_);rintro e w2 ⟨kk,rfl,hkk,hl2⟩)
   |fail)
  have hkk2:(kk != 0)=true:=by rw[bne,hkk];rfl
  go_wp2_with fail
  (try go_ret)
  exact⟨by rw[J2.out,HB.out];rfl,n0.out.trans hl2⟩
 ·have m0:Calls Tryz.prog 71 #[.int .i64 lv,vF] w1 λe w'=>∃ (lb:Nat) (M:Mat),e=.returned (.tuple #[.pointer (some ⟨lb,0,none⟩),.int .i64 0])/\DocLat w' lb lv.toNat M/\(∀a b:Nat,a<lv.toNat->b<lv.toNat->M a b=rchB c.flows a b)/\Later w1 w':=S0.mono λe w' hh=>by
   rcases hh with⟨-, h2⟩|⟨h1,-⟩
   ·exact h2
   ·rw[O0.out,h1]at hb;cases hb
  have g0:=YA.1 hb;rw[O0.out]at g0
  have M1:1<=lv/\lv<=8:=⟨g0.1,g0.2⟩
  obtain⟨N,rfl⟩:∃ N:Nat,lv=N:=⟨lv.toNat,by omega⟩
  have N1:1<=N/\N<=8:=by omega
  rw[Int.toNat_natCast]at m0;have HN:=Hd m0;have HB:=Hd hb;have f1:=Hd N1;clear m0 S0 hb g0 M1 N1
  obtain⟨r1,hr1⟩:∃ b,JN c=b:=⟨_,rfl⟩
  obtain⟨r2,hr2⟩:∃ b,c.windowsB=b:=⟨_,rfl⟩
  obtain⟨r3,hr3⟩:∃ b,c.diskB=b:=⟨_,rfl⟩
  have K1:Hid (c.fine=(r1&&(r2&&r3))):=Hd (by rw[J2.out,HB.out,hr1,hr2,hr3];rfl);have a3:=Hd hr1
  have N2:=Hd (λ(w':World) (k:Later w1 w')=>(show Calls Tryz.prog 73 #[.agg (cfgA c v)] w' λe w2=>e=.returned (.bool r2)/\Later w' w2 by
   rw[<-hr2];exact Wt w' c v (r0.out w' k) (by rw[O0.out];have:=f1.out;omega) (by rw[O0.out];have:=f1.out;omega)))
  have b3:=Hd (λ(w':World) (k:Later w1 w')=>(show Calls Tryz.prog 74 #[.agg (cfgA c v)] w' λe w2=>e=.returned (.bool r3)/\Later w' w2 by
   rw[<-hr3];exact Zdf w' c v N (r0.out w' k) A1.out O0.out f1.out.1 f1.out.2))
  clear hr1 hr2 hr3
  go_enter Tryz.func21,Tryz.ntmps21
  go_upto_region 1 with fail
  rw[HP.out,t0.out]
  go_upto_region 2 with(first
   |(go_at_call 71;(with_reducible refine HN.out.mono ?_);rintro e w2 ⟨lb,M,rfl,hD,hM,hl2⟩)
   |fail)
  have j2:=Hd (λ(w':World) (k:Later w2 w')=>(show Calls Tryz.prog 72 #[.agg (cfgA c v),.pointer (some ⟨lb,0,none⟩)] w' λe w3=>e=.returned (.bool r1)/\Later w' w3 by
   rw[<-a3.out];exact Zc3 w' c v lb N M (r0.out w' (hl2.trans k)) A1.out O0.out f1.out.1 f1.out.2 (hD.later k) hM))
  clear k0 k1 hD hM;cases r1
  ·go_wp2_with (first
    |(go_at_call 72;(with_reducible refine(j2.out _ (Later.refl _)).mono ?_);rintro e w3 ⟨rfl,hl3⟩)
    |((with_reducible refine Xt (p:=p) (c:=c) (v:=v) 1 ?_ ?_ ?_ ?_ ?_);rfl;rfl;exact(d0.out _ La);rfl)
    |fail)
   (try go_ret)
   exact⟨by rw[K1.out];rfl,n0.out.trans (hl2.trans hl3)⟩
  ·cases r2
   ·go_wp2_with (first
     |(go_at_call 72;(with_reducible refine(j2.out _ (Later.refl _)).mono ?_);rintro e w3 ⟨rfl,hl3⟩)
     |(go_at_call 73;(with_reducible refine(N2.out _ La).mono ?_);rintro e w4 ⟨rfl,hl4⟩)
     |((with_reducible refine Xt (p:=p) (c:=c) (v:=v) 1 ?_ ?_ ?_ ?_ ?_);rfl;rfl;exact(d0.out _ La);rfl)
     |fail)
    (try go_ret)
    exact⟨by rw[K1.out];rfl,n0.out.trans (hl2.trans (hl3.trans hl4))⟩
   ·go_wp2_with (first
     |(go_at_call 72;(with_reducible refine(j2.out _ (Later.refl _)).mono ?_);rintro e w3 ⟨rfl,hl3⟩)
     |(go_at_call 73;(with_reducible refine(N2.out _ La).mono ?_);rintro e w4 ⟨rfl,hl4⟩)
     |(go_at_call 74;(with_reducible refine(b3.out _ La).mono ?_);rintro e w5 ⟨rfl,hl5⟩)
     |((with_reducible refine Xt (p:=p) (c:=c) (v:=v) 1 ?_ ?_ ?_ ?_ ?_);rfl;rfl;exact(d0.out _ La);rfl)
     |fail)
    (try go_ret)
    exact⟨by rw[K1.out];rfl,n0.out.trans (hl2.trans (hl3.trans (hl4.trans hl5)))⟩
end Go.Proofs.YtbchkjfnakabkaaGreatDoor
namespace Go.Proofs.YtbchkjfnakabkaaGreatDoor
open Go.RowKit PX PC
theorem Ziu{a b:Int}{n:Nat}(hb:1<=b)(h1:a<=n*b)(h2:n=0\/((n:Int) - 1)*b<a)(ha:0<=a):upI a b=n:=by
 unfold upI
 have hu:(a+b - 1)/b<=n:=by
  refine Int.le_of_lt_add_one ((Int.ediv_lt_iff_lt_mul (by omega)).2 ?_);rw[Int.add_mul,Int.one_mul];omega
 have hl:(n:Int)<=(a+b - 1)/b:=by
  rw[Int.le_ediv_iff_mul_le (by omega)];rcases h2 with rfl|h2
  ·simp;omega
  ·rw[Int.sub_mul,Int.one_mul]at h2;omega
 omega
theorem Wy(w:World)(a b:Int)(ha:0<=a)(ha2:a<=100000)(hb:1<=b)(hb2:b<=100000) :
 Calls Tryz.prog 26 #[.int .i64 a,.int .i64 b] w λe w'=>e=.returned (.int .i64 (upI a b))/\w'=w:=by
 go_enter Tryz.func26,Tryz.ntmps26
 go_wp2_with fail
 go_loopw [5] (λvn wr=>∃ n:Nat,vn=.int .i64 (n:Int)/\(n=0\/((n:Int) - 1)*b<a)/\wr=w) (λvn _=>(a - intOf vn).toNat)
 case atStart=>exact⟨0,rfl,.inl rfl,rfl⟩
 case round=>
  obtain⟨n,rfl,hn,hwr⟩:=hrel;subst hwr
  have hna:(n:Int)<=a:=by
   rcases hn with rfl|h
   ·simpa using ha
   ·have h3:((n:Int) - 1)*1<=((n:Int) - 1)*b\/n=0:=by
     by_cases e:n=0
     ·exact .inr e
     ·exact .inl (Int.mul_le_mul_of_nonneg_left hb (by omega))
    omega
  have hp0:0<=(n:Int)*b:=Int.mul_nonneg (by omega) (by omega);have a1:(n:Int)*b<=100000*100000:=Int.mul_le_mul (by omega) hb2 (by omega) (by omega);have hwa:IntKind.i64.wrap ((n:Int)*b)=(n:Int)*b:=by rw[IntKind.wrap_i64];omega
  by_cases hlt:(n:Int)*b<a
  ·have hd:decide ((n:Int)*b<a)=true:=decide_eq_true hlt;have HX:=Hd hlt
   have c0:(n:Int)<a:=by
    have:(n:Int)*1<=(n:Int)*b:=Int.mul_le_mul_of_nonneg_left hb (by omega);omega
   clear hlt hn
   go_wp2_with fail
   exact⟨⟨n+1,by simp,.inr (by have:=HX.out;simpa using this),by first|trivial|rfl⟩,by simp only[intOf];omega⟩
  ·have hd:decide ((n:Int)*b<a)=false:=decide_eq_false hlt;have HU:=Hd (Ziu hb (by omega) hn ha);clear hlt hn
   go_wp2_with fail
   go_ret
   exact⟨ZT HU.out.symm,rfl⟩
end Go.Proofs.YtbchkjfnakabkaaGreatDoor
namespace Go.Proofs.YtbchkjfnakabkaaGreatDoor
open Go.RowKit PX PC
open Go.Act renaming put -> p0
open List renaming getElem_toArray -> p1, getElem_cons_succ -> p2, getElem_cons_zero -> p3, setIfInBounds_toArray -> p4, set_cons_zero -> p5, set_cons_succ -> p6
theorem Dk:ElemT Xx 2 16 47 22 (.agg #[.int .i64 0,.int .i64 0]):=
 ⟨by kernel_rfl,Tryz.underlying22,rfl,by decide,by decide,λ_=>rfl,by intro x u hu;simp only[Xx,List.mem_cons,List.not_mem_nil,or_false]at hu;rcases hu with rfl|rfl<;>rfl⟩
def GF(K:List (Int × Int))(x:Int × Int)(k:Nat)(tb:Bool):Prop:=tb=true↔x∈K.take k
theorem G2{w w':World}{B k n:Nat}{e:TypeId}{v:Value}{xs:List Value}(h:w.ownsRow B e k v n xs)(hl:Later w w'):w'.ownsRow B e k v n xs:=
 Only.ownsRow (Only.of_below (r:=λ_=>False) hl) h λ_ _ hr=>hr
theorem Zbl(w:World)(c:Cfg)(v:V7)(h:RowsOf w c v)(hlev:∀ r∈c.rules,lev 8 r.fr/\lev 8 r.tu)(h32:c.rules.length<=32) :
 Calls Tryz.prog 28 #[.agg (cfgA c v)] w λe w'=>(∃a cap,e=.returned (.slice a (Yk c.rules) cap))/\Later w w':=by
 obtain⟨aR,pR,eR,gR1,gR2,gR3⟩:=Zl h.rR;have L1:=h.rR;rw[eR]at L1
 obtain⟨nR,hnR⟩:∃ n,c.rules.length=n:=⟨_,rfl⟩
 obtain⟨p,hp⟩:∃ p,w.heap.size=p:=⟨_,rfl⟩
 obtain⟨w1,hw1⟩:∃ w1,w.alloc (.cells (cfgA c v) 32)=w1:=⟨_,rfl⟩
 have b0:Later w w1:=by rw[<-hw1];exact(Later.refl w).alloc _
 have j0:VarAt w1 p c v:=by unfold VarAt;rw[<-hw1,<-hp];exact Zd w _
 have HK:=Hd (λ(w':World) (k:Later w1 w')=>(show w'.cell? ⟨p,12,none⟩=some (.slice aR nR pR) by rw[Za (j0.later k) 12,<-hnR,<-eR];rfl));have f3:=Hd (λ(w':World) (k:Later w1 w')=>(show RowAt w' 5 (.slice aR nR pR) (c.rules.map ruC) by rw[<-hnR];exact L1.later (b0.trans k)));have HN:=Hd hnR;have f2:=Hd hlev;have n0:=Hd b0;have t0:=Hd hw1;have HP:=Hd hp;have e3:=Hd (show w1.heap.size=p+1 by rw[<-hw1,<-hp];simp);have hb32:nR<=32:=by omega
 obtain⟨iE,hiE,hz0,hz1,hz2⟩:=info_parts Dk.info;clear h hlev h32 L1 hnR eR gR1 gR2 gR3 hw1 hp j0 b0
 go_enter Tryz.func28,Tryz.ntmps28
 go_upto_region 2 with fail
 rw[HP.out,t0.out]
 have P2:Hid ((w1.alloc (.cells #[] 47)).ownsRow w1.heap.size 47 2 (.slice (some ⟨p+1,0,none⟩) 0 0) ([]:List (Int × Int)).length (ZG Xx [])):=Hd (by
  have:=Jo (w:=w1.alloc (.cells #[] 47)) (base:=w1.heap.size) (k:=2) Xx (Zd _ _) (Nat.le_refl _)
  rwa [e3.out]at this ⊢)
 have t3:Hid (Later w1 (w1.alloc (.cells #[] 47))):=Hd ((Later.refl w1).alloc _)
 go_wp2_with fail
 go_loopw [3,4] (λvo vi wx=>∃ (j:Nat) (K:List (Int × Int)) (a:Option Addr) (cap:Nat),j<=nR/\vi=.int .i64 (j:Int)/\vo=.slice a K.length cap/\V6 (c.rules.take j) K/\wx.ownsRow w1.heap.size 47 2 (.slice a K.length cap) K.length (ZG Xx K)/\Later w1 wx) (λ_ vi _=>nR - (intOf vi).toNat)
 case atStart=>exact⟨0,[],_,_,by omega,rfl,rfl,by simpa using D9,P2.out,t3.out⟩
 case round=>
  obtain⟨j,K,oa,ocap,hj,rfl,rfl,hK,hown,hl⟩:=hrel;have kk:=HK.out _ hl;by_cases hlt:j<nR
  ·have P1:j<c.rules.length:=by rw[HN.out];exact hlt
   obtain⟨b,o,hao,hb',hcc⟩:=Zz (f3.out _ hl) P1;have o0:=Zs P1
   obtain⟨x,hx⟩:∃ x,c.rules[j]=x:=⟨_,rfl⟩
   rw[hx]at hcc o0;obtain⟨x0,x1,x2,x3,x4⟩:=x;have e0:=hcc 0 (by omega);have e1:=hcc 1 (by omega);simp only[ruC,List.getElem?_cons_zero,List.getElem?_cons_succ,Nat.add_zero]at e0 e1;subst hao;have hdn:decide (j<nR)=true:=decide_eq_true hlt;have Z2:K.length<=32:=by have:=hK.2.1;rw[List.length_take]at this;omega
   have C1:=Hd hK;have N0:=Hd hown;have HL:=Hd hl;have K2:=Hd o0;clear hcc o0 hx hK hown hb' P1;have f0:=Hd (λ(w':World) (k:Later wr w')=>(show w'.cell? ⟨p,12,none⟩=some (.slice (some ⟨b,o,none⟩) nR pR)/\w'.cell? ⟨b,o+j*5,none⟩=some (.int .i64 x0)/\w'.cell? ⟨b,o+j*5+1,none⟩=some (.int .i64 x1) from⟨k.cell kk,k.cell e0,k.cell e1⟩))
   obtain⟨nK,hnK⟩:∃ n,K.length=n:=⟨_,rfl⟩
   rw[hnK]at N0 Z2 ⊢;have A0:=Hd hnK;clear hnK e0 e1
   go_upto_region 5 with fail
   clear kk;refine wp_region_held_drew (S:=λw'=>w'.cell? ⟨p,12,none⟩=some (.slice (some ⟨b,o,none⟩) nR pR)/\w'.cell? ⟨b,o+j*5,none⟩=some (.int .i64 x0)/\w'.cell? ⟨b,o+j*5+1,none⟩=some (.int .i64 x1)) (by kernel_rfl) (f0.out _ La) (λa0=>?_);refine tkS 0 a0 ?_;refine tkS 1 a0 ?_;refine tkS 2 a0 ?_;refine tkS 3 a0 ?_;refine tkS 4 a0 ?_;refine tkS 5 a0 ?_;refine tkS 6 a0 ?_;refine tkS 7 a0 ?_;refine tkS 8 a0 ?_;refine tkS 9 a0 ?_;refine tkS 10 a0 ?_;refine tkS 11 a0 ?_;refine tkS 12 a0 ?_;refine rd1 13 (λK hK=>?_)
   go_simp
   refine hK.out _ _ ?_ (λa0=>?_)
   ·exact f0.out _ La
   clear hK K
   (try simp only[p0,p1,p2,p3,p4,p5,p6])
   refine rd1 14 (λK hK=>?_)
   go_simp
   refine hK.out _ _ ?_ (λa0=>?_)
   ·exact f0.out _ La
   clear hK K
   (try simp only[p0,p1,p2,p3,p4,p5,p6])
   refine wpAnyH_done (by kernel_rfl) ?_ _;clear a0 f0
   obtain⟨bx,hbx⟩:∃ g,wr.heap.size=g:=⟨_,rfl⟩
   obtain⟨wy,hwy⟩:∃ y,(wr.alloc (.cells #[.int .i64 x0,.int .i64 x1] 47)).drew=y:=⟨_,rfl⟩
   rw[hbx,hwy];have F2:wy.heap[bx]?=some (.cells #[.int .i64 x0,.int .i64 x1] 47 (0,0)):=by rw[<-hwy];exact Zq hbx
   have o2:Later wr wy:=by rw[<-hwy];exact((Later.refl _).alloc _).drew
   have y2:RowAt wr 2 (.slice oa nK ocap) (K.map Xx):=Jh (l:=K) (f:=Xx) (k:=2) (λ_=>rfl) (by rw[A0.out];omega) (by rw[A0.out];exact N0.out);have o3:=Hd (λ(w':World) (k:Later wr w')=>y2.later k);have s1:=Hd F2;have m2:=Hd o2;clear F2 o2 y2 hwy hbx
   go_wp2_with fail
   go_loopw [6,7] (λvt vk wx=>∃ (k:Nat) (tb:Bool),k<=nK/\vk=.int .i64 (k:Int)/\vt=.bool tb/\GF K (x0,x1) k tb/\Later wy wx) (λ_ vk _=>nK - (intOf vk).toNat)
   case atStart=>exact⟨0,false,by omega,rfl,rfl,by unfold GF;simp,Later.refl _⟩
   case round=>
    obtain⟨k,tb,hk,rfl,rfl,ht,hlk⟩:=hrel;by_cases c0:k<nK
    ·have t1:k<K.length:=by rw[A0.out];exact c0
     have C0:=Zs t1;have hdk:decide (k<nK)=true:=decide_eq_true c0;obtain⟨gb,go,hoa,-, hcc⟩:=Zz (o3.out _ (m2.out.trans hlk)) t1
     obtain⟨y,hy⟩:∃ y,K[k]=y:=⟨_,rfl⟩
     rw[hy]at hcc C0;unfold GF at ht;have s0:=Hd C0;have HT:=Hd ht;have T0:=Hd hlk;cases tb
     ·obtain⟨y0,y1⟩:=y;have q0:=hcc 0 (by omega);have q1:=hcc 1 (by omega);simp only[Xx,List.getElem?_cons_zero,List.getElem?_cons_succ,Nat.add_zero]at q0 q1;have z0:=Za (hlk.block s1.out) 0;have z1:=Za (hlk.block s1.out) 1;subst hoa;clear hcc C0 hy ht hlk t1;cases hs:ZcZ y0 y1 x0 x1
      ·have s3:=Hd (show(x0,x1)≠(y0,y1) from λe=>by
        simp only[Prod.mk.injEq]at e;rw[show ZcZ y0 y1 x0 x1=true from decide_eq_true ⟨e.1.symm,e.2.symm⟩]at hs
        cases hs)
       go_upto_region 10 with fail
       go_quiet (fail)
       go_wp2_with fail
       refine⟨⟨k+1,false,by omega,by simp,by first|rfl|rw[hs],?_,Later.drewN T0.out _⟩,by simp only[intOf];omega⟩;unfold GF;rw[s0.out,List.mem_append,List.mem_singleton,<-HT.out];exact⟨λq=>.inl q,λq=>q.elim id (λq=>absurd q s3.out)⟩
      ·have R2:=Hd (show(x0,x1)=(y0,y1) by
        have h:=of_decide_eq_true hs
        rw[h.1,h.2])
       go_upto_region 10 with fail
       go_quiet (fail)
       go_wp2_with fail
       refine⟨⟨k+1,true,by omega,by simp,by first|rfl|rw[hs],?_,Later.drewN T0.out _⟩,by simp only[intOf];omega⟩;unfold GF;rw[s0.out,List.mem_append,List.mem_singleton];exact⟨λ_=>.inr R2.out,λ_=>rfl⟩
     ·clear hcc C0 hy ht hlk t1 hoa
      go_upto_region 10 with fail
      go_quiet (fail)
      go_wp2_with fail
      refine⟨⟨k+1,true,by omega,by simp,by rfl,?_,Later.drewN T0.out _⟩,by simp only[intOf];omega⟩;unfold GF;rw[s0.out,List.mem_append];exact⟨λ_=>.inl (HT.out.1 rfl),λ_=>rfl⟩
    ·have M2:k=nK:=by omega
     subst M2;unfold GF at ht;rw[List.take_of_length_le (by rw[A0.out];exact Nat.le_refl _)]at ht;have z0:=Za (hlk.block s1.out) 0;have z1:=Za (hlk.block s1.out) 1;have T0:=Hd (HL.out.trans (m2.out.trans hlk));have l1:=Hd (G2 N0.out (m2.out.trans hlk));have t2:=Zb (hlk.block s1.out);clear hlk;cases tb
     ·have m1:(x0,x1)∉K:=λq=>by have:=ht.2 q;cases this
      have g2:=Hd (Ba (r:=⟨x0,x1,x2,x3,x4⟩) C1.out m1);clear ht m1
      go_wp2_with (first
       | (at_builtin;refine EF Dk rfl (.tmp 46) (.tmp 48) rfl (W0:=w1) (T0.out.trans La) _ K [(x0,x1)] (by rfl) (by rw [A0.out];exact G2 l1.out La) _ 1 1 rfl (by rfl) (Wx (x:=(x0,x1)) (f:=Xx) (Zd _ _) rfl (by decide)) (by rw [A0.out];simp;omega) ?_
          intro v2 w5 hown2 hl5 hk2
          obtain⟨a2,c2,e2⟩:∃ a2 c2,v2=.slice a2 (K++[(x0,x1)]).length c2:=by
           obtain⟨a2,c2,e2,-⟩:=Zl (Jh (l:=K++[(x0,x1)]) (k:=2) (f:=Xx) (λ_=>rfl) (by rw[List.length_append,A0.out];simp;omega) hown2);exact⟨a2,c2,e2⟩
          subst e2;have y3:=Hd hown2
          clear hown2 hk2)
       |fail)
      exact⟨⟨j+1,K++[(x0,x1)],a2,c2,by omega,by simp,by first|rfl|simp,by rw[K2.out];exact g2.out,y3.out,hl5⟩,by simp only[intOf];omega⟩
     ·have g1:(x0,x1)∈K:=ht.1 rfl;have g2:=Hd (D8 (r:=⟨x0,x1,x2,x3,x4⟩) C1.out g1);clear ht g1
      go_wp2_with fail
      exact⟨⟨j+1,K,oa,ocap,by omega,by simp,by rw[A0.out],by rw[K2.out];exact g2.out,by rw[A0.out];exact l1.out,T0.out⟩,by simp only[intOf];omega⟩
  ·have v3:j=nR:=by omega
   subst v3;rw[List.take_of_length_le (by rw[HN.out];exact Nat.le_refl _)]at hK;have i1:=Zdz hK f2.out;have m3:=Hd (n0.out.trans hl);rw[i1]
   obtain⟨pn,hpn2⟩:∃ n,Yk c.rules=n:=⟨_,rfl⟩
   rw[hpn2];have l3:=Hd hpn2;clear hK hown hl i1 hpn2
   go_wp2_with fail
   (try go_ret)
   exact⟨⟨oa,ocap,by rw[l3.out];rfl⟩,m3.out⟩
end Go.Proofs.YtbchkjfnakabkaaGreatDoor
namespace Go.Proofs.YtbchkjfnakabkaaGreatDoor
open Go.RowKit PX PC
open Go.Act renaming put -> p0
open List renaming getElem_toArray -> p1, getElem_cons_succ -> p2, getElem_cons_zero -> p3, setIfInBounds_toArray -> p4, set_cons_zero -> p5, set_cons_succ -> p6
theorem Bg(c:Cfg)(hN:NeedOK c)(l:Nat):Va c l<=8:=by
 refine QK c (by omega) l λk hk hp=>?_
 obtain⟨q,hq,e⟩:=QU hp;have h1:=hN.ticks q hq;rw[e]at h1;have h2:=BW (a:=(cntL c.parts (k:Int):Int)) (by omega) h1;have h3:=Gz c.parts (k:Int);have h4:=hN.parts.2;show upI _ (sumT c.windows 2 (k:Int))<=8;omega
theorem Zc9(w:World)(c:Cfg)(v:V7)(h:RowsOf w c v)(hI:CfgI c) :
 Calls Tryz.prog 13 #[.agg (cfgA c v)] w λe w'=>e=.returned (.int .i64 c.needB)/\Later w w':=by
 obtain⟨p,hp⟩:∃ p,w.heap.size=p:=⟨_,rfl⟩
 obtain⟨w1,hw1⟩:∃ w1,w.alloc (.cells (cfgA c v) 32)=w1:=⟨_,rfl⟩
 have b0:Later w w1:=by rw[<-hw1];exact(Later.refl w).alloc _
 have j0:VarAt w1 p c v:=by unfold VarAt;rw[<-hw1,<-hp];exact Zd w _
 have d0:=Hd (λ(w':World) (k:Later w1 w')=>j0.later k);have r0:=Hd (λ(w':World) (k:Later w1 w')=>(show RowsOf w' c v from Rows7.later h (b0.trans k)));have n0:=Hd b0;have t0:=Hd hw1;have HP:=Hd hp;have A1:=Hd hI;obtain⟨aP,pP,eP,gP1,gP2,gP3⟩:=Zl h.rP;have O1:=h.rP;rw[eP]at O1
 obtain⟨nP,hnP⟩:∃ n,c.parts.length=n:=⟨_,rfl⟩
 obtain⟨aR,pR,eR,gR1,gR2,gR3⟩:=Zl h.rR
 obtain⟨nR,hnR⟩:∃ n,c.rules.length=n:=⟨_,rfl⟩
 have C1:=Hd (λ(w':World) (k:Later w1 w')=>(show w'.cell? ⟨p,2,none⟩=some (.slice aP nP pP) by rw[Za (j0.later k) 2,<-hnP,<-eP];rfl));have O2:=Hd (λ(w':World) (k:Later w1 w')=>(show w'.cell? ⟨p,12,none⟩=some (.slice aR nR pR) by rw[Za (j0.later k) 12,<-hnR,<-eR];rfl));have W2:=Hd (λ(w':World) (k:Later w1 w')=>(show RowAt w' 2 (.slice aP nP pP) (c.parts.map XQ) by rw[<-hnP];exact O1.later (b0.trans k)));have o1:=Hd hnP;have s2:=Hd hnR;have hbP:nP<=140737488355328:=by omega
 have hbR:nR<=140737488355328:=by omega
 have H0:=Hd (λ(w':World) (k:Later w1 w')=>WA w' c v (r0.out w' k) hI)
 obtain⟨fi,hfi⟩:∃ b,c.fine=b:=⟨_,rfl⟩
 rw[hfi]at H0;have T1:Hid (c.needB=if fi then c.need else 0):=Hd (by rw[<-hfi];rfl)
 obtain⟨PT,hPT⟩:∃ PT,(λ(e:Ending) (w':World)=>e=.returned (.int .i64 c.needB)/\Later w w')=PT:=⟨_,rfl⟩
 rw[hPT];have R0:=Hd (λ(w':World) (n:Int) (hb:c.needB=n) (k:Later w1 w')=>(show PT (.returned (.int .i64 n)) w' by rw[<-hPT];exact⟨by rw[hb],b0.trans k⟩));have C2:=Hd hfi;clear h hI hp hw1 b0 j0 O1 hnP hnR eP gP1 gP2 gP3 eR gR1 gR2 gR3 hfi hPT;cases fi
 ·go_enter Tryz.func13,Tryz.ntmps13
  go_upto_region 1 with fail
  rw[HP.out,t0.out]
  go_wp2_with (first
   |((with_reducible refine Xt (p:=p) (c:=c) (v:=v) 1 ?_ ?_ ?_ ?_ ?_);rfl;rfl;exact d0.out _ La;rfl)
   |(go_at_call 21;(with_reducible refine(H0.out _ La).mono ?_);rintro e w2 ⟨rfl,hl2⟩)
   |fail)
  (try go_ret)
  exact R0.out _ 0 (by rw[T1.out];rfl) La
 ·have m1:=Um C2.out;obtain⟨g0,hpa,hwin,-⟩:=Jq C2.out;have S1:=YA.1 g0;obtain⟨N,hN⟩:=Int.eq_ofNat_of_zero_le (show 0<=c.levels by have:=S1.lo;omega);have N1:N<=8:=by have:=S1.hi;omega
  have F1:=Hd (show ∀x∈c.windows,0<=x.ticks/\x.ticks<=255 from λx hx=>by have:=Zb4 hwin x hx;omega)
  have q2:Hid (255*(c.windows.length:Int)≤16320):=Hd (by
   have h1:=hwin;unfold Cfg.windowsB at h1;rw[Bool.and_eq_true,Bool.and_eq_true,ZI]at h1
   omega)
  have z3:Hid (Va c N=c.mostP):=Hd (ZdL c λq hq=>by
   have:=hpa;unfold Cfg.partsB at this;rw[Bool.and_eq_true]at this;have h2:=Jn (List.all_eq_true.1 this.2 q hq);unfold Cfg.lvl at h2;rw[ZI]at h2
   omega)
  have m0:=Hd m1;have j3:=Hd (λ(w':World) (k:Later w1 w')=>(show w'.cell? ⟨p,0,none⟩=some (.int .i64 (N:Int)) by rw[Za (d0.out w' k) 0,<-hN];rfl));clear m1 g0 hpa hwin S1 hN
  go_enter Tryz.func13,Tryz.ntmps13
  go_upto_region 1 with fail
  rw[HP.out,t0.out]
  go_upto_region 3 with(first
   |((with_reducible refine Xt (p:=p) (c:=c) (v:=v) 1 ?_ ?_ ?_ ?_ ?_);rfl;rfl;exact d0.out _ La;rfl)
   |(go_at_call 21;(with_reducible refine(H0.out _ La).mono ?_);rintro e w2 ⟨rfl,hl2⟩)
   |fail)
  go_wp2_with fail
  go_loopw [3,4] (λvm vl wx=>∃ l:Nat,l<=N/\vl=.int .i64 (l:Int)/\vm=.int .i64 (Va c l)/\Later w1 wx) (λ_ vl _=>N - (intOf vl).toNat)
  case atStart=>exact⟨0,by omega,rfl,rfl,hl2⟩
  case round=>
   obtain⟨l,hl,rfl,rfl,hlw⟩:=hrel;have k0:=j3.out _ hlw;by_cases hlt:l<N
   ·obtain⟨wz,hwz⟩:∃ y,wr=y:=⟨_,rfl⟩
    rw[hwz]at hlw k0 ⊢;clear hwz;have H1:=Hd hlw;clear hlw
    go_wp2_with fail
    go_loopw [5,6] (λvn vi wx=>∃ i:Nat,i<=nP/\vi=.int .i64 (i:Int)/\vn=.int .i64 (cntL (c.parts.take i) (l:Int):Int)/\Later w1 wx) (λ_ vi _=>nP - (intOf vi).toNat)
    case atStart=>exact⟨0,by omega,rfl,by simp[cntL],H1.out⟩
    case round=>
     obtain⟨i,hi,rfl,rfl,hl2⟩:=hrel;have kP:=C1.out _ hl2;by_cases c0:i<nP
     ·obtain⟨b,o,hao,hb',hcc⟩:=Zz (W2.out _ hl2) (show i<c.parts.length by rw[o1.out];exact c0);have K0:=Vi (c.parts.take i) (c.parts[i]'(by rw[o1.out];exact c0)) (l:Int);rw[<-Zs (show i<c.parts.length by rw[o1.out];exact c0)]at K0
      obtain⟨x,hx⟩:∃ x,c.parts[i]'(by rw[o1.out];exact c0)=x:=⟨_,rfl⟩
      rw[hx]at hcc K0;obtain⟨x0,x1⟩:=x;have e0:=hcc 0 (by omega);simp only[XQ,List.getElem?_cons_zero,Nat.add_zero]at e0;subst hao;have R1:=Gz (c.parts.take i) (l:Int);rw[List.length_take]at R1
      obtain⟨cn,hcn⟩:∃ n,cntL (c.parts.take i) (l:Int)=n:=⟨_,rfl⟩
      rw[hcn]at K0 R1 ⊢;have hwc:IntKind.i64.wrap ((cn:Int)+1)=(cn:Int)+1:=by rw[IntKind.wrap_i64];omega
      have v0:=Hd K0;have j1:=Hd hl2;clear hcc hb' hx K0 R1 hcn hl2;by_cases e:x0=(l:Int)
      ·have d1:(x0==(l:Int))=true:=by simpa using e
       have HE:=Hd e;clear e
       go_wp2_with fail
       exact⟨⟨i+1,by omega,by simp,by rw[v0.out,if_pos (show(⟨x0,x1⟩:Prt).level=(l:Int) from HE.out)];simp,j1.out⟩,by simp only[intOf];omega⟩
      ·have d1:(x0==(l:Int))=false:=by simpa using e
       have HE:=Hd e;clear e
       go_wp2_with fail
       exact⟨⟨i+1,by omega,by simp,by rw[v0.out,if_neg (show ¬(⟨x0,x1⟩:Prt).level=(l:Int) from HE.out)];simp,j1.out⟩,by simp only[intOf];omega⟩
     ·have d3:i=nP:=by omega
      subst d3;rw[List.take_of_length_le (by rw[o1.out];exact Nat.le_refl _)]
      obtain⟨mn,hmn⟩:∃ n,cntL c.parts (l:Int)=n:=⟨_,rfl⟩
      have K0:Va c (l+1)=if 0<mn then max (Va c l) (upI (mn:Int) (c.tk 2 (l:Int))) else Va c l:=by rw[<-hmn];rfl
      have L0:=Gz c.parts (l:Int);rw[hmn]at L0 ⊢;have T2:=m0.out.parts.2
      have o0:0<mn->1<=c.tk 2 (l:Int):=λhp=>by
       obtain⟨q,hq,e⟩:=QU (show 0<cntL c.parts (l:Int) by rw[hmn];exact hp);have:=m0.out.ticks q hq;rw[e]at this;exact this
      have v0:=Hd K0;have j1:=Hd hl2;have S2:=Hd (show mn<=8 by omega);have s0:=Hd o0;clear K0 L0 T2 o0 hl2 hmn;by_cases hp:0<mn
      ·have d1:decide ((0:Int)<(mn:Int))=true:=decide_eq_true (by omega);have d2:decide (0<mn)=true:=decide_eq_true hp;have HT:=Hd (λ(w':World) (k:Later w1 w')=>YO w' c v 2 (l:Int) (r0.out _ k) F1.out);have A2:=s0.out hp;have n3:=(Qu c.windows 2 (l:Int) F1.out).2;have I0:=Hd (λ(w':World)=>Wy w' (mn:Int) (c.tk 2 (l:Int)) (by omega) (by have:=S2.out;omega) A2 (by have:=q2.out;show c.tk 2 (l:Int)<=100000;unfold Cfg.tk;omega));have l2:=Hd hp
       obtain⟨tk,o0⟩:∃ t,c.tk 2 (l:Int)=t:=⟨_,rfl⟩
       obtain⟨ov,hov⟩:∃ t,upI (mn:Int) tk=t:=⟨_,rfl⟩
       rw[o0]at HT I0 v0;rw[hov]at I0 v0
       obtain⟨mo,hmo⟩:∃ t,Va c l=t:=⟨_,rfl⟩
       rw[hmo]at v0 ⊢;clear A2 n3 hp o0 hov hmo;have i3:=j1.out
       go_wp2_with (first
        |((with_reducible refine Xt (p:=p) (c:=c) (v:=v) 1 ?_ ?_ ?_ ?_ ?_);rfl;rfl;exact d0.out _ La;rfl)
        |(go_at_call 27;(with_reducible refine(HT.out _ La).mono ?_);rintro e w7 ⟨rfl,hl7⟩)
        |(go_at_call 26;(with_reducible refine(I0.out _).mono ?_);rintro e w8 ⟨rfl,i2⟩;have i2:=i2.symm;subst i2)
        |fail)
       exact⟨⟨l+1,by omega,by simp,by rw[v0.out,if_pos l2.out],La⟩,by simp only[intOf];omega⟩
      ·have d1:decide ((0:Int)<(mn:Int))=false:=decide_eq_false (by omega);have d2:decide (0<mn)=false:=decide_eq_false hp;have l2:=Hd hp
       obtain⟨mo,hmo⟩:∃ t,Va c l=t:=⟨_,rfl⟩
       rw[hmo]at v0 ⊢;clear hp hmo
       go_wp2_with fail
       exact⟨⟨l+1,by omega,by simp,by rw[v0.out,if_neg l2.out],j1.out⟩,by simp only[intOf];omega⟩
   ·have q3:l=N:=by omega
    subst q3;have kR:=O2.out _ hlw;have L0:=Bg c m0.out l;have v1:=J8 c l;rw[z3.out]at L0 v1 ⊢
    obtain⟨mp,hmp⟩:∃ t,c.mostP=t:=⟨_,rfl⟩
    rw[hmp]at L0 v1 ⊢;have I2:=Hd hmp;have H1:=Hd hlw;clear hmp hlw;by_cases hr:0<nR
    ·have d1:decide ((0:Int)<(nR:Int))=true:=decide_eq_true (by omega);have d2:decide (0<nR)=true:=decide_eq_true hr;have Z1:c.rules≠[]:=λe=>by have:=s2.out;rw[e]at this;simp at this;omega
     have E2:=Hd (λ(w':World) (k:Later w1 w')=>Zbl w' c v (r0.out _ k) m0.out.levs m0.out.few);have z2:=Hd (λ(w':World) (k:Later w1 w')=>YO w' c v 4 0 (r0.out _ k) F1.out);have hg:=m0.out.guard Z1;have g3:=(Qu c.windows 4 0 F1.out).2;have n1:=WH c.rules;have I0:=Hd (λ(w':World)=>Wy w' (4*(Yk c.rules:Int)) (c.tk 4 0) (by omega) (by omega) hg (by have:=q2.out;show c.tk 4 0<=100000;unfold Cfg.tk;omega));have E1:=BW (a:=4*(Yk c.rules:Int)) (by omega) hg;have F0:=GQ (a:=4*(Yk c.rules:Int)) (by omega) hg
     have l0:c.needB=2+max mp (upI (4*(Yk c.rules:Int)) (c.tk 4 0)):=by
      rw[T1.out,if_pos (by trivial)];unfold Cfg.need Cfg.mostR;rw[I2.out,show c.rules.isEmpty=false from by cases hq:c.rules with|nil=>exact absurd hq Z1|cons a l=>rfl];rfl
     obtain⟨pn,i1⟩:∃ t,Yk c.rules=t:=⟨_,rfl⟩
     obtain⟨tk,o0⟩:∃ t,c.tk 4 0=t:=⟨_,rfl⟩
     rw[i1]at E2 I0 E1 F0 n1 l0;rw[o0]at z2 I0 E1 F0 l0
     obtain⟨ov,hov⟩:∃ t,upI (4*(pn:Int)) tk=t:=⟨_,rfl⟩
     rw[hov]at I0 E1 F0 l0;have hw4:IntKind.i64.wrap (4*(pn:Int))=4*(pn:Int):=by rw[IntKind.wrap_i64];omega
     obtain⟨mx,hmx⟩:∃ t,max mp ov=t:=⟨_,rfl⟩
     have W1:0<=mx/\mx<=256:=by omega
     have k3:IntKind.i64.wrap (2+mx)=2+mx:=by rw[IntKind.wrap_i64];omega
     rw[hmx]at l0;have P0:=Hd l0;clear l0 hg g3 n1 E1 F0 i1 o0 hov Z1 hr W1 L0 v1
     go_upto_region 16 with fail
     clear k0 kR;have i3:=H1.out;refine wp_region_held_drew (S:=λw'=>VarAt w' p c v) (by kernel_rfl) (d0.out _ La) (λa0=>?_);refine tkS 0 a0 ?_;refine tkT (i:=1) (v:=.agg (cfgA c v)) (λw hSw=>YG rfl rfl hSw) a0 ?_
     (try simp only[p0,p1,p2,p3,p4,p5,p6])
     refine tkT (i:=5) (v:=.agg (cfgA c v)) (λw hSw=>YG rfl rfl hSw) a0 ?_
     (try simp only[p0,p1,p2,p3,p4,p5,p6])
     refine rd1 2 (λK hK=>?_)
     go_simp
     refine(E2.out _ La).mono ?_;rintro e x2 ⟨⟨pa,pc,rfl⟩,hx2⟩;refine hK.out _ _ ?_ (λa0=>?_)
     ·exact d0.out _ La
     clear hK K
     (try simp only[p0,p1,p2,p3,p4,p5,p6])
     refine tkS 3 a0 ?_;refine tkS 4 a0 ?_;refine rd1 6 (λK hK=>?_)
     go_simp
     refine(z2.out _ La).mono ?_;rintro e x3 ⟨rfl,hx3⟩;refine hK.out _ _ ?_ (λa0=>?_)
     ·exact d0.out _ La
     clear hK K
     (try simp only[p0,p1,p2,p3,p4,p5,p6])
     refine rd1 7 (λK hK=>?_)
     go_simp
     refine(I0.out _).mono ?_;rintro e x4 ⟨rfl,rfl⟩;refine hK.out _ _ ?_ (λa0=>?_)
     ·exact d0.out _ La
     clear hK K
     (try simp only[p0,p1,p2,p3,p4,p5,p6])
     refine tkS 8 a0 ?_;refine tkS 9 a0 ?_;refine wpAnyH_done (by kernel_rfl) ?_ _
     go_wp2_with fail
     (try go_ret)
     exact R0.out _ _ P0.out La
    ·have d1:decide ((0:Int)<(nR:Int))=false:=decide_eq_false (by omega);have d2:decide (0<nR)=false:=decide_eq_false hr;have k3:IntKind.i64.wrap (2+mp)=2+mp:=by rw[IntKind.wrap_i64];omega
     have P0:Hid (c.needB=2+mp):=Hd (by
      rw[T1.out,if_pos (by trivial)];unfold Cfg.need Cfg.mostR;rw[I2.out,show c.rules=[] from List.eq_nil_of_length_eq_zero (by rw[s2.out];omega)];simp only[List.isEmpty_nil,if_true]
      omega)
     clear hr L0 v1
     go_wp2_with fail
     (try go_ret)
     exact R0.out _ _ P0.out H1.out
end Go.Proofs.YtbchkjfnakabkaaGreatDoor
namespace Go.Proofs.YtbchkjfnakabkaaGreatDoor
open Go.RowKit PX PC
open Go.Act renaming put -> p0
open List renaming getElem_toArray -> p1, getElem_cons_succ -> p2, getElem_cons_zero -> p3, setIfInBounds_toArray -> p4, set_cons_zero -> p5, set_cons_succ -> p6
theorem Zcb(w:World)(c:Cfg)(v:V7)(h:RowsOf w c v)(hI:CfgI c) :
 Calls Tryz.prog 11 #[.agg (cfgA c v)] w λe w'=>e=.returned (.int .i64 (chkI c))/\Later w w':=by
 obtain⟨p,hp⟩:∃ p,w.heap.size=p:=⟨_,rfl⟩
 obtain⟨w1,hw1⟩:∃ w1,w.alloc (.cells (cfgA c v) 32)=w1:=⟨_,rfl⟩
 have b0:Later w w1:=by rw[<-hw1];exact(Later.refl w).alloc _
 have j0:VarAt w1 p c v:=by unfold VarAt;rw[<-hw1,<-hp];exact Zd w _
 have d0:=Hd (λ(w':World) (k:Later w1 w')=>j0.later k);have r0:=Hd (λ(w':World) (k:Later w1 w')=>(show RowsOf w' c v from Rows7.later h (b0.trans k)));have n0:=Hd b0;have t0:=Hd hw1;have HP:=Hd hp;have A1:=Hd hI
 obtain⟨rc,hrc⟩:∃ x,c.recovery=x:=⟨_,rfl⟩
 obtain⟨bd,hbd⟩:∃ x,c.bound=x:=⟨_,rfl⟩
 obtain⟨fi,hfi⟩:∃ b,c.fine=b:=⟨_,rfl⟩
 have n2:=Hd (λ(w':World) (k:VarAt w' p c v)=>And.intro (show w'.cell? ⟨p,15,none⟩=some (.int .i64 rc) by rw[Za k 15,<-hrc];rfl) (show w'.cell? ⟨p,16,none⟩=some (.int .i64 bd) by rw[Za k 16,<-hbd];rfl));have f0:=Hd (λ(w':World) (k:Later w1 w')=>(show VarAt w' p c v/\w'.cell? ⟨p,15,none⟩=some (.int .i64 rc)/\w'.cell? ⟨p,16,none⟩=some (.int .i64 bd) from⟨d0.out _ k,(n2.out _ (d0.out _ k)).1,(n2.out _ (d0.out _ k)).2⟩));have H0:=Hd (λ(w':World) (k:Later w1 w')=>WA w' c v (r0.out w' k) hI);have L2:=Hd (λ(w':World) (k:Later w1 w')=>Zc9 w' c v (r0.out w' k) hI)
 obtain⟨nb,hnb⟩:∃ n,c.needB=n:=⟨_,rfl⟩
 have k2:=Hd (λ(w':World)=>Zv w' rc 1 65535);have H2:=Hd (λ(w':World)=>Zv w' bd nb 65535)
 obtain⟨b1,h1'⟩:∃ b,inB rc 1 65535=b:=⟨_,rfl⟩
 obtain⟨b2,h2'⟩:∃ b,inB bd nb 65535=b:=⟨_,rfl⟩
 have I1:Hid (chkI c=if fi&&(b1&&b2) then 0 else 111):=Hd (by
  unfold chkI Cfg.checkB;rw[hfi,hrc,hbd,h1'];cases fi
  ·rfl
  ·have hq:c.need=nb:=by rw[<-hnb];unfold Cfg.needB;rw[if_pos hfi]
   rw[hq,h2'])
 rw[hfi]at H0;rw[hnb]at L2;rw[h1']at k2;rw[h2']at H2;clear h hI hp hw1 b0 j0 hrc hbd hfi hnb h1' h2';cases fi
 ·go_enter Tryz.func11,Tryz.ntmps11
  go_upto_region 1 with fail
  rw[HP.out,t0.out];refine wp_region_held_drew (S:=λw'=>VarAt w' p c v/\w'.cell? ⟨p,15,none⟩=some (.int .i64 rc)/\w'.cell? ⟨p,16,none⟩=some (.int .i64 bd)) (by kernel_rfl) (f0.out _ La) (λa0=>?_);refine tkT (i:=0) (v:=.agg (cfgA c v)) (λw hSw=>YG rfl rfl hSw.1) a0 ?_
  (try simp only[p0,p1,p2,p3,p4,p5,p6])
  refine rd1 1 (λK hK=>?_)
  go_simp
  refine(H0.out _ La).mono ?_;rintro e x1 ⟨rfl,hx1⟩;refine hK.out _ _ ?_ (λa0=>?_)
  ·exact f0.out _ La
  clear hK K
  (try simp only[p0,p1,p2,p3,p4,p5,p6])
  refine tkS 2 a0 ?_;refine tkS 3 a0 ?_;refine tkV 4 a0 ?_;refine tkV 5 a0 ?_;refine tkV 6 a0 ?_;refine tkV 7 a0 ?_;refine tkS 8 a0 ?_;refine tkS 9 a0 ?_;refine tkV 10 a0 ?_;refine tkV 11 a0 ?_;refine tkV 12 a0 ?_;refine tkV 13 a0 ?_;refine tkV 14 a0 ?_;refine tkV 15 a0 ?_;refine tkS 16 a0 ?_;refine wpAnyH_done (by kernel_rfl) ?_ _
  go_wp2_with fail
  (try go_ret)
  exact⟨by rw[I1.out];rfl,n0.out.trans La⟩
 ·cases b1
  ·go_enter Tryz.func11,Tryz.ntmps11
   go_upto_region 1 with fail
   rw[HP.out,t0.out];refine wp_region_held_drew (S:=λw'=>VarAt w' p c v/\w'.cell? ⟨p,15,none⟩=some (.int .i64 rc)/\w'.cell? ⟨p,16,none⟩=some (.int .i64 bd)) (by kernel_rfl) (f0.out _ La) (λa0=>?_);refine tkT (i:=0) (v:=.agg (cfgA c v)) (λw hSw=>YG rfl rfl hSw.1) a0 ?_
   (try simp only[p0,p1,p2,p3,p4,p5,p6])
   refine rd1 1 (λK hK=>?_)
   go_simp
   refine(H0.out _ La).mono ?_;rintro e x1 ⟨rfl,hx1⟩;refine hK.out _ _ ?_ (λa0=>?_)
   ·exact f0.out _ La
   clear hK K
   (try simp only[p0,p1,p2,p3,p4,p5,p6])
   refine tkS 2 a0 ?_;refine tkS 3 a0 ?_;refine tkS 4 a0 ?_;refine tkS 5 a0 ?_;refine rd1 6 (λK hK=>?_)
   go_simp
   refine(k2.out _).mono ?_;rintro e x2 ⟨rfl,rfl⟩;refine hK.out _ _ ?_ (λa0=>?_)
   ·exact f0.out _ La
   clear hK K
   (try simp only[p0,p1,p2,p3,p4,p5,p6])
   refine tkS 7 a0 ?_;refine tkS 8 a0 ?_;refine tkS 9 a0 ?_;refine tkV 10 a0 ?_;refine tkV 11 a0 ?_;refine tkV 12 a0 ?_;refine tkV 13 a0 ?_;refine tkV 14 a0 ?_;refine tkV 15 a0 ?_;refine tkS 16 a0 ?_;refine wpAnyH_done (by kernel_rfl) ?_ _
   go_wp2_with fail
   (try go_ret)
   exact⟨by rw[I1.out];rfl,n0.out.trans La⟩
  ·go_enter Tryz.func11,Tryz.ntmps11
   go_upto_region 1 with fail
   rw[HP.out,t0.out];refine wp_region_held_drew (S:=λw'=>VarAt w' p c v/\w'.cell? ⟨p,15,none⟩=some (.int .i64 rc)/\w'.cell? ⟨p,16,none⟩=some (.int .i64 bd)) (by kernel_rfl) (f0.out _ La) (λa0=>?_);refine tkT (i:=0) (v:=.agg (cfgA c v)) (λw hSw=>YG rfl rfl hSw.1) a0 ?_
   (try simp only[p0,p1,p2,p3,p4,p5,p6])
   refine rd1 1 (λK hK=>?_)
   go_simp
   refine(H0.out _ La).mono ?_;rintro e x1 ⟨rfl,hx1⟩;refine hK.out _ _ ?_ (λa0=>?_)
   ·exact f0.out _ La
   clear hK K
   (try simp only[p0,p1,p2,p3,p4,p5,p6])
   refine tkS 2 a0 ?_;refine tkS 3 a0 ?_;refine tkS 4 a0 ?_;refine tkS 5 a0 ?_;refine rd1 6 (λK hK=>?_)
   go_simp
   refine(k2.out _).mono ?_;rintro e x2 ⟨rfl,rfl⟩;refine hK.out _ _ ?_ (λa0=>?_)
   ·exact f0.out _ La
   clear hK K
   (try simp only[p0,p1,p2,p3,p4,p5,p6])
   refine tkS 7 a0 ?_;refine tkS 8 a0 ?_;refine tkS 9 a0 ?_;refine tkS 10 a0 ?_;refine tkS 11 a0 ?_;refine tkT (i:=12) (v:=.agg (cfgA c v)) (λw hSw=>YG rfl rfl hSw.1) a0 ?_
   (try simp only[p0,p1,p2,p3,p4,p5,p6])
   refine rd1 13 (λK hK=>?_)
   go_simp
   refine(L2.out _ La).mono ?_;rintro e x3 ⟨rfl,hx3⟩;refine hK.out _ _ ?_ (λa0=>?_)
   ·exact f0.out _ La
   clear hK K
   (try simp only[p0,p1,p2,p3,p4,p5,p6])
   refine rd1 14 (λK hK=>?_)
   go_simp
   refine(H2.out _).mono ?_;rintro e x4 ⟨rfl,rfl⟩;refine hK.out _ _ ?_ (λa0=>?_)
   ·exact f0.out _ La
   clear hK K
   (try simp only[p0,p1,p2,p3,p4,p5,p6])
   refine tkS 15 a0 ?_;refine tkS 16 a0 ?_;refine wpAnyH_done (by kernel_rfl) ?_ _;cases b2
   ·go_wp2_with fail
    (try go_ret)
    exact⟨by rw[I1.out];rfl,n0.out.trans La⟩
   ·go_wp2_with fail
    (try go_ret)
    exact⟨by rw[I1.out];rfl,n0.out.trans La⟩
