import Derived.Test.YtbchkjfnakabkaaGreatDoorYP
set_option linter.unusedSimpArgs false
set_option linter.unusedVariables false
namespace Go.Proofs.YtbchkjfnakabkaaGreatDoor.PC
open PX
abbrev Mat:=Nat->Nat->Bool
def setM(M:Mat)(a b:Nat):Mat:=λx y=>M x y || (decide (x=a)&&decide (y=b))
theorem Zhe(M:Mat)(a b:Nat):setM M a b a b=true:=by simp[setM]
theorem ZcX(M:Mat)(a b x y:Nat)(h:M x y=true):setM M a b x y=true:=by simp[setM,h]
theorem BZ{M:Mat}{a b x y:Nat}:setM M a b x y=true↔M x y=true\/(x=a/\y=b):=by simp[setM]
def JM(n:Nat)(l:List (Int × Int))(M:Mat):Prop:=∀ a b:Nat,a<n->b<n->M a b=true->Rch l a b
def Zcp(n:Nat)(l:List (Int × Int))(M:Mat):Prop:=(∀a,a<n->M a a=true)/\∀ p∈l,M p.1.toNat p.2.toNat=true
def BO(n:Nat)(M:Mat):Prop:=∀ a b c,a<n->b<n->c<n->M a b=true->M b c=true->M a c=true
theorem Zbd{n:Nat}{l:List (Int × Int)}{M:Mat}(h:JM n l M){a b c:Nat}(ha:a<n)(hb:b<n)(hc:c<n)(h1:M a b=true)(h2:M b c=true):JM n l (setM M a c):=by
 intro x y hx hy hm;rcases BZ.1 hm with hm|⟨rfl,rfl⟩
 ·exact h x y hx hy hm
 ·exact Jl (h _ _ ha hb h1) (h _ _ hb hc h2)
theorem ZeS{n:Nat}{l:List (Int × Int)}{M:Mat}(h:Zcp n l M)(a c:Nat):Zcp n l (setM M a c):=
 ⟨λx hx=>ZcX _ _ _ _ _ (h.1 x hx),λp hp=>ZcX _ _ _ _ _ (h.2 p hp)⟩
def Uw:Mat:=λx y=>decide (x=y)
theorem Bw(n:Nat)(l:List (Int × Int)):JM n l Uw:=by
 intro x y _ _ h;have:x=y:=by simpa [Uw] using h
 subst this;exact .refl _
def JL(M:Mat):List (Int × Int)->Mat
 |[]=>M
 |p::l=>JL (setM M p.1.toNat p.2.toNat) l
theorem Bb(M:Mat)(l:List (Int × Int))(p:Int × Int):JL M (l++[p])=setM (JL M l) p.1.toNat p.2.toNat:=by
 induction l generalizing M with
 |nil=>rfl
 |cons q l ih=>exact ih _
theorem UP(l:List (Int × Int))(M:Mat)(x y:Nat):JL M l x y=true↔M x y=true\/∃ p∈l,x=p.1.toNat/\y=p.2.toNat:=by
 induction l generalizing M with
 |nil=>simp[JL]
 |cons q l ih=>
  rw[JL,ih,BZ];simp only[List.mem_cons];constructor
  ·rintro((h|⟨h1,h2⟩)|⟨p,hp,h⟩)
   ·exact .inl h
   ·exact .inr ⟨q,.inl rfl,h1,h2⟩
   ·exact .inr ⟨p,.inr hp,h⟩
  ·rintro(h|⟨p,rfl|hp,h⟩)
   ·exact .inl (.inl h)
   ·exact .inl (.inr h)
   ·exact .inr ⟨p,hp,h⟩
theorem Ziv{n:Nat}{l:List (Int × Int)}(hl:∀ p∈l,lev n p.1/\lev n p.2):JM n l (JL Uw l)/\Zcp n l (JL Uw l):=by
 refine⟨λx y hx hy h=>?_,λx hx=>(UP ..).2 (.inl (by simp[Uw])),λp hp=>(UP ..).2 (.inr ⟨p,hp,rfl,rfl⟩)⟩;rcases(UP ..).1 h with h|⟨p,hp,rfl,rfl⟩
 ·exact Bw n l x y hx hy h
 ·obtain⟨h1,h2⟩:=hl p hp;unfold lev at h1 h2;rw[Int.toNat_of_nonneg h1.1,Int.toNat_of_nonneg h2.1];exact .step (.refl _) hp
theorem BD{n:Nat}{l:List (Int × Int)}{M:Mat}(hs:JM n l M)(hb:Zcp n l M)(hc:BO n M)(hl:∀ p∈l,lev n p.1/\lev n p.2){a b:Nat}(ha:a<n)(hb':b<n):M a b=true↔Rch l a b:=by
 refine⟨hs a b ha hb',?_⟩
 have key:∀ x y:Int,Rch l x y->x=a->y.toNat<n/\M a y.toNat=true:=by
  intro x y hr
  induction hr with
  |refl=>intro e;subst e;exact⟨ha,hb.1 a ha⟩
  |step h1 he ih=>
   intro e;obtain⟨q1,q2⟩:=hl _ he;unfold lev at q1 q2;exact⟨by omega,hc _ _ _ ha (by omega) (by omega) (ih e).2 (hb.2 _ he)⟩
 intro hr;have:=(key _ _ hr rfl).2
 simpa using this
theorem UV{α:Type}(p q:α->Bool)(h:∀ x,p x=true->q x=true):∀ l:List α,(l.filter p).length<=(l.filter q).length
 |[]=>Nat.le_refl _
 |x::l=>by
  have ih:=UV p q h l;by_cases hx:p x=true
  ·rw[List.filter_cons_of_pos hx,List.filter_cons_of_pos (h x hx)];simpa using ih
  ·rw[List.filter_cons_of_neg hx];by_cases hy:q x=true
   ·rw[List.filter_cons_of_pos hy];simp;omega
   ·rw[List.filter_cons_of_neg hy];exact ih
theorem UU{α:Type}(p q:α->Bool)(h:∀ x,p x=true->q x=true):∀ (l:List α) (c:α),c∈l->p c=false->q c=true->(l.filter p).length<(l.filter q).length
 |x::l,c,hm,h1,h2=>by
  rcases List.mem_cons.1 hm with rfl|hm
  ·rw[List.filter_cons_of_neg (by rw[h1];decide),List.filter_cons_of_pos h2];have:=UV p q h l;simp;omega
  ·have ih:=UU p q h l c hm h1 h2;by_cases hx:p x=true
   ·rw[List.filter_cons_of_pos hx,List.filter_cons_of_pos (h x hx)];simpa using ih
   ·rw[List.filter_cons_of_neg hx];by_cases hy:q x=true
    ·rw[List.filter_cons_of_pos hy];simp;omega
    ·rw[List.filter_cons_of_neg hy];exact ih
theorem ZgL(f g:Nat->Nat)(h:∀ x,f x<=g x):∀ l:List Nat,(l.map f).sum<=(l.map g).sum
 |[]=>Nat.le_refl _
 |x::l=>by have:=ZgL f g h l;have:=h x;simp only[List.map_cons,List.sum_cons];omega
theorem ZgK(f g:Nat->Nat)(h:∀ x,f x<=g x):∀ (l:List Nat) (a:Nat),a∈l->f a<g a->(l.map f).sum<(l.map g).sum
 |x::l,a,hm,hl=>by
  simp only[List.map_cons,List.sum_cons];rcases List.mem_cons.1 hm with rfl|hm
  ·have:=ZgL f g h l;omega
  ·have:=ZgK f g h l a hm hl;have:=h x;omega
def Bl(n:Nat)(M:Mat):Nat:=((List.range n).map λa=>((List.range n).filter λb=>!M a b).length).sum
theorem Zd0{n:Nat}{M:Mat}{a c:Nat}(ha:a<n)(hc:c<n)(h:M a c=false):Bl n (setM M a c)<Bl n M:=by
 refine ZgK _ _ (λx=>UV _ _ (λy hy=>?_) _) _ a (List.mem_range.2 ha) (UU _ _ (λy hy=>?_) _ c (List.mem_range.2 hc) (by simp[Zhe]) (by simp[h]))
 all_goals
  simp only[setM,Bool.not_eq_true',Bool.or_eq_false_iff]at hy ⊢;exact hy.1
def Q3(n:Nat)(M:Mat)(a b c:Nat):Prop:=∀ x y z,x<n->y<n->z<n->(x<a\/(x=a/\(y<b\/(y=b/\z<c))))->M x y=true->M y z=true->M x z=true
theorem DN(n:Nat)(M:Mat):Q3 n M 0 0 0:=by intro x y z _ _ _ h;omega
theorem Za1{n:Nat}{M:Mat}{a b c:Nat}(h:Q3 n M a b c)(hs:(M a b&&M b c&&!M a c)=false):Q3 n M a b (c+1):=by
 intro x y z hx hy hz hp h1 h2;by_cases e:x=a/\y=b/\z=c
 ·obtain⟨rfl,rfl,rfl⟩:=e;cases h3:M x z
  ·rw[h1,h2,h3]at hs;cases hs
  ·rfl
 ·exact h x y z hx hy hz (by omega) h1 h2
theorem ZcF{n:Nat}{M:Mat}{a b:Nat}(h:Q3 n M a b n):Q3 n M a (b+1) 0:=λx y z hx hy hz hp=>h x y z hx hy hz (by omega)
theorem ZcG{n:Nat}{M:Mat}{a:Nat}(h:Q3 n M a n 0):Q3 n M (a+1) 0 0:=λx y z hx hy hz hp=>h x y z hx hy hz (by omega)
theorem ZcH{n:Nat}{M:Mat}(h:Q3 n M n 0 0):BO n M:=λa b c ha hb hc=>h a b c ha hb hc (by omega)
def WU(M:Mat)(n a b c:Nat):Bool:=(M a c&&M b c)&&(List.range n).all λd=>!(M a d&&M b d&&!M c d)
def Db(M:Mat)(n a b c:Nat):Bool:=(M c a&&M c b)&&(List.range n).all λd=>!(M d a&&M d b&&!M d c)
def hasJ(M:Mat)(n a b:Nat):Bool:=(List.range n).any (WU M n a b)
def hasG(M:Mat)(n a b:Nat):Bool:=(List.range n).any (Db M n a b)
theorem ZfY{n:Nat}{l:List (Int × Int)}{M:Mat}(h1:1<=n)(h8:n<=8)(hf:l.length<=64)(hl:∀ p∈l,lev n p.1/\lev n p.2)(hM:∀ a b,a<n->b<n->(M a b=true↔Rch l a b)) :
 Lat n l↔(∀a b,a<n->b<n->a≠b->(M a b&&M b a)=false)/\∀ a b,a<n->b<n->hasJ M n a b=true/\hasG M n a b=true:=by
 have hj:∀ a b,a<n->b<n->(hasJ M n a b=true↔∃ c:Int,lev n c/\Rch l a c/\Rch l b c/\∀ d,lev n d->Rch l a d->Rch l b d->Rch l c d):=by
  intro a b ha hb;simp only[hasJ,List.any_eq_true,List.mem_range,WU,Bool.and_eq_true,List.all_eq_true,Bool.not_eq_true',Bool.and_eq_false_iff,Bool.not_eq_false'];constructor
  ·rintro⟨c,hc,⟨p1,p2⟩,p3⟩;refine⟨c,⟨by omega,by omega⟩,(hM a c ha hc).1 p1,(hM b c hb hc).1 p2,λd hd q1 q2=>?_⟩;unfold lev at hd;obtain⟨e,rfl⟩:=Int.eq_ofNat_of_zero_le hd.1;have he:e<n:=by omega
   rcases p3 e he with(h|h)|h
   ·rw[(hM a e ha he).2 q1]at h;cases h
   ·rw[(hM b e hb he).2 q2]at h;cases h
   ·exact(hM c e hc he).1 h
  ·rintro⟨c,hc,p1,p2,p3⟩;unfold lev at hc;obtain⟨c,rfl⟩:=Int.eq_ofNat_of_zero_le hc.1;have a0:c<n:=by omega
   refine⟨c,a0,⟨(hM a c ha a0).2 p1,(hM b c hb a0).2 p2⟩,λd hd=>?_⟩;cases e1:M a d
   ·exact .inl (.inl rfl)
   ·cases e2:M b d
    ·exact .inl (.inr rfl)
    ·exact .inr ((hM c d a0 hd).2 (p3 d ⟨by omega,by omega⟩ ((hM a d ha hd).1 e1) ((hM b d hb hd).1 e2)))
 have hg:∀ a b,a<n->b<n->(hasG M n a b=true↔∃ c:Int,lev n c/\Rch l c a/\Rch l c b/\∀ d,lev n d->Rch l d a->Rch l d b->Rch l d c):=by
  intro a b ha hb;simp only[hasG,List.any_eq_true,List.mem_range,Db,Bool.and_eq_true,List.all_eq_true,Bool.not_eq_true',Bool.and_eq_false_iff,Bool.not_eq_false'];constructor
  ·rintro⟨c,hc,⟨p1,p2⟩,p3⟩;refine⟨c,⟨by omega,by omega⟩,(hM c a hc ha).1 p1,(hM c b hc hb).1 p2,λd hd q1 q2=>?_⟩;unfold lev at hd;obtain⟨e,rfl⟩:=Int.eq_ofNat_of_zero_le hd.1;have he:e<n:=by omega
   rcases p3 e he with(h|h)|h
   ·rw[(hM e a he ha).2 q1]at h;cases h
   ·rw[(hM e b he hb).2 q2]at h;cases h
   ·exact(hM e c he hc).1 h
  ·rintro⟨c,hc,p1,p2,p3⟩;unfold lev at hc;obtain⟨c,rfl⟩:=Int.eq_ofNat_of_zero_le hc.1;have a0:c<n:=by omega
   refine⟨c,a0,⟨(hM c a a0 ha).2 p1,(hM c b a0 hb).2 p2⟩,λd hd=>?_⟩;cases e1:M d a
   ·exact .inl (.inl rfl)
   ·cases e2:M d b
    ·exact .inl (.inr rfl)
    ·exact .inr ((hM d c hd a0).2 (p3 d ⟨by omega,by omega⟩ ((hM d a hd ha).1 e1) ((hM d b hd hb).1 e2)))
 constructor
 ·intro h;refine⟨λa b ha hb hne=>?_,λa b ha hb=>⟨(hj a b ha hb).2 (h.join a b ⟨by omega,by omega⟩ ⟨by omega,by omega⟩),(hg a b ha hb).2 (h.meet a b ⟨by omega,by omega⟩ ⟨by omega,by omega⟩)⟩⟩;cases e1:M a b
  ·rfl
  ·cases e2:M b a
   ·rfl
   ·have:=h.loop a b ⟨by omega,by omega⟩ ⟨by omega,by omega⟩ ((hM a b ha hb).1 e1) ((hM b a hb ha).1 e2);omega
 ·rintro⟨q1,q2⟩
  refine⟨by omega,by omega,hf,hl,fun a b ha hb r1 r2=>?_,fun a b ha hb=>?_,fun a b ha hb=>?_⟩<;>
   (unfold lev at ha hb
    obtain⟨x,rfl⟩:=Int.eq_ofNat_of_zero_le ha.1
    obtain⟨y,rfl⟩:=Int.eq_ofNat_of_zero_le hb.1)
  ·by_cases e:x=y
   ·rw[e]
   ·have:=q1 x y (by omega) (by omega) e;rw[(hM x y (by omega) (by omega)).2 r1,(hM y x (by omega) (by omega)).2 r2]at this;cases this
  ·exact(hj x y (by omega) (by omega)).1 (q2 x y (by omega) (by omega)).1
  ·exact(hg x y (by omega) (by omega)).1 (q2 x y (by omega) (by omega)).2
end Go.Proofs.YtbchkjfnakabkaaGreatDoor.PC
namespace Go.Proofs.YtbchkjfnakabkaaGreatDoor.PC
open PX
def hasS(v:Vol)(k:Nat):Bool:=decide (v.first<=(k:Int))&&decide ((k:Int)<v.first+v.count)
def cntS(l:List Vol)(k:Nat):Nat:=(l.filter λv=>hasS v k).length
theorem Uy(x:Vol)(l:List Vol)(k:Nat):cntS (x::l) k=(if hasS x k then 1 else 0)+cntS l k:=by
 unfold cntS;by_cases h:hasS x k=true
 ·rw[List.filter_cons_of_pos (p:=λv=>hasS v k) h,if_pos h,List.length_cons];omega
 ·rw[List.filter_cons_of_neg (p:=λv=>hasS v k) h,if_neg h];omega
theorem Zgu(l m:List Vol)(k:Nat):cntS (l++m) k=cntS l k+cntS m k:=by
 unfold cntS;rw[List.filter_append,List.length_append]
theorem Dr{l:List Vol}{k:Nat}(h:∀ y∈l,hasS y k=false):cntS l k=0:=by
 unfold cntS;rw[List.length_eq_zero_iff,List.filter_eq_nil_iff];intro y hy;rw[h y hy];decide
theorem Zgt{l:List Vol}{k:Nat}{y:Vol}(hy:y∈l)(h:hasS y k=true):1<=cntS l k:=by
 unfold cntS;exact List.length_pos_of_mem (List.mem_filter.2 ⟨hy,h⟩)
theorem Y7{v:Vol}{k:Nat}:hasS v k=true↔v.first<=(k:Int)/\(k:Int)<v.first+v.count:=by simp[hasS]
theorem U1{a b:Vol}:X4 a b=true↔a.first+a.count<=b.first\/b.first+b.count<=a.first:=by simp[X4]
theorem ZeF:∀ (l:List Vol),(∀v∈l,0<=v.first/\1<=v.count)->((∀k,cntS l k<=1)↔Z8 X4 l=true)
 |[],_=>by simp[cntS,Z8]
 |x::l,h=>by
  have hx:=h x (List.mem_cons_self ..);have hl:∀ v∈l,0<=v.first/\1<=v.count:=λv hv=>h v (List.mem_cons_of_mem _ hv)
  have ih:=ZeF l hl;rw[Z8,Bool.and_eq_true,List.all_eq_true];constructor
  ·intro hc;refine⟨λy hy=>?_,ih.1 λk=>by have:=hc k;rw[Uy]at this;omega⟩;have hy':=hl y hy;cases e:X4 x y
   ·exfalso;have hn:¬ (x.first+x.count<=y.first\/y.first+y.count<=x.first):=λq=>by rw[U1.2 q]at e;cases e
    obtain⟨k,hk⟩:∃ k:Nat,(k:Int)=max x.first y.first:=⟨(max x.first y.first).toNat,by omega⟩
    have h1:hasS x k=true:=Y7.2 (by omega);have h2:hasS y k=true:=Y7.2 (by omega);have:=hc k;rw[Uy,if_pos h1]at this;have:=Zgt hy h2;omega
   ·rfl
  ·rintro⟨h1,h2⟩ k;rw[Uy];by_cases hk:hasS x k=true
   ·rw[if_pos hk,Dr λy hy=>?_]
    ·exact Nat.le_refl _
    ·have:=U1.1 (h1 y hy);have q:=Y7.1 hk;cases e:hasS y k
     ·rfl
     ·have:=Y7.1 e;omega
   ·rw[if_neg hk];have:=ih.2 h2 k;omega
theorem Dq{l:List Vol}{S:Nat}(h:∀ v∈l,0<=v.first/\1<=v.count/\v.first+v.count<=S):(∀k,k<S->cntS l k<=1)↔Z8 X4 l=true:=by
 rw[<-ZeF l λv hv=>⟨(h v hv).1,(h v hv).2.1⟩];constructor
 ·intro hc k;by_cases hk:k<S
  ·exact hc k hk
  ·rw[Dr λy hy=>?_]
   ·omega
   ·have:=h y hy;cases e:hasS y k
    ·rfl
    ·have:=Y7.1 e;omega
 ·exact λhc k _=>hc k
def Zdv(v:Vol)(m k:Nat):Bool:=decide (v.first<=(k:Int))&&decide (k<m)
theorem Zdu{v:Vol}{m k:Nat}(h:(m:Int)=v.first+v.count):Zdv v m k=hasS v k:=by
 unfold Zdv hasS
 congr 1
 exact decide_eq_decide.2 (by omega)
theorem Jr{c:Cfg}{v:Vol}:X1 c v=true↔0<=v.first/\1<=v.count/\v.first+v.count<=c.sectors/\inB v.journal 4 (v.count - 1)=true:=by
 simp only[X1,Bool.and_eq_true,decide_eq_true_eq];constructor
 ·rintro⟨h1,h2⟩;exact⟨by omega,by omega,by omega,h2⟩
 ·rintro⟨h1,h2,h3,h4⟩;exact⟨⟨by omega,by omega,by omega,by omega⟩,h4⟩
