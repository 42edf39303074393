set_option linter.unusedSimpArgs false
set_option linter.unusedVariables false
namespace Go.Proofs.YtbchkjfnakabkaaGreatDoor.PX
inductive Rx where
 |node (kind mn mx:Int) (s0 s1 s2 s3:Int) (list:List Rx)
def Rx.kind:Rx->Int|.node k _ _ _ _ _ _ _=>k
def Rx.mn:Rx->Int|.node _ m _ _ _ _ _ _=>m
def Rx.mx:Rx->Int|.node _ _ m _ _ _ _ _=>m
def Rx.list:Rx->List Rx|.node _ _ _ _ _ _ _ l=>l
def word(s0 s1 s2 s3:Int)(b:Nat):Int:=if b<64 then s0 else if b<128 then s1 else if b<192 then s2 else s3
def hasB(s0 s1 s2 s3:Int)(b:Nat):Bool:=(word s0 s1 s2 s3 b).toNat.testBit (b%64)
def Pow(L:List UInt8->Prop):Nat->List UInt8->Prop
 |0,s=>s=[]
 |k+1,s=>∃ a b,s=a++b/\L a/\Pow L k b
mutual
def Rx.formB:Rx->Bool
 |.node kind mn mx s0 s1 s2 s3 l=>
  (if kind=0 then decide (l.length=0)&&decide (¬(s0=0∧s1=0∧s2=0∧s3=0))&&decide (mn=0∧mx=0)
   else decide (s0=0∧s1=0∧s2=0∧s3=0) &&
    (if kind=1 then decide (l.length≠1)&&decide (mn=0∧mx=0)
     else if kind=2 then decide (2<=l.length)&&decide (mn=0/\mx=0)
     else decide (kind=3)&&decide (l.length=1)&&decide (0<=mn/\mn<=15/\mx<=15/\(mx=-1\/mn<=mx))))&&XH l
def XH:List Rx->Bool
 |[]=>true
 |x::xs=>x.formB&&XH xs
end
def Zi8(kind mn mx s0 s1 s2 s3:Int)(len:Nat):Prop:=
 (kind=0/\len=0/\¬(s0=0/\s1=0/\s2=0/\s3=0)/\mn=0/\mx=0) \/
 (kind=1/\(s0=0/\s1=0/\s2=0/\s3=0)/\len≠1/\mn=0/\mx=0) \/
 (kind=2/\(s0=0/\s1=0/\s2=0/\s3=0)/\2<=len/\mn=0/\mx=0) \/
 (kind=3/\(s0=0/\s1=0/\s2=0/\s3=0)/\len=1/\0<=mn/\mn<=15/\mx<=15/\(mx=-1\/mn<=mx))
theorem Gn(kind mn mx s0 s1 s2 s3:Int)(l:List Rx):(Rx.node kind mn mx s0 s1 s2 s3 l).formB=true↔Zi8 kind mn mx s0 s1 s2 s3 l.length/\XH l=true:=by
 simp only[Rx.formB,Bool.and_eq_true,Zi8];constructor
 ·rintro⟨h,hl⟩;refine⟨?_,hl⟩
  repeat' split at h
  all_goals
   simp only[Bool.and_eq_true,decide_eq_true_eq]at h;omega
 ·rintro⟨h,hl⟩;refine⟨?_,hl⟩
  repeat' split
  all_goals
   simp only[Bool.and_eq_true,decide_eq_true_eq];omega
def XT(kind mn mx:Int):Int:=if kind=3 then max (max 1 mn) mx else 1
mutual
def Rx.sizeI:Rx->Int
 |.node kind mn mx _ _ _ _ l=>XJ (XT kind mn mx) 1 l
def XJ(t:Int)(n:Int):List Rx->Int
 |[]=>n
 |x::xs=>XJ t (min 257 (n+t*x.sizeI)) xs
end
mutual
def Rx.big:Rx->Int
 |.node kind mn mx _ _ _ _ l=>1+XT kind mn mx*Yp l
def Yp:List Rx->Int
 |[]=>0
 |x::xs=>x.big+Yp xs
end
theorem Uf(k a b:Int):1<=XT k a b:=by unfold XT;split<;>omega
mutual
theorem Rx.big_pos:∀ x:Rx,1<=x.big
 |.node k a b _ _ _ _ l=>by
  have h:=Yo l;have t:=Uf k a b;have:0<=XT k a b*Yp l:=Int.mul_nonneg (by omega) h;simp only[Rx.big];omega
theorem Yo:∀ l:List Rx,0<=Yp l
 |[]=>by simp[Yp]
 |x::xs=>by
  have:=Rx.big_pos x;have:=Yo xs;simp only[Yp];omega
end
mutual
theorem Rx.sizeI_eq:∀ x:Rx,x.sizeI=min 257 x.big
 |.node k a b _ _ _ _ l=>by
  simp only[Rx.sizeI,Rx.big];have h:=VT (XT k a b) (Uf k a b) l 1 (by omega) (by omega);exact h
theorem VT(t:Int)(ht:1<=t):∀ (l:List Rx) (n:Int),1<=n->n<=257->XJ t n l=min 257 (n+t*Yp l)
 |[],n,h1,h2=>by simp only[XJ,Yp];omega
 |x::xs,n,h1,h2=>by
  have hx:=Rx.sizeI_eq x;have hp:=Rx.big_pos x;have hq:=Yo xs
  have e1:1<=t*x.sizeI:=by
   have:1<=x.sizeI:=by omega
   calc 1=1*1:=by omega
    _<=t*x.sizeI:=Int.mul_le_mul ht this (by omega) (by omega)
  simp only[XJ,Yp];rw[VT t ht xs _ (by omega) (by omega),hx,Int.mul_add];have m1:t*(min 257 x.big)<=t*x.big:=Int.mul_le_mul_of_nonneg_left (by omega) (by omega);have m2:0<=t*Yp xs:=Int.mul_nonneg (by omega) hq;by_cases hc:x.big<=257
  ·have:min 257 x.big=x.big:=by omega
   rw[this];omega
  ·have:min 257 x.big=257:=by omega
   rw[this]at m1 ⊢;have:257<=t*257:=by omega
   omega
end
structure St where
 kind:Int
 next:Int
 other:Int
 s0:Int
 s1:Int
 s2:Int
 s3:Int
def St.eatsB(st:St)(b:UInt8):Bool:=decide (st.kind=0)&&hasB st.s0 st.s1 st.s2 st.s3 b.toNat
def St.split(f o:Nat):St:=⟨1,f,o,0,0,0,0⟩
inductive Acc (G:List St):Nat->Nat->List UInt8->Prop where
 |fin:Acc G 0 0 []
 |eat {n i:Nat} {st:St} {b:UInt8} {s:List UInt8} (j:Nat) (h:G[i]?=some st) (e:st.eatsB b=true) (hj:st.next=j) (r:Acc G n j s):Acc G (n+1) i (b::s)
 |left {n i:Nat} {st:St} {s:List UInt8} (j:Nat) (h:G[i]?=some st) (e:st.kind=1) (hj:st.next=j) (r:Acc G n j s):Acc G (n+1) i s
 |right {n i:Nat} {st:St} {s:List UInt8} (j:Nat) (h:G[i]?=some st) (e:st.kind=1) (hj:st.other=j) (r:Acc G n j s):Acc G (n+1) i s
def Frag(g':List St)(lo hi:Nat)(f next:Nat)(L:List UInt8->Prop):Prop:=
 ∀ G:List St,(∀i,lo≤i→i<hi→G[i]?=g'[i]?) →
  (∀n s,Acc G n f s->∃ a b m,s=a++b/\L a/\m<=n/\Acc G m next b) /\
  (∀a b n,L a->Acc G n next b->∃ m,Acc G m f (a++b))
def Vs(lay:List St->Nat->List St × Nat):Nat->List St->Nat->List St × Nat
 |0,g,f=>(g,f)
 |n+1,g,f=>let r:=lay g f;Vs lay n r.1 r.2
def WY(lay:List St->Nat->List St × Nat)(next:Nat):Nat->List St->Nat->List St × Nat
 |0,g,f=>(g,f)
 |n+1,g,f=>let r:=lay g f;WY lay next n (r.1++[St.split r.2 next]) r.1.length
def QO(lay:List St->Nat->List St × Nat)(mn mx:Int)(g:List St)(next:Nat):List St × Nat:=
 if mx=-1 then
  let r:=lay (g++[St.split 0 next]) g.length
  let g2:=r.1.set g.length (St.split r.2 next)
  if 0<mn then Vs lay (mn - 1).toNat g2 r.2 else(g2,g.length)
 else
  let r:=WY lay next (mx - mn).toNat g next
  Vs lay mn.toNat r.1 r.2
mutual
def Rx.lay:Rx->List St->Nat->List St × Nat
 |.node kind mn mx s0 s1 s2 s3 l,g,next=>
  if kind=0 then(g++[⟨0,next,0,s0,s1,s2,s3⟩],g.length)
  else if kind=1 then WX l g next
  else if kind=2 then ZgS l g next
  else ZgR mn mx l g next
def WX:List Rx->List St->Nat->List St × Nat
 |[],g,next=>(g,next)
 |x::xs,g,next=>let r:=WX xs g next;x.lay r.1 r.2
def ZgS:List Rx->List St->Nat->List St × Nat
 |[],g,next=>(g,next)
 |x::xs,g,next=>let r:=x.lay g next;Ge xs r.1 next r.2
def Ge:List Rx->List St->Nat->Nat->List St × Nat
 |[],g,_,f=>(g,f)
 |x::xs,g,next,f=>let r:=x.lay g next;Ge xs (r.1++[St.split f r.2]) next r.1.length
def ZgR(mn mx:Int):List Rx->List St->Nat->List St × Nat
 |[],g,next=>(g,next)
 |x::_,g,next=>QO x.lay mn mx g next
end
theorem Frag.mono{g g':List St}{lo hi lo' hi' f next:Nat}{L:List UInt8->Prop}(h:Frag g lo hi f next L)(h1:lo'<=lo)(h2:hi<=hi')
 (e:∀ i,lo<=i->i<hi->g'[i]?=g[i]?):Frag g' lo' hi' f next L:=
 λG hG=>h G λi a b=>by rw[hG i (by omega) (by omega),e i a b]
theorem Frag.congr{g:List St}{lo hi f next:Nat}{L L':List UInt8->Prop}(h:Frag g lo hi f next L)(e:∀ s,L s↔L' s):Frag g lo hi f next L':=by
 have:L=L':=funext λs=>propext (e s)
 exact this▸h
theorem Frag.seq{g:List St}{lo hi f m next:Nat}{L M:List UInt8->Prop}(h1:Frag g lo hi f m L)(h2:Frag g lo hi m next M) :
 Frag g lo hi f next (λs=>∃ a b,s=a++b/\L a/\M b):=by
 intro G hG;obtain⟨p1,q1⟩:=h1 G hG;obtain⟨p2,q2⟩:=h2 G hG;constructor
 ·intro n s h;obtain⟨a,b,k,rfl,ha,hk,hb⟩:=p1 n s h;obtain⟨c,d,k',rfl,hc,hk',hd⟩:=p2 k b hb;exact⟨a++c,d,k',by simp,⟨a,c,rfl,ha,hc⟩,by omega,hd⟩
 ·rintro s b n ⟨a,c,rfl,ha,hc⟩ h;obtain⟨k,hk⟩:=q2 c b n hc h;obtain⟨k',hk'⟩:=q1 a _ k ha hk;exact⟨k',by simpa using hk'⟩
theorem Frag.one{g:List St}{lo hi i next:Nat}{s0 s1 s2 s3:Int}(hi1:lo<=i)(hi2:i<hi)(hs:g[i]?=some ⟨0,next,0,s0,s1,s2,s3⟩)(h0:i≠0) :
 Frag g lo hi i next (λs=>∃ b:UInt8,s=[b]/\hasB s0 s1 s2 s3 b.toNat=true):=by
 intro G hG;have a0:G[i]?=some ⟨0,next,0,s0,s1,s2,s3⟩:=by rw[hG i hi1 hi2,hs]
 constructor
 ·intro n s h
  cases h with
  |fin=>exact absurd rfl h0
  |@eat n _ _ b s j h e hj r=>
   rw[a0]at h;cases h;have:j=next:=by simp at hj;omega
   subst this;exact⟨[b],s,n,rfl,⟨b,rfl,by simpa [St.eatsB] using e⟩,by omega,r⟩
  |left j h e=>rw[a0]at h;cases h;simp at e
  |right j h e=>rw[a0]at h;cases h;simp at e
 ·rintro a b n ⟨c,rfl,hc⟩ h;exact⟨n+1,.eat next a0 (by simp[St.eatsB,hc]) rfl h⟩
theorem Pow.add{L:List UInt8->Prop}:∀ (k:Nat) {m:Nat} {a b:List UInt8},Pow L k a->Pow L m b->Pow L (k+m) (a++b)
 |0,m,a,b,ha,hb=>by simp only[Pow]at ha;subst ha;simpa using hb
 |k+1,m,a,b,ha,hb=>by
  obtain⟨c,d,rfl,hc,hd⟩:=ha;rw[show k+1+m=(k+m)+1 by omega];exact⟨c,d++b,by simp,hc,Pow.add k hd hb⟩
theorem Pow.split{L:List UInt8->Prop}:∀ (k:Nat) {m:Nat} {s:List UInt8},Pow L (k+m) s->∃ a b,s=a++b/\Pow L k a/\Pow L m b
 |0,m,s,h=>⟨[],s,rfl,rfl,by simpa using h⟩
 |k+1,m,s,h=>by
  rw[show k+1+m=(k+m)+1 by omega]at h;obtain⟨c,d,rfl,hc,hd⟩:=h;obtain⟨a,b,rfl,ha,hb⟩:=Pow.split k hd;exact⟨c++a,b,by simp,⟨c,a,rfl,hc,ha⟩,hb⟩
theorem Frag.loop{g:List St}{lo hi i body next:Nat}{L:List UInt8->Prop}(h:Frag g lo hi body i L)
 (hi1:lo<=i) (hi2:i<hi) (hs:g[i]?=some (St.split body next)) (h0:i≠0):Frag g lo hi i next (λs=>∃ k,Pow L k s):=by
 intro G hG;obtain⟨p,q⟩:=h G hG;have a0:G[i]?=some (St.split body next):=by rw[hG i hi1 hi2,hs]
 constructor
 ·intro n
  induction n using Nat.strongRecOn with
  |_ n ih=>
   intro s h
   cases h with
   |fin=>exact absurd rfl h0
   |eat j h e=>rw[a0]at h;cases h;simp[St.eatsB,St.split]at e
   |@left n _ _ _ j h e hj r=>
    rw[a0]at h;cases h;have:j=body:=by simp[St.split]at hj;omega
    subst this;obtain⟨a,b,m,rfl,ha,hm,hb⟩:=p _ _ r;obtain⟨c,d,m',rfl,⟨k,hk⟩,hm',hd⟩:=ih m (by omega) b hb;exact⟨a++c,d,m',by simp,⟨k+1,a,c,rfl,ha,hk⟩,by omega,hd⟩
   |@right n _ _ _ j h e hj r=>
    rw[a0]at h;cases h;have:j=next:=by simp[St.split]at hj;omega
    subst this;exact⟨[],s,n,rfl,⟨0,rfl⟩,by omega,r⟩
 ·rintro a b n ⟨k,hk⟩ hb
  induction k generalizing a with
  |zero=>
   simp only[Pow]at hk;subst hk;exact⟨n+1,.right next a0 rfl rfl hb⟩
  |succ k ih=>
   obtain⟨c,d,rfl,hc,hd⟩:=hk;obtain⟨m,hm⟩:=ih d hd;obtain⟨m',hm'⟩:=q c _ m hc hm;exact⟨m'+1,.left body a0 rfl rfl (by simpa using hm')⟩
structure Lays (L:List UInt8->Prop) (g:List St) (r:List St × Nat) (next:Nat):Prop where
 len:g.length<=r.1.length
 old:∀ i,i<g.length->r.1[i]?=g[i]?
 fst:r.2<r.1.length
 frag:Frag r.1 g.length r.1.length r.2 next L
def OkG(g:List St):Prop:=∀ st∈g,(st.kind=0\/st.kind=1\/st.kind=2)/\0<=st.next/\st.next<g.length/\0<=st.other/\st.other<g.length
theorem OkG.snoc{g:List St}(h:OkG g){st:St}(hk:st.kind=0\/st.kind=1\/st.kind=2)(h1:0<=st.next)(h2:st.next<g.length+1)(h3:0<=st.other)(h4:st.other<g.length+1):OkG (g++[st]):=by
 intro x hx;simp only[List.mem_append,List.mem_singleton,List.length_append,List.length_cons,List.length_nil]at *;rcases hx with hx|rfl
 ·obtain⟨a,b,c,d,e⟩:=h x hx;exact⟨a,b,by omega,d,by omega⟩
 ·exact⟨hk,h1,by omega,h3,by omega⟩
theorem OkG.set{g:List St}(h:OkG g)(i:Nat){st:St}(hk:st.kind=0\/st.kind=1\/st.kind=2)(h1:0<=st.next)(h2:st.next<g.length)(h3:0<=st.other)(h4:st.other<g.length):OkG (g.set i st):=by
 intro x hx;rw[List.length_set];rcases List.mem_or_eq_of_mem_set hx with hx|rfl
 ·exact h x hx
 ·exact⟨hk,h1,h2,h3,h4⟩
structure Sound (g:List St) (r:List St × Nat) (most:Int):Prop where
 ok:OkG r.1
 fst:r.2<r.1.length
 len:g.length<=r.1.length
 most:(r.1.length:Int)<=g.length+most
def VB(most:Int)(lay:List St->Nat->List St × Nat):Prop:=∀ g next,OkG g->next<g.length->Sound g (lay g next) most
theorem Jc{lay:List St->Nat->List St × Nat}{c:Int}(hc:0<=c)(hl:VB c lay):∀ (n:Nat) (g:List St) (f:Nat),OkG g->f<g.length->Sound g (Vs lay n g f) (c*n)
 |0,g,f,h,hf=>⟨h,hf,Nat.le_refl _,by simp[Vs]⟩
 |n+1,g,f,h,hf=>by
  obtain⟨o1,f1,l1,m1⟩:=hl g f h hf;obtain⟨o2,f2,l2,m2⟩:=Jc hc hl n _ _ o1 f1;simp only[Vs];refine⟨o2,f2,by omega,?_⟩;have:c*((n+1:Nat):Int)=c*n+c:=by simp[Int.mul_add]
  omega
theorem Eb{lay:List St->Nat->List St × Nat}{c:Int}(hc:0<=c)(hl:VB c lay)(next:Nat):∀ (n:Nat) (g:List St) (f:Nat),OkG g->f<g.length->next<g.length->Sound g (WY lay next n g f) ((c+1)*n)
 |0,g,f,h,hf,_=>⟨h,hf,Nat.le_refl _,by simp[WY]⟩
 |n+1,g,f,h,hf,hn=>by
  obtain⟨o1,f1,l1,m1⟩:=hl g f h hf;have o2:OkG ((lay g f).1++[St.split (lay g f).2 next]):=o1.snoc (by simp[St.split]) (by simp[St.split]) (by simp[St.split];omega) (by simp[St.split]) (by simp[St.split];omega);obtain⟨o3,f3,l3,m3⟩:=Eb hc hl next n _ (lay g f).1.length o2 (by simp) (by simp;omega);simp only[List.length_append,List.length_cons,List.length_nil]at l3 m3;simp only[WY];refine⟨o3,f3,by omega,?_⟩;have:(c+1)*((n+1:Nat):Int)=(c+1)*n+(c+1):=by simp[Int.mul_add]
  omega
theorem GL{lay:List St->Nat->List St × Nat}{c mn mx:Int}(hc:0<=c)(hl:VB c lay)(h1:0<=mn)(h2:mx=-1\/mn<=mx) :
 VB ((c+1)*max (max 1 mn) mx) (λg next=>QO lay mn mx g next):=by
 intro g next h hn;simp only[QO];split
 ·rename_i hmx;have o0:OkG (g++[St.split 0 next]):=h.snoc (by simp[St.split]) (by simp[St.split]) (by simp only[St.split];omega) (by simp[St.split]) (by simp[St.split];omega);obtain⟨o1,f1,l1,m1⟩:=hl (g++[St.split 0 next]) g.length o0 (by simp);generalize lay (g++[St.split 0 next]) g.length=r at o1 f1 l1 m1;simp only[List.length_append,List.length_cons,List.length_nil]at l1 m1;have o2:OkG (r.1.set g.length (St.split r.2 next)):=o1.set _ (by simp[St.split]) (by simp[St.split]) (by simp[St.split];omega) (by simp[St.split]) (by simp[St.split];omega);have e:max (max 1 mn) mx=max 1 mn:=by omega
  rw[e];split
  ·rename_i hp;obtain⟨o3,f3,l3,m3⟩:=Jc hc hl (mn - 1).toNat _ r.2 o2 (by simpa using f1);simp only[List.length_set]at l3 m3;refine⟨o3,f3,by omega,?_⟩;have e1:max 1 mn=((mn - 1).toNat:Int)+1:=by omega
   rw[e1,Int.mul_add,Int.add_mul];have:0<=1*((mn - 1).toNat:Int):=by omega
   omega
  ·rename_i hp;refine⟨o2,by simp;omega,by simp;omega,?_⟩;have e1:max 1 mn=1:=by omega
   simp only[List.length_set];rw[e1];omega
 ·rename_i hmx;obtain⟨o1,f1,l1,m1⟩:=Eb hc hl next (mx - mn).toNat g next h hn hn;obtain⟨o2,f2,l2,m2⟩:=Jc hc hl mn.toNat _ _ o1 f1;refine⟨o2,f2,by omega,?_⟩
  have e1:(c+1)*(((mx - mn).toNat:Int))+c*(mn.toNat:Int)<=(c+1)*mx:=by
   have:mx=((mx - mn).toNat:Int)+mn.toNat:=by omega
   rw[this,Int.mul_add,Int.add_mul c 1 (mn.toNat:Int)];have:(((mx - mn).toNat:Int)+mn.toNat - mn).toNat=(mx - mn).toNat:=by omega
   rw[this];omega
  have e2:(c+1)*mx<=(c+1)*max (max 1 mn) mx:=Int.mul_le_mul_of_nonneg_left (by omega) (by omega);omega
mutual
theorem Rx.lay_sound:∀ x:Rx,x.formB=true->VB (2*x.big - 1) x.lay
 |.node kind mn mx s0 s1 s2 s3 l,hf=>by
  intro g next h hn;simp only[Rx.formB,Bool.and_eq_true]at hf;obtain⟨hk,hl⟩:=hf;have hq:=Yo l;simp only[Rx.lay,Rx.big];split
  ·rename_i h0;have t:XT kind mn mx=1:=by unfold XT;rw[if_neg (by omega)]
   refine⟨h.snoc (.inl rfl) (Int.natCast_nonneg _) (by show(next:Int)<_;omega) (by simp) (by show(0:Int)<_;omega),by simp,by simp,?_⟩;rw[t];simp;omega
  ·rename_i hk0;simp only[hk0,if_false]at hk;split
   ·rename_i h1;have t:XT kind mn mx=1:=by unfold XT;rw[if_neg (by omega)]
    obtain⟨o,f,le,m⟩:=Ea l hl g next h hn;exact⟨o,f,le,by rw[t];omega⟩
   ·rename_i hk1;simp only[hk1,if_false]at hk;split
    ·rename_i h2;have t:XT kind mn mx=1:=by unfold XT;rw[if_neg (by omega)]
     cases l with
     |nil=>simp[h2]at hk
     |cons x xs=>
      simp only[XH,Bool.and_eq_true]at hl;obtain⟨o,f,le,m⟩:=Rx.lay_sound x hl.1 g next h hn;obtain⟨o',f',le',m'⟩:=Uq xs hl.2 _ next _ o (by omega) f;simp only[ZgS,Yp];exact⟨o',f',by omega,by rw[t];omega⟩
    ·rename_i hk2;simp only[hk2,if_false,Bool.and_eq_true,decide_eq_true_eq]at hk;obtain⟨-, ⟨hk3,hlen⟩,hb⟩:=hk
     match l,hlen with
     |[x],_=>
      simp only[XH,Bool.and_eq_true]at hl;have hp:=Rx.big_pos x;obtain⟨o,f,le,m⟩:=GL (mn:=mn) (mx:=mx) (c:=2*x.big - 1) (by omega) (Rx.lay_sound x hl.1) hb.1 hb.2.2.2 g next h hn;have t:XT kind mn mx=max (max 1 mn) mx:=by unfold XT;rw[if_pos hk3]
      simp only[ZgR,Yp];refine⟨o,f,le,?_⟩;rw[t,Int.add_zero]
      have:(2*x.big - 1+1)*max (max 1 mn) mx=2*(max (max 1 mn) mx*x.big):=by
       rw[show 2*x.big - 1+1=2*x.big by omega,Int.mul_assoc,Int.mul_comm x.big]
      simp only at m;omega
theorem Ea:∀ l:List Rx,XH l=true->VB (2*Yp l) (WX l)
 |[],_=>λg next h hn=>⟨h,hn,Nat.le_refl _,by simp[WX,Yp]⟩
 |x::xs,hf=>by
  intro g next h hn;simp only[XH,Bool.and_eq_true]at hf;obtain⟨o,f,le,m⟩:=Ea xs hf.2 g next h hn;obtain⟨o',f',le',m'⟩:=Rx.lay_sound x hf.1 _ _ o f;simp only[WX,Yp];exact⟨o',f',by omega,by omega⟩
theorem Uq:∀ l:List Rx,XH l=true->∀ (g:List St) (next f:Nat),OkG g->next<g.length->f<g.length->Sound g (Ge l g next f) (2*Yp l)
 |[],_,g,next,f,h,_,hf=>⟨h,hf,Nat.le_refl _,by simp[Ge,Yp]⟩
 |x::xs,hf,g,next,f,h,hn,hff=>by
  simp only[XH,Bool.and_eq_true]at hf;obtain⟨o,f1,le,m⟩:=Rx.lay_sound x hf.1 g next h hn;have o2:OkG ((x.lay g next).1++[St.split f (x.lay g next).2]):=o.snoc (by simp[St.split]) (by simp[St.split]) (by simp[St.split];omega) (by simp[St.split]) (by simp[St.split];omega);obtain⟨o',f',le',m'⟩:=Uq xs hf.2 _ next (x.lay g next).1.length o2 (by simp;omega) (by simp);simp only[List.length_append,List.length_cons,List.length_nil]at le' m';simp only[Ge,Yp];exact⟨o',f',by omega,by omega⟩
end
inductive Eps (G:List St):Nat->Nat->Prop where
 |refl (i:Nat):Eps G i i
 |next {i j:Nat} {st:St} (h:G[i]?=some st) (e:st.kind=1) (r:Eps G st.next.toNat j):Eps G i j
 |other {i j:Nat} {st:St} (h:G[i]?=some st) (e:st.kind=1) (r:Eps G st.other.toNat j):Eps G i j
theorem Eps.trans{G:List St}{i j k:Nat}(h:Eps G i j)(h':Eps G j k):Eps G i k:=by
 induction h with
 |refl=>exact h'
 |next a b _ ih=>exact .next a b (ih h')
 |other a b _ ih=>exact .other a b (ih h')
def Shut(G:List St)(S:Nat->Prop):Prop:=∀ i st,S i->G[i]?=some st->st.kind=1->S st.next.toNat/\S st.other.toNat
def after(G:List St)(S:Nat->Prop)(b:UInt8):Nat->Prop:=λj=>∃ i st,S i/\G[i]?=some st/\st.eatsB b=true/\Eps G st.next.toNat j
def run(G:List St)(S:Nat->Prop):List UInt8->Nat->Prop
 |[]=>S
 |b::s=>run G (after G S b) s
def Rx.machine(x:Rx):List St × Nat:=x.lay [⟨2,0,0,0,0,0,0⟩] 0
theorem Rx.machine_ok(x:Rx)(h:x.formB=true):OkG x.machine.1/\x.machine.2<x.machine.1.length/\1<=x.machine.1.length/\(x.machine.1.length:Int)<=2*x.big:=by
 have h0:OkG [⟨2,0,0,0,0,0,0⟩]:=by intro st hst;simp only[List.mem_singleton]at hst;subst hst;simp
 obtain⟨o,f,l,m⟩:=Rx.lay_sound x h [⟨2,0,0,0,0,0,0⟩] 0 h0 (by simp);simp only[List.length_cons,List.length_nil]at l m;exact⟨o,f,by simpa [machine] using l,by simp only[machine];omega⟩
def sub(s:List UInt8)(i k:Nat):List UInt8:=(s.take k).drop i
theorem sub_self(s:List UInt8)(i:Nat):sub s i i=[]:=by
 simp only[sub];rw[List.drop_eq_nil_iff];simp;omega
theorem Zba(s:List UInt8){i j k:Nat}(h1:i<=j)(h2:j<=k):sub s i j++sub s j k=sub s i k:=by
 apply List.ext_getElem?;intro n;simp only[sub,List.getElem?_append,List.getElem?_drop,List.getElem?_take,List.length_drop,List.length_take];by_cases hn:n<min j s.length - i
 ·rw[if_pos hn,if_pos (by omega),if_pos (by omega)]
 ·rw[if_neg hn];by_cases hjs:j<=s.length
  ·rw[show j+(n - (min j s.length - i))=i+n by omega]
  ·have e1:s[j+(n - (min j s.length - i))]?=none:=by rw[List.getElem?_eq_none_iff];omega
   have e2:s[i+n]?=none:=by rw[List.getElem?_eq_none_iff];omega
   rw[e1,e2];simp
theorem Zg9(s:List UInt8)(i:Nat)(h:i<s.length):sub s i (i+1)=[s[i]]:=by
 apply List.ext_getElem?;intro n;simp only[sub,List.getElem?_drop,List.getElem?_take,List.getElem?_cons];by_cases hn:n=0
 ·subst hn;simp;
 ·rw[if_neg (by omega)];cases n with
  |zero=>exact absurd rfl hn
  |succ n=>simp
def Yl:List UInt8:=[92,46,91,93,40,41,124,42,43,63,123,125,94,45]
def Yn:List UInt8:=[92,93,94,45]
def V5:List UInt8:=[92,46,91,93,40,41,124,42,43,63,123,125]
def hexv(c:UInt8):Option Nat:=
 if 48<=c.toNat/\c.toNat<=57 then some (c.toNat - 48)
 else if 97<=c.toNat/\c.toNat<=102 then some (c.toNat - 97+10)
 else if 65<=c.toNat/\c.toNat<=70 then some (c.toNat - 65+10)
 else none
def one(but:List UInt8):List UInt8->Option (Nat × List UInt8)
 |[]=>none
 |c::r=>
  if c=92 then
   match r with
   |[]=>none
   |d::r'=>
    if d=120 then
     match r' with
     |a::b::r''=>
      match hexv a,hexv b with
      |some x,some y=>some (16*x+y,r'')
      |_,_=>none
     |_=>none
    else if d∈Yl then some (d.toNat,r') else none
  else if c∈but then none else some (c.toNat,r)
structure Q4 where
 a:Int
 b:Int
 c:Int
 d:Int
def YD(w:Int)(k:Nat):Int:=((w.toNat ||| 2 ^ k:Nat):Int)
def Q4.with(q:Q4)(n:Nat):Q4:=
 if n<64 then { q with a:=YD q.a n }
 else if n<128 then { q with b:=YD q.b (n - 64) }
 else if n<192 then { q with c:=YD q.c (n - 128) }
 else { q with d:=YD q.d (n - 192) }
def Q4.withAll(q:Q4)(n:Nat):Nat->Q4
 |0=>q
 |k+1=>(q.with n).withAll (n+1) k
def Q4.none:Q4:=⟨0,0,0,0⟩
def Q4.all:Q4:=⟨18446744073709551615,18446744073709551615,18446744073709551615,18446744073709551615⟩
def Q4.not(q:Q4):Q4:=⟨18446744073709551615 - q.a,18446744073709551615 - q.b,18446744073709551615 - q.c,18446744073709551615 - q.d⟩
def Q4.isNone(q:Q4):Bool:=decide (q.a=0/\q.b=0/\q.c=0/\q.d=0)
def Zg(c:UInt8):List UInt8->Bool
 |[]=>false
 |d::_=>d==c
def Xc(q:Q4)(s:List UInt8):Option (Q4 × List UInt8):=
 match one Yn s with
 |none=>none
 |some (a,r)=>
  if Zg 45 r then
   match one Yn r.tail with
   |none=>none
   |some (b,r')=>if a<=b then some (q.withAll a (b+1 - a),r') else none
  else some (q.withAll a 1,r)
def ZU:Nat->Q4->List UInt8->Option (Q4 × List UInt8)
 |0,_,_=>none
 |f+1,q,s=>
  match Xc q s with
  |none=>none
  |some (q',r)=>if Zg 93 r then some (q',r.tail) else ZU f q' r
def Yt(f:Nat)(s:List UInt8):Option (Q4 × List UInt8):=
 match ZU f Q4.none (if Zg 94 s then s.tail else s) with
 |none=>none
 |some (q,r)=>
  let q':=if Zg 94 s then q.not else q
  if q'.isNone then none else some (q',r)
def ZS(c:UInt8):Bool:=decide (48<=c.toNat/\c.toNat<=57)
def Z4(s:List UInt8):Option (Nat × List UInt8):=
 match s with
 |a::b::r=>
  if ZS a then
   if ZS b then
    (if Zg 48 s then none
     else match r with
      |c::_=>if ZS c then none else if 10*(a.toNat - 48)+(b.toNat - 48)<=15 then some (10*(a.toNat - 48)+(b.toNat - 48),r) else none
      |[]=>if 10*(a.toNat - 48)+(b.toNat - 48)<=15 then some (10*(a.toNat - 48)+(b.toNat - 48),r) else none)
   else some (a.toNat - 48,b::r)
  else none
 |[a]=>if ZS a then some (a.toNat - 48,[]) else none
 |[]=>none
def Z5(s:List UInt8):Option (Int × Int × List UInt8):=
 match Z4 s with
 |none=>none
 |some (m,r)=>
  if Zg 44 r then
   (if Zg 125 r.tail then some (m,-1,r.tail.tail)
    else match Z4 r.tail with
     |none=>none
     |some (n,r')=>if m<=n/\Zg 125 r'=true then some (m,n,r'.tail) else none)
  else if Zg 125 r then some (m,m,r.tail) else none
def Rx.set(q:Q4):Rx:=.node 0 0 0 q.a q.b q.c q.d []
def Rx.rep(mn mx:Int)(x:Rx):Rx:=.node 3 mn mx 0 0 0 0 [x]
def Rx.joined(kind:Int)(l:List Rx):Rx:=
 match l with
 |[x]=>x
 |l=>.node kind 0 0 0 0 0 0 l
def sign(x:Rx)(r:List UInt8):Option (Rx × List UInt8):=
 if Zg 42 r then some (.rep 0 (-1) x,r.tail)
 else if Zg 43 r then some (.rep 1 (-1) x,r.tail)
 else if Zg 63 r then some (.rep 0 1 x,r.tail)
 else if Zg 123 r then
  match Z5 r.tail with
  |none=>none
  |some (m,n,r')=>some (.rep m n x,r')
 else some (x,r)
mutual
def altR:Nat->List Rx->List Rx->List UInt8->Option (Rx × List UInt8)
 |0,_,_,_=>none
 |f+1,l,row,s=>
  if s.isEmpty || Zg 124 s || Zg 41 s then
   (if Zg 124 s then altR f (l++[Rx.joined 1 row]) [] s.tail
    else some (Rx.joined 2 (l++[Rx.joined 1 row]),s))
  else
   match XL f s with
   |none=>none
   |some (x,r)=>altR f l (row++[x]) r
def XL:Nat->List UInt8->Option (Rx × List UInt8)
 |0,_=>none
 |f+1,s=>
  match VD f s with
  |none=>none
  |some (x,r)=>sign x r
def VD:Nat->List UInt8->Option (Rx × List UInt8)
 |0,_=>none
 |f+1,s=>
  if Zg 46 s then some (.set Q4.all,s.tail)
  else if Zg 91 s then
   match Yt s.length s.tail with
   |none=>none
   |some (q,r)=>some (.set q,r)
  else if Zg 40 s then
   match altR f [] [] s.tail with
   |none=>none
   |some (x,r)=>if Zg 41 r then some (x,r.tail) else none
  else
   match one V5 s with
   |none=>none
   |some (b,r)=>some (.set (Q4.none.with b),r)
end
def Yr(s:List UInt8):Rx ⊕ Int:=
 if 128<s.length then .inr 51
 else
  match altR (3*s.length+3) [] [] s with
  |none=>.inr 50
  |some (x,r)=>if r.isEmpty then(if 256<x.sizeI then .inr 51 else .inl x) else .inr 50
end Go.Proofs.YtbchkjfnakabkaaGreatDoor.PX
namespace Go.Proofs.YtbchkjfnakabkaaGreatDoor.PX
end Go.Proofs.YtbchkjfnakabkaaGreatDoor.PX
namespace Go.Proofs.YtbchkjfnakabkaaGreatDoor.PX
