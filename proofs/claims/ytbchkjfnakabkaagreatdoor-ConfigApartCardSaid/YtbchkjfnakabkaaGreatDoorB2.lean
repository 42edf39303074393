import Derived.Test.YtbchkjfnakabkaaGreatDoorProg
import Derived.Test.YtbchkjfnakabkaaGreatDoorB1
import Derived.WalkKit
import Derived.WalkSpells
import Derived.WalkLawsBesides
import Derived.Lib.Hide
import Derived.Laws.StructEq
import Derived.Deep.RegionLaw
set_option linter.unusedSimpArgs false
set_option linter.unusedVariables false
namespace Go.Proofs.YtbchkjfnakabkaaGreatDoor
open Go.RowKit PX
theorem Hd{p:Prop}(h:p):Go.RowKit.Hid p:=h
inductive RxA where
 |node (kind mn mx s0 s1 s2 s3:Int) (a:Option Addr) (cap:Nat) (list:List RxA)
theorem RxA.ind{P:RxA->Prop}(h:∀ k mn mx s0 s1 s2 s3 a cap l,(∀x∈l,P x)->P (.node k mn mx s0 s1 s2 s3 a cap l)):∀ x,P x:=by
 intro x;refine RxA.rec (motive_1:=P) (motive_2:=λl=>∀ x∈l,P x) (λk mn mx s0 s1 s2 s3 a cap l ih=>h k mn mx s0 s1 s2 s3 a cap l ih) ?_ ?_ x
 ·intro x hx;cases hx
 ·intro x xs hx hxs y hy
  cases hy with
  |head=>exact hx
  |tail _ h=>exact hxs y h
def RxA.cells:RxA->List Value
 |.node k mn mx s0 s1 s2 s3 a cap l=>[.int .i64 k,.int .i64 mn,.int .i64 mx,.int .u64 s0,.int .u64 s1,.int .u64 s2,.int .u64 s3,.slice a l.length cap]
def RxA.val(x:RxA):Value:=.agg x.cells.toArray
mutual
def RxA.bare:RxA->Rx
 |.node k mn mx s0 s1 s2 s3 _ _ l=>.node k mn mx s0 s1 s2 s3 (XX l)
def XX:List RxA->List Rx
 |[]=>[]
 |x::xs=>x.bare::XX xs
end
theorem Vz:∀ l:List RxA,XX l=l.map RxA.bare
 |[]=>rfl
 |x::xs=>by simp[XX,Vz xs]
def I64(n:Int):Prop:=-9223372036854775808<=n/\n<=9223372036854775807
def U64(n:Int):Prop:=0<=n/\n<=18446744073709551615
mutual
def RxA.In(w:World)(B:Nat):RxA->Prop
 | .node k mn mx s0 s1 s2 s3 a cap l=>(I64 k∧I64 mn∧I64 mx∧U64 s0∧U64 s1∧U64 s2∧U64 s3)∧l.length≤cap∧cap≤maxLen∧(l.length*120≤2 ^ 51) ∧
  (l=[]\/∃ b o,a=some ⟨b,o,none⟩/\b<B/\InL w B b o l)
def InL(w:World)(B:Nat)(b o:Nat):List RxA->Prop
 |[]=>True
 |x::xs=>(∀j,j<8->w.cell? ⟨b,o+j,none⟩=x.cells[j]?)/\x.In w B/\InL w B b (o+8) xs
end
theorem RxA.In.get{w:World}{B b:Nat}:∀ {l:List RxA} {o:Nat},InL w B b o l->∀ i (h:i<l.length),(∀j,j<8->w.cell? ⟨b,o+i*8+j,none⟩=l[i].cells[j]?)/\l[i].In w B
 |x::xs,o,h,0,_=>by
  simp only[InL]at h;exact⟨by simpa using h.1,h.2.1⟩
 |x::xs,o,h,i+1,hi=>by
  simp only[InL]at h;have:=RxA.In.get h.2.2 i (by simpa using hi);refine⟨λj hj=>?_,this.2⟩;rw[<-show o+8+i*8+j=o+(i+1)*8+j by omega];exact this.1 j hj
mutual
theorem RxA.In.later{w w':World}{B B':Nat}(hB:B<=B')(hc:∀ b o,b<B->w'.cell? ⟨b,o,none⟩=w.cell? ⟨b,o,none⟩):∀ {x:RxA},x.In w B->x.In w' B'
 |.node .., h=>by
  simp only[RxA.In]at h ⊢;refine⟨h.1,h.2.1,h.2.2.1,h.2.2.2.1,?_⟩;rcases h.2.2.2.2 with h|⟨b,o,e,hb,hl⟩
  ·exact .inl h
  ·exact .inr ⟨b,o,e,by omega,InL.later hB hc hb hl⟩
theorem InL.later{w w':World}{B B':Nat}(hB:B<=B')(hc:∀ b o,b<B->w'.cell? ⟨b,o,none⟩=w.cell? ⟨b,o,none⟩){b:Nat}(hb:b<B):∀ {l:List RxA} {o:Nat},InL w B b o l->InL w' B' b o l
 |[],_,_=>trivial
 |x::xs,o,h=>by
  simp only[InL]at h ⊢;exact⟨λj hj=>(hc _ _ hb).trans (h.1 j hj),RxA.In.later hB hc h.2.1,InL.later hB hc hb h.2.2⟩
end
theorem RxA.In.below{w w':World}{B C:Nat}{x:RxA}(h:x.In w B)(hb:Below C w w')(hC:B<=C):x.In w' B:=
 h.later (Nat.le_refl _) λb o hbb=>hb.cell (p:=⟨b,o,none⟩) (by show b<C;omega)
theorem G3{w:World}{b o:Nat}{k mn mx s0 s1 s2 s3:Int}{a:Option Addr}{cap:Nat}{l:List RxA}(h:∀ j,j<8->w.cell? ⟨b,o+j,none⟩=(RxA.node k mn mx s0 s1 s2 s3 a cap l).cells[j]?) :
 w.cell? ⟨b,o,none⟩=some (.int .i64 k)/\w.cell? ⟨b,o+1,none⟩=some (.int .i64 mn)/\w.cell? ⟨b,o+2,none⟩=some (.int .i64 mx) /\
 w.cell? ⟨b,o+3,none⟩=some (.int .u64 s0)/\w.cell? ⟨b,o+4,none⟩=some (.int .u64 s1)/\w.cell? ⟨b,o+5,none⟩=some (.int .u64 s2)/\w.cell? ⟨b,o+6,none⟩=some (.int .u64 s3) /\
 w.cell? ⟨b,o+7,none⟩=some (.slice a l.length cap):=by
 refine⟨h 0 (by omega),h 1 (by omega),h 2 (by omega),h 3 (by omega),h 4 (by omega),h 5 (by omega),h 6 (by omega),h 7 (by omega)⟩
section
variable {P : Program} {w : World}
theorem Bm(x y:Int):(if y > x then y else x)=max x y:=by split<;>omega
theorem ZhF(x y:Int):(if y<x then y else x)=min x y:=by split<;>omega
@[go_sem high] theorem run_max3(ts : Array TypeId)(t : TypeId)(k k' k'' : IntKind)(x y z : Int) : (Builtin.max_ ts t #[.int k x, .int k' y, .int k'' z]).run P w = .ok (.int k (max (max x y) z)) w := by
 rw[<-Bm (max x y) z,<-Bm x y];simp[Builtin.max_,Builtin.max2]
@[go_sem high] theorem run_min2(ts : Array TypeId)(t : TypeId)(k k' : IntKind)(x y : Int) : (Builtin.min_ ts t #[.int k x, .int k' y]).run P w = .ok (.int k (min x y)) w := by
 rw[<-ZhF x y];simp[Builtin.min_,Builtin.min2]
@[go_sem high] theorem run_max2(ts : Array TypeId)(t : TypeId)(k k' : IntKind)(x y : Int) : (Builtin.max_ ts t #[.int k x, .int k' y]).run P w = .ok (.int k (max x y)) w := by
 rw[<-Bm x y];simp[Builtin.max_,Builtin.max2]
end
theorem Zab{P:Program}{w:World}{t:TypeId}{k:IntKind}(hu:P.underlying t=some (.int k))(xs:Array Value)(i:Nat)(v:Value)(h:xs[i]?=some v):(part t xs i).run P w=.ok v w:=by
 simp[part,isAgg,run_underlying hu,h]
theorem ZiY{P:Program}{d:Nat}{e:TypeId}{k:IntKind}(hu2:P.underlying e=some (.int k))(A B:Array Value)(xs ys:List Int)(w:World) :
 ∀ (L:List Nat),(∀i∈L,∃x y,xs[i]?=some x/\ys[i]?=some y/\A[i]?=some (.int k x)/\B[i]?=some (.int k y)) ->
 ((forIn L ((none,()):Option Bool × Unit) (fun i _=>do
  let a <-part e A i
  let b <-part e B i
  let r <-Op.equalIn (d+1) e a b
  if (!r)=true then pure (ForInStep.done (some false,())) else pure (ForInStep.yield (none,()))):Sem (Option Bool × Unit)).run P w) =
  .ok (if L.all (λi=>decide (xs[i]?=ys[i]?)) then(none,()) else(some false,())) w:=by
 intro L
 induction L with
 |nil=>intro _;simp
 |cons i L ih=>
  intro h;obtain⟨x,y,hx,hy,ha,hb⟩:=h i (by simp);have ih':=ih (λj hj=>h j (by simp[hj]));simp only[List.forIn_cons,Sem.run_bind,Zab hu2 A i _ ha,Zab hu2 B i _ hb,Result.andThen_ok,run_equalIn_int w d e k k x y hu2,List.all_cons,hx,hy];by_cases hxy:x=y
  ·subst hxy;simp only[beq_self_eq_true,Bool.not_true,Bool.false_eq_true,if_false,Sem.run_pure,Result.andThen_ok,decide_true,Bool.true_and];exact ih'
  ·have:(x==y)=false:=by simpa using hxy
   simp[this,hxy]
theorem Uv{P:Program}{w:World}{d:Nat}{t e:TypeId}{n:Nat}{k:IntKind}(hu:P.underlying t=some (.array n e))(hu2:P.underlying e=some (.int k))(hs:∀ w,(sizeOf e).run P w=.ok 1 w)
 (A B:Array Value) (xs ys:List Int) (hx:xs.length=n) (hy:ys.length=n) (hA:A=(xs.map (Value.int k)).toArray) (hB:B=(ys.map (Value.int k)).toArray):(Op.equalIn (d+2) t (.agg A) (.agg B)).run P w=.ok (decide (xs=ys)) w:=by
 rw[Op.equalIn];simp only[Sem.run_bind,run_underlying hu,Result.andThen_ok,hs,Nat.mul_one];rw[Std.Legacy.Range.forIn_eq_forIn_range'];simp only[Std.Legacy.Range.size,Nat.sub_zero,Nat.add_sub_cancel,Nat.div_one]
 have:=ZiY (P:=P) (d:=d) hu2 A B xs ys w (List.range' 0 n) (λi hi=>by
  have hi':i<n:=by simpa using hi
  refine⟨xs[i]'(by omega),ys[i]'(by omega),by simp,by simp,?_,?_⟩
  ·subst hA;simp
  ·subst hB;simp)
 refine(congrArg (λr=>Result.andThen r _) this).trans ?_
 have e1:((List.range' 0 n).all λi=>decide (xs[i]?=ys[i]?))=decide (xs=ys):=by
  rw[Bool.eq_iff_iff,List.all_eq_true,decide_eq_true_iff];constructor
  ·intro h;apply List.ext_getElem?;intro i;by_cases hi:i<n
   ·exact of_decide_eq_true (h i (by simpa using hi))
   ·rw[List.getElem?_eq_none_iff.2 (by omega),List.getElem?_eq_none_iff.2 (by omega)]
  ·rintro rfl i _;simp
 rw[e1];by_cases h:xs=ys<;>simp[h]
theorem Zha(w:World):(sizeOf 137).run Tryz.prog w=.ok 1 w:=by kernel_rfl
def Ws(a0 a1 a2 a3 b0 b1 b2 b3:Int):Bool:=decide (a0=b0/\a1=b1/\a2=b2/\a3=b3)
@[go_sem high] theorem Zhh(w : World)(a0 a1 a2 a3 b0 b1 b2 b3 : Int) : (Op.equalIn 10000 138 (.agg #[.int .u64 a0, .int .u64 a1, .int .u64 a2, .int .u64 a3]) (.agg #[.int .u64 b0, .int .u64 b1, .int .u64 b2, .int .u64 b3])).run Tryz.prog w =
 .ok (Ws a0 a1 a2 a3 b0 b1 b2 b3) w:=by
 have h:=Uv (w:=w) (d:=9998) Tryz.underlying138 Tryz.underlying137 Zha #[.int .u64 a0,.int .u64 a1,.int .u64 a2,.int .u64 a3] #[.int .u64 b0,.int .u64 b1,.int .u64 b2,.int .u64 b3] [a0,a1,a2,a3] [b0,b1,b2,b3] rfl rfl rfl rfl;have e:decide ([a0,a1,a2,a3]=[b0,b1,b2,b3])=Ws a0 a1 a2 a3 b0 b1 b2 b3:=by simp[Ws]
 rw[e]at h;exact h
theorem Zw{a b:Bool}(h:a=b):Ending.returned (.bool a)=.returned (.bool b):=by rw[h]
theorem ZT{k:IntKind}{a b:Int}(h:a=b):Ending.returned (.int k a)=.returned (.int k b):=by rw[h]
theorem W8{w w':World}{cs:Array Value}{t:TypeId}{B:Nat}(h:Below B (w.alloc (.cells cs t)) w')(hB:w.heap.size<B)(j:Nat)(v:Value)(hv:cs[j]?=some v) :
 w'.cell? ⟨w.heap.size,j,none⟩=some v:=by
 rw[h.cell (p:=⟨w.heap.size,j,none⟩) hB,World.cell?_alloc_at _ _ _ _ rfl];exact hv
end Go.Proofs.YtbchkjfnakabkaaGreatDoor
namespace Go.Proofs.YtbchkjfnakabkaaGreatDoor
open Go.RowKit PX
structure Only (r:Nat->Prop) (w w':World):Prop where
 os:w'.os=w.os
 tape:w'.tape=w.tape
 output:w'.output=w.output
 size:w.heap.size<=w'.heap.size
 block:∀ k,k<w.heap.size->¬ r k->w'.heap[k]?=w.heap[k]?
theorem Only.refl(r:Nat->Prop)(w:World):Only r w w:=⟨rfl,rfl,rfl,Nat.le_refl _,λ_ _ _=>rfl⟩
theorem Only.trans{r:Nat->Prop}{a b c:World}(h:Only r a b)(k:Only (λi=>r i\/a.heap.size<=i) b c):Only r a c:=
 ⟨k.os.trans h.os,k.tape.trans h.tape,k.output.trans h.output,Nat.le_trans h.size k.size,λi hi hr=>(k.block i (Nat.lt_of_lt_of_le hi h.size) (λh'=>by rcases h' with h'|h'<;>first|exact hr h'|omega)).trans (h.block i hi hr)⟩
theorem Only.mono{r r':Nat->Prop}{w w':World}(h:Only r w w')(hr:∀ k,k<w.heap.size->r k->r' k):Only r' w w':=
 ⟨h.os,h.tape,h.output,h.size,λk hk hn=>h.block k hk λh'=>hn (hr k hk h')⟩
theorem Only.of_below{r:Nat->Prop}{w w':World}(h:Below w.heap.size w w'):Only r w w':=⟨h.os,h.tape,h.output,h.size,λk hk _=>h.block k hk⟩
theorem Only.below{r:Nat->Prop}{B:Nat}{w w':World}(h:Only r w w')(hB:B<=w.heap.size)(hr:∀ k,r k->B<=k):Below B w w':=
 ⟨h.os,h.tape,h.output,h.size,λk hk=>h.block k (by omega) λh'=>by have:=hr k h';omega⟩
theorem Only.drew{r:Nat->Prop}{a w:World}(h:Only r a w):Only r a w.drew:=⟨h.os,h.tape,h.output,h.size,h.block⟩
theorem Only.drewN{r:Nat->Prop}{a w:World}(h:Only r a w)(n:Nat):Only r a (w.drewN n):=⟨h.os,h.tape,h.output,h.size,h.block⟩
theorem Only.alloc{r:Nat->Prop}{a w:World}(h:Only r a w)(o:Obj):Only r a (w.alloc o):=
 h.trans ⟨rfl,rfl,rfl,by simp,λk hk _=>Below.heap_alloc _ _ _ hk⟩
theorem Only.setCell{r:Nat->Prop}{a w:World}(h:Only r a w){p:Addr}(hp:r p.block\/a.heap.size<=p.block)(u:Value):Only r a (w.setCell p u):=
 h.trans ⟨rfl,rfl,rfl,by simp[World.setCell],λk _ hr=>Below.heap_setCell _ _ _ _ (λe=>hr (e▸hp))⟩
theorem Only.grown{r:Nat->Prop}{a w w':World}{row:Option Nat}(h:Only r a w)(hg:w.grownBy w' row)(hr:∀ k,row=some k->r k\/a.heap.size<=k):Only r a w':=
 h.trans ⟨hg.os,hg.tape,hg.output,hg.size,λk hk hn=>hg.block k hk λe=>hn (hr k e.symm)⟩
theorem Only.cell{r:Nat->Prop}{w w':World}(h:Only r w w'){p:Addr}(hp:p.block<w.heap.size)(hr:¬ r p.block):w'.cell? p=w.cell? p:=World.cell?_of_block (w:=w) (h.block p.block hp hr)
theorem Only.frozen{r:Nat->Prop}{w w':World}(h:Only r w w'){p:Addr}(hp:p.block<w.heap.size)(hr:¬ r p.block):w'.frozen? p=w.frozen? p:=World.frozen?_of_block (w:=w) (h.block p.block hp hr)
theorem Only.ownsRow{r:Nat->Prop}{w w':World}{base:Nat}{e:TypeId}{size n:Nat}{v:Value}{xs:List Value}(h:Only r w w')(ho:w.ownsRow base e size v n xs)(hr:∀ k,v.ownBlock=some k->¬ r k):w'.ownsRow base e size v n xs:=by
 have c0:=ho.lt;obtain⟨h1,h2⟩:=ho;refine⟨h1,?_⟩;rcases h2 with h2|⟨g,cap,cur,rfl,hg,hh,rest⟩
 ·exact .inl h2
 ·exact .inr ⟨g,cap,cur,rfl,hg,by rw[h.block g (c0 g rfl).2 (hr g rfl)];exact hh,rest⟩
theorem Za{w:World}{p:Nat}{cs:Array Value}{t:TypeId}(h:w.heap[p]?=some (.cells cs t (0,0)))(j:Nat):w.cell? ⟨p,j,none⟩=cs[j]?:=by
 simp[World.cell?,h]
theorem Zc{w:World}{p:Nat}{cs:Array Value}{t:TypeId}(h:w.heap[p]?=some (.cells cs t (0,0)))(j:Nat):w.frozen? ⟨p,j,none⟩=false:=by
 simp[World.frozen?,h]
theorem Zb{w:World}{p:Nat}{o:Obj}(h:w.heap[p]?=some o):p<w.heap.size:=by
 rcases Nat.lt_or_ge p w.heap.size with h'|h'
 ·exact h'
 ·rw[Array.getElem?_eq_none h']at h;cases h
theorem Zf{w:World}{p:Nat}{cs:Array Value}{t:TypeId}{f:Nat × Nat}(h:w.heap[p]?=some (.cells cs t f))(j:Nat)(u:Value):(w.setCell ⟨p,j,none⟩ u).heap[p]?=some (.cells (cs.setIfInBounds j u) t f):=by
 simp only[World.setCell,Array.getElem?_modify,h];simp
theorem Zd(w:World)(o:Obj):(w.alloc o).heap[w.heap.size]?=some o:=by
 show(w.heap.push o)[w.heap.size]?=_;simp
theorem Ze{w:World}{p:Nat}{x:Obj}(h:w.heap[p]?=some x)(o:Obj):(w.alloc o).heap[p]?=some x:=by
 rw[Below.heap_alloc _ _ _ (Zb h)];exact h
theorem Js(w:World)(cs:List Value)(t:TypeId):∀ j u,cs[j]?=some u->(w.alloc (.cells cs.toArray t)).cell? ((⟨w.heap.size,0,none⟩:Addr).add j)=some u:=by
 intro j u h
 have e:((⟨w.heap.size,0,none⟩:Addr).add j)=⟨w.heap.size,j,none⟩:=by
  unfold Addr.add;split
  ·rename_i h0;subst h0;rfl
  ·simp
 rw[e,World.cell?_alloc_at _ _ _ _ rfl]
 simpa using h
theorem Xz{w:World}{base:Nat}{e:TypeId}{size n:Nat}{v:Value}{xs:List Value}(h:w.ownsRow base e size v n xs)(hn:0<n):∃ g cap,v=.slice (some ⟨g,0,none⟩) n cap/\n<=cap/\cap<=9223372036854775807:=by
 rcases h.2 with⟨_,h0⟩|⟨g,cap,cur,rfl,_,_,h1,h2,_⟩
 ·omega
 ·exact⟨g,cap,rfl,h1,by unfold maxLen at h2;omega⟩
def ZcT(st:St):List Value:=[.int .i64 st.kind,.int .i64 st.next,.int .i64 st.other,.int .u64 st.s0,.int .u64 st.s1,.int .u64 st.s2,.int .u64 st.s3]
