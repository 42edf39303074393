import Derived.Test.YtbchkjfnakabkaaGreatDoorNSS
import Derived.Maps.AppendAt
import Derived.Deep.CutBlock
set_option linter.unusedSimpArgs false
set_option linter.unusedVariables false
namespace Go.Proofs.YtbchkjfnakabkaaGreatDoor
open Go.RowKit PX PC
theorem Df{α:Type}(f:α->List Value):∀ l m:List α,ZG f (l++m)=ZG f l++ZG f m
 |[],_=>rfl
 |x::l,m=>by simp[ZG,Df f l m]
theorem Gr{α:Type}{f:α->List Value}{k:Nat}(hf:∀ x,(f x).length=k):∀ l:List α,(ZG f l).length=l.length*k
 |[]=>by simp[ZG]
 |y::l=>by simp[ZG,Gr hf l,hf,Nat.add_mul];omega
theorem De{α:Type}{f:α->List Value}(h1:∀ x,∀u∈f x,u.oneCell'=true):∀ l:List α,∀u∈ZG f l,u.oneCell'=true
 |[],u,hu=>by simp[ZG]at hu
 |y::l,u,hu=>by
  rw[ZG,List.mem_append]at hu;rcases hu with hu|hu
  ·exact h1 y u hu
  ·exact De h1 l u hu
structure ElemT {α:Type} (f:α->List Value) (k by':Nat) (e t:TypeId) (z:Value):Prop where
 info:(Tryz.prog.info? e).map (λi=>(i.zero,i.size,i.bytes))=some (some z,k,by')
 und:Tryz.prog.underlying t=some (.slice e)
 zs:z.cells.size=k
 pos:0<k
 byp:0<by'
 len:∀ x,(f x).length=k
 one:∀ x,∀u∈f x,u.oneCell'=true
theorem Jo{w:World}{base g k:Nat}{e:TypeId}{α:Type}(f:α->List Value)(h:w.heap[g]?=some (.cells #[] e (0,0)))(hg:base<=g):w.ownsRow base e k (.slice (some ⟨g,0,none⟩) 0 0) ([]:List α).length (ZG f []):=
 ⟨by simp[ZG],.inr ⟨g,0,#[],rfl,hg,h,Nat.le_refl _,by unfold maxLen;omega,by simp,by simp[ZG]⟩⟩
theorem Jh{α:Type}{w:World}{B k:Nat}{e:TypeId}{v:Value}{f:α->List Value}{l:List α}(hf:∀ x,(f x).length=k)(hn:l.length*k<=140737488355328)(h:w.ownsRow B e k v l.length (ZG f l)):RowAt w k v (l.map f):=by
 have c0:=h.lt;rcases h.2 with⟨rfl,h0⟩|⟨g,cap,cur,rfl,hg,hb,hc1,hc2,-⟩
 ·have hl:l=[]:=List.eq_nil_of_length_eq_zero h0;subst hl;exact RowAt.nil w k
 ·have a0:=λj hj=>h.cellAt j hj
  refine⟨some ⟨g,0,none⟩,cap,by rw[List.length_map],by rw[List.length_map];exact hc1,hc2,by rw[List.length_map];exact hn,.inr ⟨g,0,rfl,(c0 g rfl).2,λi hi j hj=>?_⟩⟩;rw[List.length_map]at hi
  have b0:i*k+j<l.length*k:=by
   have:(i+1)*k<=l.length*k:=Nat.mul_le_mul_right _ hi;rw[Nat.add_mul]at this;omega
  rw[Nat.zero_add,a0 _ b0,YY f k hf l i hi j hj,List.getElem_map]
theorem Wx{α:Type}{w:World}{g k:Nat}{f:α->List Value}{x:α}{cs:Array Value}{e:TypeId}(h:w.heap[g]?=some (.cells cs e (0,0)))(hc:cs=(f x).toArray)(hk:k<=100):RowAt w k (.slice (some ⟨g,0,none⟩) 1 1) ([x].map f):=by
 refine⟨some ⟨g,0,none⟩,1,rfl,Nat.le_refl _,by omega,by show 1*k<=_;omega,.inr ⟨g,0,rfl,Zb h,λi hi j hj=>?_⟩⟩;have hi3:i<1:=hi;obtain rfl:i=0:=by omega
 rw[Za h,hc];simp
theorem Zc6{α:Type}{w:World}{k:Nat}{f:α->List Value}(hf:∀ x,(f x).length=k)(hk:0<k){a:Option Addr}{n cap:Nat}{l:List α}(h:RowAt w k (.slice a n cap) (l.map f)) :
 (a=none/\l=[])\/∃ ad,a=some ad/\∀ j u,(ZG f l)[j]?=some u->w.cell? (ad.add j)=some u:=by
 obtain⟨a',cap',hv,h1,h2,h3,h4⟩:=h;injection hv with e1 e2 e3;subst e1 e2 e3;rw[List.length_map]at *;rcases h4 with h4|⟨b,o,rfl,hb,hc⟩
 ·have hl:l=[]:=List.map_eq_nil_iff.1 h4;subst hl
  cases a with
  |none=>exact .inl ⟨rfl,rfl⟩
  |some ad=>exact .inr ⟨ad,rfl,λj u hu=>by simp[ZG]at hu⟩
 ·refine .inr ⟨_,rfl,λj u hu=>?_⟩
  have hj:j<l.length*k:=by
   have:=(List.getElem?_eq_some_iff.1 hu).1
   rwa [Gr hf]at this
  have hm:=Nat.mod_lt j hk;have hi:j/k<l.length:=Nat.div_lt_of_lt_mul (by rw[Nat.mul_comm];exact hj);have a0:=hc (j/k) (by rw[List.length_map];exact hi) (j%k) hm;have e2:j/k*k+j%k=j:=by rw[Nat.mul_comm];exact Nat.div_add_mod j k
  rw[UG];rw[Nat.add_assoc,e2]at a0;rw[a0,List.getElem_map,<-YY f k hf l (j/k) hi (j%k) hm,e2];exact hu
theorem Wu{α:Type}{f:α->List Value}{k by':Nat}{e t:TypeId}{z:Value}(E:ElemT f k by' e t z)(w:World)(base:Nat)(ty:TypeId)(v:Value)(ol l:List α)(hown:w.ownsRow base e k v ol.length (ZG f ol))(A:Option Addr)(m c:Nat)(hlm:l.length=m)(hin:RowAt w k (.slice A m c) (l.map f))
 (hm:(ol.length+l.length)*by'<=140737488355328) (hbase:base<=w.heap.size) :
 ∃ v' w',(Builtin.append_ #[t,t] ty #[v,.slice A m c]).run Tryz.prog w=.ok v' w'/\w'.ownsRow base e k v' (ol++l).length (ZG f (ol++l))/\w.grownBy w' v.ownBlock/\(v'.ownBlock=v.ownBlock\/v'.ownBlock=some w.heap.size):=by
 obtain⟨i0,hi0,hz0,hz1,hz2⟩:=info_parts E.info;subst hlm
 have d0:ol.length+l.length<=maxLen:=by
  have:(ol.length+l.length)*1<=(ol.length+l.length)*by':=Nat.mul_le_mul_left _ E.byp
  unfold maxLen;omega
 rw[Df,List.length_append];rcases Zc6 E.len E.pos hin with⟨rfl,rfl⟩|⟨ad,rfl,hcells⟩
 ·refine⟨v,w,?_,by simpa [ZG] using hown,World.grownBy.refl w _,.inl rfl⟩;rcases hown.2 with⟨rfl,h0⟩|⟨g,cap,cur,rfl,-, -, hnc,-⟩
  ·simp[Builtin.append_,run_underlying E.und,sizeOf,typeInfo,hi0,Builtin.lenOf,Builtin.firstCells]
  ·simp[Builtin.append_,run_underlying E.und,sizeOf,typeInfo,hi0,Builtin.lenOf,Builtin.firstCells,hnc,storeCells]
 ·obtain⟨v',w',hrun,h2,h3,-, h5⟩:=run_append_own_at (P:=Tryz.prog) w base t ty e i0 z k by' E.und hi0 hz0 hz1 hz2 E.zs E.pos v ol.length (ZG f ol) hown ad l.length c (ZG f l) (Gr E.len l) hcells (De E.one l) d0 hm hbase
  exact⟨v',w',hrun,h2,h3,h5⟩
theorem EE{α:Type}{f:α->List Value}{k by':Nat}{e t:TypeId}{z:Value}(E:ElemT f k by' e t z){w W0:World}{o:Oper}{a:Act}{K:Act->World->Prop}{Q:Exit->Act->World->Prop}(s x:Operand)
 (ho:o.op=.call { callee:=.builtin .append,args:=#[s,x],argTypes:=#[t,t] })
 (hl:Later W0 w) (v:Value) (ol l:List α) (hs:a.eval s=v) (hown:w.ownsRow W0.heap.size e k v ol.length (ZG f ol)) (A:Option Addr) (m c:Nat) (hlm:l.length=m) (hx:a.eval x=.slice A m c) (hin:RowAt w k (.slice A m c) (l.map f))
 (hm:(ol.length+l.length)*by'<=140737488355328)
 (h:∀ v' w',w'.ownsRow W0.heap.size e k v' (ol++l).length (ZG f (ol++l))->Later W0 w'->(∀q o,w.heap[q]?=some o->v.ownBlock≠some q->w'.heap[q]?=some o)->K (a.put o.dst v') w') :
 Oper.wp Tryz.prog o a w K Q:=by
 obtain⟨v',w',hrun,h2,h3,h4⟩:=Wu E w W0.heap.size o.type v ol l hown A m c hlm hin hm (Below.size hl);unfold Oper.wp execOp;simp only[ho,resolve,invoke,builtin,Sem.run_bind,Sem.run_pure,Result.andThen_ok,List.map_toArray,List.map_cons,List.map_nil,hs,hx,hrun];refine h v' w' h2 (Below.grown hl h3 (Below.size hl) (λq hq=>(hown.lt q hq).1)) (λq o hq hne=>?_);rw[h3.block q (Zb hq) (λe=>hne e.symm)];exact hq
theorem Xn{α:Type}{f:α->List Value}{k by':Nat}{e t:TypeId}{z:Value}(E:ElemT f k by' e t z){w W0:World}{ops:Array Oper}{o:Oper}{a:Act}{K:Act->World->Prop}{Q:Exit->Act->World->Prop}{F:Prop}(hgd:o.guard=none)(s x:Operand)
 (ho:o.op=.call { callee:=.builtin .append,args:=#[s,x],argTypes:=#[t,t] })
 (hl:Later W0 w) (v:Value) (ol l:List α) (hs:a.eval s=v) (hown:w.ownsRow W0.heap.size e k v ol.length (ZG f ol)) (A:Option Addr) (m c:Nat) (hlm:l.length=m) (hx:a.eval x=.slice A m c) (hin:RowAt w k (.slice A m c) (l.map f))
 (hm:(ol.length+l.length)*by'<=140737488355328)
 (h:∀ v' w',w'.ownsRow W0.heap.size e k v' (ol++l).length (ZG f (ol++l))->Later W0 w'->(∀q o,w.heap[q]?=some o->v.ownBlock≠some q->w'.heap[q]?=some o)->K (a.put o.dst v') w') :
 if Region.wanted o (yielded ops a.tmps)=true then Oper.wp Tryz.prog o a w K Q else F:=by
 rw[if_pos (by simp[Region.wanted,hgd])];exact EE E s x ho hl v ol l hs hown A m c hlm hx hin hm h
theorem EF{α:Type}{f:α->List Value}{k by':Nat}{e t:TypeId}{z:Value}(E:ElemT f k by' e t z){w W0:World}{ops:Array Oper}{rest:List Oper}{o:Oper}{a:Act}{Q:Exit->Act->World->Prop}(hgd:o.guard=none)(s x:Operand)
 (ho:o.op=.call { callee:=.builtin .append,args:=#[s,x],argTypes:=#[t,t] })
 (hl:Later W0 w) (v:Value) (ol l:List α) (hs:a.eval s=v) (hown:w.ownsRow W0.heap.size e k v ol.length (ZG f ol)) (A:Option Addr) (m c:Nat) (hlm:l.length=m) (hx:a.eval x=.slice A m c) (hin:RowAt w k (.slice A m c) (l.map f))
 (hm:(ol.length+l.length)*by'<=140737488355328)
 (h:∀ v' w',w'.ownsRow W0.heap.size e k v' (ol++l).length (ZG f (ol++l))->Later W0 w'->(∀q o,w.heap[q]?=some o->v.ownBlock≠some q->w'.heap[q]?=some o)->wpList Tryz.prog ops Q rest (a.put o.dst v') w') :
 wpList Tryz.prog ops Q (o::rest) a w:=
 wpList_plain hgd λK hK=>EE E s x ho hl v ol l hs hown A m c hlm hx hin hm λv' w' h1 h2 h3=>hK _ _ (h v' w' h1 h2 h3)
theorem Y8:ElemT volC 4 32 28 26 (.agg #[.int .i64 0,.int .i64 0,.int .i64 0,.int .i64 0]):=
 ⟨by kernel_rfl,Tryz.underlying26,rfl,by decide,by decide,λ_=>rfl,by intro x u hu;simp only[volC,List.mem_cons,List.not_mem_nil,or_false]at hu;rcases hu with rfl|rfl|rfl|rfl<;>rfl⟩
theorem RowAt.far{w:World}{k q j:Nat}{v:Value}{css:List (List Value)}{u:Value}(h:RowAt w k v css)(hne:∀ g,v.ownBlock=some g->q≠g):RowAt (w.setCell ⟨q,j,none⟩ u) k v css:=by
 obtain⟨a',cap',hv,h1,h2,h3,h4⟩:=h;refine⟨a',cap',hv,h1,h2,h3,?_⟩;rcases h4 with h4|⟨b,o,rfl,hb,hc⟩
 ·exact .inl h4
 ·have e0:=hne b (by rw[hv];rfl);refine .inr ⟨b,o,rfl,by simpa using hb,λi hi j' hj=>?_⟩;rw[World.cell?_setCell_far _ _ _ _ e0];exact hc i hi j' hj
theorem Xt(t:Nat){ops:Array Oper}{rest:List Oper}{o:Oper}{a:Act}{w:World}{Q:Exit->Act->World->Prop}{p:Nat}{c:Cfg}{v:V7}(ho:o.op=.load 32 (.tmp t))(hx:a.eval (.tmp t)=.pointer (some ⟨p,0,none⟩))(hg:VarAt w p c v)
 (hgd:Region.wanted o (yielded ops a.tmps)=true) (h:wpList Tryz.prog ops Q rest (a.put o.dst (.agg (cfgA c v))) w):wpList Tryz.prog ops Q (o::rest) a w:=
 ZX hgd 32 (.tmp t) ho p hx 32 (cfgA c v) (0,0) _ hg Tryz.underlying32 rfl (XS c v) h
