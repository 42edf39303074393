import Derived.Test.YtbchkjfnakabkaaGreatDoorB34
import Derived.RegionTactic
import Derived.OrdersHeld
import Derived.Deep.RegionHeld
set_option linter.unusedSimpArgs false
set_option linter.unusedVariables false
namespace Go.Proofs.YtbchkjfnakabkaaGreatDoor
section
variable {P : Program} {ops : Array Oper} {Q : Exit -> Act -> World -> Prop} {md : Region.Mode}
structure FrameAt (ops:Array Oper) (rest:List Nat) (v:Nat->Value) (A:Act) (listed:Array Bool) (a:Act):Prop where
 defers:a.defers=A.defers
 size:a.tmps.size=A.tmps.size
 yes:∀ i∈rest,∀o d,ops[i]?=some o->o.dst=some d->listed.getD i false=true->a.tmps[d]?=some (v i)
 no:∀ d,(∀i∈rest,∀o,ops[i]?=some o->o.dst=some d->listed.getD i false=false)->a.tmps[d]?=A.tmps[d]?
def Zb8(ops:Array Oper)(i d:Nat):Bool:=match ops[i]? with|some o=>o.dst==some d|none=>false
def Jk(ops:Array Oper)(rest:List Nat):Bool:=rest.all λi=>rest.all λj=>i==j || (match (ops[i]?).bind (·.dst) with|some d=>!Zb8 ops j d|none=>true)
def GZ(ops:Array Oper)(rest:List Nat)(n:Nat):Bool:=rest.all λi=>decide (i<ops.size)&&(match (ops[i]?).bind (·.dst) with|some d=>decide (d<n)|none=>true)
def QW(ops:Array Oper):Bool:=(List.range ops.size).all λi=>match ops[i]? with|some o=>o.after.all λe=>decide (e.on<i)|none=>true
theorem GI{rest:List Nat}(h:Jk ops rest=true){i j:Nat}(hi:i∈rest)(hj:j∈rest){oi oj:Oper}{d:Nat}(ei:ops[i]?=some oi)(ej:ops[j]?=some oj)(di:oi.dst=some d)(dj:oj.dst=some d):i=j:=by
 have:=List.all_eq_true.1 (List.all_eq_true.1 h i hi) j hj;rw[ei]at this;simp[di,Zb8,ej,dj]at this;exact this
theorem X6{rest:List Nat}{n:Nat}(h:GZ ops rest n=true){i:Nat}(hi:i∈rest):i<ops.size/\∀ o d,ops[i]?=some o->o.dst=some d->d<n:=by
 have:=List.all_eq_true.1 h i hi;rw[Bool.and_eq_true,decide_eq_true_eq]at this;refine⟨this.1,λo d ho hd=>?_⟩;have h2:=this.2;rw[ho]at h2
 simpa [hd] using h2
theorem Xr{l:Array Bool}{i:Nat}(h:i<l.size):(l.setIfInBounds i true).getD i false=true:=by
 simp[h]
theorem Zk{l:Array Bool}{i j:Nat}(h:i≠j)(b:Bool):(l.setIfInBounds i true).getD j b=l.getD j b:=by
 simp[Array.getElem?_setIfInBounds_ne h]
theorem FrameAt.put{rest:List Nat}{v:Nat->Value}{A a:Act}{listed:Array Bool}(h:FrameAt ops rest v A listed a)(hA:Jk ops rest=true)(hI:GZ ops rest A.tmps.size=true)(hs:listed.size=ops.size)
 {i:Nat} (hi:i∈rest) {o:Oper} (ho:ops[i]?=some o):FrameAt ops rest v A (listed.setIfInBounds i true) (a.put o.dst (v i)):=by
 have a0:=(X6 hI hi).1
 cases hd:o.dst with
 |none=>
  refine⟨h.defers,h.size,λj hj oj d ej dj k=>?_,λd k=>h.no d λj hj oj ej dj=>?_⟩
  ·by_cases e:i=j
   ·subst e;rw[ho]at ej;cases ej;rw[hd]at dj;cases dj
   ·rw[Zk e]at k;exact h.yes j hj oj d ej dj k
  ·by_cases e:i=j
   ·subst e;rw[ho]at ej;cases ej;rw[hd]at dj;cases dj
   ·have:=k j hj oj ej dj
    rwa [Zk e]at this
 |some di=>
  have o0:=(X6 hI hi).2 o di ho hd;refine⟨h.defers,by simp[Act.put,h.size],λj hj oj d ej dj k=>?_,λd k=>?_⟩
  ·by_cases e:i=j
   ·subst e;rw[ho]at ej;cases ej;rw[hd]at dj;cases dj;simp[Act.put,h.size,o0]
   ·have d0:di≠d:=λe'=>e (GI hA hi hj ho ej hd (by rw[dj,e']))
    rw[Zk e]at k;have:=h.yes j hj oj d ej dj k;simp only[Act.put];rw[Array.getElem?_setIfInBounds_ne d0];exact this
  ·have d0:di≠d:=λe'=>by
    have:=k i hi o ho (by rw[hd,e']);rw[Xr (by omega)]at this;cases this
   simp only[Act.put];rw[Array.getElem?_setIfInBounds_ne d0];refine h.no d λj hj oj ej dj=>?_
   have:=k j hj oj ej dj;by_cases e:i=j
   ·subst e;rw[Xr (by omega)]at this;cases this
   ·rwa [Zk e]at this
theorem FrameAt.unique{rest:List Nat}{v:Nat->Value}{A a b:Act}{l m:Array Bool}(h:FrameAt ops rest v A l a)(k:FrameAt ops rest v A m b)(hl:∀ i∈rest,l.getD i false=true)(hm:∀ i∈rest,m.getD i false=true):a=b:=by
 have e1:a.tmps=b.tmps:=by
  apply Array.ext_getElem?;intro d;by_cases e:∃ i∈rest,∃o,ops[i]?=some o/\o.dst=some d
  ·obtain⟨i,hi,o,ho,hd⟩:=e;rw[h.yes i hi o d ho hd (hl i hi),k.yes i hi o d ho hd (hm i hi)]
  ·rw[h.no d λi hi o ho hd=>absurd ⟨i,hi,o,ho,hd⟩ e,k.no d λi hi o ho hd=>absurd ⟨i,hi,o,ho,hd⟩ e]
 cases a;cases b;simp only[Act.mk.injEq];exact⟨e1,h.defers.trans k.defers.symm⟩
def Zh0(ops:Array Oper)(i:Nat):Option Tmp:=(ops[i]?).bind (·.dst)
def finA(ops:Array Oper)(v:Nat->Value)(A:Act)(rest:List Nat):Act:=rest.foldl (λa i=>a.put (Zh0 ops i) (v i)) A
theorem FrameAt.fold{rest:List Nat}{v:Nat->Value}{A:Act}(hA:Jk ops rest=true)(hI:GZ ops rest A.tmps.size=true) :
 ∀ (todo:List Nat) (l:Array Bool) (a:Act),FrameAt ops rest v A l a→l.size=ops.size→(∀i∈todo,i∈rest) →
  ∃ m,FrameAt ops rest v A m (finA ops v a todo)/\(∀i,(i∈todo/\i<ops.size)\/l.getD i false=true->m.getD i false=true)
 |[],l,a,h,hs,_=>⟨l,h,λi hi=>hi.elim (λh=>by cases h.1) id⟩
 |i::todo,l,a,h,hs,ht=>by
  have hi:=ht i (List.mem_cons_self ..);have a0:=(X6 hI hi).1
  obtain⟨o,ho⟩:∃ o,ops[i]?=some o:=⟨_,Array.getElem?_eq_getElem a0⟩
  have h1:=h.put hA hI hs hi ho;obtain⟨m,hm,k⟩:=FrameAt.fold hA hI todo _ _ h1 (by simp[hs]) λj hj=>ht j (List.mem_cons_of_mem _ hj)
  have e:finA ops v (a.put o.dst (v i)) todo=finA ops v a (i::todo):=by
   unfold finA;rw[List.foldl_cons];simp only[Zh0,ho,Option.bind_some]
  rw[e]at hm;refine⟨m,hm,λj hj=>k j ?_⟩;by_cases e:i=j
  ·subst e;exact .inr (Xr (by omega))
  ·rcases hj with⟨hj,hl⟩|hj
   ·rcases List.mem_cons.1 hj with h'|h'
    ·exact absurd h'.symm e
    ·exact .inl ⟨h',hl⟩
   ·rw[Zk e];exact .inr hj
theorem FrameAt.fin{rest:List Nat}{v:Nat->Value}{A a:Act}{l l0:Array Bool}(hA:Jk ops rest=true)(hI:GZ ops rest A.tmps.size=true)(h0:FrameAt ops rest v A l0 A)(hs0:l0.size=ops.size)
 (h:FrameAt ops rest v A l a) (hl:∀ i∈rest,l.getD i false=true):a=finA ops v A rest:=by
 obtain⟨m,hm,k⟩:=FrameAt.fold hA hI rest l0 A h0 hs0 λi hi=>hi
 exact h.unique hm hl λi hi=>k i (.inl ⟨hi,(X6 hI hi).1⟩)
theorem Uj{listed:Array Bool}(hb:QW ops=true)(hs:listed.size=ops.size)(h:Region.ready md ops listed=[]):∀ (n i:Nat),i<n->i<ops.size->listed.getD i false=true
 |0,i,hi,_=>by omega
 |n+1,i,hi,a0=>by
  by_cases e:listed.getD i false=true
  ·exact e
  ·exfalso
   have:i∈Region.ready md ops listed:=by
    rw[mem_ready];refine⟨?_,ops[i],Array.getElem?_eq_getElem a0,λq hq _=>?_⟩
    ·have:i<listed.size:=by omega
     simp[this]at e ⊢;exact e
    ·have k0:=List.all_eq_true.1 hb i (List.mem_range.2 a0);rw[Array.getElem?_eq_getElem a0]at k0;have:=of_decide_eq_true (Array.all_eq_true_iff_forall_mem.1 k0 q hq);exact Uj hb hs h n q.on (by omega) (by omega)
   rw[h]at this;cases this
def X0:List Bool->Nat
 |[]=>0
 |b::l=>(if b then 0 else 1)+X0 l
theorem UW:∀ (l:List Bool) (i:Nat),l[i]?=some false->X0 (l.set i true)+1=X0 l
 |[],i,h=>by simp at h
 |b::l,0,h=>by simp at h;subst h;simp[X0];omega
 |b::l,i+1,h=>by
  simp only[List.getElem?_cons_succ]at h;simp only[List.set_cons_succ,X0];have:=UW l i h;omega
theorem Di:∀ l:List Bool,X0 l<=l.length
 |[]=>Nat.le_refl _
 |b::l=>by
  simp only[X0,List.length_cons];have:=Di l;cases b<;>simp<;>omega
theorem Gt:∀ (l:List Bool),X0 l=0->∀ i,i<l.length->l[i]?=some true
 |[],_,i,h=>by simp at h
 |b::l,h,0,_=>by
  cases b
  ·simp[X0]at h
  ·rfl
 |b::l,h,i+1,hl=>by
  simp only[X0]at h;simp only[List.getElem?_cons_succ];exact Gt l (by omega) i (by simpa using hl)
theorem FrameAt.new{rest:List Nat}{v:Nat->Value}{A a:Act}{listed:Array Bool}(h:FrameAt ops rest v A listed a)(i d:Nat)(hi:rest.contains i=true)(hd:Zb8 ops i d=true)(hl:listed.getD i false=true):a.tmps[d]?=some (v i):=by
 unfold Zb8 at hd
 cases ho:ops[i]? with
 |none=>rw[ho]at hd;cases hd
 |some o=>rw[ho]at hd;exact h.yes i (by simpa using hi) o d ho (by simpa using hd) hl
theorem FrameAt.old{rest:List Nat}{v:Nat->Value}{A a:Act}{listed:Array Bool}(h:FrameAt ops rest v A listed a)(d:Nat)(hd:(rest.all λi=>!Zb8 ops i d)=true):a.tmps[d]?=A.tmps[d]?:=
 h.no d λi hi o ho e=>by
  have:=List.all_eq_true.1 hd i hi;unfold Zb8 at this;rw[ho]at this;simp[e]at this
theorem DL{S:World->Prop}(rest:List Nat)(v:Nat->Value)(A:Act)(W:Array Bool->World->Prop)(l0:Array Bool)
 (hA:Jk ops rest=true) (hI:GZ ops rest A.tmps.size=true) (hb:QW ops=true) (h00:∀ i∈rest,l0.getD i true=false) (hs0:l0.size=ops.size)
 (hstep:∀ i∈rest,∀o,ops[i]?=some o→∀ listed a w,FrameAt ops rest v A listed a→listed.size=ops.size→listed.getD i true=false→(∀e∈o.after,Region.binds md e=true→listed.getD e.on false=true)→W listed w →
  ∀ K:Act->World->Prop,(∀w',W (listed.setIfInBounds i true) w'->K (a.put o.dst (v i)) w')->if Region.wanted o (yielded ops a.tmps)=true then Oper.wp P o a w K Q else K (a.put o.dst undef) w)
 (hWS:∀ listed w,W listed w->S w)
 (hend:∀ listed w,(∀i,i<ops.size->listed.getD i false=true)->W listed w->Q .normal (finA ops v A rest) w) :
 ∀ (fuel:Nat) (listed:Array Bool) (a:Act) (w:World),FrameAt ops rest v A listed a→listed.size=ops.size→(∀i,i<ops.size→listed.getD i false=true∨i∈rest)→X0 listed.toList≤fuel→W listed w →
  wpAnyH P md ops Q S fuel listed a w:=by
 have F0:FrameAt ops rest v A l0 A:=⟨rfl,rfl,(λi hi o d ho hd k=>by
  have:=h00 i hi;have a0:i<l0.size:=by rw[hs0];exact(X6 hI hi).1
  simp[a0]at this k;rw[this]at k;cases k),λd _=>rfl⟩
 have g0:∀ listed a w,FrameAt ops rest v A listed a->listed.size=ops.size->Region.ready md ops listed=[]->W listed w->Q .normal a w:=λlisted a w hF hs hr hW=>by
  have b0:∀ i,i<ops.size->listed.getD i false=true:=λi hi=>Uj hb hs hr ops.size i hi hi
  rw[FrameAt.fin hA hI F0 hs0 hF λi hi=>b0 i (X6 hI hi).1];exact hend listed w b0 hW
 intro fuel
 induction fuel with
 |zero=>
  intro listed a w hF hs hc hn hW
  have hr:Region.ready md ops listed=[]:=by
   apply List.eq_nil_iff_forall_not_mem.2;intro i hi;obtain⟨h1,o,ho,-⟩:=mem_ready.1 hi;have a0:i<listed.size:=by rw[hs];exact(Array.getElem?_eq_some_iff.1 ho).1
   have:=Gt listed.toList (by omega) i (by simpa using a0);simp[a0]at h1 this;rw[h1]at this;cases this
  exact⟨hr,g0 listed a w hF hs hr hW⟩
 |succ fuel ih=>
  intro listed a w hF hs hc hn hW;refine⟨λhr=>g0 listed a w hF hs hr hW,λi hi=>?_⟩;obtain⟨h1,o,ho,h2⟩:=mem_ready.1 hi;have a0:i<listed.size:=by rw[hs];exact(Array.getElem?_eq_some_iff.1 ho).1
  have m0:i∈rest:=by
   rcases hc i (by omega) with h|h
   ·simp[a0]at h h1;rw[h1]at h;cases h
   ·exact h
  refine wpOp_step ho λK' hK=>?_
  refine hstep i m0 o ho listed a w hF hs h1 h2 hW K' λw' hW'=>hK _ _ ⟨hWS _ _ hW',?_⟩
  refine ih _ _ _ (hF.put hA hI hs m0 ho) (by simp[hs]) (λj hj=>?_) ?_ hW'
  ·by_cases e:i=j
   ·subst e;exact .inl (Xr a0)
   ·rw[Zk e];exact hc j hj
  ·have hf:listed.toList[i]?=some false:=by
    simp[a0]at h1;simp[a0,h1]
   have:=UW listed.toList i hf;rw[Array.toList_setIfInBounds];omega
theorem Qn{S:World->Prop}(rest:List Nat)(v:Nat->Value)(W:Array Bool->World->Prop){l0:Array Bool}{A:Act}{w:World}{fuel:Nat}
 (hA:Jk ops rest=true) (hI:GZ ops rest A.tmps.size=true) (hb:QW ops=true) (h00:(rest.all λi=>!l0.getD i true)=true) (hs0:l0.size=ops.size)
 (hc:((List.range ops.size).all λi=>l0.getD i false || rest.contains i)=true) (hn:decide (X0 l0.toList<=fuel)=true)
 (hWS:∀ listed w,W listed w->S w) (hW:W l0 w)
 (hstep:∀ i∈rest,∀o,ops[i]?=some o→∀ listed a w,FrameAt ops rest v A listed a→listed.size=ops.size→listed.getD i true=false→(∀e∈o.after,Region.binds md e=true→listed.getD e.on false=true)→W listed w →
  ∀ K:Act->World->Prop,(∀w',W (listed.setIfInBounds i true) w'->K (a.put o.dst (v i)) w')->if Region.wanted o (yielded ops a.tmps)=true then Oper.wp P o a w K Q else K (a.put o.dst undef) w)
 (hend:∀ listed w,(∀i,i<ops.size->listed.getD i false=true)->W listed w->Q .normal (finA ops v A rest) w):wpAnyH P md ops Q S fuel l0 A w:=by
 have f0:∀ i∈rest,l0.getD i true=false:=λi hi=>by simpa using List.all_eq_true.1 h00 i hi
 have F0:FrameAt ops rest v A l0 A:=⟨rfl,rfl,(λi hi o d ho hd k=>by
  have:=f0 i hi;have a0:i<l0.size:=by rw[hs0];exact(X6 hI hi).1
  simp[a0]at this k;rw[this]at k;cases k),λd _=>rfl⟩
 refine DL rest v A W l0 hA hI hb f0 hs0 hstep hWS hend fuel l0 A w F0 hs0 (λi hi=>?_) (of_decide_eq_true hn) hW;have:=List.all_eq_true.1 hc i (List.mem_range.2 hi)
 simpa using this
theorem tkT{S:World->Prop}{i:Nat}{oi:Oper}{v:Value}{fuel:Nat}{listed:Array Bool}{a:Act}{w:World}(hy:∀ w,S w->(execOp a.eval oi).run P w=.ok (.value v) w)(hS:S w)
 (h:wpAnyH P md ops Q S fuel (listed.setIfInBounds i true) (a.put oi.dst v) w) (hi:ops[i]?=some oi:=by rfl) (hs:Region.noSelect ops=true:=by kernel_rfl) (hf:Region.free md ops listed i=true:=by kernel_rfl)
 (hr:(Region.ready md ops listed).contains i=true:=by kernel_rfl) (hQ:∀ c a w,Q (.panic c) (a.put oi.dst v) w->Q (.panic c) a w:=by exact λ_ _ _ h=>h) (hw:Region.wanted oi (yielded ops a.tmps)=true:=by rfl) :
 wpAnyH P md ops Q S (fuel+1) listed a w:=wpAnyH_take hi hs hf hr hQ (.inl ⟨hw,hy⟩) hS h
theorem tkS(i:Nat){S:World->Prop}{oi:Oper}{v:Value}{fuel:Nat}{listed l2:Array Bool}{a a2:Act}{w:World}(hS:S w)
 (h:wpAnyH P md ops Q S fuel l2 a2 w) (hi:ops[i]?=some oi:=by rfl) (hs:Region.noSelect ops=true:=by kernel_rfl) (hf:Region.free md ops listed i=true:=by kernel_rfl)
 (hr:(Region.ready md ops listed).contains i=true:=by kernel_rfl)
 (hy:∀ w,S w->(execOp a.eval oi).run P w=.ok (.value v) w:=by intro w hSw;(try dsimp only at hSw);go_simp;(try with_reducible rfl)) (hQ:∀ c a w,Q (.panic c) (a.put oi.dst v) w->Q (.panic c) a w:=by exact λ_ _ _ h=>h)
 (hw:Region.wanted oi (yielded ops a.tmps)=true:=by rfl)
 (h2:listed.setIfInBounds i true=l2:=by(try simp only[Go.Act.put,List.getElem_toArray,List.getElem_cons_succ,List.getElem_cons_zero,List.setIfInBounds_toArray,List.set_cons_zero,List.set_cons_succ]);rfl) (h3:a.put oi.dst v=a2:=by(try simp only[Go.Act.put,List.getElem_toArray,List.getElem_cons_succ,List.getElem_cons_zero,List.setIfInBounds_toArray,List.set_cons_zero,List.set_cons_succ]);rfl) :
 wpAnyH P md ops Q S (fuel+1) listed a w:=tkT hy hS (by rw[h2,h3];exact h) hi hs hf hr hQ hw
theorem tkU{S:World->Prop}{i:Nat}{oi:Oper}{fuel:Nat}{listed:Array Bool}{a:Act}{w:World}(hS:S w)
 (h:wpAnyH P md ops Q S fuel (listed.setIfInBounds i true) (a.put oi.dst undef) w) (hi:ops[i]?=some oi:=by rfl) (hs:Region.noSelect ops=true:=by kernel_rfl) (hf:Region.free md ops listed i=true:=by kernel_rfl)
 (hr:(Region.ready md ops listed).contains i=true:=by kernel_rfl) (hQ:∀ c a w,Q (.panic c) (a.put oi.dst undef) w->Q (.panic c) a w:=by exact λ_ _ _ h=>h) (hw:Region.wanted oi (yielded ops a.tmps)=false:=by rfl) :
 wpAnyH P md ops Q S (fuel+1) listed a w:=wpAnyH_take hi hs hf hr hQ (.inr ⟨hw,rfl⟩) hS h
theorem tkV(i:Nat){S:World->Prop}{oi:Oper}{fuel:Nat}{listed l2:Array Bool}{a a2:Act}{w:World}(hS:S w)
 (h:wpAnyH P md ops Q S fuel l2 a2 w) (hi:ops[i]?=some oi:=by rfl) (hs:Region.noSelect ops=true:=by kernel_rfl) (hf:Region.free md ops listed i=true:=by kernel_rfl)
 (hr:(Region.ready md ops listed).contains i=true:=by kernel_rfl) (hQ:∀ c a w,Q (.panic c) (a.put oi.dst undef) w->Q (.panic c) a w:=by exact λ_ _ _ h=>h)
 (hw:Region.wanted oi (yielded ops a.tmps)=false:=by rfl)
 (h2:listed.setIfInBounds i true=l2:=by(try simp only[Go.Act.put,List.getElem_toArray,List.getElem_cons_succ,List.getElem_cons_zero,List.setIfInBounds_toArray,List.set_cons_zero,List.set_cons_succ]);rfl) (h3:a.put oi.dst undef=a2:=by(try simp only[Go.Act.put,List.getElem_toArray,List.getElem_cons_succ,List.getElem_cons_zero,List.setIfInBounds_toArray,List.set_cons_zero,List.set_cons_succ]);rfl) :
 wpAnyH P md ops Q S (fuel+1) listed a w:=tkU hS (by rw[h2,h3];exact h) hi hs hf hr hQ hw
end
end Go.Proofs.YtbchkjfnakabkaaGreatDoor
namespace Go.Proofs.YtbchkjfnakabkaaGreatDoor
section
variable {P : Program} {ops : Array Oper} {Q : Exit -> Act -> World -> Prop} {md : Region.Mode}
theorem Q0{α:Type}{l:Array α}{p:α->Bool}(h:l.any p=true):∃ e∈l,p e=true:=by
 rw[<-Array.any_toList]at h;obtain⟨e,he,hb⟩:=List.any_eq_true.1 h;exact⟨e,by simpa using he,hb⟩
def VP(md:Region.Mode)(ops:Array Oper)(k i:Nat):Bool:=match ops[k]? with|some ok=>ok.after.any (λe=>Region.binds md e&&e.on==i)|none=>false
def Zeo(md:Region.Mode)(ops:Array Oper)(listed:Array Bool)(i:Nat):Bool:=
 match ops[i]? with
 |none=>false
 |some oi=>(List.range ops.size).all λj=>(j==i || listed.getD j true) || match ops[j]? with
  |some oj=>(oj.after.any (λe=>Region.binds md e&&e.on==i) || oi.apart ops oj) || oj.after.any (λe=>Region.binds md e&&(!(listed.getD e.on true)&&VP md ops e.on i))
  |none=>true
theorem ZcD{j i:Nat}{listed:Array Bool}(hj:j∈Region.ready md ops listed)(hi:listed.getD i true=false):VP md ops j i=false:=by
 obtain⟨-, oj,hoj,b0⟩:=mem_ready.1 hj;cases hw:VP md ops j i
 ·rfl
 ·exfalso;unfold VP at hw;rw[hoj]at hw;obtain⟨e,he,hb⟩:=Q0 hw;rw[Bool.and_eq_true,beq_iff_eq]at hb;have h1:=b0 e he hb.1;rw[hb.2]at h1;rcases Nat.lt_or_ge i listed.size with h'|h'
  ·simp[h']at hi h1;rw[hi]at h1;cases h1
  ·simp[Array.getElem?_eq_none h']at h1
theorem Qo{S:World->Prop}{i:Nat}{oi:Oper}{v:Value}(hi:ops[i]?=some oi)(hsel:∀ (j:Nat) (o:Oper) cs b,ops[j]?=some o->o.op≠.select cs b)
 (hQ:∀ c a w,Q (.panic c) (a.put oi.dst v) w->Q (.panic c) a w) :
 ∀ (fuel:Nat) (listed:Array Bool) (a:Act) (w:World),
  (∀j oj,ops[j]?=some oj->j≠i->listed.getD j true=false->(∀e∈oj.after,Region.binds md e=true->e.on≠i)->oi.apart ops oj=true\/∃ e∈oj.after,Region.binds md e=true/\listed.getD e.on true=false/\VP md ops e.on i=true) ->
  i∈Region.ready md ops listed->YieldsIf P ops S oi v a->S w ->
  wpAnyH P md ops Q S fuel (listed.setIfInBounds i true) (a.put oi.dst v) w->wpAnyH P md ops Q S (fuel+1) listed a w:=by
 intro fuel
 induction fuel with
 |zero=>
  intro listed a w _ hr hy hS H;refine⟨λh=>(by rw[h]at hr;cases hr),λj hj=>?_⟩;by_cases hji:j=i
  ·subst hji;exact hy.wpOp hi hS ⟨hS,H⟩
  ·have:=ready_mono hj hji;rw[H.1]at this;cases this
 |succ fuel ih=>
  intro listed a w hfree hr hy hS H;refine⟨λh=>(by rw[h]at hr;cases hr),λj hj=>?_⟩;by_cases hji:j=i
  ·subst hji;exact hy.wpOp hi hS ⟨hS,H⟩
  ·have h1:=H.2 j (ready_mono hj hji);obtain⟨hjun,oj,hoj,b0⟩:=mem_ready.1 hj;have e0:=(mem_ready.1 hr).1
   have i0:∀ e∈oj.after,Region.binds md e=true->e.on≠i:=λe he hb heq=>by
    have h1:=b0 e he hb;rw[heq]at h1;rcases Nat.lt_or_ge i listed.size with h'|h'
    ·simp[h']at e0 h1;rw[e0]at h1;cases h1
    ·simp[Array.getElem?_eq_none h']at h1
   have n0:oi.apart ops oj=true:=by
    rcases hfree j oj hoj hji hjun i0 with h|⟨e,he,hb,hun,-⟩
    ·exact h
    ·exfalso;have h1:=b0 e he hb;rcases Nat.lt_or_ge e.on listed.size with h'|h'
     ·simp[h']at hun h1;rw[hun]at h1;cases h1
     ·simp[Array.getElem?_eq_none h']at h1
   have h2:=wpOp_putIf hoj n0 (λcs b=>hsel i oi cs b hi) (λcs b=>hsel j oj cs b hoj) hQ hy h1
   have c0:∀ k ok,ops[k]?=some ok→k≠i→(listed.setIfInBounds j true).getD k true=false →
    (∀e∈ok.after,Region.binds md e=true->e.on≠i)->oi.apart ops ok=true\/∃ e∈ok.after,Region.binds md e=true/\(listed.setIfInBounds j true).getD e.on true=false/\VP md ops e.on i=true:=λk ok hk hki hun hno=>by
    have j0:listed.getD k true=false:=by
     by_cases hjk:j=k
     ·subst hjk;exact hjun
     ·rw[getD_set_ne true hjk]at hun;exact hun
    rcases hfree k ok hk hki j0 hno with h|⟨e,he,hb,hun3,hw⟩
    ·exact .inl h
    ·refine .inr ⟨e,he,hb,?_,hw⟩
     have d0:j≠e.on:=λe'=>by
      have:=ZcD hj e0;rw[e',hw]at this;cases this
     rw[getD_set_ne true d0];exact hun3
   refine wpOp_mono (λa' w' h3=>⟨h3.2.1,ih (listed.setIfInBounds j true) a' w' c0 (ready_mono hr (Ne.symm hji)) h3.1 h3.2.1 ?_⟩) h2;rw[Array.setIfInBounds_comm _ _ hji];exact h3.2.2
theorem ZbX{i:Nat}{oi:Oper}{listed:Array Bool}(hi:ops[i]?=some oi)(h:Zeo md ops listed i=true)(j:Nat)(oj:Oper)(hj:ops[j]?=some oj)(d0:j≠i)(hun:listed.getD j true=false)
 (hno:∀ e∈oj.after,Region.binds md e=true->e.on≠i):oi.apart ops oj=true\/∃ e∈oj.after,Region.binds md e=true/\listed.getD e.on true=false/\VP md ops e.on i=true:=by
 unfold Zeo at h;rw[hi]at h;have a0:j<ops.size:=(Array.getElem?_eq_some_iff.1 hj).1;have h1:=List.all_eq_true.1 h j (List.mem_range.2 a0);rw[hj]at h1;simp only[Bool.or_eq_true,beq_iff_eq,hun]at h1;rcases h1 with(h1|h1)|(h1|h1)|h1
 ·exact absurd h1 d0
 ·cases h1
 ·exfalso;obtain⟨e,he,hb⟩:=Q0 h1;rw[Bool.and_eq_true,beq_iff_eq]at hb;exact hno e he hb.1 hb.2
 ·exact .inl h1
 ·obtain⟨e,he,hb⟩:=Q0 h1;simp only[Bool.and_eq_true,Bool.not_eq_true']at hb;exact .inr ⟨e,he,hb.1,hb.2.1,hb.2.2⟩
theorem U8{S:World->Prop}{i:Nat}{oi:Oper}{v:Value}{fuel:Nat}{listed:Array Bool}{a:Act}{w:World}(hi:ops[i]?=some oi)
 (hs:Region.noSelect ops=true) (hf:Zeo md ops listed i=true) (hr:(Region.ready md ops listed).contains i=true)
 (hQ:∀ c a w,Q (.panic c) (a.put oi.dst v) w->Q (.panic c) a w) (hy:YieldsIf P ops S oi v a) (hS:S w)
 (h:wpAnyH P md ops Q S fuel (listed.setIfInBounds i true) (a.put oi.dst v) w):wpAnyH P md ops Q S (fuel+1) listed a w:=
 Qo hi (Region.noSelect_spec hs) hQ fuel listed a w (ZbX hi hf) (by simpa using hr) hy hS h
theorem tkR(i:Nat){S:World->Prop}{oi:Oper}{v:Value}{fuel:Nat}{listed l2:Array Bool}{a a2:Act}{w:World}(hS:S w)
 (h:wpAnyH P md ops Q S fuel l2 a2 w) (hi:ops[i]?=some oi:=by rfl) (hs:Region.noSelect ops=true:=by kernel_rfl) (hf:Zeo md ops listed i=true:=by kernel_rfl)
 (hr:(Region.ready md ops listed).contains i=true:=by kernel_rfl)
 (hy:∀ w,S w->(execOp a.eval oi).run P w=.ok (.value v) w:=by intro w hSw;(try dsimp only at hSw);go_simp;(try with_reducible rfl)) (hQ:∀ c a w,Q (.panic c) (a.put oi.dst v) w->Q (.panic c) a w:=by exact λ_ _ _ h=>h)
 (hw:Region.wanted oi (yielded ops a.tmps)=true:=by rfl)
 (h2:listed.setIfInBounds i true=l2:=by(try simp only[Go.Act.put,List.getElem_toArray,List.getElem_cons_succ,List.getElem_cons_zero,List.setIfInBounds_toArray,List.set_cons_zero,List.set_cons_succ]);rfl) (h3:a.put oi.dst v=a2:=by(try simp only[Go.Act.put,List.getElem_toArray,List.getElem_cons_succ,List.getElem_cons_zero,List.setIfInBounds_toArray,List.set_cons_zero,List.set_cons_succ]);rfl) :
 wpAnyH P md ops Q S (fuel+1) listed a w:=
 U8 hi hs hf hr hQ (.inl ⟨hw,hy⟩) hS (by rw[h2,h3];exact h)
theorem tkW(i:Nat){S:World->Prop}{oi:Oper}{fuel:Nat}{listed l2:Array Bool}{a a2:Act}{w:World}(hS:S w)
 (h:wpAnyH P md ops Q S fuel l2 a2 w) (hi:ops[i]?=some oi:=by rfl) (hs:Region.noSelect ops=true:=by kernel_rfl) (hf:Zeo md ops listed i=true:=by kernel_rfl)
 (hr:(Region.ready md ops listed).contains i=true:=by kernel_rfl) (hQ:∀ c a w,Q (.panic c) (a.put oi.dst undef) w->Q (.panic c) a w:=by exact λ_ _ _ h=>h)
 (hw:Region.wanted oi (yielded ops a.tmps)=false:=by rfl)
 (h2:listed.setIfInBounds i true=l2:=by(try simp only[Go.Act.put,List.getElem_toArray,List.getElem_cons_succ,List.getElem_cons_zero,List.setIfInBounds_toArray,List.set_cons_zero,List.set_cons_succ]);rfl) (h3:a.put oi.dst undef=a2:=by(try simp only[Go.Act.put,List.getElem_toArray,List.getElem_cons_succ,List.getElem_cons_zero,List.setIfInBounds_toArray,List.set_cons_zero,List.set_cons_succ]);rfl) :
 wpAnyH P md ops Q S (fuel+1) listed a w:=
 U8 hi hs hf hr hQ (.inr ⟨hw,rfl⟩) hS (by rw[h2,h3];exact h)
theorem rd1(n:Nat){S:World->Prop}{oi:Oper}{fuel:Nat}{listed:Array Bool}{a:Act}{w:World}
 (h:∀ K':Act->World->Prop,Shut (∀a w,S w->(S w->wpAnyH P md ops Q S fuel (listed.setIfInBounds n true) a w)->K' a w)->if Region.wanted oi (yielded ops a.tmps)=true then Oper.wp P oi a w K' Q else K' (a.put oi.dst undef) w)
 (hi:ops[n]?=some oi:=by rfl) (hr:Region.ready md ops listed=[n]:=by kernel_rfl):wpAnyH P md ops Q S (fuel+1) listed a w:=
 wpAnyH_ready hr (by simp) (AllReadyH.cons hi h AllReadyH.nil)
