import Derived.Test.YtbchkjfnakabkaaGreatDoorRLx
import Derived.Test.YtbchkjfnakabkaaGreatDoorRP
set_option linter.unusedSimpArgs false
set_option linter.unusedVariables false
namespace Go.Proofs.YtbchkjfnakabkaaGreatDoor
open Go.RowKit PX PC
def rowI(n:Nat)(f:Nat→Nat):Array Value:=((List.range n).map fun k=>Value.int .i64 (f k:Int)).toArray
theorem EJ(n:Nat)(f:Nat→Nat):(rowI n f).size=n:=by simp[rowI]
theorem Ec{n b:Nat}(f:Nat→Nat)(h:b<n):(rowI n f)[b]?=some (.int .i64 (f b:Int)):=by simp[rowI,h]
def U5(f:Nat→Nat)(b:Nat):Nat→Nat:=fun k=>f k+(if k=b then 1 else 0)
theorem Zcp(n:Nat)(f:Nat→Nat)(b:Nat):(rowI n f).setIfInBounds b (.int .i64 ((f b:Int)+1))=rowI n (U5 f b):=by
 apply Array.ext_getElem?;intro i;by_cases h:i<n
 ·by_cases e:b=i
  ·subst e;rw[Array.getElem?_setIfInBounds_self_of_lt (by rw[EJ];exact h),Ec _ h];simp[U5]
  ·rw[Array.getElem?_setIfInBounds_ne e,Ec _ h,Ec _ h];simp[U5,show ¬i=b from fun q=>e q.symm]
 ·rw[Array.getElem?_eq_none (by simp[EJ];omega),Array.getElem?_eq_none (by simp[EJ];omega)]
def UsedAt(w:World)(ub n:Nat)(f:Nat→Nat):Prop:=w.heap[ub]?=some (.cells (rowI n f) 3 (0,0))
theorem UsedAt.later{w w':World}{ub n:Nat}{f:Nat→Nat}(h:UsedAt w ub n f)(hl:Later w w'):UsedAt w' ub n f:=hl.block h
theorem UsedAt.cell{w:World}{ub n b:Nat}{f:Nat→Nat}(h:UsedAt w ub n f)(hb:b<n):w.cell? ⟨ub,b,none⟩=some (.int .i64 (f b:Int)):=by
 rw[Zb h,Ec _ hb]
theorem UsedAt.bump{w:World}{ub n:Nat}{f g:Nat→Nat}(h:UsedAt w ub n f)(b:Nat)(hg:U5 f b=g):UsedAt (w.setCell ⟨ub,b,none⟩ (.int .i64 ((f b:Int)+1))) ub n g:=by
 unfold UsedAt at h ⊢;rw[Zf h b,Zcp,hg]
theorem Zdw:(Tryz.prog.info? 3).map (fun i=>(i.zero,i.size,i.bytes))=some (some (.int .i64 0),1,8):=by kernel_rfl
theorem Zdb(W:World)(n:Nat)(hn:n≤4096):(Instr.makeSlice 44 (.int .i64 (n:Int)) (.int .i64 (n:Int))).run Tryz.prog W=.ok (.slice (some ⟨W.heap.size,0,none⟩) n n) (W.alloc (.cells (rowI n fun _=>0) 3)):=by
 obtain⟨i0,hi,hz0,hz1,hz2⟩:=info_parts Zdw;have h:=run_makeSlice (P:=Tryz.prog) W 44 3 i0 (.int .i64 0) Tryz.underlying44 hi hz0 .i64 .i64 (n:Int) (n:Int) (by omega) (by omega) (by rw[hz1];omega) (by rw[hz2];omega) (by omega);have e:(n:Int).toNat=n:=by omega
 have e2:madeCells (Value.int .i64 0).cells (n*1)=rowI n fun _=>0:=by
  apply Array.toList_inj.1;rw[show(Value.int .i64 0).cells=#[.int .i64 0] from rfl,toList_madeCells_one,Nat.mul_one];unfold rowI;apply List.ext_getElem?;intro i;by_cases hi:i<n<;>simp[hi]
 rw[hz1,e,e2]at h;exact h
def cntP(l:List Vol)(v:Vol)(m:Nat):Nat→Nat:=fun k=>cntS l k+(if ZcN v m k then 1 else 0)
theorem Zbz(l:List Vol)(v:Vol){m:Nat}(h:v.first=m):cntS l=cntP l v m:=by
 funext k
 unfold cntP ZcN;rw[h];by_cases h1:(m:Int)≤(k:Int)
 ·rw[decide_eq_false (show ¬k<m by omega)];simp
 ·rw[decide_eq_false h1];simp
theorem ZdY(l:List Vol)(v:Vol){m:Nat}(h:v.first≤(m:Int)):U5 (cntP l v m) m=cntP l v (m+1):=by
 funext k
 unfold U5 cntP ZcN;by_cases e:k=m
 ·subst e;rw[if_pos rfl,decide_eq_true h,decide_eq_false (Nat.lt_irrefl k),decide_eq_true (Nat.lt_succ_self k)];simp
 ·rw[if_neg e,Nat.add_zero]
  congr 3
  exact congrArg _ (decide_eq_decide.2 (by omega))
theorem WX(l:List Vol)(v:Vol):cntS (l++[v])=fun k=>cntS l k+(if hasS v k then 1 else 0):=by
 funext k
 rw[ZfI,Um];rfl
theorem ZfJ(l:List Vol)(v:Vol){m:Nat}(h:(m:Int)=v.first+v.count):cntP l v m=cntS (l++[v]):=by
 rw[WX]
 funext k
 unfold cntP;rw[ZcM h]
theorem D5(l:List Vol)(k:Nat):cntS l k≤l.length:=by unfold cntS;exact List.length_filter_le _ _
theorem Zhr(l:List Vol)(v:Vol)(m k:Nat):cntP l v m k≤l.length+1:=by
 have:=D5 l k;unfold cntP;split<;>omega
theorem ZfG(l:List Vol)(b:Nat):U5 (U5 (cntS l) b) (b+1)=cntS (l++[⟨0,b,2,0⟩]):=by
 rw[WX]
 funext k
 unfold U5 hasS;by_cases e:k=b
 ·subst e;simp;omega
 ·by_cases e2:k=b+1
  ·subst e2;simp;omega
  ·rw[if_neg e,if_neg e2,show(decide (((⟨0,(b:Int),2,0⟩:Vol).first)≤(k:Int))&&decide ((k:Int)<(⟨0,(b:Int),2,0⟩:Vol).first+(⟨0,(b:Int),2,0⟩:Vol).count))=false by
    rw[Bool.and_eq_false_iff,decide_eq_false_iff_not,decide_eq_false_iff_not];show ¬(b:Int)≤k∨¬ (k:Int)<(b:Int)+2
    omega]
   simp
def neL(a b:Vol):Bool:=decide (a.level≠b.level)
theorem pairB_snoc{α:Type}(r:α→α→Bool)(l:List α)(x:α):Xc r (l++[x])=(Xc r l&&l.all fun y=>r y x):=by
 induction l with
 |nil=>simp[Xc]
 |cons y l ih=>
  simp only[List.cons_append,Xc,ih,List.all_append,List.all_cons,List.all_nil,Bool.and_true];cases l.all (r y)<;>cases r y x<;>cases Xc r l<;>simp
theorem Wg{α:Type}(r:α→α→Bool):∀ (l m:List α),Xc r (l++m)=true→Xc r l=true
 |[],_,_=>rfl
 |x::l,m,h=>by
  simp only[List.cons_append,Xc,List.all_append,Bool.and_eq_true]at h ⊢;exact⟨h.1.1,Wg r l m h.2⟩
theorem ZeW{α:Type}{r:α→α→Bool}{l:List α}{j k:Nat}(hj:j<l.length)(hk:k<j)(h:r (l[k]'(by omega)) l[j]=false):Xc r l=false:=by
 cases e:Xc r l
 ·rfl
 ·exfalso;rw[←List.take_append_drop (j+1) l]at e;have e1:=Wg r _ _ e;rw[Zx hj,pairB_snoc,Bool.and_eq_true,List.all_eq_true]at e1;have hm:l[k]'(by omega)∈l.take j:=List.mem_take_iff_getElem.2 ⟨k,by omega,rfl⟩;rw[e1.2 _ hm]at h;cases h
def Qv(c:Cfg):Bool:=inB c.sectors 1 4096&&(decide (c.volumes.length≤8)&&(XW c c.audit&&(decide (c.audit.level=0)&&inB c.boot 0 (c.sectors - 2))))
theorem Ve(c:Cfg):c.diskB=(Qv c&&(c.volumes.all (XW c)&&(Xc Yk c.exts&&(c.volumes.all (JB c)&&Xc neL c.volumes)))):=by
 unfold Cfg.diskB Qv;rw[show(fun a b:Vol=>decide (a.level≠b.level))=neL from rfl,List.all_append,List.all_cons,List.all_nil,Bool.and_true];cases inB c.sectors 1 4096<;>cases decide (c.volumes.length≤8)<;>cases XW c c.audit<;>cases decide (c.audit.level=0)<;>cases inB c.boot 0 (c.sectors - 2)<;>cases c.volumes.all (XW c)<;>cases Xc Yk c.exts<;>cases c.volumes.all (JB c)<;>cases Xc neL c.volumes<;>rfl
theorem WG{c:Cfg}:Qv c=true↔(1≤c.sectors∧c.sectors≤4096)∧c.volumes.length≤8∧XW c c.audit=true∧c.audit.level=0∧0≤c.boot∧c.boot≤c.sectors - 2:=by
 unfold Qv;simp only[Bool.and_eq_true,decide_eq_true_eq,ZR]
theorem Zfv{c:Cfg}{S:Nat}(hS:c.sectors=S)(hh:Qv c=true)(hv:∀ x∈c.volumes,XW c x=true):(∀k,k<S→cntS c.exts k≤1)↔Xc Yk c.exts=true:=by
 obtain⟨-, -, ha,-, hb⟩:=WG.1 hh;refine WV fun v hm=>?_
 unfold Cfg.exts at hm;rw[List.mem_append,List.mem_cons,List.mem_singleton]at hm;rcases hm with hm|rfl|rfl
 ·have:=Ui.1 (hv v hm);rw[hS]at this;exact⟨this.1,this.2.1,this.2.2.1⟩
 ·have:=Ui.1 ha;rw[hS]at this;exact⟨this.1,this.2.1,this.2.2.1⟩
 ·rw[hS]at hb;refine⟨hb.1,by show(1:Int)≤2;omega,by show c.boot+2≤(S:Int);omega⟩
end Go.Proofs.YtbchkjfnakabkaaGreatDoor
