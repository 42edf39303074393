/- Maps of the call's own, from numbers to Bools and to numbers, told as functions. -/
import Derived.Test.YtbchkjfnakabkaaGreatDoorB34
import Derived.Maps.OwnSet
import Derived.Maps.Views
import Derived.Maps.OwnOps
set_option linter.unusedSimpArgs false
set_option linter.unusedVariables false
namespace Go.Proofs.YtbchkjfnakabkaaGreatDoor
open Go.RowKit PX Go.Maps
theorem mkey_int:Keyed Tryz.prog 3:=int_keyed Tryz.underlying3
theorem mkeyOf {a:Int} (h:-9223372036854775808≤a∧a≤9223372036854775807):keyOf Tryz.prog 3 (.int .i64 a)=some (.int .i64 a):=keyOf_int_mk Tryz.underlying3 (WalkArith.wf_i64 (by omega))
theorem mzeroB (w:World):(zeroValue 4).run Tryz.prog w=.ok (.bool false) w:=by kernel_rfl
theorem mzeroI (w:World):(zeroValue 3).run Tryz.prog w=.ok (.int .i64 0) w:=by kernel_rfl
theorem mlit (a:Int):WideAt.IsKeyLit (.int .i64 a):=trivial
theorem plain_bool_inv {P:Program} {e:TypeId} (he:P.underlying e=some .bool) {v:Value} {z:DataW Unit × List MemPlace} (h:plainElem P e v=some z):∃ x,v=.bool x∧z=(.lit (.bool x),[]):=by
 unfold plainElem at h
 rw [he] at h
 cases v<;>simp at h
 exact⟨_,rfl,h.symm⟩
theorem lit_bool_inj {x y:Bool} (h:(DataW.lit (.bool x):DataW Unit)=.lit (.bool y)):x=y:=by cases h;rfl
theorem lit_int_inj {x y:Int} (h:(DataW.lit (.int .i64 x):DataW Unit)=.lit (.int .i64 y)):x=y:=by cases h;rfl
theorem ilit_inj {x y:Int} (h:(Lit.int .i64 x)=.int .i64 y):x=y:=by cases h;rfl
def BMap (w:World) (b n:Nat) (f:Int→Bool):Prop:=
 ∃ D:DataW Unit,w.ownsMap Tryz.prog 3 (plainElem Tryz.prog 4) b n D∧∀ k:Int,D.atKey (.int .i64 k) (.lit (.bool false))=.lit (.bool (f k))
theorem BMap.made (w:World):BMap (w.alloc (.map #[] 0)) w.heap.size 0 (fun _=>false):=⟨.map [],World.ownsMap_made _ _ _ _,fun k=>rfl⟩
theorem BMap.lt {w:World} {b n:Nat} {f:Int→Bool} (h:BMap w b n f):b<w.heap.size:=by obtain ⟨D,h,-⟩:=h;exact h.lt
theorem BMap.mono {w:World} {b n n':Nat} {f:Int→Bool} (h:BMap w b n f) (hn:n≤n'):BMap w b n' f:=by obtain ⟨D,h,k⟩:=h;exact⟨D,h.mono hn,k⟩
theorem BMap.later {w w':World} {b n:Nat} {f:Int→Bool} (h:BMap w b n f) (hl:Later w w'):BMap w' b n f:=by
 obtain ⟨D,⟨es,clock,hb,F,hs,hD⟩,k⟩:=h
 exact⟨D,⟨es,clock,hl.block hb,F,hs,hD⟩,k⟩
theorem BMap.lookup {w:World} {b n:Nat} {f:Int→Bool} {t:TypeId} (h:BMap w b n f) (ht:Tryz.prog.underlying t=some (.map 3 4)) {a:Int} (ha:-9223372036854775808≤a∧a≤9223372036854775807) :
 (Instr.lookup t (.map (some b)) (.int .i64 a) false).run Tryz.prog w=.ok (.bool (f a)) w:=by
 obtain ⟨D,h,k⟩:=h
 obtain ⟨v,ps,hrun,hv⟩:=h.lookup mkey_int ht (mzeroB w) (plainElem_bool Tryz.underlying4 false) (mkeyOf ha)
 obtain ⟨x,rfl,hz⟩:=plain_bool_inv Tryz.underlying4 hv
 rw [k a] at hz
 have hx:f a=x:=lit_bool_inj (Prod.mk.inj hz).1
 rw [hrun,hx]
theorem BMap.update {w:World} {b n:Nat} {f:Int→Bool} {t:TypeId} (h:BMap w b n f) (ht:Tryz.prog.underlying t=some (.map 3 4)) (hn:n<maxLen) {a:Int} (ha:-9223372036854775808≤a∧a≤9223372036854775807) (x:Bool) :
 ∃ w',(Instr.mapUpdate t (.map (some b)) (.int .i64 a) (.bool x)).run Tryz.prog w=.ok () w'∧BMap w' b (n+1) (fun k=>if k=a then x else f k)∧w.grownBy w' (some b):=by
 obtain ⟨D,h,k⟩:=h
 obtain ⟨w',hrun,h1,h2⟩:=h.update mkey_int ht hn (mkeyOf ha) (plainElem_bool Tryz.underlying4 x)
 refine⟨w',hrun,⟨_,h1,fun k'=>?_⟩,h2⟩
 by_cases hk:k'=a
 ·subst hk
  rw [atKey_put_same h.isMap (mlit _)]
  simp only [if_true]
 ·rw [atKey_put_other (fun e=>hk (ilit_inj e)),k k']
  simp only [if_neg hk]
theorem wpList_lookup_bmap {w:World} {ops:Array Oper} {rest:List Oper} {o:Oper} {a:Act} {Q:Exit→Act→World→Prop} (hg:o.guard=none) (m x:Operand) (t:TypeId) (hop:o.op=Op.lookup t m x false)
 (ht:Tryz.prog.underlying t=some (.map 3 4)) (b n:Nat) (f:Int→Bool) (hm:a.eval m=.map (some b)) (h:BMap w b n f) (key:Int) (hx:a.eval x=.int .i64 key) (hk:-9223372036854775808≤key∧key≤9223372036854775807)
 (hK:wpList Tryz.prog ops Q rest (a.put o.dst (.bool (f key))) w):wpList Tryz.prog ops Q (o::rest) a w:=by
 refine wpList_plain hg fun K' hK'=>?_
 have hrun:=h.lookup ht hk
 unfold Oper.wp
 simp [execOp,hop,hm,hx,hrun,Result.andThen]
 exact hK' _ _ hK
theorem wpList_update_bmap {w:World} {ops:Array Oper} {rest:List Oper} {o:Oper} {a:Act} {Q:Exit→Act→World→Prop} (hg:o.guard=none) (m x v:Operand) (t:TypeId) (hop:o.op=Op.mapUpdate t m x v)
 (ht:Tryz.prog.underlying t=some (.map 3 4)) (b n:Nat) (f:Int→Bool) (hm:a.eval m=.map (some b)) (h:BMap w b n f) (hn:n<maxLen) (key:Int) (y:Bool) (hx:a.eval x=.int .i64 key) (hv:a.eval v=.bool y) (hk:-9223372036854775808≤key∧key≤9223372036854775807)
 (hK:∀ w',BMap w' b (n+1) (fun k=>if k=key then y else f k)→w.grownBy w' (some b)→wpList Tryz.prog ops Q rest (a.put o.dst undef) w'):wpList Tryz.prog ops Q (o::rest) a w:=by
 refine wpList_plain hg fun K' hK'=>?_
 obtain ⟨w',hrun,r1,r2⟩:=h.update ht hn hk y
 unfold Oper.wp
 simp [execOp,hop,hm,hx,hv,hrun,Result.andThen]
 exact hK' _ _ (hK w' r1 r2)
def IMap (w:World) (b n:Nat) (f:Int→Int):Prop:=
 ∃ D:DataW Unit,w.ownsMap Tryz.prog 3 (plainElem Tryz.prog 3) b n D∧∀ k:Int,D.atKey (.int .i64 k) (.lit (.int .i64 0))=.lit (.int .i64 (f k))
theorem IMap.made (w:World):IMap (w.alloc (.map #[] 0)) w.heap.size 0 (fun _=>0):=⟨.map [],World.ownsMap_made _ _ _ _,fun k=>rfl⟩
theorem IMap.lt {w:World} {b n:Nat} {f:Int→Int} (h:IMap w b n f):b<w.heap.size:=by obtain ⟨D,h,-⟩:=h;exact h.lt
theorem IMap.later {w w':World} {b n:Nat} {f:Int→Int} (h:IMap w b n f) (hl:Later w w'):IMap w' b n f:=by
 obtain ⟨D,⟨es,clock,hb,F,hs,hD⟩,k⟩:=h
 exact⟨D,⟨es,clock,hl.block hb,F,hs,hD⟩,k⟩
theorem IMap.lookup {w:World} {b n:Nat} {f:Int→Int} {t:TypeId} (h:IMap w b n f) (ht:Tryz.prog.underlying t=some (.map 3 3)) {a:Int} (ha:-9223372036854775808≤a∧a≤9223372036854775807) :
 (Instr.lookup t (.map (some b)) (.int .i64 a) false).run Tryz.prog w=.ok (.int .i64 (f a)) w:=by
 obtain ⟨D,h,k⟩:=h
 obtain ⟨c,hrun,hc,-⟩:=h.lookup_int mkey_int ht Tryz.underlying3 (mzeroI w) (mkeyOf ha)
 rw [k a] at hc
 have hx:f a=c:=lit_int_inj hc
 rw [hrun,hx]
theorem IMap.update {w:World} {b n:Nat} {f:Int→Int} {t:TypeId} (h:IMap w b n f) (ht:Tryz.prog.underlying t=some (.map 3 3)) (hn:n<maxLen) {a:Int} (ha:-9223372036854775808≤a∧a≤9223372036854775807) (x:Int) (hx:-9223372036854775808≤x∧x≤9223372036854775807) :
 ∃ w',(Instr.mapUpdate t (.map (some b)) (.int .i64 a) (.int .i64 x)).run Tryz.prog w=.ok () w'∧IMap w' b (n+1) (fun k=>if k=a then x else f k)∧w.grownBy w' (some b):=by
 obtain ⟨D,h,k⟩:=h
 obtain ⟨w',hrun,h1,h2⟩:=h.update mkey_int ht hn (mkeyOf ha) (plainElem_int Tryz.underlying3 (WalkArith.wf_i64 (by omega)))
 refine⟨w',hrun,⟨_,h1,fun k'=>?_⟩,h2⟩
 by_cases hk:k'=a
 ·subst hk
  rw [atKey_put_same h.isMap (mlit _)]
  simp only [if_true]
 ·rw [atKey_put_other (fun e=>hk (ilit_inj e)),k k']
  simp only [if_neg hk]
theorem wpList_lookup_imap {w:World} {ops:Array Oper} {rest:List Oper} {o:Oper} {a:Act} {Q:Exit→Act→World→Prop} (hg:o.guard=none) (m x:Operand) (t:TypeId) (hop:o.op=Op.lookup t m x false)
 (ht:Tryz.prog.underlying t=some (.map 3 3)) (b n:Nat) (f:Int→Int) (hm:a.eval m=.map (some b)) (h:IMap w b n f) (key:Int) (hx:a.eval x=.int .i64 key) (hk:-9223372036854775808≤key∧key≤9223372036854775807)
 (hK:wpList Tryz.prog ops Q rest (a.put o.dst (.int .i64 (f key))) w):wpList Tryz.prog ops Q (o::rest) a w:=by
 refine wpList_plain hg fun K' hK'=>?_
 have hrun:=h.lookup ht hk
 unfold Oper.wp
 simp [execOp,hop,hm,hx,hrun,Result.andThen]
 exact hK' _ _ hK
theorem wpList_update_imap {w:World} {ops:Array Oper} {rest:List Oper} {o:Oper} {a:Act} {Q:Exit→Act→World→Prop} (hg:o.guard=none) (m x v:Operand) (t:TypeId) (hop:o.op=Op.mapUpdate t m x v)
 (ht:Tryz.prog.underlying t=some (.map 3 3)) (b n:Nat) (f:Int→Int) (hm:a.eval m=.map (some b)) (h:IMap w b n f) (hn:n<maxLen) (key y:Int) (hx:a.eval x=.int .i64 key) (hv:a.eval v=.int .i64 y) (hk:-9223372036854775808≤key∧key≤9223372036854775807) (hy:-9223372036854775808≤y∧y≤9223372036854775807)
 (hK:∀ w',IMap w' b (n+1) (fun k=>if k=key then y else f k)→w.grownBy w' (some b)→wpList Tryz.prog ops Q rest (a.put o.dst undef) w'):wpList Tryz.prog ops Q (o::rest) a w:=by
 refine wpList_plain hg fun K' hK'=>?_
 obtain ⟨w',hrun,r1,r2⟩:=h.update ht hn hk y hy
 unfold Oper.wp
 simp [execOp,hop,hm,hx,hv,hrun,Result.andThen]
 exact hK' _ _ (hK w' r1 r2)
theorem eval_tmp {a:Act} {d:Nat} {v:Value} (h:a.tmps[d]?=some v):a.eval (.tmp d)=v:=by simp [Act.eval,h]
theorem wp_insert_bmap {w:World} {o:Oper} {a:Act} {K:Act→World→Prop} {Q:Exit→Act→World→Prop} (m x v:Operand) (t:TypeId) (hop:o.op=Op.insert t m x v)
 (ht:Tryz.prog.underlying t=some (.map 3 4)) (b n:Nat) (f:Int→Bool) (hm:a.eval m=.map (some b)) (h:BMap w b n f) (hn:n<maxLen) (key:Int) (y:Bool) (hx:a.eval x=.int .i64 key) (hv:a.eval v=.bool y) (hk:-9223372036854775808≤key∧key≤9223372036854775807)
 (hK:∀ w',BMap w' b (n+1) (fun k=>if k=key then y else f k)→w.grownBy w' (some b)→K (a.put o.dst undef) w'):Oper.wp Tryz.prog o a w K Q:=by
 obtain ⟨w',hrun,r1,r2⟩:=h.update ht hn hk y
 unfold Oper.wp
 simp [execOp,hop,hm,hx,hv,hrun,Result.andThen]
 exact hK w' r1 r2
theorem wp_makeMap {P:Program} {w:World} {o:Oper} {a:Act} {K:Act→World→Prop} {Q:Exit→Act→World→Prop} (t:TypeId) (hop:o.op=Op.makeMap t none)
 (hK:K (a.put o.dst (.map (some w.heap.size))) (w.alloc (.map #[] 0))):Oper.wp P o a w K Q:=by
 unfold Oper.wp
 simp [execOp,hop,run_makeMap,Result.andThen]
 exact hK
end Go.Proofs.YtbchkjfnakabkaaGreatDoor
