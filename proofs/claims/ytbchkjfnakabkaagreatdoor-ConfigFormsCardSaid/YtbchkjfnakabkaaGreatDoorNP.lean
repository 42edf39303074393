import Derived.Test.YtbchkjfnakabkaaGreatDoorNMB
import Derived.Test.YtbchkjfnakabkaaGreatDoorYP
import Derived.WideKeyPair
set_option linter.unusedSimpArgs false
set_option linter.unusedVariables false
namespace Go.Proofs.YtbchkjfnakabkaaGreatDoor
open Go.RowKit PX PC Go.Maps Go.WideMaps
theorem Zed:ArrKey Tryz.prog 47 3 2:=⟨Tryz.underlying47,by kernel_rfl,by kernel_rfl,by kernel_rfl⟩
theorem Zb1:∃ m,Tryz.prog.types.size=m+1:=⟨Tryz.prog.types.size - 1,by
 have h:decide (0<Tryz.prog.types.size)=true:=by kernel_rfl
 have:=of_decide_eq_true h
 omega⟩
theorem Wp:Keyed Tryz.prog 47:=Keyed.of_law Zed.law
def pL(a b:Int):Lit:=.string (keyBytes [.int .i64 a,.int .i64 b])
theorem Qq{a b:Int}(ha:-9223372036854775808≤a∧a≤9223372036854775807)(hb:-9223372036854775808≤b∧b≤9223372036854775807):keyOf Tryz.prog 47 (.agg #[.int .i64 a,.int .i64 b])=some (pL a b):=
 keyOf_pair Zed Tryz.underlying3 Zb1 (WalkArith.wf_i64 (by omega)) (WalkArith.wf_i64 (by omega))
theorem ZhU{a b c d:Int}(ha:lev 8 a)(hb:lev 8 b)(hc:lev 8 c)(hd:lev 8 d)(h:pL a b=pL c d):a=c∧b=d:=by
 unfold lev at ha hb hc hd;have:=Wp.inj (Qq (a:=a) (b:=b) (by omega) (by omega)) ((Qq (a:=c) (b:=d) (by omega) (by omega)).trans (by rw[h]))
 simpa using this
theorem ZbH{acc:List Lit}{x y:Lit}(hx:WideAt.IsKeyLit x):y∈addKey acc x↔y∈acc∨y=x:=by
 unfold addKey;split
 ·rename_i h;rw[List.any_eq_true]at h;obtain⟨z,hz,e⟩:=h;by_cases hzx:z=x
  ·subst hzx;exact⟨.inl,fun h=>h.elim id (fun e=>e▸hz)⟩
  ·rw[sameKey_ne hzx]at e;cases e
 ·simp
theorem De{acc:List Lit}{x:Lit}(hx:WideAt.IsKeyLit x)(h:acc.Nodup):(addKey acc x).Nodup:=by
 unfold addKey;split
 ·exact h
 ·rename_i hn;rw[List.any_eq_true]at hn;refine List.nodup_append.2 ⟨h,by simp,fun a ha b hb e=>hn ⟨a,ha,?_⟩⟩;rw[e,List.mem_singleton.1 hb];exact WideAt.sameKey_self hx
theorem Gc:∀ (xs L:List Lit) (y:Lit),(∀x∈xs,WideAt.IsKeyLit x)→(y∈xs.foldl addKey L↔y∈L∨y∈xs)
 |[],L,y,_=>by simp
 |x::xs,L,y,h=>by
  rw[List.foldl_cons,Gc xs _ y fun z hz=>h z (List.mem_cons_of_mem _ hz),ZbH (h x (List.mem_cons_self ..)),List.mem_cons,or_assoc]
theorem Ug:∀ (xs L:List Lit),(∀x∈xs,WideAt.IsKeyLit x)→L.Nodup→(xs.foldl addKey L).Nodup
 |[],L,_,h=>h
 |x::xs,L,h,hn=>Ug xs _ (fun z hz=>h z (List.mem_cons_of_mem _ hz)) (De (h x (List.mem_cons_self ..)) hn)
def YZ(l:List Ru):List Lit:=l.map fun r=>pL r.fr r.tu
def PMap(w:World)(b n:Nat)(l:List Ru):Prop:=w.ownsMap Tryz.prog 47 unitElem b n (setOf (.agg []) (YZ l):DataW Unit)
theorem PMap.made(w:World):PMap (w.alloc (.map #[] 0)) w.heap.size 0 []:=World.ownsMap_made _ _ _ _
theorem PMap.lt{w:World}{b n:Nat}{l:List Ru}(h:PMap w b n l):b<w.heap.size:=World.ownsMap.lt h
theorem PMap.later{w w':World}{b n:Nat}{l:List Ru}(h:PMap w b n l)(hl:Later w w'):PMap w' b n l:=by
 obtain⟨es,clock,hb,F,hs,hD⟩:=h;exact⟨es,clock,hl.block hb,F,hs,hD⟩
theorem Qi(l:List Ru)(r:Ru):YZ (l++[r])=YZ l++[pL r.fr r.tu]:=by simp[YZ]
theorem VR{w:World}{ops:Array Oper}{rest:List Oper}{o:Oper}{a:Act}{Q:Exit→Act→World→Prop}(hg:o.guard=none)(m x v:Operand)(t:TypeId)(hop:o.op=Op.mapUpdate t m x v)
 (ht:Tryz.prog.underlying t=some (.map 47 123)) (b n:Nat) (l:List Ru) (hm:a.eval m=.map (some b)) (h:PMap w b n l) (hn:n<maxLen) (r:Ru) (hx:a.eval x=.agg #[.int .i64 r.fr,.int .i64 r.tu]) (hv:a.eval v=.agg #[])
 (h1:-9223372036854775808≤r.fr∧r.fr≤9223372036854775807) (h2:-9223372036854775808≤r.tu∧r.tu≤9223372036854775807)
 (hK:∀ w',PMap w' b (n+1) (l++[r])→w.grownBy w' (some b)→wpList Tryz.prog ops Q rest (a.put o.dst undef) w'):wpList Tryz.prog ops Q (o::rest) a w:=
 wpList_mapUpdate_own w hg m x v t hop _ _ Wp ht unitElem b n _ hm h hn _ _ _ hx hv (Qq h1 h2) _ _ unitElem_mk (fun w' k g=>hK w' (by unfold PMap;rw[Qi,setOf_snoc];exact k) g)
theorem ZcG(l:List Ru)(hl:∀ r∈l,lev 8 r.fr∧lev 8 r.tu):Maps.size (setOf (.agg []) (YZ l):DataW Unit)=YY l:=by
 have hk:∀ x∈YZ l,WideAt.IsKeyLit x:=fun x hx=>by
  unfold YZ at hx;obtain⟨r,-, rfl⟩:=List.mem_map.1 hx
  trivial
 rw[size_setOf _ _ hk];refine DI l _ (fun p=>pL p.1 p.2) (Ug _ _ hk (by simp)) hl ?_ ?_
 ·intro a b h1 h2 h3 h4 e;obtain⟨e1,e2⟩:=ZhU h1 h2 h3 h4 e;exact Prod.ext e1 e2
 ·intro y;rw[Gc _ _ _ hk];simp[YZ]
theorem JA{w:World}{ops:Array Oper}{rest:List Oper}{o:Oper}{a:Act}{Q:Exit→Act→World→Prop}(hg:o.guard=none)(m:Operand)(t:TypeId)(hop:o.op=Op.call { callee:=Callee.builtin Builtin.len,args:=#[m],argTypes:=#[t] })
 (ht:Tryz.prog.underlying t=some (.map 47 123)) (b n:Nat) (l:List Ru) (hm:a.eval m=.map (some b)) (h:PMap w b n l) (hl:∀ r∈l,lev 8 r.fr∧lev 8 r.tu)
 (hK:wpList Tryz.prog ops Q rest (a.put o.dst (.int .i64 (YY l))) w):wpList Tryz.prog ops Q (o::rest) a w:=
 wpList_len_own w hg m t hop _ _ ht unitElem b n _ hm h (by rw[ZcG l hl];exact hK)
end Go.Proofs.YtbchkjfnakabkaaGreatDoor
