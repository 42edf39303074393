import Derived.Test.YtbchkjfnakabkaaGreatDoorNMB
import Derived.WideKeyPair
set_option linter.unusedSimpArgs false
set_option linter.unusedVariables false
namespace Go.Proofs.YtbchkjfnakabkaaGreatDoor
open Go.RowKit PX PC Go.Maps Go.WideMaps
theorem ZeU:ArrKey Tryz.prog 47 3 2:=⟨Tryz.underlying47,by kernel_rfl,by kernel_rfl,by kernel_rfl⟩
theorem ZcI:∃ m,Tryz.prog.types.size=m+1:=⟨Tryz.prog.types.size - 1,by
 have h:decide (0<Tryz.prog.types.size)=true:=by kernel_rfl
 have:=of_decide_eq_true h
 omega⟩
theorem WL:Keyed Tryz.prog 47:=Keyed.of_law ZeU.law
def pL(a b:Int):Lit:=.string (keyBytes [.int .i64 a,.int .i64 b])
theorem QL{a b:Int}(ha:-9223372036854775808<=a/\a<=9223372036854775807)(hb:-9223372036854775808<=b/\b<=9223372036854775807):keyOf Tryz.prog 47 (.agg #[.int .i64 a,.int .i64 b])=some (pL a b):=
 keyOf_pair ZeU Tryz.underlying3 ZcI (WalkArith.wf_i64 (by omega)) (WalkArith.wf_i64 (by omega))
theorem ZiF{a b c d:Int}(ha:lev 8 a)(hb:lev 8 b)(hc:lev 8 c)(hd:lev 8 d)(h:pL a b=pL c d):a=c/\b=d:=by
 unfold lev at ha hb hc hd;have:=WL.inj (QL (a:=a) (b:=b) (by omega) (by omega)) ((QL (a:=c) (b:=d) (by omega) (by omega)).trans (by rw[h]))
 simpa using this
theorem Zcn{acc:List Lit}{x y:Lit}(hx:WideAt.IsKeyLit x):y∈addKey acc x↔y∈acc\/y=x:=by
 unfold addKey;split
 ·rename_i h;rw[List.any_eq_true]at h;obtain⟨z,hz,e⟩:=h;by_cases hzx:z=x
  ·subst hzx;exact⟨.inl,λh=>h.elim id (λe=>e▸hz)⟩
  ·rw[sameKey_ne hzx]at e;cases e
 ·simp
theorem DD{acc:List Lit}{x:Lit}(hx:WideAt.IsKeyLit x)(h:acc.Nodup):(addKey acc x).Nodup:=by
 unfold addKey;split
 ·exact h
 ·rename_i hn;rw[List.any_eq_true]at hn;refine List.nodup_append.2 ⟨h,by simp,λa ha b hb e=>hn ⟨a,ha,?_⟩⟩;rw[e,List.mem_singleton.1 hb];exact WideAt.sameKey_self hx
theorem Gp:∀ (xs L:List Lit) (y:Lit),(∀x∈xs,WideAt.IsKeyLit x)->(y∈xs.foldl addKey L↔y∈L\/y∈xs)
 |[],L,y,_=>by simp
 |x::xs,L,y,h=>by
  rw[List.foldl_cons,Gp xs _ y λz hz=>h z (List.mem_cons_of_mem _ hz),Zcn (h x (List.mem_cons_self ..)),List.mem_cons,or_assoc]
theorem Ut:∀ (xs L:List Lit),(∀x∈xs,WideAt.IsKeyLit x)->L.Nodup->(xs.foldl addKey L).Nodup
 |[],L,_,h=>h
 |x::xs,L,h,hn=>Ut xs _ (λz hz=>h z (List.mem_cons_of_mem _ hz)) (DD (h x (List.mem_cons_self ..)) hn)
def Y5(l:List Ru):List Lit:=l.map λr=>pL r.fr r.tu
def PMap(w:World)(b n:Nat)(l:List Ru):Prop:=w.ownsMap Tryz.prog 47 unitElem b n (setOf (.agg []) (Y5 l):DataW Unit)
theorem PMap.made(w:World):PMap (w.alloc (.map #[] 0)) w.heap.size 0 []:=World.ownsMap_made _ _ _ _
theorem PMap.lt{w:World}{b n:Nat}{l:List Ru}(h:PMap w b n l):b<w.heap.size:=World.ownsMap.lt h
theorem PMap.later{w w':World}{b n:Nat}{l:List Ru}(h:PMap w b n l)(hl:Later w w'):PMap w' b n l:=by
 obtain⟨es,clock,hb,F,hs,hD⟩:=h;exact⟨es,clock,hl.block hb,F,hs,hD⟩
theorem QD(l:List Ru)(r:Ru):Y5 (l++[r])=Y5 l++[pL r.fr r.tu]:=by simp[Y5]
theorem Ua{w:World}{ops:Array Oper}{rest:List Oper}{o:Oper}{a:Act}{Q:Exit->Act->World->Prop}(hg:o.guard=none)(m x v:Operand)(t:TypeId)(hop:o.op=Op.mapUpdate t m x v)
 (ht:Tryz.prog.underlying t=some (.map 47 123)) (b n:Nat) (l:List Ru) (hm:a.eval m=.map (some b)) (h:PMap w b n l) (hn:n<maxLen) (r:Ru) (hx:a.eval x=.agg #[.int .i64 r.fr,.int .i64 r.tu]) (hv:a.eval v=.agg #[])
 (h1:-9223372036854775808<=r.fr/\r.fr<=9223372036854775807) (h2:-9223372036854775808<=r.tu/\r.tu<=9223372036854775807)
 (hK:∀ w',PMap w' b (n+1) (l++[r])->w.grownBy w' (some b)->wpList Tryz.prog ops Q rest (a.put o.dst undef) w'):wpList Tryz.prog ops Q (o::rest) a w:=
 wpList_mapUpdate_own w hg m x v t hop _ _ WL ht unitElem b n _ hm h hn _ _ _ hx hv (QL h1 h2) _ _ unitElem_mk (λw' k g=>hK w' (by unfold PMap;rw[QD,setOf_snoc];exact k) g)
theorem Zdp(l:List Ru)(hl:∀ r∈l,lev 8 r.fr/\lev 8 r.tu):Maps.size (setOf (.agg []) (Y5 l):DataW Unit)=Yk l:=by
 have hk:∀ x∈Y5 l,WideAt.IsKeyLit x:=λx hx=>by
  unfold Y5 at hx;obtain⟨r,-, rfl⟩:=List.mem_map.1 hx
  trivial
 rw[size_setOf _ _ hk];refine E5 l _ (λp=>pL p.1 p.2) (Ut _ _ hk (by simp)) hl ?_ ?_
 ·intro a b h1 h2 h3 h4 e;obtain⟨e1,e2⟩:=ZiF h1 h2 h3 h4 e;exact Prod.ext e1 e2
 ·intro y;rw[Gp _ _ _ hk];simp[Y5]
theorem JP{w:World}{ops:Array Oper}{rest:List Oper}{o:Oper}{a:Act}{Q:Exit->Act->World->Prop}(hg:o.guard=none)(m:Operand)(t:TypeId)(hop:o.op=Op.call { callee:=Callee.builtin Builtin.len,args:=#[m],argTypes:=#[t] })
 (ht:Tryz.prog.underlying t=some (.map 47 123)) (b n:Nat) (l:List Ru) (hm:a.eval m=.map (some b)) (h:PMap w b n l) (hl:∀ r∈l,lev 8 r.fr/\lev 8 r.tu)
 (hK:wpList Tryz.prog ops Q rest (a.put o.dst (.int .i64 (Yk l))) w):wpList Tryz.prog ops Q (o::rest) a w:=
 wpList_len_own w hg m t hop _ _ ht unitElem b n _ hm h (by rw[Zdp l hl];exact hK)
