import Derived.Laws.Bits64b
import Derived.BigRegion
import Derived.Deep.LoopGhost
import Derived.Test.YtbchkjfnakabkaaGreatDoorB2b
import Derived.Shelf.Spec.TrailingZeros
import Derived.Deep.RegionWith
import Derived.Deep.CutRange
import Derived.Lib.ConvBytes
set_option linter.unusedSimpArgs false
set_option linter.unusedVariables false
namespace Go.Proofs.YtbchkjfnakabkaaGreatDoor
open Go.RowKit PX
def bitW(ws:List Int)(i:Nat):Bool:=((ws[i/64]?.getD 0).toNat).testBit (i%64)
theorem ZiG(W:Int)(k:Nat)(hW:0<=W/\W<18446744073709551616)(hk:k<64):bits BinOp.or IntKind.u64 W (IntKind.u64.wrap (2 ^ k))=YD W k:=by
 obtain⟨m,rfl⟩:=Int.eq_ofNat_of_zero_le hW.1;have h2:2 ^ k<2 ^ 64:=Nat.pow_lt_pow_right (by omega) hk;have e0:((2:Int) ^ k)=((2 ^ k:Nat):Int):=by simp
 unfold YD;rw[e0,Int.toNat_natCast];generalize 2 ^ k=N at h2 ⊢;have e1:IntKind.u64.wrap (N:Int)=(N:Int):=by rw[IntKind.wrap_u64];omega
 rw[e1,bits_or_u64_nat m N (by omega) (by omega)]
end Go.Proofs.YtbchkjfnakabkaaGreatDoor
namespace Go.Proofs.YtbchkjfnakabkaaGreatDoor
open Go.RowKit PX
structure StatesAt (w:World) (v:Value) (g:List St):Prop where
 ex:∃ gb cap,v=.slice (some ⟨gb,0,none⟩) g.length cap∧g.length≤cap∧cap≤9223372036854775807 ∧
  ∀ (i:Nat) (st:St),g[i]?=some st->∀ j,j<7->w.cell? ⟨gb,i*7+j,none⟩=(ZcT st)[j]?
end Go.Proofs.YtbchkjfnakabkaaGreatDoor
namespace Go.Proofs.YtbchkjfnakabkaaGreatDoor
open Go.RowKit PX
end Go.Proofs.YtbchkjfnakabkaaGreatDoor
namespace Go.Proofs.YtbchkjfnakabkaaGreatDoor
open Go.RowKit PX
theorem formAll_iff:∀ l:List Rx,XH l=true↔∀ x∈l,x.formB=true
 |[]=>by simp[XH]
 |x::xs=>by simp[XH,formAll_iff xs]
end Go.Proofs.YtbchkjfnakabkaaGreatDoor
namespace Go.Proofs.YtbchkjfnakabkaaGreatDoor
open Go.RowKit PX
end Go.Proofs.YtbchkjfnakabkaaGreatDoor
namespace Go.Proofs.YtbchkjfnakabkaaGreatDoor
open Go.RowKit PX
end Go.Proofs.YtbchkjfnakabkaaGreatDoor
namespace Go.Proofs.YtbchkjfnakabkaaGreatDoor
open Go.RowKit PX
end Go.Proofs.YtbchkjfnakabkaaGreatDoor
namespace Go.Proofs.YtbchkjfnakabkaaGreatDoor
open Go.RowKit PX
end Go.Proofs.YtbchkjfnakabkaaGreatDoor
namespace Go.Proofs.YtbchkjfnakabkaaGreatDoor.PX
end Go.Proofs.YtbchkjfnakabkaaGreatDoor.PX
namespace Go.Proofs.YtbchkjfnakabkaaGreatDoor
open Go.RowKit PX
end Go.Proofs.YtbchkjfnakabkaaGreatDoor
namespace Go.Proofs.YtbchkjfnakabkaaGreatDoor
open Go.RowKit PX
theorem ZgX{g:List St}(hg:OkG g){i j:Nat}(h:Eps g i j)(hi:i<g.length):j<g.length:=by
 induction h with
 |refl=>exact hi
 |next a b r ih=>have:=hg _ (List.mem_of_getElem? a);exact ih (by omega)
 |other a b r ih=>have:=hg _ (List.mem_of_getElem? a);exact ih (by omega)
theorem StatesAt.only{r:Nat->Prop}{w w':World}{v:Value}{g:List St}(h:StatesAt w v g)(hr:Only r w w')(hv:∀ k,v.ownBlock=some k->¬ r k):StatesAt w' v g:=by
 obtain⟨gb,cap,rfl,h1,h2,h3⟩:=h.ex;refine⟨gb,cap,rfl,h1,h2,λi st hi j hj=>?_⟩;have h4:=h3 i st hi j hj;rw[hr.cell (p:=⟨gb,i*7+j,none⟩) ?_ (hv gb rfl)]
 ·exact h4
 ·have:j<(ZcT st).length:=hj;rw[List.getElem?_eq_getElem this]at h4;exact World.block_lt_of_cell? _ _ h4
def W64(st:St):Prop:=(0<=st.s0/\st.s0<18446744073709551616)/\(0<=st.s1/\st.s1<18446744073709551616)/\(0<=st.s2/\st.s2<18446744073709551616)/\(0<=st.s3/\st.s3<18446744073709551616)
theorem W64.word{st:St}(h:W64 st)(b:Nat):0<=word st.s0 st.s1 st.s2 st.s3 b/\word st.s0 st.s1 st.s2 st.s3 b<18446744073709551616:=by
 unfold PX.word;obtain⟨h0,h1,h2,h3⟩:=h;split
 ·exact h0
 ·split
  ·exact h1
  ·split
   ·exact h2
   ·exact h3
end Go.Proofs.YtbchkjfnakabkaaGreatDoor
namespace Go.Proofs.YtbchkjfnakabkaaGreatDoor
open Go.RowKit PX
def All64(g:List St):Prop:=∀ st∈g,W64 st
theorem W64.split(f o:Nat):W64 (St.split f o):=by simp[W64,St.split]
theorem All64.snoc{g:List St}(h:All64 g){st:St}(hs:W64 st):All64 (g++[st]):=by
 intro x hx;simp only[List.mem_append,List.mem_singleton]at hx;rcases hx with hx|rfl
 ·exact h x hx
 ·exact hs
theorem All64.set{g:List St}(h:All64 g)(i:Nat){st:St}(hs:W64 st):All64 (g.set i st):=by
 intro x hx;rcases List.mem_or_eq_of_mem_set hx with hx|rfl
 ·exact h x hx
 ·exact hs
end Go.Proofs.YtbchkjfnakabkaaGreatDoor
namespace Go.Proofs.YtbchkjfnakabkaaGreatDoor
open Go.RowKit PX
end Go.Proofs.YtbchkjfnakabkaaGreatDoor
namespace Go.Proofs.YtbchkjfnakabkaaGreatDoor
open Go.RowKit PX
theorem VE{P:Program}{ops:Array Oper}{rest:List Oper}{o:Oper}{a:Act}{w:World}{Q:Exit->Act->World->Prop}(hgd:o.guard=none)(ty:TypeId)(x:Operand)(ho:o.op=.load ty x)
 (g j0:Nat) (hx:a.eval x=.pointer (some ⟨g,j0,none⟩)) (cs:Array Value) (d:TypeDesc) (hc:∀ j v,cs[j]?=some v->w.cell? ⟨g,j0+j,none⟩=some v)
 (hu:P.underlying ty=some d) (hd:(match d with|.struct _|.array _ _=>true|_=>false)=true) (hi:(P.info? ty).map (·.size)=some cs.size)
 (h:wpList P ops Q rest (a.put o.dst (.agg cs)) w):wpList P ops Q (o::rest) a w:=by
 refine wpList_plain hgd λK hK=>?_
 have hl:(loadCells ⟨g,j0,none⟩ cs.toList.length).run P w=.ok cs.toList.toArray w:=
  run_loadCells_list (P:=P) w ⟨g,j0,none⟩ cs.toList (λj v hv=>by
   have f0:(⟨g,j0,none⟩:Addr).add j=⟨g,j0+j,none⟩:=by unfold Addr.add;split<;>simp_all
   rw[f0]
   exact hc j v (by simpa using hv))
 have c0:(loadVar ty ⟨g,j0,none⟩).run P w=.ok (.agg cs) w:=by
  cases hq:P.info? ty with
  |none=>simp[hq]at hi
  |some i=>
   have hs:i.size=cs.size:=by simpa [hq] using hi
   have g0:(isAgg ty).run P w=.ok true w:=by
    unfold isAgg;rw[Sem.run_bind,run_underlying hu w];cases d<;>simp_all
   simp only[Array.length_toList,Array.toArray_toList]at hl;simp[loadVar,Sem.run_bind,g0,sizeOf,typeInfo,hq,hs,hl]
 unfold Oper.wp execOp;simp only[ho,hx,Instr.loadAt,Instr.sureAddr,Sem.run_bind,Sem.run_pure,Result.andThen_ok,c0];exact hK _ _ h
theorem TabAt.below{w w':World}{tab:List Nat}(h:TabAt 0 tab w)(hb:Below w.heap.size w w'):TabAt 0 tab w':=λj hj=>by
 have h1:=h j hj;exact(hb.cell (p:=⟨0,j,none⟩) (World.block_lt_of_cell? _ _ h1)).trans h1
end Go.Proofs.YtbchkjfnakabkaaGreatDoor
namespace Go.Proofs.YtbchkjfnakabkaaGreatDoor
open Go.RowKit PX
theorem Only.setRow{r:Nat->Prop}{a w:World}(h:Only r a w){q:Nat}(hq:r q\/a.heap.size<=q)(cs:Array Value):Only r a (w.setRow q cs):=
 ⟨h.os,h.tape,h.output,by simpa using h.size,λk hk hr=>(setRow_other w q k cs (by rintro rfl;rcases hq with hq|hq;exact hr hq;omega)).trans (h.block k hk hr)⟩
theorem ZgF{g:List St}(hg:OkG g){S:Nat->Prop}{b:UInt8}{i:Nat}(h:after g S b i):i<g.length:=by
 obtain⟨m,st,-, hm,-, he⟩:=h;have:=hg st (List.mem_of_getElem? hm);exact ZgX hg he (by omega)
end Go.Proofs.YtbchkjfnakabkaaGreatDoor
namespace Go.Proofs.YtbchkjfnakabkaaGreatDoor
open Go.RowKit PX
theorem GW(G:List St):∀ (u v:List UInt8) (S:Nat->Prop),run G S (u++v)=run G (run G S u) v
 |[],_,_=>rfl
 |b::u,v,S=>GW G u v (after G S b)
theorem Zfg(s:List UInt8){a b:Nat}(h:a<=b)(hb:b<s.length):sub s a (b+1)=sub s a b++[s[b]]:=by
 rw[<-Zg9 s b hb,Zba s h (by omega)]
def SetAt(x:Rx)(s:List UInt8)(a b:Nat)(ws:List Int):Prop:=(λj=>bitW ws j=true)=run x.machine.1 (Eps x.machine.1 x.machine.2) (sub s a b)
theorem SetAt.next{x:Rx}{s:List UInt8}{a b:Nat}{ws ws':List Int}(h:SetAt x s a b ws)(hab:a<=b)(hb:b<s.length)(h':∀ i,bitW ws' i=true↔after x.machine.1 (λi=>bitW ws i=true) s[b] i):SetAt x s a (b+1) ws':=by
 unfold SetAt;rw[Zfg s hab hb,GW,<-h]
 funext i
 exact propext (h' i)
theorem ZgN{G:List St}(hG:OkG G):∀ (v:List UInt8) (S:Nat->Prop),(∀j,S j->j<G.length)->∀ j,run G S v j->j<G.length
 |[],_,h=>h
 |b::v,S,_=>ZgN hG v (after G S b) (λ_ hj=>ZgF hG hj)
theorem SetAt.lt{x:Rx}(hx:x.formB=true){s:List UInt8}{a b:Nat}{ws:List Int}(h:SetAt x s a b ws)(j:Nat)(hj:bitW ws j=true):j<x.machine.1.length:=by
 have d0:=x.machine_ok hx;have h2:run x.machine.1 (Eps x.machine.1 x.machine.2) (sub s a b) j:=by rw[<-congrFun h j];exact hj
 exact ZgN d0.1 _ _ (λi hi=>ZgX d0.1 hi d0.2.1) j h2
def EndAt(L:List UInt8->Prop)(s:List UInt8)(a b e:Nat):Prop:=
 (e=0/\∀ k,a<k->k<=b->¬ L (sub s a k))\/(a<e/\e<=b/\L (sub s a e)/\∀ k,e<k->k<=b->¬ L (sub s a k))
theorem EndAt.no{L:List UInt8->Prop}{s:List UInt8}{a b e:Nat}(h:EndAt L s a b e)(hn:¬ L (sub s a (b+1))):EndAt L s a (b+1) e:=by
 rcases h with⟨h0,h1⟩|⟨h0,h1,h2,h3⟩
 ·refine .inl ⟨h0,λk hk hk2=>?_⟩;by_cases hkb:k=b+1
  ·subst hkb;exact hn
  ·exact h1 k hk (by omega)
 ·refine .inr ⟨h0,by omega,h2,λk hk hk2=>?_⟩;by_cases hkb:k=b+1
  ·subst hkb;exact hn
  ·exact h3 k hk (by omega)
theorem EndAt.yes{L:List UInt8->Prop}{s:List UInt8}{a b:Nat}(hab:a<=b)(hn:L (sub s a (b+1))):EndAt L s a (b+1) (b+1):=
 .inr ⟨by omega,Nat.le_refl _,hn,λk hk hk2=>by omega⟩
theorem EndAt.all{L:List UInt8->Prop}{s:List UInt8}{a b e:Nat}(h:EndAt L s a b e)(hd:∀ k,b<k->k<=s.length->¬ L (sub s a k))(hb:b<=s.length):EndAt L s a s.length e:=by
 rcases h with⟨h0,h1⟩|⟨h0,h1,h2,h3⟩
 ·exact .inl ⟨h0,λk hk hk2=>by by_cases hkb:k<=b;exact h1 k hk hkb;exact hd k (by omega) hk2⟩
 ·exact .inr ⟨h0,by omega,h2,λk hk hk2=>by by_cases hkb:k<=b;exact h3 k hk hkb;exact hd k (by omega) hk2⟩
theorem ZX{P:Program}{ops:Array Oper}{rest:List Oper}{o:Oper}{a:Act}{w:World}{Q:Exit->Act->World->Prop}(hgd:Region.wanted o (yielded ops a.tmps)=true)(ty:TypeId)(x:Operand)(ho:o.op=.load ty x)
 (g:Nat) (hx:a.eval x=.pointer (some ⟨g,0,none⟩)) (t:TypeId) (cs:Array Value) (fr:Nat × Nat) (d:TypeDesc) (hg:w.heap[g]?=some (.cells cs t fr))
 (hu:P.underlying ty=some d) (hd:(match d with|.struct _|.array _ _=>true|_=>false)=true) (hi:(P.info? ty).map (·.size)=some cs.size)
 (h:wpList P ops Q rest (a.put o.dst (.agg cs)) w):wpList P ops Q (o::rest) a w:=
 wpList_step λK hK=>by rw[if_pos hgd];exact wp_load_row ty x ho g hx t cs fr d hg hu hd hi (hK _ _ h)
end Go.Proofs.YtbchkjfnakabkaaGreatDoor
namespace Go.Proofs.YtbchkjfnakabkaaGreatDoor
open Go.RowKit PX
end Go.Proofs.YtbchkjfnakabkaaGreatDoor
namespace Go.Proofs.YtbchkjfnakabkaaGreatDoor
open Go.RowKit PX
end Go.Proofs.YtbchkjfnakabkaaGreatDoor
namespace Go.Proofs.YtbchkjfnakabkaaGreatDoor
open Go.RowKit PX
theorem BK{B:Nat}{a w:World}(h:Below B a w)(n:Nat):Below B a (w.drewN n):=⟨h.os,h.tape,h.output,h.size,h.block⟩
theorem Zhb(w:World):(sizeOf 3).run Tryz.prog w=.ok 1 w:=by kernel_rfl
def ZcZ(a0 a1 b0 b1:Int):Bool:=decide (a0=b0/\a1=b1)
@[go_sem high] theorem run_eq2(w : World)(a0 a1 b0 b1 : Int) : (Op.equalIn 10000 47 (.agg #[.int .i64 a0, .int .i64 a1]) (.agg #[.int .i64 b0, .int .i64 b1])).run Tryz.prog w = .ok (ZcZ a0 a1 b0 b1) w := by
 have h:=Uv (w:=w) (d:=9998) Tryz.underlying47 Tryz.underlying3 Zhb #[.int .i64 a0,.int .i64 a1] #[.int .i64 b0,.int .i64 b1] [a0,a1] [b0,b1] rfl rfl rfl rfl;have e:decide ([a0,a1]=[b0,b1])=ZcZ a0 a1 b0 b1:=by simp[ZcZ]
 rw[e]at h;exact h
def PairsAt(w:World)(v:Value)(l:List (Nat × Nat)):Prop:=∃ a cap,v=.slice a l.length cap/\(l=[]\/∃ b,a=some ⟨b,0,none⟩/\∀ i q,l[i]?=some q->w.cell? ⟨b,i*2,none⟩=some (.int .i64 (q.1:Int))/\w.cell? ⟨b,i*2+1,none⟩=some (.int .i64 (q.2:Int)))
end Go.Proofs.YtbchkjfnakabkaaGreatDoor
namespace Go.Proofs.YtbchkjfnakabkaaGreatDoor
open Go.RowKit PX
def Later(a b:World):Prop:=Below a.heap.size a b
theorem Later.refl(w:World):Later w w:=Below.refl _ _
theorem Later.trans{a b c:World}(h:Later a b)(k:Later b c):Later a c:=Below.trans h (Below.mono k (Below.size h))
theorem Later.alloc{a b:World}(h:Later a b)(o:Obj):Later a (b.alloc o):=Below.alloc h (Below.size h) o
theorem Later.drew{a b:World}(h:Later a b):Later a b.drew:=Below.drew h
theorem Later.block{a b:World}(h:Later a b){k:Nat}{o:Obj}(hk:a.heap[k]?=some o):b.heap[k]?=some o:=(Below.block h k (Zb hk)).trans hk
theorem Later.of{a b:World}(h:Below a.heap.size a b):Later a b:=h
theorem Later.out{a b:World}(h:Later a b):Below a.heap.size a b:=h
theorem Later.cell{a b:World}(h:Later a b){p:Addr}{v:Value}(hp:a.cell? p=some v):b.cell? p=some v:=(Below.cell h (World.block_lt_of_cell? _ _ hp)).trans hp
theorem Later.drewN{a b:World}(h:Later a b)(n:Nat):Later a (b.drewN n):=BK h n
theorem Later.grown{a b c:World}(h:Later a b){row:Option Nat}(hg:b.grownBy c row)(hr:∀ k,row=some k->a.heap.size<=k):Later a c:=Below.grown h hg (Below.size h) hr
theorem Zq{w:World}{o:Obj}{k:Nat}(h:w.heap.size=k):(w.alloc o).heap[k]?=some o:=by subst h;exact Zd w o
theorem Vw{w:World}{k:Nat}{o:Obj}(h:w.heap[k]?=some o):w.drew.heap[k]?=some o:=h
