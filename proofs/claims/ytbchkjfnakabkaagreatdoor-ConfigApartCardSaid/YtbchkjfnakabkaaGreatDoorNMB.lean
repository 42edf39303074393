import Derived.Maps.OwnSet
import Derived.Maps.Views
import Derived.Maps.OwnOps
import Derived.Test.YtbchkjfnakabkaaGreatDoorN4A
set_option linter.unusedSimpArgs false
set_option linter.unusedVariables false
set_option maxHeartbeats 4000000
set_option maxRecDepth 100000
namespace Go.Proofs.YtbchkjfnakabkaaGreatDoor
open Go.RowKit PX Go.Maps
theorem Eu:Keyed Tryz.prog 3:=int_keyed Tryz.underlying3
theorem Zaf{a:Int}(h:-9223372036854775808<=a/\a<=9223372036854775807):keyOf Tryz.prog 3 (.int .i64 a)=some (.int .i64 a):=keyOf_int_mk Tryz.underlying3 (WalkArith.wf_i64 (by omega))
theorem ZiM(w:World):(zeroValue 4).run Tryz.prog w=.ok (.bool false) w:=by kernel_rfl
theorem ZiL(w:World):(zeroValue 3).run Tryz.prog w=.ok (.int .i64 0) w:=by kernel_rfl
theorem mlit(a:Int):WideAt.IsKeyLit (.int .i64 a):=trivial
theorem GJ{P:Program}{e:TypeId}(he:P.underlying e=some .bool){v:Value}{z:DataW Unit × List MemPlace}(h:plainElem P e v=some z):∃ x,v=.bool x/\z=(.lit (.bool x),[]):=by
 unfold plainElem at h;rw[he]at h;cases v<;>simp at h
 exact⟨_,rfl,h.symm⟩
theorem WT{x y:Bool}(h:(DataW.lit (.bool x):DataW Unit)=.lit (.bool y)):x=y:=by cases h;rfl
theorem Bi{x y:Int}(h:(DataW.lit (.int .i64 x):DataW Unit)=.lit (.int .i64 y)):x=y:=by cases h;rfl
theorem Zau{x y:Int}(h:(Lit.int .i64 x)=.int .i64 y):x=y:=by cases h;rfl
def BMap(w:World)(b n:Nat)(f:Int->Bool):Prop:=
 ∃ D:DataW Unit,w.ownsMap Tryz.prog 3 (plainElem Tryz.prog 4) b n D/\∀ k:Int,D.atKey (.int .i64 k) (.lit (.bool false))=.lit (.bool (f k))
theorem BMap.made(w:World):BMap (w.alloc (.map #[] 0)) w.heap.size 0 (λ_=>false):=⟨.map [],World.ownsMap_made _ _ _ _,λk=>rfl⟩
theorem BMap.lt{w:World}{b n:Nat}{f:Int->Bool}(h:BMap w b n f):b<w.heap.size:=by obtain⟨D,h,-⟩:=h;exact h.lt
theorem BMap.mono{w:World}{b n n':Nat}{f:Int->Bool}(h:BMap w b n f)(hn:n<=n'):BMap w b n' f:=by obtain⟨D,h,k⟩:=h;exact⟨D,h.mono hn,k⟩
theorem BMap.later{w w':World}{b n:Nat}{f:Int->Bool}(h:BMap w b n f)(hl:Later w w'):BMap w' b n f:=by
 obtain⟨D,⟨es,clock,hb,F,hs,hD⟩,k⟩:=h;exact⟨D,⟨es,clock,hl.block hb,F,hs,hD⟩,k⟩
theorem BMap.lookup{w:World}{b n:Nat}{f:Int->Bool}{t:TypeId}(h:BMap w b n f)(ht:Tryz.prog.underlying t=some (.map 3 4)){a:Int}(ha:-9223372036854775808<=a/\a<=9223372036854775807) :
 (Instr.lookup t (.map (some b)) (.int .i64 a) false).run Tryz.prog w=.ok (.bool (f a)) w:=by
 obtain⟨D,h,k⟩:=h;obtain⟨v,ps,a0,hv⟩:=h.lookup Eu ht (ZiM w) (plainElem_bool Tryz.underlying4 false) (Zaf ha);obtain⟨x,rfl,hz⟩:=GJ Tryz.underlying4 hv;rw[k a]at hz;have hx:f a=x:=WT (Prod.mk.inj hz).1;rw[a0,hx]
theorem BMap.update{w:World}{b n:Nat}{f:Int->Bool}{t:TypeId}(h:BMap w b n f)(ht:Tryz.prog.underlying t=some (.map 3 4))(hn:n<maxLen){a:Int}(ha:-9223372036854775808<=a/\a<=9223372036854775807)(x:Bool) :
 ∃ w',(Instr.mapUpdate t (.map (some b)) (.int .i64 a) (.bool x)).run Tryz.prog w=.ok () w'/\BMap w' b (n+1) (λk=>if k=a then x else f k)/\w.grownBy w' (some b):=by
 obtain⟨D,h,k⟩:=h;obtain⟨w',a0,h1,h2⟩:=h.update Eu ht hn (Zaf ha) (plainElem_bool Tryz.underlying4 x);refine⟨w',a0,⟨_,h1,λk'=>?_⟩,h2⟩;by_cases hk:k'=a
 ·subst hk;rw[atKey_put_same h.isMap (mlit _)];simp only[if_true]
 ·rw[atKey_put_other (λe=>hk (Zau e)),k k'];simp only[if_neg hk]
theorem Y2{w:World}{ops:Array Oper}{rest:List Oper}{o:Oper}{a:Act}{Q:Exit->Act->World->Prop}(hg:o.guard=none)(m x:Operand)(t:TypeId)(hop:o.op=Op.lookup t m x false)
 (ht:Tryz.prog.underlying t=some (.map 3 4)) (b n:Nat) (f:Int->Bool) (hm:a.eval m=.map (some b)) (h:BMap w b n f) (key:Int) (hx:a.eval x=.int .i64 key) (hk:-9223372036854775808<=key/\key<=9223372036854775807)
 (hK:wpList Tryz.prog ops Q rest (a.put o.dst (.bool (f key))) w):wpList Tryz.prog ops Q (o::rest) a w:=by
 refine wpList_plain hg λK' hK'=>?_
 have a0:=h.lookup ht hk;unfold Oper.wp;simp[execOp,hop,hm,hx,a0,Result.andThen];exact hK' _ _ hK
theorem Uc{w:World}{ops:Array Oper}{rest:List Oper}{o:Oper}{a:Act}{Q:Exit->Act->World->Prop}(hg:o.guard=none)(m x v:Operand)(t:TypeId)(hop:o.op=Op.mapUpdate t m x v)
 (ht:Tryz.prog.underlying t=some (.map 3 4)) (b n:Nat) (f:Int->Bool) (hm:a.eval m=.map (some b)) (h:BMap w b n f) (hn:n<maxLen) (key:Int) (y:Bool) (hx:a.eval x=.int .i64 key) (hv:a.eval v=.bool y) (hk:-9223372036854775808<=key/\key<=9223372036854775807)
 (hK:∀ w',BMap w' b (n+1) (λk=>if k=key then y else f k)->w.grownBy w' (some b)->wpList Tryz.prog ops Q rest (a.put o.dst undef) w'):wpList Tryz.prog ops Q (o::rest) a w:=by
 refine wpList_plain hg λK' hK'=>?_
 obtain⟨w',a0,r1,r2⟩:=h.update ht hn hk y;unfold Oper.wp;simp[execOp,hop,hm,hx,hv,a0,Result.andThen];exact hK' _ _ (hK w' r1 r2)
def IMap(w:World)(b n:Nat)(f:Int->Int):Prop:=
 ∃ D:DataW Unit,w.ownsMap Tryz.prog 3 (plainElem Tryz.prog 3) b n D/\∀ k:Int,D.atKey (.int .i64 k) (.lit (.int .i64 0))=.lit (.int .i64 (f k))
theorem IMap.made(w:World):IMap (w.alloc (.map #[] 0)) w.heap.size 0 (λ_=>0):=⟨.map [],World.ownsMap_made _ _ _ _,λk=>rfl⟩
theorem IMap.lt{w:World}{b n:Nat}{f:Int->Int}(h:IMap w b n f):b<w.heap.size:=by obtain⟨D,h,-⟩:=h;exact h.lt
theorem IMap.later{w w':World}{b n:Nat}{f:Int->Int}(h:IMap w b n f)(hl:Later w w'):IMap w' b n f:=by
 obtain⟨D,⟨es,clock,hb,F,hs,hD⟩,k⟩:=h;exact⟨D,⟨es,clock,hl.block hb,F,hs,hD⟩,k⟩
theorem IMap.lookup{w:World}{b n:Nat}{f:Int->Int}{t:TypeId}(h:IMap w b n f)(ht:Tryz.prog.underlying t=some (.map 3 3)){a:Int}(ha:-9223372036854775808<=a/\a<=9223372036854775807) :
 (Instr.lookup t (.map (some b)) (.int .i64 a) false).run Tryz.prog w=.ok (.int .i64 (f a)) w:=by
 obtain⟨D,h,k⟩:=h;obtain⟨c,a0,hc,-⟩:=h.lookup_int Eu ht Tryz.underlying3 (ZiL w) (Zaf ha);rw[k a]at hc;have hx:f a=c:=Bi hc;rw[a0,hx]
theorem IMap.update{w:World}{b n:Nat}{f:Int->Int}{t:TypeId}(h:IMap w b n f)(ht:Tryz.prog.underlying t=some (.map 3 3))(hn:n<maxLen){a:Int}(ha:-9223372036854775808<=a/\a<=9223372036854775807)(x:Int)(hx:-9223372036854775808<=x/\x<=9223372036854775807) :
 ∃ w',(Instr.mapUpdate t (.map (some b)) (.int .i64 a) (.int .i64 x)).run Tryz.prog w=.ok () w'/\IMap w' b (n+1) (λk=>if k=a then x else f k)/\w.grownBy w' (some b):=by
 obtain⟨D,h,k⟩:=h;obtain⟨w',a0,h1,h2⟩:=h.update Eu ht hn (Zaf ha) (plainElem_int Tryz.underlying3 (WalkArith.wf_i64 (by omega)));refine⟨w',a0,⟨_,h1,λk'=>?_⟩,h2⟩;by_cases hk:k'=a
 ·subst hk;rw[atKey_put_same h.isMap (mlit _)];simp only[if_true]
 ·rw[atKey_put_other (λe=>hk (Zau e)),k k'];simp only[if_neg hk]
theorem Ud{w:World}{ops:Array Oper}{rest:List Oper}{o:Oper}{a:Act}{Q:Exit->Act->World->Prop}(hg:o.guard=none)(m x:Operand)(t:TypeId)(hop:o.op=Op.lookup t m x false)
 (ht:Tryz.prog.underlying t=some (.map 3 3)) (b n:Nat) (f:Int->Int) (hm:a.eval m=.map (some b)) (h:IMap w b n f) (key:Int) (hx:a.eval x=.int .i64 key) (hk:-9223372036854775808<=key/\key<=9223372036854775807)
 (hK:wpList Tryz.prog ops Q rest (a.put o.dst (.int .i64 (f key))) w):wpList Tryz.prog ops Q (o::rest) a w:=by
 refine wpList_plain hg λK' hK'=>?_
 have a0:=h.lookup ht hk;unfold Oper.wp;simp[execOp,hop,hm,hx,a0,Result.andThen];exact hK' _ _ hK
theorem Ub{w:World}{ops:Array Oper}{rest:List Oper}{o:Oper}{a:Act}{Q:Exit->Act->World->Prop}(hg:o.guard=none)(m x v:Operand)(t:TypeId)(hop:o.op=Op.mapUpdate t m x v)
 (ht:Tryz.prog.underlying t=some (.map 3 3)) (b n:Nat) (f:Int->Int) (hm:a.eval m=.map (some b)) (h:IMap w b n f) (hn:n<maxLen) (key y:Int) (hx:a.eval x=.int .i64 key) (hv:a.eval v=.int .i64 y) (hk:-9223372036854775808<=key/\key<=9223372036854775807) (hy:-9223372036854775808<=y/\y<=9223372036854775807)
 (hK:∀ w',IMap w' b (n+1) (λk=>if k=key then y else f k)->w.grownBy w' (some b)->wpList Tryz.prog ops Q rest (a.put o.dst undef) w'):wpList Tryz.prog ops Q (o::rest) a w:=by
 refine wpList_plain hg λK' hK'=>?_
 obtain⟨w',a0,r1,r2⟩:=h.update ht hn hk y hy;unfold Oper.wp;simp[execOp,hop,hm,hx,hv,a0,Result.andThen];exact hK' _ _ (hK w' r1 r2)
theorem YB{a:Act}{d:Nat}{v:Value}(h:a.tmps[d]?=some v):a.eval (.tmp d)=v:=by simp[Act.eval,h]
theorem XY{w:World}{o:Oper}{a:Act}{K:Act->World->Prop}{Q:Exit->Act->World->Prop}(m x v:Operand)(t:TypeId)(hop:o.op=Op.insert t m x v)
 (ht:Tryz.prog.underlying t=some (.map 3 4)) (b n:Nat) (f:Int->Bool) (hm:a.eval m=.map (some b)) (h:BMap w b n f) (hn:n<maxLen) (key:Int) (y:Bool) (hx:a.eval x=.int .i64 key) (hv:a.eval v=.bool y) (hk:-9223372036854775808<=key/\key<=9223372036854775807)
 (hK:∀ w',BMap w' b (n+1) (λk=>if k=key then y else f k)->w.grownBy w' (some b)->K (a.put o.dst undef) w'):Oper.wp Tryz.prog o a w K Q:=by
 obtain⟨w',a0,r1,r2⟩:=h.update ht hn hk y;unfold Oper.wp;simp[execOp,hop,hm,hx,hv,a0,Result.andThen];exact hK w' r1 r2
theorem Za0{P:Program}{w:World}{o:Oper}{a:Act}{K:Act->World->Prop}{Q:Exit->Act->World->Prop}(t:TypeId)(hop:o.op=Op.makeMap t none)
 (hK:K (a.put o.dst (.map (some w.heap.size))) (w.alloc (.map #[] 0))):Oper.wp P o a w K Q:=by
 unfold Oper.wp;simp[execOp,hop,run_makeMap,Result.andThen];exact hK
end Go.Proofs.YtbchkjfnakabkaaGreatDoor
namespace Go.Proofs.YtbchkjfnakabkaaGreatDoor
open Go.RowKit PX PC
theorem Qa{N:Nat}{l:List (Int × Int)}{U D:List Int}(h:LatR N l U D){a b:Int}(ha:lev N a)(hb:lev N b):Ve N U a b=rchB l a b:=by
 unfold Ve;rw[Ew.2 ha,Ew.2 hb];unfold lev at ha hb;obtain⟨x,rfl⟩:=Int.eq_ofNat_of_zero_le ha.1;obtain⟨y,rfl⟩:=Int.eq_ofNat_of_zero_le hb.1;rw[Bool.eq_iff_iff,Er]
 simpa using h.ubit x y (by omega)
structure LatOf (w:World) (c:Cfg) (lv:Value):Prop where
 ok:∃ (lb N:Nat) (U D:List Int),lv=.pointer (some ⟨lb,0,none⟩)/\c.levels=N/\LatAt w lb N U D/\LatR N c.flows U D
theorem LatOf.later{w w':World}{c:Cfg}{lv:Value}(h:LatOf w c lv)(hl:Later w w'):LatOf w' c lv:=by
 obtain⟨lb,N,U,D,h1,h2,h3,h4⟩:=h.ok;exact⟨lb,N,U,D,h1,h2,h3.later hl,h4⟩
theorem LatOf.lev{w:World}{c:Cfg}{lv:Value}(h:LatOf w c lv):El c:=by
 obtain⟨lb,N,U,D,h1,h2,h3,h4⟩:=h.ok;have:=h4.lo;have:=h4.hi;unfold El;omega
theorem Zdm{c:Cfg}{n:Int}:c.prt n=true↔0<=n/\n<c.parts.length:=by unfold Cfg.prt;rw[ZI];omega
theorem Gc{c:Cfg}{i:Nat}(h:i<c.parts.length):c.levelOf (i:Int)=c.parts[i].level:=by
 unfold Cfg.levelOf;rw[Int.toNat_natCast,List.getElem?_eq_getElem h];rfl
theorem ZeR(a b:Int):(a==b)=decide (a=b):=by rw[Bool.eq_iff_iff];simp
def QB(c:Cfg)(x:Por):Bool:=(c.prt x.fr&&c.prt x.tu)&&decide (x.fr≠x.tu)
def QA(x:Por):Bool:=inB x.size 1 255&&(inB x.depth 1 8&&(decide (x.kind=1) || decide (x.depth=1)))
theorem Zfz(c:Cfg)(x:Por):JZ c x=(inB x.kind 0 1&&(QB c x&&(QA x&&rchB c.flows (c.levelOf x.fr) (c.levelOf x.tu)))):=rfl
theorem Zbq(w:World)(cb fb:Nat)(c:Cfg)(x:Por)(vF vP vW vO vV vR vK lv:Value)(h:FormIn w fb c vF vP vW vO vV vR vK lv)(hL:LatOf w c lv)(hP:∀ p∈c.parts,lev c.levels p.level)
 (hcb:w.cell? ⟨cb,0,none⟩=some (.pointer (some ⟨fb,0,none⟩))) :
 Calls Tryz.prog 115 #[porV x,.pointer (some ⟨cb,0,none⟩)] w λe w'=>e=.returned (.bool (JZ c x))/\Later w w':=by
 rw[Zfz];obtain⟨k,f,t,s,d⟩:=x;obtain⟨a,cap,rfl,hl1,hl2,hl3⟩:=Zl h.rP
 obtain⟨w1,hw1⟩:∃ w1,w.alloc (.cells #[.int .i64 k,.int .i64 f,.int .i64 t,.int .i64 s,.int .i64 d] 51)=w1:=⟨_,rfl⟩
 have g0:Later w w1:=by rw[<-hw1];exact(Later.refl w).alloc _
 obtain⟨xb,hxb⟩:∃ xb,w.heap.size=xb:=⟨_,rfl⟩
 have b0:w1.heap[xb]?=some (.cells #[.int .i64 k,.int .i64 f,.int .i64 t,.int .i64 s,.int .i64 d] 51 (0,0)):=by rw[<-hw1];exact Zq hxb
 have h1:=h.later g0;have s0:=hL.later g0;have c0:=Za b0 0;have c1:=Za b0 1;have c2:=Za b0 2;have c3:=Za b0 3;have c4:=Za b0 4;have cc:=g0.cell hcb;have k2:w1.cell? ⟨fb,2,none⟩=some (.slice a c.parts.length cap):=h1.cell 2;have kl:w1.cell? ⟨fb,17,none⟩=some lv:=h1.cell 17;have j0:=Hd (Gm w1 fb c f a cap k2 (by omega));have o0:=Hd (Gm w1 fb c t a cap k2 (by omega));have HS:=Hd (XA w1 s 1 255);have HD:=Hd (XA w1 d 1 8);have HK:=Hd (λw2=>XA w2 k 0 1);have he:QB c ⟨k,f,t,s,d⟩=((c.prt f&&c.prt t)&&decide (f≠t)):=rfl;have e0:QA ⟨k,f,t,s,d⟩=(inB s 1 255&&(inB d 1 8&&(decide (k=1) || decide (d=1)))):=rfl
 obtain⟨E,hE⟩:∃ E,QB c ⟨k,f,t,s,d⟩=E:=⟨_,rfl⟩
 obtain⟨Z,hZ⟩:∃ Z,QA ⟨k,f,t,s,d⟩=Z:=⟨_,rfl⟩
 rw[hE]at he;rw[hZ]at e0;rw[hE,hZ]
 obtain⟨p1,hp1⟩:∃ p,c.prt f=p:=⟨_,rfl⟩
 obtain⟨p2,hp2⟩:∃ p,c.prt t=p:=⟨_,rfl⟩
 obtain⟨s1,hs1⟩:∃ p,inB s 1 255=p:=⟨_,rfl⟩
 obtain⟨d1,hd1⟩:∃ p,inB d 1 8=p:=⟨_,rfl⟩
 obtain⟨k1,hk1⟩:∃ p,inB k 0 1=p:=⟨_,rfl⟩
 rw[hp1]at j0 he;rw[hp2]at o0 he;rw[hs1]at HS e0;rw[hd1]at HD e0;rw[hk1]at HK;show Calls Tryz.prog 115 #[.agg #[.int .i64 k,.int .i64 f,.int .i64 t,.int .i64 s,.int .i64 d],.pointer (some ⟨cb,0,none⟩)] w λe w'=>e=.returned (.bool (inB k 0 1&&(E&&(Z&&rchB c.flows (c.levelOf f) (c.levelOf t)))))/\Later w w'
 obtain⟨Rr,hRr⟩:∃ Rr,rchB c.flows (c.levelOf f) (c.levelOf t)=Rr:=⟨_,rfl⟩
 rw[hk1,hRr];have v0:=Hd hw1;have l0:=Hd g0;have HE:=Hd he;have d0:=Hd e0;have HH:=Hd (And.intro h1 s0);have HP:=Hd (And.intro hp1 (And.intro hp2 (And.intro hk1 (And.intro hRr hE))));clear h hL h1 s0 hcb b0 hw1 g0 he e0 hp1 hp2 hs1 hd1 hk1 hE hZ hRr
 go_enter Tryz.func115,Tryz.ntmps115
 go_upto_region 1 with fail
 rw[v0.out]
 go_cut [4] from 6 to 22 (λv wx=>v=.bool E/\wx=w1)
 case first=>
  cases p1
  ·go_wp2_with (first
    |(go_at_call 111;(with_reducible refine j0.out.mono ?_);rintro e w' ⟨rfl,rfl⟩)
    |fail)
   go_meet
   case rel=>exact⟨by rw[HE.out];rfl,rfl⟩
  ·cases p2
   ·go_wp2_with (first
     |(go_at_call 111;(with_reducible refine j0.out.mono ?_);rintro e w' ⟨rfl,rfl⟩)
     |(go_at_call 111;(with_reducible refine o0.out.mono ?_);rintro e w' ⟨rfl,rfl⟩)
     |fail)
    go_meet
    case rel=>exact⟨by rw[HE.out];rfl,rfl⟩
   ·go_wp2_with (first
     |(go_at_call 111;(with_reducible refine j0.out.mono ?_);rintro e w' ⟨rfl,rfl⟩)
     |(go_at_call 111;(with_reducible refine o0.out.mono ?_);rintro e w' ⟨rfl,rfl⟩)
     |fail)
    go_meet
    case rel=>exact⟨by rw[HE.out];simp[bne];exact ZeR _ _,rfl⟩
 case rest=>
  obtain⟨rfl,rfl⟩:=hcut
  go_upto_region 2 with fail
  go_cut [5] from 23 to 40 (λv wx=>v=.bool Z/\wx=wc)
  case first=>
   cases s1
   ·go_wp2_with (first
     |(go_at_call 23;(with_reducible refine HS.out.mono ?_);rintro e w' ⟨rfl,rfl⟩)
     |fail)
    go_meet
    case rel=>exact⟨by rw[d0.out];rfl,rfl⟩
   ·cases d1
    ·go_wp2_with (first
      |(go_at_call 23;(with_reducible refine HS.out.mono ?_);rintro e w' ⟨rfl,rfl⟩)
      |(go_at_call 23;(with_reducible refine HD.out.mono ?_);rintro e w' ⟨rfl,rfl⟩)
      |fail)
     go_meet
     case rel=>exact⟨by rw[d0.out];rfl,rfl⟩
    ·by_cases hk:k=1
     ·have y0:(k==1)=true:=by simpa using hk
      have h0:decide (k=1)=true:=by simpa using hk
      rw[h0]at d0;clear hk h0
      go_wp2_with (first
       |(go_at_call 23;(with_reducible refine HS.out.mono ?_);rintro e w' ⟨rfl,rfl⟩)
       |(go_at_call 23;(with_reducible refine HD.out.mono ?_);rintro e w' ⟨rfl,rfl⟩)
       |fail)
      go_meet
      case rel=>exact⟨by rw[d0.out];rfl,rfl⟩
     ·have y0:(k==1)=false:=by simpa using hk
      have h0:decide (k=1)=false:=by simpa using hk
      rw[h0]at d0;clear hk h0
      go_wp2_with (first
       |(go_at_call 23;(with_reducible refine HS.out.mono ?_);rintro e w' ⟨rfl,rfl⟩)
       |(go_at_call 23;(with_reducible refine HD.out.mono ?_);rintro e w' ⟨rfl,rfl⟩)
       |fail)
      go_meet
      case rel=>exact⟨by rw[d0.out];simp;exact ZeR _ _,rfl⟩
  case rest=>
   obtain⟨rfl,hwc⟩:=hcut
   obtain⟨W,hW⟩:∃ W,wc=W:=⟨_,rfl⟩
   rw[hW]at hwc ⊢;subst hwc;clear hW
   go_upto_region 3 with fail
   cases k1
   ·go_quiet ((go_at_call 23;exact Calls.quiet_of_same (HK.out _)))
    go_wp2_with fail
    go_ret
    exact⟨rfl,Later.drewN l0.out _⟩
   ·cases E
    ·go_quiet ((go_at_call 23;exact Calls.quiet_of_same (HK.out _)))
     go_wp2_with fail
     go_ret
     exact⟨rfl,Later.drewN l0.out _⟩
    ·cases Z
     ·go_quiet ((go_at_call 23;exact Calls.quiet_of_same (HK.out _)))
      go_wp2_with fail
      go_ret
      exact⟨rfl,Later.drewN l0.out _⟩
     ·obtain⟨e1,e2,-, e4,-⟩:=HP.out
      have n0:p1=true/\p2=true:=by
       have:=HE.out;cases p1<;>cases p2<;>simp at this<;>simp
      obtain⟨rfl,rfl⟩:=n0;obtain⟨f0,f1⟩:=Zdm.1 e1;obtain⟨t0,t1⟩:=Zdm.1 e2;obtain⟨i,rfl⟩:=Int.eq_ofNat_of_zero_le f0;obtain⟨j,rfl⟩:=Int.eq_ofNat_of_zero_le t0;have k0:i<c.parts.length:=by omega
      have m0:j<c.parts.length:=by omega
      obtain⟨b,o,rfl,hb,hc⟩:=Zz HH.out.1.rP k0;obtain⟨b',o',hbo,hb',hc'⟩:=Zz HH.out.1.rP m0
      have q0:b'=b/\o'=o:=by
       have:=Option.some.inj hbo;injection this with q1 q2 q3;exact⟨q1.symm,q2.symm⟩
      obtain⟨rfl,rfl⟩:=q0;have r1:=hc 0 (by omega);have r2:=hc' 0 (by omega);have p0:=hP _ (List.getElem_mem k0);have r0:=hP _ (List.getElem_mem m0);rw[Gc k0,Gc m0]at e4;obtain⟨lb,N,U,D,hlv,hN,hat,hLR⟩:=HH.out.2.ok;subst hlv;rw[hN]at p0 r0;have i0:=Hd (λw2 (h:Later W w2)=>W4 w2 lb N c.parts[i].level c.parts[j].level U D (hat.later h) hLR.up hLR.hi);rw[Qa hLR p0 r0,e4]at i0
      obtain⟨X,hX⟩:∃ X,c.parts[i]=X:=⟨_,rfl⟩
      obtain⟨Y,hY⟩:∃ Y,c.parts[j]=Y:=⟨_,rfl⟩
      rw[hX]at r1 i0;rw[hY]at r2 i0;simp only[XQ,List.getElem?_cons_zero,Nat.add_zero]at r1 r2
      obtain⟨n,hn⟩:∃ n,c.parts.length=n:=⟨_,rfl⟩
      rw[hn]at f1 t1 k2 hl1 hl3;clear hbo hc hc' p0 r0 e1 e2 e4 hX hY hn hP HH HP hat hLR hN k0 m0
      go_quiet ((first
       |(go_at_call 23;exact Calls.quiet_of_same (HK.out _))
       |(go_at_call 116;exact Calls.quiet_of_same (i0.out _ (Later.drewN (Later.refl _) _)))))
      go_wp2_with fail
      go_ret
      exact⟨rfl,Later.drewN l0.out _⟩
