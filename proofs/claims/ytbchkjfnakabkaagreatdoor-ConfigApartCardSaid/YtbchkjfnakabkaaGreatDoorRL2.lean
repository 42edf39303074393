import Derived.Test.YtbchkjfnakabkaaGreatDoorRP
import Derived.Test.YtbchkjfnakabkaaGreatDoorY8
set_option linter.unusedSimpArgs false
set_option linter.unusedVariables false
set_option maxHeartbeats 2000000
set_option maxRecDepth 100000
namespace Go.Proofs.YtbchkjfnakabkaaGreatDoor
open Go.RowKit PX PC
def rowM(n:Nat)(f:Nat->Bool):Array Value:=((List.range n).map λb=>Value.bool (f b)).toArray
theorem Ji(n:Nat)(f:Nat->Bool):(rowM n f).size=n:=by simp[rowM]
theorem Yh{n b:Nat}(f:Nat->Bool)(h:b<n):(rowM n f)[b]?=some (.bool (f b)):=by simp[rowM,h]
def RowsM(w:World)(lb fb n k:Nat)(R:Nat->Nat)(M:Mat):Prop:=
 (∀a,a<k->w.cell? ⟨fb,a,none⟩=some (.slice (some ⟨R a,0,none⟩) n n)/\w.heap[R a]?=some (.cells (rowM n (M a)) 4 (0,0))/\¬ R a=fb/\¬ R a=lb)/\∀ a b,a<k->b<k->R a=R b->a=b
structure DocLat (w:World) (lb n:Nat) (M:Mat):Prop where
 ex:∃ (fb cap:Nat) (R:Nat->Nat),w.heap[lb]?=some (.cells #[.int .i64 n,.slice (some ⟨fb,0,none⟩) n cap] 134 (0,0))/\¬ fb=lb/\RowsM w lb fb n n R M
theorem RowsM.later{w w':World}{lb fb n k:Nat}{R:Nat->Nat}{M:Mat}(h:RowsM w lb fb n k R M)(hl:Later w w'):RowsM w' lb fb n k R M:=
 ⟨λa ha=>by obtain⟨q1,q2,q3⟩:=h.1 a ha;exact⟨hl.cell q1,hl.block q2,q3⟩,h.2⟩
theorem DocLat.later{w w':World}{lb n:Nat}{M:Mat}(h:DocLat w lb n M)(hl:Later w w'):DocLat w' lb n M:=by
 obtain⟨fb,cap,R,h1,h2,h3⟩:=h.ex;exact⟨⟨fb,cap,R,hl.block h1,h2,h3.later hl⟩⟩
def levE(n:Nat)(a:Int):Bool:=decide (0<=a)&&decide (a<n)
theorem Vn(w:World)(lb n:Nat)(h:w.cell? ⟨lb,0,none⟩=some (.int .i64 n))(a:Int) :
 Calls Tryz.prog 91 #[.pointer (some ⟨lb,0,none⟩),.int .i64 a] w λe w'=>e=.returned (.bool (levE n a))/\w'=w:=by
 by_cases ha:0<=a
 ·have hd:decide (0<=a)=true:=decide_eq_true ha;have he:levE n a=decide (a<n):=by unfold levE;rw[hd];rfl
  rw[he];clear he ha
  go_enter Tryz.func91,Tryz.ntmps91
  go_wp2_with fail
  go_ret
  exact⟨rfl,rfl⟩
 ·have hd:decide (0<=a)=false:=decide_eq_false ha;have he:levE n a=false:=by unfold levE;rw[hd];rfl
  rw[he];clear he ha
  go_enter Tryz.func91,Tryz.ntmps91
  go_wp2_with fail
  go_ret
  exact⟨rfl,rfl⟩
def flE(M:Mat)(n:Nat)(a b:Int):Bool:=levE n a&&(levE n b&&M a.toNat b.toNat)
theorem Zan{n:Nat}{a:Int}(h:levE n a=true):∃ x:Nat,a=x/\x<n:=by
 simp only[levE,Bool.and_eq_true,decide_eq_true_eq]at h;obtain⟨x,rfl⟩:=Int.eq_ofNat_of_zero_le h.1;exact⟨x,rfl,by omega⟩
theorem QM{n x:Nat}(h:x<n):levE n (x:Int)=true:=by simp[levE];omega
theorem GY(w:World)(lb n:Nat)(M:Mat)(h:DocLat w lb n M)(a b:Int) :
 Calls Tryz.prog 94 #[.pointer (some ⟨lb,0,none⟩),.int .i64 a,.int .i64 b] w λe w'=>e=.returned (.bool (flE M n a b))/\w'=w:=by
 obtain⟨fb,cap,R,h1,h2,h3⟩:=h.ex;have HA:=Hd (Vn w lb n (Za h1 0) a);have HB:=Hd (Vn w lb n (Za h1 0) b);cases ea:levE n a
 ·have he:flE M n a b=false:=by unfold flE;rw[ea];rfl
  rw[ea]at HA;rw[he];clear he h ea h1 h2 h3
  go_enter Tryz.func94,Tryz.ntmps94
  go_wp2_with (first
   |(go_at_call 91;(with_reducible refine HA.out.mono ?_);rintro e w1 ⟨rfl,rfl⟩)
   |fail)
  go_ret
  exact⟨rfl,rfl⟩
 ·cases eb:levE n b
  ·have he:flE M n a b=false:=by unfold flE;rw[ea,eb];rfl
   rw[ea]at HA;rw[eb]at HB;rw[he];clear he h ea eb h1 h2 h3
   go_enter Tryz.func94,Tryz.ntmps94
   go_wp2_with (first
    |(go_at_call 91;(first|(with_reducible refine HA.out.mono ?_)|(with_reducible refine HB.out.mono ?_));rintro e w1 ⟨rfl,rfl⟩)
    |fail)
   go_ret
   exact⟨rfl,rfl⟩
  ·have he:flE M n a b=M a.toNat b.toNat:=by unfold flE;rw[ea,eb];rfl
   rw[ea]at HA;rw[eb]at HB;rw[he];obtain⟨x,rfl,hx⟩:=Zan ea;obtain⟨y,rfl,hy⟩:=Zan eb;obtain⟨q1,q2,-⟩:=h3.1 x hx;have c1:w.cell? ⟨lb,1,none⟩=some (.slice (some ⟨fb,0,none⟩) n cap):=Za h1 1;have q3:=(Za q2 y).trans (Yh (M x) hy)
   obtain⟨z,hz⟩:∃ z,M x y=z:=⟨_,rfl⟩
   rw[hz]at q3;show Calls _ _ _ _ λe w'=>e=.returned (.bool (M x y))/\w'=w
   rw[hz];clear he h ea eb h1 h2 h3 q2 hz
   go_enter Tryz.func94,Tryz.ntmps94
   go_wp2_with (first
    |(go_at_call 91;(first|(with_reducible refine HA.out.mono ?_)|(with_reducible refine HB.out.mono ?_));rintro e w1 ⟨rfl,rfl⟩)
    |fail)
   go_ret
   exact⟨rfl,rfl⟩
theorem GX(w:World)(lb n:Nat)(M:Mat)(h:DocLat w lb n M)(x y:Nat)(hx:x<n)(hy:y<n) :
 Calls Tryz.prog 94 #[.pointer (some ⟨lb,0,none⟩),.int .i64 (x:Int),.int .i64 (y:Int)] w λe w'=>e=.returned (.bool (M x y))/\w'=w:=by
 have:=GY w lb n M h x y;have he:flE M n x y=M x y:=by unfold flE;rw[QM hx,QM hy];rfl
 rwa [he]at this
theorem VJ(p:Nat->Bool)(d:Nat):(List.range (d+1)).all p=((List.range d).all p&&p d):=by rw[List.range_succ,List.all_append];simp
theorem JX{p:Nat->Bool}{n:Nat}(h:∀ c,c<n->p c=false):(List.range n).any p=false:=by
 rw[List.any_eq_false];intro c hc;rw[h c (List.mem_range.1 hc)];decide
theorem VI{p:Nat->Bool}{n c:Nat}(hc:c<n)(h:p c=true):(List.range n).any p=true:=List.any_eq_true.2 ⟨c,List.mem_range.2 hc,h⟩
theorem Zdb(w:World)(lb n:Nat)(M:Mat)(h:DocLat w lb n M)(h8:n<=8)(a b:Nat)(ha:a<n)(hb:b<n) :
 Calls Tryz.prog 92 #[.pointer (some ⟨lb,0,none⟩),.int .i64 (a:Int),.int .i64 (b:Int)] w λe w'=>∃ r:Int,e=.returned (.int .i64 r)/\decide (r<0)=!hasJ M n a b/\w'=w:=by
 obtain⟨fb,cap,R,h1,h2,h3⟩:=h.ex;have a0:=Hd (λ(x y:Nat) (hx:x<n) (hy:y<n)=>GX w lb n M h x y hx hy);have c0:w.cell? ⟨lb,0,none⟩=some (.int .i64 n):=Za h1 0;clear h h1 h2 h3
 go_enter Tryz.func92,Tryz.ntmps92
 go_wp2_with fail
 go_loopw [7] (λvc wr=>∃ c:Nat,c<=n/\vc=.int .i64 (c:Int)/\(∀q,q<c->WU M n a b q=false)/\wr=w) (λvc _=>n - (intOf vc).toNat)
 case atStart=>exact⟨0,by omega,rfl,λq hq=>absurd hq (by omega),rfl⟩
 case round=>
  obtain⟨c,hc,rfl,hno,rfl⟩:=hrel;have f0:=Hd hno;clear hno;by_cases hlt:c<n
  ·have b0:=Hd (a0.out a c ha hlt);have d0:=Hd (a0.out b c hb hlt)
   obtain⟨m1,e1⟩:∃ m,M a c=m:=⟨_,rfl⟩
   obtain⟨m2,e2⟩:∃ m,M b c=m:=⟨_,rfl⟩
   have i0:=Hd (show WU M n a b c=((m1&&m2)&&(List.range n).all λd=>!(M a d&&M b d&&!M c d)) by rw[<-e1,<-e2];rfl);rw[e1]at b0;rw[e2]at d0;clear e1 e2
   go_upto_region 4 with fail
   go_cut [8] from 18 to 27 (λv wx=>v=.bool (m1&&m2)/\wx=wr)
   case first=>
    cases m1
    ·go_wp2_with (first
      |(go_at_call 94;(with_reducible refine b0.out.mono ?_);rintro e w1 ⟨rfl,rfl⟩)
      |fail)
     go_meet
     case rel=>exact⟨rfl,rfl⟩
    ·go_wp2_with (first
      |(go_at_call 94;(first|(with_reducible refine b0.out.mono ?_)|(with_reducible refine d0.out.mono ?_));rintro e w1 ⟨rfl,rfl⟩)
      |fail)
     go_meet
     case rel=>exact⟨by rw[Bool.true_and],rfl⟩
   case rest=>
    obtain⟨rfl,rfl⟩:=hcut;clear b0 d0
    go_wp2_with fail
    go_loopw [8,9] (λvl vd wx=>∃ d:Nat,d<=n/\vd=.int .i64 (d:Int)/\vl=.bool ((m1&&m2)&&(List.range d).all λd=>!(M a d&&M b d&&!M c d))/\wx=wc) (λ_ vd _=>n - (intOf vd).toNat)
    case atStart=>exact⟨0,by omega,rfl,by simp,rfl⟩
    case round=>
     obtain⟨d,hd,rfl,rfl,rfl⟩:=hrel;by_cases hdt:d<n
     ·have g0:=Hd (a0.out a d ha hdt);have h0:=Hd (a0.out b d hb hdt);have e0:=Hd (a0.out c d hlt hdt);have HS:=Hd (VJ (λd=>!(M a d&&M b d&&!M c d)) d)
      obtain⟨ac,hac⟩:∃ x,((m1&&m2)&&(List.range d).all λd=>!(M a d&&M b d&&!M c d))=x:=⟨_,rfl⟩
      have b0:=Hd hac;rw[hac]
      obtain⟨f1,e1⟩:∃ m,M a d=m:=⟨_,rfl⟩
      obtain⟨f2,e2⟩:∃ m,M b d=m:=⟨_,rfl⟩
      obtain⟨f3,e3⟩:∃ m,M c d=m:=⟨_,rfl⟩
      rw[e1]at g0;rw[e2]at h0;rw[e3]at e0;have HR:=Hd (show((m1&&m2)&&(List.range (d+1)).all λd=>!(M a d&&M b d&&!M c d))=(ac&&!(f1&&f2&&!f3)) by rw[HS.out,<-Bool.and_assoc,hac,e1,e2,e3]);clear e1 e2 e3 hac HS;cases f1<;>cases f2<;>cases f3
      all_goals
       go_wp2_with (first
        |(go_at_call 94;(first|(with_reducible refine g0.out.mono ?_)|(with_reducible refine h0.out.mono ?_)|(with_reducible refine e0.out.mono ?_));rintro e w1 ⟨rfl,rfl⟩)
        |fail)
       exact⟨⟨d+1,by omega,by simp,by rw[HR.out];simp,by first|trivial|rfl⟩,by simp only[intOf];omega⟩
     ·obtain rfl:d=n:=by omega
      rw[<-i0.out];cases hle:WU M d a b c
      ·go_wp2_with fail
       refine⟨⟨c+1,by omega,by simp,λq hq=>?_,by first|trivial|rfl⟩,by simp only[intOf];omega⟩;by_cases e:q=c
       ·rw[e];exact hle
       ·exact f0.out q (by omega)
      ·go_wp2_with fail
       go_ret
       exact⟨(c:Int),rfl,by rw[show hasJ M d a b=true from VI hlt hle];exact decide_eq_false (by omega),rfl⟩
  ·obtain rfl:c=n:=by omega
   go_wp2_with fail
   go_ret
   exact⟨-1,rfl,by rw[show hasJ M c a b=false from JX f0.out];rfl,rfl⟩
theorem Zda(w:World)(lb n:Nat)(M:Mat)(h:DocLat w lb n M)(h8:n<=8)(a b:Nat)(ha:a<n)(hb:b<n) :
 Calls Tryz.prog 93 #[.pointer (some ⟨lb,0,none⟩),.int .i64 (a:Int),.int .i64 (b:Int)] w λe w'=>∃ r:Int,e=.returned (.int .i64 r)/\decide (r<0)=!hasG M n a b/\w'=w:=by
 obtain⟨fb,cap,R,h1,h2,h3⟩:=h.ex;have a0:=Hd (λ(x y:Nat) (hx:x<n) (hy:y<n)=>GX w lb n M h x y hx hy);have c0:w.cell? ⟨lb,0,none⟩=some (.int .i64 n):=Za h1 0;clear h h1 h2 h3
 go_enter Tryz.func93,Tryz.ntmps93
 go_wp2_with fail
 go_loopw [7] (λvc wr=>∃ c:Nat,c<=n/\vc=.int .i64 (c:Int)/\(∀q,q<c->Db M n a b q=false)/\wr=w) (λvc _=>n - (intOf vc).toNat)
 case atStart=>exact⟨0,by omega,rfl,λq hq=>absurd hq (by omega),rfl⟩
 case round=>
  obtain⟨c,hc,rfl,hno,rfl⟩:=hrel;have f0:=Hd hno;clear hno;by_cases hlt:c<n
  ·have b0:=Hd (a0.out c a hlt ha);have d0:=Hd (a0.out c b hlt hb)
   obtain⟨m1,e1⟩:∃ m,M c a=m:=⟨_,rfl⟩
   obtain⟨m2,e2⟩:∃ m,M c b=m:=⟨_,rfl⟩
   have i0:=Hd (show Db M n a b c=((m1&&m2)&&(List.range n).all λd=>!(M d a&&M d b&&!M d c)) by rw[<-e1,<-e2];rfl);rw[e1]at b0;rw[e2]at d0;clear e1 e2
   go_upto_region 4 with fail
   go_cut [8] from 18 to 27 (λv wx=>v=.bool (m1&&m2)/\wx=wr)
   case first=>
    cases m1
    ·go_wp2_with (first
      |(go_at_call 94;(with_reducible refine b0.out.mono ?_);rintro e w1 ⟨rfl,rfl⟩)
      |fail)
     go_meet
     case rel=>exact⟨rfl,rfl⟩
    ·go_wp2_with (first
      |(go_at_call 94;(first|(with_reducible refine b0.out.mono ?_)|(with_reducible refine d0.out.mono ?_));rintro e w1 ⟨rfl,rfl⟩)
      |fail)
     go_meet
     case rel=>exact⟨by rw[Bool.true_and],rfl⟩
   case rest=>
    obtain⟨rfl,rfl⟩:=hcut;clear b0 d0
    go_wp2_with fail
    go_loopw [8,9] (λvl vd wx=>∃ d:Nat,d<=n/\vd=.int .i64 (d:Int)/\vl=.bool ((m1&&m2)&&(List.range d).all λd=>!(M d a&&M d b&&!M d c))/\wx=wc) (λ_ vd _=>n - (intOf vd).toNat)
    case atStart=>exact⟨0,by omega,rfl,by simp,rfl⟩
    case round=>
     obtain⟨d,hd,rfl,rfl,rfl⟩:=hrel;by_cases hdt:d<n
     ·have g0:=Hd (a0.out d a hdt ha);have h0:=Hd (a0.out d b hdt hb);have e0:=Hd (a0.out d c hdt hlt);have HS:=Hd (VJ (λd=>!(M d a&&M d b&&!M d c)) d)
      obtain⟨ac,hac⟩:∃ x,((m1&&m2)&&(List.range d).all λd=>!(M d a&&M d b&&!M d c))=x:=⟨_,rfl⟩
      have b0:=Hd hac;rw[hac]
      obtain⟨f1,e1⟩:∃ m,M d a=m:=⟨_,rfl⟩
      obtain⟨f2,e2⟩:∃ m,M d b=m:=⟨_,rfl⟩
      obtain⟨f3,e3⟩:∃ m,M d c=m:=⟨_,rfl⟩
      rw[e1]at g0;rw[e2]at h0;rw[e3]at e0;have HR:=Hd (show((m1&&m2)&&(List.range (d+1)).all λd=>!(M d a&&M d b&&!M d c))=(ac&&!(f1&&f2&&!f3)) by rw[HS.out,<-Bool.and_assoc,hac,e1,e2,e3]);clear e1 e2 e3 hac HS;cases f1<;>cases f2<;>cases f3
      all_goals
       go_wp2_with (first
        |(go_at_call 94;(first|(with_reducible refine g0.out.mono ?_)|(with_reducible refine h0.out.mono ?_)|(with_reducible refine e0.out.mono ?_));rintro e w1 ⟨rfl,rfl⟩)
        |fail)
       exact⟨⟨d+1,by omega,by simp,by rw[HR.out];simp,by first|trivial|rfl⟩,by simp only[intOf];omega⟩
     ·obtain rfl:d=n:=by omega
      rw[<-i0.out];cases hle:Db M d a b c
      ·go_wp2_with fail
       refine⟨⟨c+1,by omega,by simp,λq hq=>?_,by first|trivial|rfl⟩,by simp only[intOf];omega⟩;by_cases e:q=c
       ·rw[e];exact hle
       ·exact f0.out q (by omega)
      ·go_wp2_with fail
       go_ret
       exact⟨(c:Int),rfl,by rw[show hasG M d a b=true from VI hlt hle];exact decide_eq_false (by omega),rfl⟩
  ·obtain rfl:c=n:=by omega
   go_wp2_with fail
   go_ret
   exact⟨-1,rfl,by rw[show hasG M c a b=false from JX f0.out];rfl,rfl⟩
