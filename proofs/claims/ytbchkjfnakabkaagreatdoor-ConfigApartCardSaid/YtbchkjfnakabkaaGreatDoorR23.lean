import Derived.Test.YtbchkjfnakabkaaGreatDoorR1b
import Derived.Test.YtbchkjfnakabkaaGreatDoorB34
import Derived.ScopeJumps
import Derived.Laws.Bits64
import Derived.Deep.AppendLies
set_option linter.unusedSimpArgs false
set_option linter.unusedVariables false
set_option maxHeartbeats 2000000
set_option maxRecDepth 100000
namespace Go.Proofs.YtbchkjfnakabkaaGreatDoor
open Go.RowKit PX
theorem Zn{r:Nat->Prop}{w w':World}{b1 b2:Nat}{X Y:Obj}(o:Only r w w')(l1:b1<w.heap.size)(n1:¬ r b1)(l2:b2<w.heap.size)(n2:¬ r b2)(H1:Hid (w.heap[b1]?=some X))(H2:Hid (w.heap[b2]?=some Y)) :
 Hid (w'.heap[b1]?=some X)/\Hid (w'.heap[b2]?=some Y)/\b1<w'.heap.size/\b2<w'.heap.size:=
 ⟨(o.block b1 l1 n1).trans H1.out,(o.block b2 l2 n2).trans H2.out,Nat.lt_of_lt_of_le l1 o.size,Nat.lt_of_lt_of_le l2 o.size⟩
theorem Zg5{P:Program}{c:Code}{Q Q':Exit->Act->World->Prop}{a:Act}{w:World}(h:c.wp P Q a w)(hq:∀ e a w,Q e a w->Q' e a w):c.wp P Q' a w:=
 λb k cs=>let ⟨e,a',w',q,r⟩:=h b k cs;⟨e,a',w',hq _ _ _ q,r⟩
theorem V9{P:Program}{a:Act}{w:World}{Q:Exit->Act->World->Prop}{c X:Code}(l:Nat)(J:Act->World->Prop)(μ:Act->World->Nat)(hf:findLabel c l=some (Code.skip.seq X))
 (pass:∀ a w,J a w->X.wp P (Exit.jump l (λa' w'=>J a' w'/\μ a' w'<μ a w) Q) a w)
 (first:(∀a w,J a w->X.wp P (Exit.jump l J Q) a w)->c.wp P (Exit.jump l J Q) a w):(Code.scope c).wp P Q a w:=by
 refine wp_scope_jumps l J μ hf (first λa w hJ=>Zg5 (pass a w hJ) ?_) λa w hJ=>wp_seq (wp_skip (pass a w hJ))
 intro e a' w' h
 cases e with
 |goto l'=>exact⟨h.1,h.2.1⟩
 |_=>exact h
def Q4.cells(q:Q4):Array Value:=#[.int .u64 q.a,.int .u64 q.b,.int .u64 q.c,.int .u64 q.d]
def Zap(rb:Nat)(w:World):Nat:=match w.cell? ⟨rb,0,none⟩ with|some (.string s)=>s.size|_=>0
theorem Yw{w:World}{rb:Nat}{l:List UInt8}(h:ReadAt w rb l):Zap rb w=l.length:=by
 have:=ZM h;unfold Zap;rw[this];simp[ByteArray.size]
def JG(nt:Bool):Option (Q4 × List UInt8)->Option (Q4 × List UInt8)
 |none=>none
 |some (q,r)=>if (if nt then q.not else q).isNone then none else some (if nt then q.not else q,r)
theorem Dw(f:Nat)(l:List UInt8):Yt f l=JG (Zg 94 l) (ZU f Q4.none (if Zg 94 l then l.tail else l)):=by
 unfold Yt
 cases ZU f Q4.none (if Zg 94 l then l.tail else l) with
 |none=>rfl
 |some p=>rfl
theorem Ya:∀ (k:Nat) (q:Q4) (n:Nat),q.withAll n (k+1)=(q.withAll n k).with (n+k)
 |0,q,n=>rfl
 |k+1,q,n=>by
  show(q.with n).withAll (n+1) (k+1)=((q.with n).withAll (n+1) k).with (n+(k+1))
  rw[Ya k (q.with n) (n+1),show n+1+k=n+(k+1) by omega]
theorem Zi4(n:Nat)(hn:n<256):Go.bits .and .i64 (n:Int) 63=((n%64:Nat):Int):=by
 have key:∀ n:Nat,n<256->Go.bits .and .i64 (n:Int) 63=((n%64:Nat):Int):=by decide +kernel
 exact key n hn
theorem Jx(W:Int)(k:Nat)(hW:U64 W)(hk:k<64):Go.bits .or .u64 W (IntKind.u64.wrap (2 ^ k))=YD W k:=ZiG W k ⟨hW.1,by have:=hW.2;omega⟩ hk
theorem Zgo(q:Q4)(w:World):(Op.equalIn 10000 138 (.agg (Q4.cells q)) (.agg #[.int .u64 0,.int .u64 0,.int .u64 0,.int .u64 0])).run Tryz.prog w=.ok q.isNone w:=by
 unfold Q4.cells;rw[Zhh];rfl
theorem xor1{x:Int}(h:U64 x):Go.bits .xor .u64 IntKind.u64.max x=18446744073709551615 - x:=by
 obtain⟨h1,h2⟩:=h
 obtain⟨n,rfl⟩:∃ n:Nat,x=n:=⟨x.toNat,by omega⟩
 have hn:n<2 ^ 64:=by omega
 have hb:(BitVec.ofNat 64 n).toNat=n:=by simp;omega
 have key:18446744073709551615 ^^^ n=18446744073709551615 - n:=by
  have h:=congrArg BitVec.toNat (BitVec.allOnes_xor (x:=BitVec.ofNat 64 n));rw[BitVec.toNat_xor,BitVec.toNat_not,BitVec.toNat_allOnes,hb]at h;exact h
 rw[show IntKind.u64.max=((18446744073709551615:Nat):Int) from rfl,bits_xor_u64_nat _ _ (by omega) (by omega),key];omega
theorem UK{w:World}{b k:Nat}{o:Obj}{v0 v1 v2 v3:Value}(h:w.heap[k]?=some o)(hk:k≠b) :
 ((((w.setCell ⟨b,0,none⟩ v0).setCell ⟨b,1,none⟩ v1).setCell ⟨b,2,none⟩ v2).setCell ⟨b,3,none⟩ v3).heap[k]?=some o:=by
 rw[Below.heap_setCell _ _ _ _ (by exact λe=>hk e),Below.heap_setCell _ _ _ _ (by exact λe=>hk e),Below.heap_setCell _ _ _ _ (by exact λe=>hk e),Below.heap_setCell _ _ _ _ (by exact λe=>hk e)];exact h
theorem WI{r:Nat->Prop}{a w:World}{b:Nat}{v0 v1 v2 v3:Value}(h:Only r a w)(hb:a.heap.size<=b) :
 Only r a ((((w.setCell ⟨b,0,none⟩ v0).setCell ⟨b,1,none⟩ v1).setCell ⟨b,2,none⟩ v2).setCell ⟨b,3,none⟩ v3):=
 (((h.setCell (p:=⟨b,0,none⟩) (.inr hb) _).setCell (p:=⟨b,1,none⟩) (.inr hb) _).setCell (p:=⟨b,2,none⟩) (.inr hb) _).setCell (p:=⟨b,3,none⟩) (.inr hb) _
theorem Zdj(q:Q4):(Q4.cells q).all (·.oneCell')=true:=by simp[Q4.cells,Value.oneCell']
theorem Gi:(Tryz.prog.info? 138).map (·.size)=some 4:=by kernel_rfl
theorem Un{f:Nat}{q:Q4}{l:List UInt8}(h:Xc q l=none):ZU f q l=none:=by
 cases f with
 |zero=>rfl
 |succ f=>simp[ZU,h]
theorem WR{f:Nat}{q q':Q4}{l r:List UInt8}(h:Xc q l=some (q',r))(hf:l.length<=f):∃ f',f=f'+1/\r.length<=f'/\ZU f q l=if Zg 93 r then some (q',r.tail) else ZU f' q' r:=by
 have:=GA h
 cases f with
 |zero=>omega
 |succ f=>exact⟨f,rfl,by omega,by simp[ZU,h]⟩
def Zja(rb nb:Nat)(nt:Bool)(w:World)(o:Option (Q4 × List UInt8))(a:Act)(w':World):Prop:=
 (∃(u1 u5 u6 u7 u8 u9 u10 u11 u12 u13 u14 u15 u16 u17 u18 u19 u20 u21 u22 u23 u24 u25 u26 u27 u28 u29 u30 u31 u32 u33 u34 u35 u36 u37 u38 u39 u40 u41 u42 u43 u44 u45 u46 u47 u48 u49 u50 u51 u52 u53 u54 u55:Value),a={ tmps:=#[.pointer (some ⟨rb,0,none⟩),u1,.pointer (some ⟨nb,0,none⟩),.pointer (some ⟨nb+1,0,none⟩),.bool nt,u5,u6,u7,u8,u9,u10,u11,u12,u13,u14,u15,u16,u17,u18,u19,u20,u21,u22,u23,u24,u25,u26,u27,u28,u29,u30,u31,u32,u33,u34,u35,u36,u37,u38,u39,u40,u41,u42,u43,u44,u45,u46,u47,u48,u49,u50,u51,u52,u53,u54,u55],defers:=[] }) /\
 ∃ (q:Q4) (l:List UInt8) (f:Nat),ReadAt w' rb l∧w'.heap[nb+1]?=some (.cells (Q4.cells q) 138 (0,0))∧w'.heap[nb]?=some (.cells (Q4.cells Q4.none) 138 (0,0))∧Only (fun k=>k=rb) w w'∧q.Ok ∧
  l.length<=f/\l.length<=1000/\ZU f q l=o
theorem Zr(w:World)(o:Obj)(n:Nat)(hn:w.heap.size=n):(w.alloc o).heap[n]?=some o:=by subst hn;exact Zd w o
theorem JW{w:World}{rb:Nat}{l:List UInt8}(h:ReadAt w rb l)(a b:Obj):ReadAt ((w.alloc a).alloc b) rb l:=Ze (Ze h a) b
theorem Du(w:World)(rb:Nat)(l:List UInt8)(f:Nat)(h:ReadAt w rb l)(hf:l.length<=f)(hl:l.length<=1000) :
 Calls Tryz.prog 196 #[.pointer (some ⟨rb,0,none⟩)] w λe w'=>Reads rb w (Yt f l) (λq=>.agg (Q4.cells q)) e w':=by
 have H0:=Zb h
 obtain⟨nt,hnt⟩:∃ nt,Zg 94 l=nt:=⟨_,rfl⟩
 obtain⟨o,ho⟩:∃ o,ZU f Q4.none (if nt then l.tail else l)=o:=⟨_,rfl⟩
 have hR:=Dw f l;rw[hnt,ho]at hR;have HR:=Hd hR;clear hR;have HO:=Hd ho;clear ho
 obtain⟨l1,hl1⟩:∃ l1,(if nt then l.tail else l)=l1:=⟨_,rfl⟩
 have f1:=λw1 (h1:ReadAt w1 rb l)=>Ug w1 rb l 94 h1
 rw[hnt]at f1;rw[hl1]at HO f1;have T1:l1.length<=f/\l1.length<=1000:=by rw[<-hl1];have:=Xu l;split<;>omega
 have HT:=Hd f1;clear f1 hl1 hnt
 obtain⟨nb,hnb⟩:∃ nb,w.heap.size=nb:=⟨_,rfl⟩
 have HW:=Hd h;clear h
 go_enter Tryz.func196,Tryz.ntmps196
 go_wp2_with fail
 refine V9 0 (Zja rb nb nt w o) (λ_ w'=>Zap rb w') rfl ?_ ?_
 ·rintro a w' ⟨⟨u1,u5,u6,u7,u8,u9,u10,u11,u12,u13,u14,u15,u16,u17,u18,u19,u20,u21,u22,u23,u24,u25,u26,u27,u28,u29,u30,u31,u32,u33,u34,u35,u36,u37,u38,u39,u40,u41,u42,u43,u44,u45,u46,u47,u48,u49,u50,u51,u52,u53,u54,u55,rfl⟩,q,l',f',hr,hs,hn,hon,hq,hlf,hl1k,k2⟩;clear HT HO HW T1 hf hl;have i2:=Hd k2;clear k2;have HQ:=Hd hq;clear hq;have HS:=Hd hs;clear hs;have HN:=Hd hn;clear hn;have P2:=Hd hon;clear hon;have y0:=Hd (QG w' rb ⟨#[92,93,94,45]⟩ l' hr hl1k);have M1:=Yw hr;clear hr;have m2:=Hd M1;clear M1
  cases h1:one Yn l' with
  |none=>
   have y2:=Hd ((Un (f:=f') (q:=q) (by simp[Xc,h1])).symm.trans i2.out);have H1:=Hd h1;clear h1
   go_wp2_with (go_at_call 197;refine y0.out.mono ?_;rintro e w1 hR;obtain⟨rfl,o1⟩:=hR.none H1.out)
   exact⟨rfl,P2.out.then o1,.inl ⟨by rw[HR.out,<-y2.out];rfl,rfl⟩⟩
  |some ar=>
   obtain⟨a,r⟩:=ar;have I3:=Ul h1
   obtain⟨b45,hb45⟩:∃ b45,Zg 45 r=b45:=⟨_,rfl⟩
   obtain⟨r1,hr1⟩:∃ r1,(if b45 then r.tail else r)=r1:=⟨_,rfl⟩
   have I1:=Hd (λw1 (h:ReadAt w1 rb r)=>by
    have h:=Ug w1 rb r 45 h;rw[hb45,hr1]at h
    exact h)
   have b3:r1.length<=r.length:=by rw[<-hr1];have:=Xu r;split<;>omega
   have H1:=Hd h1;clear h1;have O2:=Hd hb45;clear hb45;have j3:=Hd hr1;clear hr1
   go_upto_if 13 with(first
    |(go_at_call 197;refine y0.out.mono ?_;rintro e w1 hR;obtain⟨rfl,hr1',o1⟩:=hR.some H1.out)
    |(go_at_call 188;refine(I1.out _ hr1').mono ?_;rintro e w2 ⟨rfl,h2,o2⟩))
   go_cut [6] from 12 to 15 (λv wr=>∃ (b:Nat) (r2:List UInt8),v=.int .i64 b/\ReadAt wr rb r2/\Only (λk=>k=rb) w' wr/\b<256/\Xc q l'=(if a<=b then some (q.withAll a (b+1 - a),r2) else none)/\r2.length<l'.length)
   case first=>
    have Z2:=Hd (o1.then o2);clear o1 o2
    cases b45 with
    |false=>
     obtain rfl:r=r1:=j3.out
     go_wp2_with fail
     go_meet
     case rel=>
      refine⟨a,r,rfl,h2,Z2.out,I3.2,?_,I3.1⟩;unfold Xc;rw[H1.out];simp only[O2.out,Bool.false_eq_true,if_false,Nat.le_refl,if_true];rw[show a+1 - a=1 by omega]
    |true=>
     obtain rfl:r.tail=r1:=j3.out;have O1:=Hd (QG w2 rb ⟨#[92,93,94,45]⟩ r.tail h2 (by omega))
     cases h3:one Yn r.tail with
     |none=>
      have P1:Xc q l'=none:=by
       unfold Xc;rw[H1.out];simp only[O2.out,if_true,h3]
      have y2:=Hd ((Un (f:=f') P1).symm.trans i2.out);have H3:=Hd h3;clear h3 P1
      go_wp2_with (go_at_call 197;refine O1.out.mono ?_;rintro e w3 hR;obtain⟨rfl,o3⟩:=hR.none H3.out)
      exact⟨rfl,(P2.out.then Z2.out).then o3,.inl ⟨by rw[HR.out,<-y2.out];rfl,rfl⟩⟩
     |some br=>
      obtain⟨b,r2⟩:=br;have hb:=Ul h3;have H3:=Hd h3;clear h3
      go_wp2_with (go_at_call 197;refine O1.out.mono ?_;rintro e w3 hR;obtain⟨rfl,hr3,o3⟩:=hR.some H3.out)
      go_meet
      case rel=>
       refine⟨b,r2,rfl,hr3,Z2.out.then o3,hb.2,?_,by have:=Xu r;omega⟩;unfold Xc;rw[H1.out];simp only[O2.out,if_true,H3.out]
   case rest=>
    clear h2 o1 o2;obtain⟨b,r2,rfl,hr2,honc,hb256,P1,hr2l⟩:=hcut;have n3:=Hd P1;clear P1;have M3:=Hd hr2;clear hr2;have i1:=Hd honc;clear honc;clear I1 y0 j3 O2 b3 H1;by_cases hab:a<=b
    ·obtain⟨f2,rfl,hf2,hcl2⟩:=WR (f:=f') (n3.out.trans (if_pos hab)) hlf;have A2:=Hd (hcl2.symm.trans i2.out);clear hcl2;have k3:(a:Int)<=b:=by omega
     have d3:nb+1<w'.heap.size:=Zb HS.out;have hnbr:rb<nb:=by omega
     have J3:wc.heap[nb+1]?=some (.cells (Q4.cells q) 138 (0,0)):=by
      rw[i1.out.block (nb+1) d3 (by omega)];exact HS.out
     have S3:=Hd J3;clear J3
     go_wp2_with (go_at_call 174;refine(Xs rfl _).mono ?_;rintro e w4 ⟨rfl,rfl⟩)
     go_loopw [5] (λv wr=>∃ j:Nat,j<=b+1 - a/\v=.int .i64 ((a+j:Nat):Int)/\wr.heap[nb+1]?=some (.cells (Q4.cells (q.withAll a j)) 138 (0,0))/\Only (λk=>k=nb+1) w4 wr) (λv _=>b+1 - (intOf v).toNat)
     case atStart=>exact⟨0,by omega,rfl,S3.out,Only.refl _ _⟩
     case round=>
      obtain⟨j,hj,rfl,hsr,honr⟩:=hrel;have W1:=Q4.withAll_ok HQ.out (k:=j) (n:=a) (by omega)
      obtain⟨q1,hq1⟩:∃ q1,q.withAll a j=q1:=⟨_,rfl⟩
      rw[hq1]at hsr W1;by_cases hje:j=b+1 - a
      ·have T3:¬ ((a+j:Nat):Int)<=b:=by omega
       subst hje;rw[show a+(b+1 - a)=b+1 by omega]at T3 ⊢
       obtain⟨b93,hb93⟩:∃ b93,Zg 93 r2=b93:=⟨_,rfl⟩
       have K2:ReadAt wr rb r2:=by
        unfold ReadAt;rw[honr.block rb (by have:=i1.out.size;omega) (by omega)];exact M3.out
       have M2:=P2.out.then i1.out;have q2:Only (λk=>k=rb) w wr:=M2.trans (honr.mono λ_ _ h=>.inr (by omega));have HX:=Hd q2;clear q2 M2;have N1:=honr;clear honr
       have p3:wr.heap[nb]?=some (.cells (Q4.cells Q4.none) 138 (0,0)):=by
        rw[N1.block nb (by have:=i1.out.size;omega) (by omega),i1.out.block nb (by omega) (by omega)];exact HN.out
       have I1:=Ug wr rb r2 93 K2;have q3:=Hd hq1;clear hq1;have E2:=Hd W1;clear W1;have y1:=Hd hsr;clear hsr;have g2:=Hd p3;clear p3 N1;have E1:=Zb g2.out;have m1:=Zb y1.out;rw[hb93]at I1;clear K2;have I2:=Hd hb93;clear hb93
       cases b93 with
       |false=>
        simp only[Bool.false_eq_true,if_false]at I1;have j2:=Hd I1;clear I1
        go_wp2_with (go_at_call 188;refine j2.out.mono ?_;rintro e w5 ⟨rfl,h5,o5⟩)
        go_step3
        refine⟨rfl,⟨⟨_,_,_,_,_,_,_,_,_,_,_,_,_,_,_,_,_,_,_,_,_,_,_,_,_,_,_,_,_,_,_,_,_,_,_,_,_,_,_,_,_,_,_,_,_,_,_,_,_,_,_,_,rfl⟩,q1,r2,f2,h5,(o5.block _ m1 (by omega)).trans y1.out,(o5.block _ E1 (by omega)).trans g2.out,HX.out.then o5,E2.out,hf2,by omega,?_⟩,?_⟩
        ·have h:=A2.out;rw[I2.out,q3.out]at h;exact h
        ·rw[Yw h5,m2.out];exact hr2l
       |true=>
        simp only[if_true]at I1;have j2:=Hd I1;clear I1
        have N3:some (q1,r2.tail)=o:=by
         have h:=A2.out;rw[I2.out,q3.out]at h;exact h
        subst N3
        cases nt with
        |false=>
         have A3:=Zgo q1;cases hno:q1.isNone
         ·have Z1:=Hd hno;rw[hno]at A3;clear hno
          go_wp2_with (first
           |(go_at_call 188;refine j2.out.mono ?_;rintro e w5 ⟨rfl,h5,o5⟩;have z0:=(o5.block _ m1 (by omega)).trans y1.out;have C1:=(o5.block _ E1 (by omega)).trans g2.out;have z2:=Hd z0;have r0:=Hd C1;clear z0 C1)
           |(go_at_call 174;refine(Xs rfl _).mono ?_;rintro e w6 ⟨rfl,rfl⟩)
           |refine wpList_load_row rfl 138 (.tmp 3) rfl (nb+1) rfl 138 (Q4.cells q1) (0,0) _ z2.out Tryz.underlying138 rfl Gi ?_
           |refine wpList_store_row rfl 138 (.tmp 2) (.tmp 55) rfl nb (Q4.cells q1) rfl rfl 138 _ r0.out Gi rfl (Zdj _) ?_)
          refine bodyPost_ret (results_cell_row rfl _ _ nb 138 (Q4.cells q1) (0,0) _ rfl (setRow_heap _ _ _ _ _ _ r0.out) Tryz.underlying138 rfl Gi) rfl ?_;refine⟨(HX.out.then o5).setRow (q:=nb) (.inr (by omega)) _,.inr ⟨q1,r2.tail,by rw[HR.out];simp[JG,Z1.out],rfl,?_⟩⟩;unfold ReadAt at h5 ⊢;rw[setRow_other _ _ _ _ (by omega)];exact h5
         ·have Z1:=Hd hno;rw[hno]at A3;clear hno
          go_wp2_with (first
           |(go_at_call 188;refine j2.out.mono ?_;rintro e w5 ⟨rfl,h5,o5⟩;have z0:=(o5.block _ m1 (by omega)).trans y1.out;have C1:=(o5.block _ E1 (by omega)).trans g2.out;have z2:=Hd z0;have r0:=Hd C1;clear z0 C1)
           |(go_at_call 174;refine(XW rfl _).mono ?_;rintro e w6 ⟨rfl,rfl⟩)
           |refine wpList_load_row rfl 138 (.tmp 3) rfl (nb+1) rfl 138 (Q4.cells q1) (0,0) _ z2.out Tryz.underlying138 rfl Gi ?_)
          exact⟨rfl,(HX.out.then o5),.inl ⟨by rw[HR.out];simp[JG,Z1.out],rfl⟩⟩
        |true=>
         have e2:Ws q1.not.a q1.not.b q1.not.c q1.not.d 0 0 0 0=q1.not.isNone:=rfl;have x0:Go.bits .xor .u64 (if IntKind.u64.signed=true then -1 else IntKind.u64.max) q1.a=q1.not.a:=xor1 E2.out.1;have x1:Go.bits .xor .u64 (if IntKind.u64.signed=true then -1 else IntKind.u64.max) q1.b=q1.not.b:=xor1 E2.out.2.1;have x2:Go.bits .xor .u64 (if IntKind.u64.signed=true then -1 else IntKind.u64.max) q1.c=q1.not.c:=xor1 E2.out.2.2.1;have x3:Go.bits .xor .u64 (if IntKind.u64.signed=true then -1 else IntKind.u64.max) q1.d=q1.not.d:=xor1 E2.out.2.2.2;cases hno:q1.not.isNone
         ·have Z1:=Hd hno;rw[hno]at e2;have W2:=Hd e2;clear e2;clear hno
          go_wp2_with (first
           |(go_at_call 188;refine j2.out.mono ?_;rintro e w5 ⟨rfl,h5,o5⟩;have z0:=(o5.block _ m1 (by omega)).trans y1.out;have C1:=(o5.block _ E1 (by omega)).trans g2.out;have z2:=Hd z0;have r0:=Hd C1;have s0:w5.cell? ⟨nb+1,0,none⟩=some (.int .u64 q1.a):=Za z0 0;have t0:=Zc z0 0;have s1:w5.cell? ⟨nb+1,1,none⟩=some (.int .u64 q1.b):=Za z0 1;have t1:=Zc z0 1;have s2:w5.cell? ⟨nb+1,2,none⟩=some (.int .u64 q1.c):=Za z0 2;have t2:=Zc z0 2;have s3:w5.cell? ⟨nb+1,3,none⟩=some (.int .u64 q1.d):=Za z0 3;have t3:=Zc z0 3;clear z0 C1)
           |(go_at_call 174;refine(Xs (by first|rfl|simp[W2.out]) _).mono ?_;rintro e w6 ⟨rfl,rfl⟩)
           |(refine wpList_store_row rfl 138 (.tmp 2) (.tmp 55) ?_ nb (Q4.cells q1.not) ?_ ?_ 138 (Q4.cells Q4.none) ?_ Gi rfl (Zdj _) ?_;(with_reducible rfl);rfl;rfl;exact UK r0.out (by omega)))
          refine bodyPost_ret (results_cell_row rfl _ _ nb 138 (Q4.cells q1.not) (0,0) _ rfl (setRow_heap _ _ _ _ _ _ (UK r0.out (by omega))) Tryz.underlying138 rfl Gi) rfl ?_;refine⟨(WI (b:=nb+1) (HX.out.then o5) (by omega)).setRow (q:=nb) (.inr (by omega)) _,.inr ⟨q1.not,r2.tail,by rw[HR.out];simp[JG,Z1.out],rfl,?_⟩⟩;unfold ReadAt at h5 ⊢;rw[setRow_other _ _ _ _ (by omega)];exact UK h5 (by omega)
         ·have Z1:=Hd hno;rw[hno]at e2;have W2:=Hd e2;clear e2;clear hno
          go_wp2_with (first
           |(go_at_call 188;refine j2.out.mono ?_;rintro e w5 ⟨rfl,h5,o5⟩;have z0:=(o5.block _ m1 (by omega)).trans y1.out;have C1:=(o5.block _ E1 (by omega)).trans g2.out;have z2:=Hd z0;have r0:=Hd C1;have s0:w5.cell? ⟨nb+1,0,none⟩=some (.int .u64 q1.a):=Za z0 0;have t0:=Zc z0 0;have s1:w5.cell? ⟨nb+1,1,none⟩=some (.int .u64 q1.b):=Za z0 1;have t1:=Zc z0 1;have s2:w5.cell? ⟨nb+1,2,none⟩=some (.int .u64 q1.c):=Za z0 2;have t2:=Zc z0 2;have s3:w5.cell? ⟨nb+1,3,none⟩=some (.int .u64 q1.d):=Za z0 3;have t3:=Zc z0 3;clear z0 C1)
           |(go_at_call 174;refine(XW (by first|rfl|simp[W2.out]) _).mono ?_;rintro e w6 ⟨rfl,rfl⟩))
          exact⟨rfl,(WI (b:=nb+1) (HX.out.then o5) (by omega)),.inl ⟨by rw[HR.out];simp[JG,Z1.out],rfl⟩⟩
      ·have K3:((a+j:Nat):Int)<=b:=by omega
       obtain⟨x,hx⟩:∃ x,a+j=x:=⟨_,rfl⟩
       rw[hx]at K3 ⊢;have C2:x<256:=by omega
       have s0:wr.cell? ⟨nb+1,0,none⟩=some (.int .u64 q1.a):=Za hsr 0;have s1:wr.cell? ⟨nb+1,1,none⟩=some (.int .u64 q1.b):=Za hsr 1;have s2:wr.cell? ⟨nb+1,2,none⟩=some (.int .u64 q1.c):=Za hsr 2;have s3:wr.cell? ⟨nb+1,3,none⟩=some (.int .u64 q1.d):=Za hsr 3;have fr0:=Zc hsr 0;have fr1:=Zc hsr 1;have fr2:=Zc hsr 2;have fr3:=Zc hsr 3;have y1:=Hd hsr;clear hsr
       go_wp2_with fail
       have T2:x<64\/(64<=x/\x<128)\/(128<=x/\x<192)\/192<=x:=by omega
       have j0:=Zi4 x C2
       obtain⟨k,hk⟩:∃ k,x%64=k:=⟨_,rfl⟩
       have g1:k<64:=by omega
       rw[hk]at j0;rcases T2 with h4|h4|h4|h4
       ·have hd:(x:Int)/64=0:=by omega
        have i3:=Jx q1.a k W1.1 g1
        go_region
        go_wp2_with fail
        refine⟨⟨j+1,by omega,by rw[<-hx];simp;omega,?_,(honr.setCell (p:=⟨nb+1,0,none⟩) (.inl rfl) _).drew⟩,by simp only[intOf];omega⟩;show(wr.setCell _ _).heap[nb+1]?=_;rw[Zf y1.out,Ya,hq1,hx];simp only[Q4.with,Q4.cells];rw[if_pos (by omega)];rw[show x=k by omega];rfl
       ·have hd:(x:Int)/64=1:=by omega
        have i3:=Jx q1.b k W1.2.1 g1
        go_region
        go_wp2_with fail
        refine⟨⟨j+1,by omega,by rw[<-hx];simp;omega,?_,(honr.setCell (p:=⟨nb+1,1,none⟩) (.inl rfl) _).drew⟩,by simp only[intOf];omega⟩;show(wr.setCell _ _).heap[nb+1]?=_;rw[Zf y1.out,Ya,hq1,hx];simp only[Q4.with,Q4.cells];rw[if_neg (by omega),if_pos (by omega)];rw[show x - 64=k by omega];rfl
       ·have hd:(x:Int)/64=2:=by omega
        have i3:=Jx q1.c k W1.2.2.1 g1
        go_region
        go_wp2_with fail
        refine⟨⟨j+1,by omega,by rw[<-hx];simp;omega,?_,(honr.setCell (p:=⟨nb+1,2,none⟩) (.inl rfl) _).drew⟩,by simp only[intOf];omega⟩;show(wr.setCell _ _).heap[nb+1]?=_;rw[Zf y1.out,Ya,hq1,hx];simp only[Q4.with,Q4.cells];rw[if_neg (by omega),if_neg (by omega),if_pos (by omega)];rw[show x - 128=k by omega];rfl
       ·have hd:(x:Int)/64=3:=by omega
        have i3:=Jx q1.d k W1.2.2.2 g1
        go_region
        go_wp2_with fail
        refine⟨⟨j+1,by omega,by rw[<-hx];simp;omega,?_,(honr.setCell (p:=⟨nb+1,3,none⟩) (.inl rfl) _).drew⟩,by simp only[intOf];omega⟩;show(wr.setCell _ _).heap[nb+1]?=_;rw[Zf y1.out,Ya,hq1,hx];simp only[Q4.with,Q4.cells];rw[if_neg (by omega),if_neg (by omega),if_neg (by omega)];rw[show x - 192=k by omega];rfl
    ·have k3:¬ (a:Int)<=b:=by omega
     have y2:=Hd ((Un (f:=f') (n3.out.trans (if_neg hab))).symm.trans i2.out)
     go_wp2_with (go_at_call 174;refine(XW rfl _).mono ?_;rintro e w4 ⟨rfl,rfl⟩)
     exact⟨rfl,P2.out.then i1.out,.inl ⟨by rw[HR.out,<-y2.out];rfl,rfl⟩⟩
 ·intro hX;have HX:=Hd hX;clear hX
  go_wp2_with (go_at_call 188;refine(HT.out _ (JW HW.out _ _)).mono ?_;rintro e w1 ⟨rfl,h1,o1⟩)
  go_step3
  rename (∀(a:Act) (w:World),_->_)=>hk
  refine hk _ _ (HX.out _ _ ⟨⟨_,_,_,_,_,_,_,_,_,_,_,_,_,_,_,_,_,_,_,_,_,_,_,_,_,_,_,_,_,_,_,_,_,_,_,_,_,_,_,_,_,_,_,_,_,_,_,_,_,_,_,_,rfl⟩,Q4.none,l1,f,h1,?_,?_,?_,Q4.none_ok,T1.1,T1.2,HO.out⟩)
  ·rw[o1.block (nb+1) (by simp;omega) (by omega)];rw[<-hnb];exact Zr _ _ _ (by simp)
  ·rw[o1.block nb (by simp;omega) (by omega)];rw[<-hnb];exact Ze (Zd _ _) _
  ·exact((Only.refl _ w).alloc _|>.alloc _).trans (o1.mono λ_ _ h=>.inl h)
end Go.Proofs.YtbchkjfnakabkaaGreatDoor
namespace Go.Proofs.YtbchkjfnakabkaaGreatDoor
open Go.RowKit PX
mutual
def RxA.blocks:RxA->List Nat
 |.node _ _ _ _ _ _ _ a _ l=>(match a with|some p=>[p.block]|none=>[])++X3 l
def X3:List RxA->List Nat
 |[]=>[]
 |x::xs=>x.blocks++X3 xs
end
theorem UB:∀ {l:List RxA} {b:Nat},b∈X3 l↔∃ x∈l,b∈x.blocks
 |[],b=>by simp[X3]
 |x::xs,b=>by simp[X3,UB]
mutual
theorem RxA.In.keep{w w':World}{B B':Nat}:∀ {x:RxA},x.In w B->(∀b∈x.blocks,b<B'/\∀ o,w'.cell? ⟨b,o,none⟩=w.cell? ⟨b,o,none⟩)->x.In w' B'
 |.node k mn mx s0 s1 s2 s3 a cap l,h,hk=>by
  simp only[RxA.In]at h ⊢;refine⟨h.1,h.2.1,h.2.2.1,h.2.2.2.1,?_⟩;rcases h.2.2.2.2 with h|⟨b,o,rfl,hb,hl⟩
  ·exact .inl h
  ·have y3:=hk b (by simp[RxA.blocks]);exact .inr ⟨b,o,rfl,y3.1,InL.keep y3.2 hl (λc hc=>hk c (by simp[RxA.blocks,hc]))⟩
theorem InL.keep{w w':World}{B B' b:Nat}(hb:∀ o,w'.cell? ⟨b,o,none⟩=w.cell? ⟨b,o,none⟩):∀ {l:List RxA} {o:Nat},InL w B b o l->(∀c∈X3 l,c<B'/\∀ o,w'.cell? ⟨c,o,none⟩=w.cell? ⟨c,o,none⟩)->InL w' B' b o l
 |[],_,_,_=>trivial
 |x::xs,o,h,hk=>by
  simp only[InL]at h ⊢;exact⟨λj hj=>(hb _).trans (h.1 j hj),RxA.In.keep h.2.1 (λc hc=>hk c (by simp[X3,hc])),InL.keep hb h.2.2 (λc hc=>hk c (by simp[X3,hc]))⟩
end
structure Kept (w:World) (B:Nat) (v1 v2:Value) (X:RxA):Prop where
 lies:X.In w w.heap.size
 far:∀ b∈X.blocks,B<=b/\b<w.heap.size/\v1.ownBlock≠some b/\v2.ownBlock≠some b
theorem Kept.later{w w':World}{B:Nat}{v1 v2 v1' v2':Value}{X:RxA}(h:Kept w B v1 v2 X)(hs:w.heap.size<=w'.heap.size)
 (hb:∀ b,B<=b->b<w.heap.size->v1.ownBlock≠some b->v2.ownBlock≠some b->w'.heap[b]?=w.heap[b]?/\v1'.ownBlock≠some b/\v2'.ownBlock≠some b):Kept w' B v1' v2' X:=by
 refine⟨h.lies.keep λb hbb=>?_,λb hbb=>?_⟩
 ·obtain⟨h1,h2,h3,h4⟩:=h.far b hbb;exact⟨by omega,λo=>World.cell?_of_block (w:=w) (hb b h1 h2 h3 h4).1⟩
 ·obtain⟨h1,h2,h3,h4⟩:=h.far b hbb;have:=hb b h1 h2 h3 h4;exact⟨h1,by omega,this.2.1,this.2.2⟩
def Xd:List RxA->List Value
 |[]=>[]
 |x::xs=>x.cells++Xd xs
theorem UA(x:RxA):x.cells.length=8:=by cases x;rfl
theorem VG:∀ l:List RxA,(Xd l).length=l.length*8
 |[]=>rfl
 |x::xs=>by simp[Xd,VG xs,UA];omega
theorem VH:∀ (a b:List RxA),Xd (a++b)=Xd a++Xd b
 |[],_=>rfl
 |x::a,b=>by simp[Xd,VH a b]
theorem G7{w:World}{B g:Nat}:∀ {l:List RxA} {o:Nat},(∀j u,(Xd l)[j]?=some u->w.cell? ⟨g,o+j,none⟩=some u)->(∀X∈l,X.In w B)->InL w B g o l
 |[],_,_,_=>trivial
 |x::xs,o,h,hi=>by
  simp only[InL];refine⟨λj hj=>?_,hi x (by simp),?_⟩
  ·have hl:j<x.cells.length:=by rw[UA];exact hj
   rw[List.getElem?_eq_getElem hl];apply h;simp only[Xd];rw[List.getElem?_append_left hl,List.getElem?_eq_getElem hl]
  ·refine G7 (λj u hu=>?_) (λX hX=>hi X (by simp[hX]));rw[show o+8+j=o+(8+j) by omega];apply h;simp only[Xd];rw[List.getElem?_append_right (by rw[UA];omega),UA,show 8+j - 8=j by omega];exact hu
def Xl(kind:Int)(a:Option Addr)(cap:Nat):List RxA->RxA
 |[x]=>x
 |l=>.node kind 0 0 0 0 0 0 a cap l
theorem YH(kind:Int)(a:Option Addr)(cap:Nat):∀ l:List RxA,(Xl kind a cap l).bare=Rx.joined kind (l.map RxA.bare)
 |[]=>by simp[Xl,RxA.bare,Rx.joined,XX]
 |[x]=>by simp[Xl,Rx.joined]
 |x::y::l=>by simp[Xl,RxA.bare,Rx.joined,XX,Vz]
end Go.Proofs.YtbchkjfnakabkaaGreatDoor
namespace Go.Proofs.YtbchkjfnakabkaaGreatDoor
open Go.RowKit PX
theorem ZH:(Tryz.prog.info? 141).map (·.size)=some 8:=by kernel_rfl
theorem Zas:(Tryz.prog.info? 141).map (λi=>(i.zero,i.size,i.bytes))=some (some (.agg #[.int .i64 0,.int .i64 0,.int .i64 0,.int .u64 0,.int .u64 0,.int .u64 0,.int .u64 0,.slice none 0 0]),8,80):=by kernel_rfl
def Zo:Array Value:=#[.int .i64 0,.int .i64 0,.int .i64 0,.int .u64 0,.int .u64 0,.int .u64 0,.int .u64 0,.slice none 0 0]
def Zh(x:RxA):Array Value:=x.cells.toArray
theorem Zi(x:RxA):(Zh x).size=8:=by cases x;rfl
theorem Zm(x:RxA):(Zh x).all (·.oneCell')=true:=by cases x;simp[Zh,RxA.cells,Value.oneCell']
theorem Zcg(x:RxA):x.val=.agg (Zh x):=rfl
theorem Zj(x:RxA):(Tryz.prog.info? 141).map (·.size)=some (Zh x).size:=by rw[Zi];exact ZH
theorem Y9(w:World)(o:Obj)(cs:Array Value):Below w.heap.size w ((w.alloc o).setRow w.heap.size cs):=by
 have h1:=(Below.refl w.heap.size w).alloc (Nat.le_refl _) o;exact⟨h1.os,h1.tape,h1.output,by simp,λk hk=>(setRow_other _ _ _ _ (by omega)).trans (h1.block k hk)⟩
theorem Jg{w:World}{base n:Nat}{v:Value}{xs:List Value}(h:w.ownsRow base 141 8 v n xs):∃ a cap,v=.slice a n cap/\n<=cap/\cap<=maxLen/\((n=0/\a=none)\/∃ g,a=some ⟨g,0,none⟩/\base<=g/\g<w.heap.size/\v.ownBlock=some g):=by
 have H0:=h.lt;rcases h.2 with⟨rfl,h0⟩|⟨g,cap,cur,rfl,hg,hh,h1,h2,_⟩
 ·subst h0;exact⟨none,0,rfl,Nat.le_refl _,by simp,.inl ⟨rfl,rfl⟩⟩
 ·exact⟨some ⟨g,0,none⟩,cap,rfl,h1,h2,.inr ⟨g,rfl,hg,Zb hh,rfl⟩⟩
theorem UQ(w:World)(kind:Int)(v:Value)(base:Nat)(L:List RxA)(hown:w.ownsRow base 141 8 v L.length (Xd L))(hlen:L.length<=1000) :
 Calls Tryz.prog 187 #[.int .i64 kind,v] w λe w'=>∃ a cap,v=.slice a L.length cap/\e=.returned (.agg (Zh (Xl kind a cap L)))/\Below w.heap.size w w':=by
 obtain⟨a,cap,rfl,P1,hc2,ha⟩:=Jg hown;by_cases h1:L.length=1
 ·obtain⟨x,rfl⟩:=List.length_eq_one_iff.1 h1;obtain⟨g,rfl,hbg,hgw,-⟩:=ha.resolve_left (by rintro⟨h,-⟩;simp at h)
  have hC:∀ j u,(Zh x)[j]?=some u->w.cell? ⟨g,j,none⟩=some u:=by
   intro j u hu;have hj:j<8:=by have:=(Array.getElem?_eq_some_iff.1 hu).1;rwa [Zi]at this
   rw[hown.cellAt j (by simp;omega)]
   simpa [Xd,Zh] using hu
  have HC:=Hd hC;clear hC;have g3:=Hd (Zi x);have y0:=Hd (Zm x);show Calls _ _ _ _ λe w'=>∃ a' cap',Value.slice (some ⟨g,0,none⟩) [x].length cap=.slice a' [x].length cap'/\e=.returned (.agg (Zh x))/\Below w.heap.size w w'
  obtain⟨CS,HCS⟩:∃ CS,Hid (Zh x=CS):=⟨_,Hd rfl⟩
  rw[HCS.out]at HC g3 y0 ⊢;clear hown;have HZ:=Hd (show(w.alloc (.cells Zo 141)).heap[w.heap.size]?=some (.cells Zo 141 (0,0)) from Zd w _);simp only[List.length_singleton];have N2:(Tryz.prog.info? 141).map (·.size)=some CS.size:=by rw[g3.out];exact ZH
  have e1:=Hd N2;clear N2;have R3:=Hd (λj u hu=>(World.cell?_of_block (w:=w) (a:=⟨g,j,none⟩) (Below.heap_alloc w (.cells Zo 141) g hgw)).trans (HC.out j u hu))
  go_enter Tryz.func187,Tryz.ntmps187
  go_wp2_with (first
   |refine VE rfl 141 (.tmp 9) rfl g 0 rfl CS _ (by intro j u hu;rw[Nat.zero_add];exact R3.out j u hu) Tryz.underlying141 rfl e1.out ?_
   |refine wpList_store_row rfl 141 (.tmp 4) (.tmp 10) rfl w.heap.size CS rfl rfl 141 _ HZ.out e1.out (by rw[g3.out];rfl) y0.out ?_)
  refine bodyPost_ret (results_cell_row rfl _ _ w.heap.size 141 CS (0,0) _ rfl (setRow_heap _ _ _ _ _ _ HZ.out) Tryz.underlying141 rfl e1.out) rfl ?_;exact⟨_,_,rfl,rfl,Y9 w _ _⟩
 ·have hj:Xl kind a cap L=.node kind 0 0 0 0 0 0 a cap L:=by
   match L,h1 with
   |[],_=>rfl
   |[_],h1=>exact absurd rfl h1
   |_::_::_,_=>rfl
  suffices hs:Calls Tryz.prog 187 #[.int .i64 kind,.slice a L.length cap] w λe w'=>e=.returned (.agg (Zh (.node kind 0 0 0 0 0 0 a cap L)))/\Below w.heap.size w w' by
   refine hs.mono ?_;rintro e w' ⟨he,hb⟩;exact⟨a,cap,rfl,by rw[hj];exact he,hb⟩
  have e1:=Hd (Zj (.node kind 0 0 0 0 0 0 a cap L));have y0:=Hd (Zm (.node kind 0 0 0 0 0 0 a cap L));have Z3:((L.length:Int)==1)=false:=by rw[beq_eq_false_iff_ne];omega
  obtain⟨n,hn⟩:∃ n,L.length=n:=⟨_,rfl⟩
  have R2:Zh (.node kind 0 0 0 0 0 0 a cap L)=#[.int .i64 kind,.int .i64 0,.int .i64 0,.int .u64 0,.int .u64 0,.int .u64 0,.int .u64 0,.slice a n cap]:=by rw[<-hn];rfl
  obtain⟨CS,HCS⟩:∃ CS,Hid (Zh (.node kind 0 0 0 0 0 0 a cap L)=CS):=⟨_,Hd rfl⟩
  rw[HCS.out]at e1 y0 R2 ⊢;rw[hn]at Z3 hlen ⊢;clear hown ha hj;have e3:CS.size=8:=by rw[R2];rfl
  have a4:=Hd R2;clear R2;have HZ:=Hd (show(w.alloc (.cells Zo 141)).heap[w.heap.size]?=some (.cells Zo 141 (0,0)) from Zd w _)
  go_enter Tryz.func187,Tryz.ntmps187
  go_wp2_with (first
   |refine wpList_store_row rfl 141 (.tmp 4) (.tmp 13) rfl w.heap.size CS rfl (by rw[a4.out];rfl) 141 _ HZ.out e1.out (by rw[e3];rfl) y0.out ?_)
  refine bodyPost_ret (results_cell_row rfl _ _ w.heap.size 141 CS (0,0) _ rfl (setRow_heap _ _ _ _ _ _ HZ.out) Tryz.underlying141 rfl e1.out) rfl ?_;exact⟨rfl,Y9 w _ _⟩
end Go.Proofs.YtbchkjfnakabkaaGreatDoor
namespace Go.Proofs.YtbchkjfnakabkaaGreatDoor
open Go.RowKit PX
structure AltInv (B:Nat) (w:World) (v1 v2:Value) (l1 l2:List RxA):Prop where
 own1:w.ownsRow B 141 8 v1 l1.length (Xd l1)
 own2:w.ownsRow B 141 8 v2 l2.length (Xd l2)
 apart:∀ g,v1.ownBlock=some g->v2.ownBlock≠some g
 kept1:∀ X∈l1,Kept w B v1 v2 X
 kept2:∀ X∈l2,Kept w B v1 v2 X
theorem Kept.swap{w:World}{B:Nat}{v1 v2:Value}{X:RxA}(h:Kept w B v1 v2 X):Kept w B v2 v1 X:=
 ⟨h.lies,λb hb=>⟨(h.far b hb).1,(h.far b hb).2.1,(h.far b hb).2.2.2,(h.far b hb).2.2.1⟩⟩
theorem AltInv.swap{B:Nat}{w:World}{v1 v2:Value}{l1 l2:List RxA}(h:AltInv B w v1 v2 l1 l2):AltInv B w v2 v1 l2 l1:=
 ⟨h.own2,h.own1,λg h2 h1=>h.apart g h1 h2,λX hX=>(h.kept2 X hX).swap,λX hX=>(h.kept1 X hX).swap⟩
theorem Kept.only{w w':World}{B:Nat}{v1 v2:Value}{X:RxA}{r:Nat->Prop}(h:Kept w B v1 v2 X)(ho:Only r w w')(hr:∀ k,r k->k<B):Kept w' B v1 v2 X:=
 h.later ho.size λb hb H0 h1 h2=>⟨ho.block b H0 (λhk=>by have:=hr b hk;omega),h1,h2⟩
theorem AltInv.only{B:Nat}{w w':World}{v1 v2:Value}{l1 l2:List RxA}{r:Nat->Prop}(h:AltInv B w v1 v2 l1 l2)(ho:Only r w w')(hr:∀ k,r k->k<B):AltInv B w' v1 v2 l1 l2:=
 ⟨ho.ownsRow h.own1 (λk hk hrk=>by have:=(h.own1.lt k hk).1;have:=hr k hrk;omega),ho.ownsRow h.own2 (λk hk hrk=>by have:=(h.own2.lt k hk).1;have:=hr k hrk;omega),h.apart,
  λX hX=>(h.kept1 X hX).only ho hr,λX hX=>(h.kept2 X hX).only ho hr⟩
theorem AltInv.start(B:Nat)(w:World):AltInv B w (.slice none 0 0) (.slice none 0 0) [] []:=
 ⟨⟨rfl,.inl ⟨rfl,rfl⟩⟩,⟨rfl,.inl ⟨rfl,rfl⟩⟩,(λg h=>by cases h),(λX hX=>by cases hX),(λX hX=>by cases hX)⟩
theorem AltInv.push{B:Nat}{w w':World}{v1 v2:Value}{l1 l2:List RxA}{X:RxA}{g cap:Nat}(h:AltInv B w v1 v2 l1 l2)(hX:Kept w B v1 v2 X)
 (hown:w'.ownsRow B 141 8 (.slice (some ⟨g,0,none⟩) (l2.length+1) cap) (l2.length+1) (Xd l2++X.cells)) (hg:w.grownBy w' v2.ownBlock) (hat:v2.ownBlock=some g\/g=w.heap.size) :
 AltInv B w' v1 (.slice (some ⟨g,0,none⟩) (l2.length+1) cap) l1 (l2++[X]):=by
 have ho:Only (λk=>v2.ownBlock=some k) w w':=Only.grown (Only.refl _ w) hg (λk hk=>.inl hk)
 have hk:∀ Y,Kept w B v1 v2 Y->Kept w' B v1 (.slice (some ⟨g,0,none⟩) (l2.length+1) cap) Y:=λY hY=>
  hY.later ho.size λb hb H0 h1 h2=>⟨ho.block b H0 h2,h1,λhe=>by
   have he:g=b:=by simpa [Value.ownBlock] using he
   subst he;rcases hat with h'|h'
   ·exact h2 h'
   ·omega⟩
 refine⟨ho.ownsRow h.own1 (λk h1 h2=>h.apart k h1 h2),?_,λk h1 h2=>?_,λY hY=>hk Y (h.kept1 Y hY),λY hY=>?_⟩
 ·rw[VH,show Xd [X]=X.cells by simp[Xd],List.length_append,List.length_singleton];exact hown
 ·have he:g=k:=by simpa [Value.ownBlock] using h2
  subst he;rcases hat with h'|h'
  ·exact h.apart g h1 h'
  ·have:=(h.own1.lt g h1).2;omega
 ·rcases List.mem_append.1 hY with hY|hY
  ·exact hk Y (h.kept2 Y hY)
  ·obtain rfl:=List.mem_singleton.1 hY;exact hk _ hX
theorem AltInv.join{B:Nat}{w:World}{v1:Value}{l1 l2:List RxA}{a:Option Addr}{cap:Nat}(kind:Int)(hkd:I64 kind)(h:AltInv B w v1 (.slice a l2.length cap) l1 l2)(hl:l2.length<=1000) :
 Kept w B v1 (.slice none 0 0) (Xl kind a cap l2):=by
 have J2:∀ x,l2=[x]->Kept w B v1 (.slice none 0 0) x:=λx hx=>
  (h.kept2 x (by simp[hx])).later (Nat.le_refl _) λb _ _ h1 _=>⟨rfl,h1,λh=>by cases h⟩
 have L2:Kept w B v1 (.slice none 0 0) (.node kind 0 0 0 0 0 0 a cap l2):=by
  obtain⟨a',cap',he,P1,hc2,ha⟩:=Jg h.own2;simp only[Value.slice.injEq,true_and]at he;obtain⟨rfl,rfl⟩:=he
  have l3:∀ b∈(RxA.node kind 0 0 0 0 0 0 a cap l2).blocks,(∃g,a=some ⟨g,0,none⟩/\b=g/\B<=g/\g<w.heap.size/\(Value.slice a l2.length cap).ownBlock=some g)\/∃ Y∈l2,b∈Y.blocks:=by
   intro b hb;simp only[RxA.blocks,List.mem_append]at hb;rcases hb with hb|hb
   ·rcases ha with⟨-, rfl⟩|⟨g,rfl,h1,h2,h3⟩
    ·simp at hb
    ·exact .inl ⟨g,rfl,by simpa using hb,h1,h2,h3⟩
   ·exact .inr (UB.1 hb)
  refine⟨?_,λb hb=>?_⟩
  ·simp only[RxA.In];refine⟨⟨hkd,⟨by omega,by omega⟩,⟨by omega,by omega⟩,⟨by omega,by omega⟩,⟨by omega,by omega⟩,⟨by omega,by omega⟩,⟨by omega,by omega⟩⟩,P1,hc2,by omega,?_⟩;rcases ha with⟨h0,-⟩|⟨g,rfl,h1,h2,h3⟩
   ·exact .inl (List.eq_nil_of_length_eq_zero h0)
   ·refine .inr ⟨g,0,rfl,h2,G7 (λj u hu=>?_) (λX hX=>(h.kept2 X hX).lies)⟩;have hj:j<l2.length*8:=by rw[<-VG];exact(List.getElem?_eq_some_iff.1 hu).1
    rw[Nat.zero_add,h.own2.cellAt j hj];exact hu
  ·rcases l3 b hb with⟨g,-, rfl,h1,h2,h3⟩|⟨Y,hY,hbY⟩
   ·exact⟨h1,h2,λhe=>h.apart _ he h3,λhe=>by cases he⟩
   ·obtain⟨h1,h2,h3,-⟩:=(h.kept2 Y hY).far b hbY;exact⟨h1,h2,h3,λhe=>by cases he⟩
 match l2,J2,L2 with
 |[],_,hn=>exact hn
 |[x],hl1,_=>exact hl1 x rfl
 |x::y::l,_,hn=>exact hn
theorem AltInv.drop{B:Nat}{w:World}{v1 v2:Value}{l1 l2:List RxA}(h:AltInv B w v1 v2 l1 l2):AltInv B w v1 (.slice none 0 0) l1 []:=
 ⟨h.own1,⟨rfl,.inl ⟨rfl,rfl⟩⟩,(λg _ h2=>by cases h2),(λX hX=>(h.kept1 X hX).later (Nat.le_refl _) λb _ _ h1 _=>⟨rfl,h1,(λh=>by cases h)⟩),(λX hX=>by cases hX)⟩
theorem GV(X:RxA):∀ v∈X.cells,v.oneCell'=true:=by
 obtain⟨k,mn,mx,s0,s1,s2,s3,a,cap,l⟩:=X;intro v hv;simp only[RxA.cells,List.mem_cons,List.not_mem_nil,or_false]at hv;rcases hv with rfl|rfl|rfl|rfl|rfl|rfl|rfl|rfl<;>rfl
end Go.Proofs.YtbchkjfnakabkaaGreatDoor
namespace Go.Proofs.YtbchkjfnakabkaaGreatDoor
open Go.RowKit PX
def ZW(rb:Nat)(w:World)(o:Option (Rx × List UInt8))(e:Ending)(w':World):Prop:=
 Only (λk=>k=rb) w w'/\((o=none/\e=.panicked JO)\/∃ (X:RxA) (r:List UInt8),o=some (X.bare,r)/\e=.returned (.agg (Zh X))/\ReadAt w' rb r/\X.In w' w'.heap.size/\∀ b∈X.blocks,w.heap.size<=b/\b<w'.heap.size)
def XB(altf:List UInt8->Option (Rx × List UInt8))(s:List UInt8):Option (Rx × List UInt8):=
 if Zg 46 s then some (.set Q4.all,s.tail)
 else if Zg 91 s then
  match Yt s.length s.tail with
  |none=>none
  |some (q,r)=>some (.set q,r)
 else if Zg 40 s then
  match altf s.tail with
  |none=>none
  |some (x,r)=>if Zg 41 r then some (x,r.tail) else none
 else
  match one V5 s with
  |none=>none
  |some (b,r)=>some (.set (Q4.none.with b),r)
def setA(q:Q4):RxA:=.node 0 0 0 q.a q.b q.c q.d none 0 []
theorem Yg(q:Q4):(setA q).bare=.set q:=by simp[setA,RxA.bare,Rx.set,XX]
theorem Ju(q:Q4)(hq:q.Ok)(w:World)(B:Nat):(setA q).In w B:=by
 simp only[setA,RxA.In];exact⟨⟨⟨by omega,by omega⟩,⟨by omega,by omega⟩,⟨by omega,by omega⟩,hq.1,hq.2.1,hq.2.2.1,hq.2.2.2⟩,by simp,by simp,by simp,.inl trivial⟩
theorem Xy(q:Q4):(setA q).blocks=[]:=by simp[setA,RxA.blocks,X3]
theorem Wq{w:World}{b:Nat}{q:Q4}{v0 v1 v2 v3:Int}(h:w.heap[b]?=some (.cells (Zh (setA q)) 141 (0,0))) :
 ((((w.setCell ⟨b,3,none⟩ (.int .u64 v0)).setCell ⟨b,4,none⟩ (.int .u64 v1)).setCell ⟨b,5,none⟩ (.int .u64 v2)).setCell ⟨b,6,none⟩ (.int .u64 v3)).heap[b]?=some (.cells (Zh (setA ⟨v0,v1,v2,v3⟩)) 141 (0,0)):=by
 rw[Zf (Zf (Zf (Zf h _ _) _ _) _ _)];rfl
theorem Ze6(k:Nat)(hk:k<64):IntKind.u64.wrap (2 ^ k)=YD 0 k:=by
 have h:=Jx 0 k ⟨by omega,by omega⟩ hk
 have h2:IntKind.u64.wrap (2 ^ k)=((2 ^ k:Nat):Int):=by
  have hp:(2:Nat) ^ k<2 ^ 64:=Nat.pow_lt_pow_right (by omega) hk;have e:((2:Int) ^ k)=((2 ^ k:Nat):Int):=by simp
  rw[e];generalize (2:Nat) ^ k=N at hp;simp only[IntKind.wrap,IntKind.signed,IntKind.bits];simp;omega
 rw[h2];unfold YD;simp
theorem Y4{rb:Nat}{w:World}{e:Ending}{w':World}(h:ZW rb w none e w'):e=.panicked JO/\Only (λk=>k=rb) w w':=by
 rcases h with⟨h1,⟨-, h2⟩|⟨_,_,h2,-⟩⟩
 ·exact⟨h2,h1⟩
 ·cases h2
theorem YC{rb:Nat}{w:World}{x:Rx}{r:List UInt8}{e:Ending}{w':World}(h:ZW rb w (some (x,r)) e w') :
 ∃ X:RxA,x=X.bare/\e=.returned (.agg (Zh X))/\ReadAt w' rb r/\Only (λk=>k=rb) w w'/\X.In w' w'.heap.size/\∀ b∈X.blocks,w.heap.size<=b/\b<w'.heap.size:=by
 rcases h with⟨h1,⟨h2,-⟩|⟨X,r',h2,h3,h4,h5,h6⟩⟩
 ·cases h2
 ·cases h2;exact⟨X,rfl,h3,h4,h1,h5,h6⟩
theorem Xv{w:World}{b k:Nat}{o:Obj}{v0 v1 v2 v3:Value}(h:w.heap[k]?=some o)(hk:k≠b) :
 ((((w.setCell ⟨b,3,none⟩ v0).setCell ⟨b,4,none⟩ v1).setCell ⟨b,5,none⟩ v2).setCell ⟨b,6,none⟩ v3).heap[k]?=some o:=by
 rw[Below.heap_setCell _ _ _ _ (by exact λe=>hk e),Below.heap_setCell _ _ _ _ (by exact λe=>hk e),Below.heap_setCell _ _ _ _ (by exact λe=>hk e),Below.heap_setCell _ _ _ _ (by exact λe=>hk e)];exact h
theorem VK{r:Nat->Prop}{a w:World}{b:Nat}{v0 v1 v2 v3:Value}(h:Only r a w)(hb:a.heap.size<=b) :
 Only r a ((((w.setCell ⟨b,3,none⟩ v0).setCell ⟨b,4,none⟩ v1).setCell ⟨b,5,none⟩ v2).setCell ⟨b,6,none⟩ v3):=
 (((h.setCell (p:=⟨b,3,none⟩) (.inr hb) _).setCell (p:=⟨b,4,none⟩) (.inr hb) _).setCell (p:=⟨b,5,none⟩) (.inr hb) _).setCell (p:=⟨b,6,none⟩) (.inr hb) _
theorem ZgD(w:World)(rb:Nat)(s:List UInt8)(h:ReadAt w rb s)(hl:s.length<=128)(altf:List UInt8->Option (Rx × List UInt8))(h46:Zg 46 s=true) :
 Calls Tryz.prog 192 #[.pointer (some ⟨rb,0,none⟩)] w λe w'=>ZW rb w (XB altf s) e w':=by
 have H0:=Zb h
 obtain⟨nb,hnb⟩:∃ nb,w.heap.size=nb:=⟨_,rfl⟩
 obtain⟨W0,hW0⟩:∃ W0,W0=((w.alloc (.cells #[.int .i64 0,.int .i64 0,.int .i64 0,.int .u64 0,.int .u64 0,.int .u64 0,.int .u64 0,.slice none 0 0] 141)).alloc (.cells #[.int .i64 0,.int .i64 0,.int .i64 0,.int .u64 0,.int .u64 0,.int .u64 0,.int .u64 0,.slice none 0 0] 141)):=⟨_,rfl⟩
 have f0:ReadAt W0 rb s:=by rw[hW0];exact JW h _ _
 have c0:W0.heap[nb]?=some (.cells (Zh (setA Q4.none)) 141 (0,0)):=by rw[hW0,<-hnb];exact Ze (Zd _ _) _
 have d1:W0.heap[nb+1]?=some (.cells (Zh (setA Q4.none)) 141 (0,0)):=by rw[hW0,<-hnb];exact Zr _ _ _ (by simp)
 have e0:Only (λk=>k=rb) w W0:=by rw[hW0];exact(((Only.refl _ w).alloc _).alloc _)
 have c1:nb+1<W0.heap.size:=Zb d1;have hB:XB altf s=some (.set Q4.all,s.tail):=by unfold XB;rw[h46];rfl
 rw[hB];rw[Zu h46]at f0;have m0:=Hd (ZK _ rb 46 s.tail f0);have HN:=Hd c0;have HE:=Hd d1;clear f0 c0 d1;rw[hW0]at m0
 go_enter Tryz.func192,Tryz.ntmps192
 go_wp2_with (first
  |(go_at_call 188;(with_reducible refine(m0.out).mono ?_);rintro e w1 ⟨rfl,h1,o1⟩;rw[<-hW0]at o1;obtain⟨HE1,HN1,-, -⟩:=Zn o1 (by omega) (by omega) (by omega) (by omega) HE HN;have c3:w1.cell? ⟨nb+1,3,none⟩=some (.int .u64 0):=Za HE1.out 3;have t3:=Zc HE1.out 3;have c4:w1.cell? ⟨nb+1,4,none⟩=some (.int .u64 0):=Za HE1.out 4;have t4:=Zc HE1.out 4;have c5:w1.cell? ⟨nb+1,5,none⟩=some (.int .u64 0):=Za HE1.out 5;have t5:=Zc HE1.out 5;have c6:w1.cell? ⟨nb+1,6,none⟩=some (.int .u64 0):=Za HE1.out 6;have t6:=Zc HE1.out 6)
  |(refine wpList_load_row rfl 141 (.tmp 3) ?_ (nb+1) ?_ 141 (Zh (setA Q4.all)) (0,0) _ ?_ Tryz.underlying141 rfl (Zj _) ?_;(with_reducible rfl);rfl;exact Wq HE1.out)
  |(refine wpList_store_row rfl 141 (.tmp 2) (.tmp 34) ?_ nb (Zh (setA Q4.all)) ?_ ?_ 141 (Zh (setA Q4.none)) ?_ (Zj _) (by rw[Zi,Zi]) (Zm _) ?_;(with_reducible rfl);rfl;rfl;exact Xv HN1.out (by omega)))
 refine bodyPost_ret (results_cell_row rfl _ _ nb 141 (Zh (setA Q4.all)) (0,0) _ rfl (setRow_heap _ _ _ _ _ _ (Xv (b:=nb+1) (v0:=.int .u64 18446744073709551615) (v1:=.int .u64 18446744073709551615) (v2:=.int .u64 18446744073709551615) (v3:=.int .u64 18446744073709551615) HN1.out (by omega))) Tryz.underlying141 rfl (Zj _)) rfl ?_;refine⟨Only.setRow (VK (b:=nb+1) (e0.then o1) (by omega)) (q:=nb) (.inr (by omega)) _,.inr ⟨setA Q4.all,s.tail,by rw[Yg],rfl,?_,Ju _ Q4.all_ok _ _,by rw[Xy];simp⟩⟩;unfold ReadAt at h1 ⊢;rw[setRow_other _ _ _ _ (by omega)];exact Xv h1 (by omega)
theorem Zck(w:World)(rb:Nat)(s:List UInt8)(h:ReadAt w rb s)(hl:s.length<=128)(altf:List UInt8->Option (Rx × List UInt8))(h46:Zg 46 s=false)(h91:Zg 91 s=true) :
 Calls Tryz.prog 192 #[.pointer (some ⟨rb,0,none⟩)] w λe w'=>ZW rb w (XB altf s) e w':=by
 have H0:=Zb h
 obtain⟨nb,hnb⟩:∃ nb,w.heap.size=nb:=⟨_,rfl⟩
 obtain⟨W0,hW0⟩:∃ W0,W0=((w.alloc (.cells #[.int .i64 0,.int .i64 0,.int .i64 0,.int .u64 0,.int .u64 0,.int .u64 0,.int .u64 0,.slice none 0 0] 141)).alloc (.cells #[.int .i64 0,.int .i64 0,.int .i64 0,.int .u64 0,.int .u64 0,.int .u64 0,.int .u64 0,.slice none 0 0] 141)):=⟨_,rfl⟩
 have f0:ReadAt W0 rb s:=by rw[hW0];exact JW h _ _
 have c0:W0.heap[nb]?=some (.cells (Zh (setA Q4.none)) 141 (0,0)):=by rw[hW0,<-hnb];exact Ze (Zd _ _) _
 have d1:W0.heap[nb+1]?=some (.cells (Zh (setA Q4.none)) 141 (0,0)):=by rw[hW0,<-hnb];exact Zr _ _ _ (by simp)
 have e0:Only (λk=>k=rb) w W0:=by rw[hW0];exact(((Only.refl _ w).alloc _).alloc _)
 have c1:nb+1<W0.heap.size:=Zb d1;have m0:=Hd (Zx _ rb 46 s f0 h46);have C0:=Hd (λw1 (h1:ReadAt w1 rb s)=>ZK w1 rb 91 s.tail (Zu h91▸h1));have HN:=Hd c0;have HE:=Hd d1;clear c0 d1;clear f0;rw[hW0]at m0;have J1:=Xu s
 cases hc:Yt s.length s.tail with
 |none=>
  have hB:XB altf s=none:=by unfold XB;rw[h46,h91,hc];rfl
  have HC:=Hd hc;clear hc;rw[hB]
  go_enter Tryz.func192,Tryz.ntmps192
  go_wp2_with (first
   |(go_at_call 188;(with_reducible refine(m0.out).mono ?_);rintro e w1 ⟨rfl,h1,o1⟩;rw[<-hW0]at o1;obtain⟨HE1,HN1,-, -⟩:=Zn o1 (by omega) (by omega) (by omega) (by omega) HE HN;have P0:nb+1<w1.heap.size:=Zb HE1.out)
   |(go_at_call 188;(with_reducible refine(C0.out _ h1).mono ?_);rintro e w2 ⟨rfl,h2,o2⟩;obtain⟨HE2,HN2,-, -⟩:=Zn o2 (by omega) (by omega) (by omega) (by omega) HE1 HN1;have N0:nb+1<w2.heap.size:=Zb HE2.out)
   |(go_at_call 196;refine(Du _ rb s.tail s.length h2 (by omega) (by omega)).mono ?_;rintro e w3 hR;obtain⟨rfl,o3⟩:=hR.none HC.out))
  exact⟨rfl,((e0.then o1).then o2).then o3,.inl ⟨rfl,rfl⟩⟩
 |some p=>
  obtain⟨q,r⟩:=p;have hB:XB altf s=some (.set q,r):=by unfold XB;rw[h46,h91,hc];rfl
  have hq:=Dv hc;have HC:=Hd hc;clear hc;have HQ:=Hd hq;clear hq
  have i2:=Hd (fun w2 (h2:ReadAt w2 rb s.tail)=>show Calls Tryz.prog 196 #[.pointer (some ⟨rb,0,none⟩)] w2 fun e w3=>e=.returned (.agg #[.int .u64 q.a,.int .u64 q.b,.int .u64 q.c,.int .u64 q.d])∧ReadAt w3 rb r∧Only (fun k=>k=rb) w2 w3 from
   (Du w2 rb s.tail s.length h2 (by omega) (by omega)).mono λe w3 hR=>hR.some HC.out)
  rw[hB]
  go_enter Tryz.func192,Tryz.ntmps192
  go_wp2_with (first
   |(go_at_call 188;(with_reducible refine(m0.out).mono ?_);rintro e w1 ⟨rfl,h1,o1⟩;rw[<-hW0]at o1;obtain⟨HE1,HN1,-, -⟩:=Zn o1 (by omega) (by omega) (by omega) (by omega) HE HN;have P0:nb+1<w1.heap.size:=Zb HE1.out)
   |(go_at_call 188;(with_reducible refine(C0.out _ h1).mono ?_);rintro e w2 ⟨rfl,h2,o2⟩;obtain⟨HE2,HN2,-, -⟩:=Zn o2 (by omega) (by omega) (by omega) (by omega) HE1 HN1;have N0:nb+1<w2.heap.size:=Zb HE2.out)
   |(go_at_call 196;refine(i2.out _ h2).mono ?_;rintro e w3 ⟨rfl,h3,o3⟩;obtain⟨HE3,HN3,-, -⟩:=Zn o3 (by omega) (by omega) (by omega) (by omega) HE2 HN2;have T0:nb+1<w3.heap.size:=Zb HE3.out;have c3:w3.cell? ⟨nb+1,3,none⟩=some (.int .u64 0):=Za HE3.out 3;have t3:=Zc HE3.out 3;have c4:w3.cell? ⟨nb+1,4,none⟩=some (.int .u64 0):=Za HE3.out 4;have t4:=Zc HE3.out 4;have c5:w3.cell? ⟨nb+1,5,none⟩=some (.int .u64 0):=Za HE3.out 5;have t5:=Zc HE3.out 5;have c6:w3.cell? ⟨nb+1,6,none⟩=some (.int .u64 0):=Za HE3.out 6;have t6:=Zc HE3.out 6)
   |(refine wpList_load_row rfl 141 (.tmp 3) ?_ (nb+1) ?_ 141 (Zh (setA q)) (0,0) _ ?_ Tryz.underlying141 rfl (Zj _) ?_;(with_reducible rfl);rfl;exact Wq HE3.out)
   |(refine wpList_store_row rfl 141 (.tmp 2) (.tmp 34) ?_ nb (Zh (setA q)) ?_ ?_ 141 (Zh (setA Q4.none)) ?_ (Zj _) (by rw[Zi,Zi]) (Zm _) ?_;(with_reducible rfl);rfl;rfl;exact Xv HN3.out (by omega)))
  refine bodyPost_ret (results_cell_row rfl _ _ nb 141 (Zh (setA q)) (0,0) _ rfl (setRow_heap _ _ _ _ _ _ (Xv (b:=nb+1) (v0:=.int .u64 q.a) (v1:=.int .u64 q.b) (v2:=.int .u64 q.c) (v3:=.int .u64 q.d) HN3.out (by omega))) Tryz.underlying141 rfl (Zj _)) rfl ?_;refine⟨Only.setRow (VK (b:=nb+1) (((e0.then o1).then o2).then o3) (by omega)) (q:=nb) (.inr (by omega)) _,.inr ⟨setA q,r,by rw[Yg],rfl,?_,Ju _ HQ.out _ _,by rw[Xy];simp⟩⟩;unfold ReadAt at h3 ⊢;rw[setRow_other _ _ _ _ (by omega)];exact Xv h3 (by omega)
theorem ZgC(w:World)(rb:Nat)(s:List UInt8)(h:ReadAt w rb s)(hl:s.length<=128)(altf:List UInt8->Option (Rx × List UInt8))(h46:Zg 46 s=false)(h91:Zg 91 s=false)(h40:Zg 40 s=false) :
 Calls Tryz.prog 192 #[.pointer (some ⟨rb,0,none⟩)] w λe w'=>ZW rb w (XB altf s) e w':=by
 have H0:=Zb h
 obtain⟨nb,hnb⟩:∃ nb,w.heap.size=nb:=⟨_,rfl⟩
 obtain⟨W0,hW0⟩:∃ W0,W0=((w.alloc (.cells #[.int .i64 0,.int .i64 0,.int .i64 0,.int .u64 0,.int .u64 0,.int .u64 0,.int .u64 0,.slice none 0 0] 141)).alloc (.cells #[.int .i64 0,.int .i64 0,.int .i64 0,.int .u64 0,.int .u64 0,.int .u64 0,.int .u64 0,.slice none 0 0] 141)):=⟨_,rfl⟩
 have f0:ReadAt W0 rb s:=by rw[hW0];exact JW h _ _
 have c0:W0.heap[nb]?=some (.cells (Zh (setA Q4.none)) 141 (0,0)):=by rw[hW0,<-hnb];exact Ze (Zd _ _) _
 have d1:W0.heap[nb+1]?=some (.cells (Zh (setA Q4.none)) 141 (0,0)):=by rw[hW0,<-hnb];exact Zr _ _ _ (by simp)
 have e0:Only (λk=>k=rb) w W0:=by rw[hW0];exact(((Only.refl _ w).alloc _).alloc _)
 have c1:nb+1<W0.heap.size:=Zb d1;have m0:=Hd (Zx _ rb 46 s f0 h46);have C0:=Hd (λw1 (h1:ReadAt w1 rb s)=>Zx w1 rb 91 s h1 h91);have R0:=Hd (λw1 (h1:ReadAt w1 rb s)=>Zx w1 rb 40 s h1 h40);have HN:=Hd c0;have HE:=Hd d1;clear c0 d1;clear f0;rw[hW0]at m0
 cases hc:one V5 s with
 |none=>
  have hB:XB altf s=none:=by unfold XB;rw[h46,h91,h40,hc];rfl
  have HC:=Hd hc;clear hc;rw[hB]
  go_enter Tryz.func192,Tryz.ntmps192
  go_wp2_with (first
   |(go_at_call 188;(with_reducible refine(m0.out).mono ?_);rintro e w1 ⟨rfl,h1,o1⟩;rw[<-hW0]at o1;obtain⟨HE1,HN1,-, -⟩:=Zn o1 (by omega) (by omega) (by omega) (by omega) HE HN;have P0:nb+1<w1.heap.size:=Zb HE1.out)
   |(go_at_call 188;(with_reducible refine(C0.out _ h1).mono ?_);rintro e w2 ⟨rfl,h2,o2⟩;obtain⟨HE2,HN2,-, -⟩:=Zn o2 (by omega) (by omega) (by omega) (by omega) HE1 HN1;have N0:nb+1<w2.heap.size:=Zb HE2.out)
   |(go_at_call 188;(with_reducible refine(R0.out _ h2).mono ?_);rintro e w3 ⟨rfl,h3,o3⟩;obtain⟨HE3,HN3,-, -⟩:=Zn o3 (by omega) (by omega) (by omega) (by omega) HE2 HN2;have T0:nb+1<w3.heap.size:=Zb HE3.out)
   |(go_at_call 197;refine(QG _ rb ⟨#[92,46,91,93,40,41,124,42,43,63,123,125]⟩ s h3 (by omega)).mono ?_;rintro e w4 hR;obtain⟨rfl,o4⟩:=hR.none HC.out))
  exact⟨rfl,(((e0.then o1).then o2).then o3).then o4,.inl ⟨rfl,rfl⟩⟩
 |some p=>
  obtain⟨b,r⟩:=p;have hB:XB altf s=some (.set (Q4.none.with b),r):=by unfold XB;rw[h46,h91,h40,hc];rfl
  have hb:=(Ul hc).2;have hq:=Q4.with_ok Q4.none_ok hb;have HC:=Hd hc;clear hc;have HQ:=Hd hq;clear hq
  have y0:=Hd (fun w3 (h3:ReadAt w3 rb s)=>show Calls Tryz.prog 197 #[.pointer (some ⟨rb,0,none⟩),.string ⟨#[92,46,91,93,40,41,124,42,43,63,123,125]⟩] w3 fun e w4=>e=.returned (.int .i64 (b:Nat))∧ReadAt w4 rb r∧Only (fun k=>k=rb) w3 w4 from
   (QG w3 rb ⟨#[92,46,91,93,40,41,124,42,43,63,123,125]⟩ s h3 (by omega)).mono λe w4 hR=>hR.some HC.out)
  rw[hB];have j0:=Zi4 b hb
  obtain⟨k,hk⟩:∃ k,b%64=k:=⟨_,rfl⟩
  have g1:k<64:=by omega
  rw[hk]at j0;have hwr:IntKind.u64.wrap (2 ^ k)=YD 0 k:=Ze6 k g1;have T2:b<64\/(64<=b/\b<128)\/(128<=b/\b<192)\/192<=b:=by omega
  rcases T2 with h4|h4|h4|h4
  ·have hd:(b:Int)/64=0:=by omega
   have o0:∀ W:World,W.heap[nb+1]?=some (.cells (Zh (setA Q4.none)) 141 (0,0))->(W.setCell ⟨nb+1,3,none⟩ (.int .u64 (YD 0 k))).heap[nb+1]?=some (.cells (Zh (setA (Q4.none.with b))) 141 (0,0)):=by
    intro W hW;rw[Zf hW];simp only[Q4.with];rw[if_pos (by omega)];rw[show b=k by omega];rfl
   have c2:=Hd o0;clear o0
   go_enter Tryz.func192,Tryz.ntmps192
   go_wp2_with (first
    |(go_at_call 188;(with_reducible refine(m0.out).mono ?_);rintro e w1 ⟨rfl,h1,o1⟩;rw[<-hW0]at o1;obtain⟨HE1,HN1,-, -⟩:=Zn o1 (by omega) (by omega) (by omega) (by omega) HE HN;have P0:nb+1<w1.heap.size:=Zb HE1.out)
    |(go_at_call 188;(with_reducible refine(C0.out _ h1).mono ?_);rintro e w2 ⟨rfl,h2,o2⟩;obtain⟨HE2,HN2,-, -⟩:=Zn o2 (by omega) (by omega) (by omega) (by omega) HE1 HN1;have N0:nb+1<w2.heap.size:=Zb HE2.out)
    |(go_at_call 188;(with_reducible refine(R0.out _ h2).mono ?_);rintro e w3 ⟨rfl,h3,o3⟩;obtain⟨HE3,HN3,-, -⟩:=Zn o3 (by omega) (by omega) (by omega) (by omega) HE2 HN2;have T0:nb+1<w3.heap.size:=Zb HE3.out)
    |(go_at_call 197;refine(y0.out _ h3).mono ?_;rintro e w4 ⟨rfl,h4,o4⟩;obtain⟨HE4,HN4,-, -⟩:=Zn o4 (by omega) (by omega) (by omega) (by omega) HE3 HN3;have F1:nb+1<w4.heap.size:=Zb HE4.out;have c3:w4.cell? ⟨nb+1,3,none⟩=some (.int .u64 0):=Za HE4.out 3;have t3:=Zc HE4.out 3;have c4:w4.cell? ⟨nb+1,4,none⟩=some (.int .u64 0):=Za HE4.out 4;have t4:=Zc HE4.out 4;have c5:w4.cell? ⟨nb+1,5,none⟩=some (.int .u64 0):=Za HE4.out 5;have t5:=Zc HE4.out 5;have c6:w4.cell? ⟨nb+1,6,none⟩=some (.int .u64 0):=Za HE4.out 6;have t6:=Zc HE4.out 6)
    |(refine wpList_load_row rfl 141 (.tmp 3) ?_ (nb+1) ?_ 141 (Zh (setA (Q4.none.with b))) (0,0) _ ?_ Tryz.underlying141 rfl (Zj _) ?_;(with_reducible rfl);rfl;exact c2.out _ HE4.out)
    |(refine wpList_store_row rfl 141 (.tmp 2) (.tmp 34) ?_ nb (Zh (setA (Q4.none.with b))) ?_ ?_ 141 (Zh (setA Q4.none)) ?_ (Zj _) (by rw[Zi,Zi]) (Zm _) ?_;(with_reducible rfl);rfl;rfl;exact(Below.heap_setCell _ _ _ _ (by show nb≠nb+1;omega)).trans HN4.out))
   refine bodyPost_ret (results_cell_row rfl _ _ nb 141 (Zh (setA (Q4.none.with b))) (0,0) _ rfl (setRow_heap _ _ _ _ _ _ ((Below.heap_setCell _ ⟨nb+1,3,none⟩ _ _ (by show nb≠nb+1;omega)).trans HN4.out)) Tryz.underlying141 rfl (Zj _)) rfl ?_;refine⟨Only.setRow ((((((e0.then o1).then o2).then o3).then o4).setCell (p:=⟨nb+1,3,none⟩) (.inr (by show w.heap.size<=nb+1;omega)) _)) (q:=nb) (.inr (by omega)) _,.inr ⟨setA (Q4.none.with b),r,by rw[Yg],rfl,?_,Ju _ HQ.out _ _,by rw[Xy];simp⟩⟩;unfold ReadAt at h4 ⊢;rw[setRow_other _ _ _ _ (by omega)];exact(Below.heap_setCell _ _ _ _ (by show rb≠nb+1;omega)).trans h4
  ·have hd:(b:Int)/64=1:=by omega
   have o0:∀ W:World,W.heap[nb+1]?=some (.cells (Zh (setA Q4.none)) 141 (0,0))->(W.setCell ⟨nb+1,4,none⟩ (.int .u64 (YD 0 k))).heap[nb+1]?=some (.cells (Zh (setA (Q4.none.with b))) 141 (0,0)):=by
    intro W hW;rw[Zf hW];simp only[Q4.with];rw[if_neg (by omega),if_pos (by omega)];rw[show b - 64=k by omega];rfl
   have c2:=Hd o0;clear o0
   go_enter Tryz.func192,Tryz.ntmps192
   go_wp2_with (first
    |(go_at_call 188;(with_reducible refine(m0.out).mono ?_);rintro e w1 ⟨rfl,h1,o1⟩;rw[<-hW0]at o1;obtain⟨HE1,HN1,-, -⟩:=Zn o1 (by omega) (by omega) (by omega) (by omega) HE HN;have P0:nb+1<w1.heap.size:=Zb HE1.out)
    |(go_at_call 188;(with_reducible refine(C0.out _ h1).mono ?_);rintro e w2 ⟨rfl,h2,o2⟩;obtain⟨HE2,HN2,-, -⟩:=Zn o2 (by omega) (by omega) (by omega) (by omega) HE1 HN1;have N0:nb+1<w2.heap.size:=Zb HE2.out)
    |(go_at_call 188;(with_reducible refine(R0.out _ h2).mono ?_);rintro e w3 ⟨rfl,h3,o3⟩;obtain⟨HE3,HN3,-, -⟩:=Zn o3 (by omega) (by omega) (by omega) (by omega) HE2 HN2;have T0:nb+1<w3.heap.size:=Zb HE3.out)
    |(go_at_call 197;refine(y0.out _ h3).mono ?_;rintro e w4 ⟨rfl,h4,o4⟩;obtain⟨HE4,HN4,-, -⟩:=Zn o4 (by omega) (by omega) (by omega) (by omega) HE3 HN3;have F1:nb+1<w4.heap.size:=Zb HE4.out;have c3:w4.cell? ⟨nb+1,3,none⟩=some (.int .u64 0):=Za HE4.out 3;have t3:=Zc HE4.out 3;have c4:w4.cell? ⟨nb+1,4,none⟩=some (.int .u64 0):=Za HE4.out 4;have t4:=Zc HE4.out 4;have c5:w4.cell? ⟨nb+1,5,none⟩=some (.int .u64 0):=Za HE4.out 5;have t5:=Zc HE4.out 5;have c6:w4.cell? ⟨nb+1,6,none⟩=some (.int .u64 0):=Za HE4.out 6;have t6:=Zc HE4.out 6)
    |(refine wpList_load_row rfl 141 (.tmp 3) ?_ (nb+1) ?_ 141 (Zh (setA (Q4.none.with b))) (0,0) _ ?_ Tryz.underlying141 rfl (Zj _) ?_;(with_reducible rfl);rfl;exact c2.out _ HE4.out)
    |(refine wpList_store_row rfl 141 (.tmp 2) (.tmp 34) ?_ nb (Zh (setA (Q4.none.with b))) ?_ ?_ 141 (Zh (setA Q4.none)) ?_ (Zj _) (by rw[Zi,Zi]) (Zm _) ?_;(with_reducible rfl);rfl;rfl;exact(Below.heap_setCell _ _ _ _ (by show nb≠nb+1;omega)).trans HN4.out))
   refine bodyPost_ret (results_cell_row rfl _ _ nb 141 (Zh (setA (Q4.none.with b))) (0,0) _ rfl (setRow_heap _ _ _ _ _ _ ((Below.heap_setCell _ ⟨nb+1,4,none⟩ _ _ (by show nb≠nb+1;omega)).trans HN4.out)) Tryz.underlying141 rfl (Zj _)) rfl ?_;refine⟨Only.setRow ((((((e0.then o1).then o2).then o3).then o4).setCell (p:=⟨nb+1,4,none⟩) (.inr (by show w.heap.size<=nb+1;omega)) _)) (q:=nb) (.inr (by omega)) _,.inr ⟨setA (Q4.none.with b),r,by rw[Yg],rfl,?_,Ju _ HQ.out _ _,by rw[Xy];simp⟩⟩;unfold ReadAt at h4 ⊢;rw[setRow_other _ _ _ _ (by omega)];exact(Below.heap_setCell _ _ _ _ (by show rb≠nb+1;omega)).trans h4
  ·have hd:(b:Int)/64=2:=by omega
   have o0:∀ W:World,W.heap[nb+1]?=some (.cells (Zh (setA Q4.none)) 141 (0,0))->(W.setCell ⟨nb+1,5,none⟩ (.int .u64 (YD 0 k))).heap[nb+1]?=some (.cells (Zh (setA (Q4.none.with b))) 141 (0,0)):=by
    intro W hW;rw[Zf hW];simp only[Q4.with];rw[if_neg (by omega),if_neg (by omega),if_pos (by omega)];rw[show b - 128=k by omega];rfl
   have c2:=Hd o0;clear o0
   go_enter Tryz.func192,Tryz.ntmps192
   go_wp2_with (first
    |(go_at_call 188;(with_reducible refine(m0.out).mono ?_);rintro e w1 ⟨rfl,h1,o1⟩;rw[<-hW0]at o1;obtain⟨HE1,HN1,-, -⟩:=Zn o1 (by omega) (by omega) (by omega) (by omega) HE HN;have P0:nb+1<w1.heap.size:=Zb HE1.out)
    |(go_at_call 188;(with_reducible refine(C0.out _ h1).mono ?_);rintro e w2 ⟨rfl,h2,o2⟩;obtain⟨HE2,HN2,-, -⟩:=Zn o2 (by omega) (by omega) (by omega) (by omega) HE1 HN1;have N0:nb+1<w2.heap.size:=Zb HE2.out)
    |(go_at_call 188;(with_reducible refine(R0.out _ h2).mono ?_);rintro e w3 ⟨rfl,h3,o3⟩;obtain⟨HE3,HN3,-, -⟩:=Zn o3 (by omega) (by omega) (by omega) (by omega) HE2 HN2;have T0:nb+1<w3.heap.size:=Zb HE3.out)
    |(go_at_call 197;refine(y0.out _ h3).mono ?_;rintro e w4 ⟨rfl,h4,o4⟩;obtain⟨HE4,HN4,-, -⟩:=Zn o4 (by omega) (by omega) (by omega) (by omega) HE3 HN3;have F1:nb+1<w4.heap.size:=Zb HE4.out;have c3:w4.cell? ⟨nb+1,3,none⟩=some (.int .u64 0):=Za HE4.out 3;have t3:=Zc HE4.out 3;have c4:w4.cell? ⟨nb+1,4,none⟩=some (.int .u64 0):=Za HE4.out 4;have t4:=Zc HE4.out 4;have c5:w4.cell? ⟨nb+1,5,none⟩=some (.int .u64 0):=Za HE4.out 5;have t5:=Zc HE4.out 5;have c6:w4.cell? ⟨nb+1,6,none⟩=some (.int .u64 0):=Za HE4.out 6;have t6:=Zc HE4.out 6)
    |(refine wpList_load_row rfl 141 (.tmp 3) ?_ (nb+1) ?_ 141 (Zh (setA (Q4.none.with b))) (0,0) _ ?_ Tryz.underlying141 rfl (Zj _) ?_;(with_reducible rfl);rfl;exact c2.out _ HE4.out)
    |(refine wpList_store_row rfl 141 (.tmp 2) (.tmp 34) ?_ nb (Zh (setA (Q4.none.with b))) ?_ ?_ 141 (Zh (setA Q4.none)) ?_ (Zj _) (by rw[Zi,Zi]) (Zm _) ?_;(with_reducible rfl);rfl;rfl;exact(Below.heap_setCell _ _ _ _ (by show nb≠nb+1;omega)).trans HN4.out))
   refine bodyPost_ret (results_cell_row rfl _ _ nb 141 (Zh (setA (Q4.none.with b))) (0,0) _ rfl (setRow_heap _ _ _ _ _ _ ((Below.heap_setCell _ ⟨nb+1,5,none⟩ _ _ (by show nb≠nb+1;omega)).trans HN4.out)) Tryz.underlying141 rfl (Zj _)) rfl ?_;refine⟨Only.setRow ((((((e0.then o1).then o2).then o3).then o4).setCell (p:=⟨nb+1,5,none⟩) (.inr (by show w.heap.size<=nb+1;omega)) _)) (q:=nb) (.inr (by omega)) _,.inr ⟨setA (Q4.none.with b),r,by rw[Yg],rfl,?_,Ju _ HQ.out _ _,by rw[Xy];simp⟩⟩;unfold ReadAt at h4 ⊢;rw[setRow_other _ _ _ _ (by omega)];exact(Below.heap_setCell _ _ _ _ (by show rb≠nb+1;omega)).trans h4
  ·have hd:(b:Int)/64=3:=by omega
   have o0:∀ W:World,W.heap[nb+1]?=some (.cells (Zh (setA Q4.none)) 141 (0,0))->(W.setCell ⟨nb+1,6,none⟩ (.int .u64 (YD 0 k))).heap[nb+1]?=some (.cells (Zh (setA (Q4.none.with b))) 141 (0,0)):=by
    intro W hW;rw[Zf hW];simp only[Q4.with];rw[if_neg (by omega),if_neg (by omega),if_neg (by omega)];rw[show b - 192=k by omega];rfl
   have c2:=Hd o0;clear o0
   go_enter Tryz.func192,Tryz.ntmps192
   go_wp2_with (first
    |(go_at_call 188;(with_reducible refine(m0.out).mono ?_);rintro e w1 ⟨rfl,h1,o1⟩;rw[<-hW0]at o1;obtain⟨HE1,HN1,-, -⟩:=Zn o1 (by omega) (by omega) (by omega) (by omega) HE HN;have P0:nb+1<w1.heap.size:=Zb HE1.out)
    |(go_at_call 188;(with_reducible refine(C0.out _ h1).mono ?_);rintro e w2 ⟨rfl,h2,o2⟩;obtain⟨HE2,HN2,-, -⟩:=Zn o2 (by omega) (by omega) (by omega) (by omega) HE1 HN1;have N0:nb+1<w2.heap.size:=Zb HE2.out)
    |(go_at_call 188;(with_reducible refine(R0.out _ h2).mono ?_);rintro e w3 ⟨rfl,h3,o3⟩;obtain⟨HE3,HN3,-, -⟩:=Zn o3 (by omega) (by omega) (by omega) (by omega) HE2 HN2;have T0:nb+1<w3.heap.size:=Zb HE3.out)
    |(go_at_call 197;refine(y0.out _ h3).mono ?_;rintro e w4 ⟨rfl,h4,o4⟩;obtain⟨HE4,HN4,-, -⟩:=Zn o4 (by omega) (by omega) (by omega) (by omega) HE3 HN3;have F1:nb+1<w4.heap.size:=Zb HE4.out;have c3:w4.cell? ⟨nb+1,3,none⟩=some (.int .u64 0):=Za HE4.out 3;have t3:=Zc HE4.out 3;have c4:w4.cell? ⟨nb+1,4,none⟩=some (.int .u64 0):=Za HE4.out 4;have t4:=Zc HE4.out 4;have c5:w4.cell? ⟨nb+1,5,none⟩=some (.int .u64 0):=Za HE4.out 5;have t5:=Zc HE4.out 5;have c6:w4.cell? ⟨nb+1,6,none⟩=some (.int .u64 0):=Za HE4.out 6;have t6:=Zc HE4.out 6)
    |(refine wpList_load_row rfl 141 (.tmp 3) ?_ (nb+1) ?_ 141 (Zh (setA (Q4.none.with b))) (0,0) _ ?_ Tryz.underlying141 rfl (Zj _) ?_;(with_reducible rfl);rfl;exact c2.out _ HE4.out)
    |(refine wpList_store_row rfl 141 (.tmp 2) (.tmp 34) ?_ nb (Zh (setA (Q4.none.with b))) ?_ ?_ 141 (Zh (setA Q4.none)) ?_ (Zj _) (by rw[Zi,Zi]) (Zm _) ?_;(with_reducible rfl);rfl;rfl;exact(Below.heap_setCell _ _ _ _ (by show nb≠nb+1;omega)).trans HN4.out))
   refine bodyPost_ret (results_cell_row rfl _ _ nb 141 (Zh (setA (Q4.none.with b))) (0,0) _ rfl (setRow_heap _ _ _ _ _ _ ((Below.heap_setCell _ ⟨nb+1,6,none⟩ _ _ (by show nb≠nb+1;omega)).trans HN4.out)) Tryz.underlying141 rfl (Zj _)) rfl ?_;refine⟨Only.setRow ((((((e0.then o1).then o2).then o3).then o4).setCell (p:=⟨nb+1,6,none⟩) (.inr (by show w.heap.size<=nb+1;omega)) _)) (q:=nb) (.inr (by omega)) _,.inr ⟨setA (Q4.none.with b),r,by rw[Yg],rfl,?_,Ju _ HQ.out _ _,by rw[Xy];simp⟩⟩;unfold ReadAt at h4 ⊢;rw[setRow_other _ _ _ _ (by omega)];exact(Below.heap_setCell _ _ _ _ (by show rb≠nb+1;omega)).trans h4
theorem ZeT(w:World)(rb:Nat)(s:List UInt8)(h:ReadAt w rb s)(hl:s.length<=128)(altf:List UInt8->Option (Rx × List UInt8))(h46:Zg 46 s=false)(h91:Zg 91 s=false)(h40:Zg 40 s=true)
 (halt:∀ w1,ReadAt w1 rb s.tail->Calls Tryz.prog 173 #[.pointer (some ⟨rb,0,none⟩)] w1 λe w2=>ZW rb w1 (altf s.tail) e w2) :
 Calls Tryz.prog 192 #[.pointer (some ⟨rb,0,none⟩)] w λe w'=>ZW rb w (XB altf s) e w':=by
 have H0:=Zb h
 obtain⟨nb,hnb⟩:∃ nb,w.heap.size=nb:=⟨_,rfl⟩
 obtain⟨W0,hW0⟩:∃ W0,W0=((w.alloc (.cells #[.int .i64 0,.int .i64 0,.int .i64 0,.int .u64 0,.int .u64 0,.int .u64 0,.int .u64 0,.slice none 0 0] 141)).alloc (.cells #[.int .i64 0,.int .i64 0,.int .i64 0,.int .u64 0,.int .u64 0,.int .u64 0,.int .u64 0,.slice none 0 0] 141)):=⟨_,rfl⟩
 have f0:ReadAt W0 rb s:=by rw[hW0];exact JW h _ _
 have c0:W0.heap[nb]?=some (.cells (Zh (setA Q4.none)) 141 (0,0)):=by rw[hW0,<-hnb];exact Ze (Zd _ _) _
 have d1:W0.heap[nb+1]?=some (.cells (Zh (setA Q4.none)) 141 (0,0)):=by rw[hW0,<-hnb];exact Zr _ _ _ (by simp)
 have e0:Only (λk=>k=rb) w W0:=by rw[hW0];exact(((Only.refl _ w).alloc _).alloc _)
 have c1:nb+1<W0.heap.size:=Zb d1;have m0:=Hd (Zx _ rb 46 s f0 h46);have C0:=Hd (λw1 (h1:ReadAt w1 rb s)=>Zx w1 rb 91 s h1 h91);have R0:=Hd (λw1 (h1:ReadAt w1 rb s)=>ZK w1 rb 40 s.tail (Zu h40▸h1));have HN:=Hd c0;have HE:=Hd d1;clear c0 d1;clear f0;rw[hW0]at m0
 cases hc:altf s.tail with
 |none=>
  have hB:XB altf s=none:=by unfold XB;rw[h46,h91,h40,hc];rfl
  rw[hc]at halt;have K1:=Hd (λw1 h1=>(halt w1 h1).mono λe w2 hR=>Y4 hR);clear halt hc;rw[hB]
  go_enter Tryz.func192,Tryz.ntmps192
  go_wp2_with (first
   |(go_at_call 188;(with_reducible refine(m0.out).mono ?_);rintro e w1 ⟨rfl,h1,o1⟩;rw[<-hW0]at o1;obtain⟨HE1,HN1,-, -⟩:=Zn o1 (by omega) (by omega) (by omega) (by omega) HE HN;have P0:nb+1<w1.heap.size:=Zb HE1.out)
   |(go_at_call 188;(with_reducible refine(C0.out _ h1).mono ?_);rintro e w2 ⟨rfl,h2,o2⟩;obtain⟨HE2,HN2,-, -⟩:=Zn o2 (by omega) (by omega) (by omega) (by omega) HE1 HN1;have N0:nb+1<w2.heap.size:=Zb HE2.out)
   |(go_at_call 188;(with_reducible refine(R0.out _ h2).mono ?_);rintro e w3 ⟨rfl,h3,o3⟩;obtain⟨HE3,HN3,-, -⟩:=Zn o3 (by omega) (by omega) (by omega) (by omega) HE2 HN2;have T0:nb+1<w3.heap.size:=Zb HE3.out)
   |(go_at_call 173;refine(K1.out _ h3).mono ?_;rintro e w4 ⟨rfl,o4⟩))
  exact⟨rfl,(((e0.then o1).then o2).then o3).then o4,.inl ⟨rfl,rfl⟩⟩
 |some p=>
  obtain⟨x,r⟩:=p;have hB:XB altf s=if Zg 41 r then some (x,r.tail) else none:=by unfold XB;rw[h46,h91,h40,hc];rfl
  rw[hc]at halt
  have L1:∀ w1,ReadAt w1 rb s.tail->Calls Tryz.prog 173 #[.pointer (some ⟨rb,0,none⟩)] w1 λe w2=>∃ X:RxA,x=X.bare/\e=.returned (.agg (Zh X))/\ReadAt w2 rb r/\Only (λk=>k=rb) w1 w2/\X.In w2 w2.heap.size/\∀ b∈X.blocks,w1.heap.size<=b/\b<w2.heap.size:=
   λw1 h1=>(halt w1 h1).mono λe w2 hR=>YC hR
  clear halt hc;have K1:=Hd L1;clear L1;rw[hB]
  cases h41:Zg 41 r with
  |false=>
   have d2:=Hd (λw1 (h1:ReadAt w1 rb r)=>Zx w1 rb 41 r h1 h41);clear h41
   go_enter Tryz.func192,Tryz.ntmps192
   go_wp2_with (first
    |(go_at_call 188;(with_reducible refine(m0.out).mono ?_);rintro e w1 ⟨rfl,h1,o1⟩;rw[<-hW0]at o1;obtain⟨HE1,HN1,-, -⟩:=Zn o1 (by omega) (by omega) (by omega) (by omega) HE HN;have P0:nb+1<w1.heap.size:=Zb HE1.out)
    |(go_at_call 188;(with_reducible refine(C0.out _ h1).mono ?_);rintro e w2 ⟨rfl,h2,o2⟩;obtain⟨HE2,HN2,-, -⟩:=Zn o2 (by omega) (by omega) (by omega) (by omega) HE1 HN1;have N0:nb+1<w2.heap.size:=Zb HE2.out)
    |(go_at_call 188;(with_reducible refine(R0.out _ h2).mono ?_);rintro e w3 ⟨rfl,h3,o3⟩;obtain⟨HE3,HN3,-, -⟩:=Zn o3 (by omega) (by omega) (by omega) (by omega) HE2 HN2;have T0:nb+1<w3.heap.size:=Zb HE3.out)
    |(go_at_call 173;refine(K1.out _ h3).mono ?_;rintro e w4 ⟨X,hX,rfl,h4,o4,hXin,hXb⟩;obtain⟨HE4,HN4,-, -⟩:=Zn o4 (by omega) (by omega) (by omega) (by omega) HE3 HN3;have F1:nb+1<w4.heap.size:=Zb HE4.out;have h5:ReadAt (w4.setRow (nb+1) (Zh X)) rb r:=(setRow_other _ _ _ _ (by omega)).trans h4)
    |(refine wpList_store_row rfl 141 (.tmp 3) (.tmp 30) ?_ (nb+1) (Zh X) ?_ ?_ 141 (Zh (setA Q4.none)) ?_ (Zj _) (by rw[Zi,Zi]) (Zm _) ?_;(with_reducible rfl);rfl;rfl;exact HE4.out)
    |(go_at_call 188;(with_reducible refine(d2.out _ h5).mono ?_);rintro e w6 ⟨rfl,h6,o6⟩)
    |(go_at_call 174;refine(XW rfl _).mono ?_;rintro e w7 ⟨rfl,rfl⟩))
   exact⟨rfl,((((((e0.then o1).then o2).then o3).then o4).setRow (q:=nb+1) (.inr (by omega)) _)).then o6,.inl ⟨rfl,rfl⟩⟩
  |true=>
   have d2:=Hd (λw1 (h1:ReadAt w1 rb r)=>ZK w1 rb 41 r.tail (Zu h41▸h1));clear h41;have hs4:∀ w4:World,(w4.setRow (nb+1) (Zh (setA Q4.none))).heap.size=w4.heap.size:=λw4=>by simp
   go_enter Tryz.func192,Tryz.ntmps192
   go_wp2_with (first
    |(go_at_call 188;(with_reducible refine(m0.out).mono ?_);rintro e w1 ⟨rfl,h1,o1⟩;rw[<-hW0]at o1;obtain⟨HE1,HN1,-, -⟩:=Zn o1 (by omega) (by omega) (by omega) (by omega) HE HN;have P0:nb+1<w1.heap.size:=Zb HE1.out)
    |(go_at_call 188;(with_reducible refine(C0.out _ h1).mono ?_);rintro e w2 ⟨rfl,h2,o2⟩;obtain⟨HE2,HN2,-, -⟩:=Zn o2 (by omega) (by omega) (by omega) (by omega) HE1 HN1;have N0:nb+1<w2.heap.size:=Zb HE2.out)
    |(go_at_call 188;(with_reducible refine(R0.out _ h2).mono ?_);rintro e w3 ⟨rfl,h3,o3⟩;obtain⟨HE3,HN3,-, -⟩:=Zn o3 (by omega) (by omega) (by omega) (by omega) HE2 HN2;have T0:nb+1<w3.heap.size:=Zb HE3.out)
    |(go_at_call 173;refine(K1.out _ h3).mono ?_;rintro e w4 ⟨X,hX,rfl,h4,o4,hXin,hXb⟩;obtain⟨HE4,HN4,-, -⟩:=Zn o4 (by omega) (by omega) (by omega) (by omega) HE3 HN3;have F1:nb+1<w4.heap.size:=Zb HE4.out;have h5:ReadAt (w4.setRow (nb+1) (Zh X)) rb r:=(setRow_other _ _ _ _ (by omega)).trans h4)
    |(refine wpList_store_row rfl 141 (.tmp 3) (.tmp 30) ?_ (nb+1) (Zh X) ?_ ?_ 141 (Zh (setA Q4.none)) ?_ (Zj _) (by rw[Zi,Zi]) (Zm _) ?_;(with_reducible rfl);rfl;rfl;exact HE4.out)
    |(go_at_call 188;(with_reducible refine(d2.out _ h5).mono ?_);rintro e w6 ⟨rfl,h6,o6⟩;have z3:=(o6.block (nb+1) (by simp;omega) (by omega)).trans (setRow_heap _ _ _ (Zh X) _ _ HE4.out);have m3:=(o6.block nb (by simp;omega) (by omega)).trans ((setRow_other _ (nb+1) nb (Zh X) (by omega)).trans HN4.out);have L0:=Hd z3;have K0:=Hd m3;clear z3 m3)
    |(go_at_call 174;refine(Xs rfl _).mono ?_;rintro e w7 ⟨rfl,rfl⟩)
    |(refine wpList_load_row rfl 141 (.tmp 3) ?_ (nb+1) ?_ 141 (Zh X) (0,0) _ ?_ Tryz.underlying141 rfl (Zj _) ?_;(with_reducible rfl);rfl;exact L0.out)
    |(refine wpList_store_row rfl 141 (.tmp 2) (.tmp 34) ?_ nb (Zh X) ?_ ?_ 141 (Zh (setA Q4.none)) ?_ (Zj _) (by rw[Zi,Zi]) (Zm _) ?_;(with_reducible rfl);rfl;rfl;exact K0.out))
   refine bodyPost_ret (results_cell_row rfl _ _ nb 141 (Zh X) (0,0) _ rfl (setRow_heap _ _ _ _ _ _ K0.out) Tryz.underlying141 rfl (Zj _)) rfl ?_;refine⟨((((((e0.then o1).then o2).then o3).then o4).setRow (q:=nb+1) (.inr (by omega)) _).then o6).setRow (q:=nb) (.inr (by omega)) _,.inr ⟨X,r.tail,rfl,rfl,?_,?_,?_⟩⟩
   ·unfold ReadAt at h6 ⊢;rw[setRow_other _ _ _ _ (by omega)];exact h6
   ·have f3:=o6.size;simp only[size_setRow]at f3 ⊢;refine hXin.keep λb hb=>?_
    obtain⟨hb1,hb2⟩:=hXb b hb;have P3:=o3.size;have O3:=o2.size;have L3:=o1.size;refine⟨by omega,λo=>World.cell?_of_block (w:=w4) ?_⟩;show(World.setRow _ _ _).heap[b]?=_;rw[setRow_other _ _ _ _ (by omega),o6.block b (by simp;omega) (by omega),setRow_other _ _ _ _ (by omega)]
   ·intro b hb;have f3:=o6.size;have hs0:=e0.size;have P3:=o3.size;have O3:=o2.size;have L3:=o1.size;simp only[size_setRow]at f3 ⊢;have:=hXb b hb;omega
theorem QY(w:World)(rb:Nat)(s:List UInt8)(h:ReadAt w rb s)(hl:s.length<=128)(altf:List UInt8->Option (Rx × List UInt8))
 (halt:Zg 40 s=true->∀ w1,ReadAt w1 rb s.tail->Calls Tryz.prog 173 #[.pointer (some ⟨rb,0,none⟩)] w1 λe w2=>ZW rb w1 (altf s.tail) e w2) :
 Calls Tryz.prog 192 #[.pointer (some ⟨rb,0,none⟩)] w λe w'=>ZW rb w (XB altf s) e w':=by
 cases h46:Zg 46 s with
 |true=>exact ZgD w rb s h hl altf h46
 |false=>
  cases h91:Zg 91 s with
  |true=>exact Zck w rb s h hl altf h46 h91
  |false=>
   cases h40:Zg 40 s with
   |true=>exact ZeT w rb s h hl altf h46 h91 h40 (halt h40)
   |false=>exact ZgC w rb s h hl altf h46 h91 h40
end Go.Proofs.YtbchkjfnakabkaaGreatDoor
namespace Go.Proofs.YtbchkjfnakabkaaGreatDoor
open Go.RowKit PX
def repA(m n:Int)(hb:Nat)(X:RxA):RxA:=.node 3 m n 0 0 0 0 (some ⟨hb,0,none⟩) 1 [X]
theorem YT(m n:Int)(hb:Nat)(X:RxA):(repA m n hb X).bare=.rep m n X.bare:=by simp[repA,RxA.bare,Rx.rep,XX]
theorem UN{w:World}{m n:Int}{hb:Nat}{X:RxA}(hm:0<=m/\m<=15)(hn:-1<=n/\n<=15)(hX:X.In w w.heap.size)(hh:w.heap[hb]?=some (.cells (Zh X) 141 (0,0))):(repA m n hb X).In w w.heap.size:=by
 have H0:=Zb hh;simp only[repA,RxA.In];refine⟨⟨⟨by omega,by omega⟩,⟨by omega,by omega⟩,⟨by omega,by omega⟩,⟨by omega,by omega⟩,⟨by omega,by omega⟩,⟨by omega,by omega⟩,⟨by omega,by omega⟩⟩,by simp,by unfold maxLen;omega,by simp,.inr ⟨hb,0,rfl,H0,?_⟩⟩;simp only[InL,and_true];refine⟨λj hj=>?_,hX⟩;rw[Za hh];simp[Zh]
theorem Yz{rb nb:Nat}{r:List UInt8}{W0 w1:World}{ON:Obj}(h1:ReadAt w1 rb r)(o1:Only (λk=>k=rb) W0 w1)(HN:Hid (W0.heap[nb]?=some ON))(a1:nb<W0.heap.size)(a2:¬ nb=rb)(a3:rb<w1.heap.size)(CS:Obj) :
 ReadAt (w1.alloc CS) rb r/\Hid ((w1.alloc CS).heap[w1.heap.size]?=some CS)/\Hid ((w1.alloc CS).heap[nb]?=some ON)/\w1.heap.size<(w1.alloc CS).heap.size/\nb<(w1.alloc CS).heap.size/\¬ w1.heap.size=rb/\¬ nb=rb/\Only (λk=>k=rb) W0 (w1.alloc CS):=
 have hE:=Zd w1 CS;have hN:=Ze ((o1.block nb a1 a2).trans HN.out) CS
 ⟨Ze h1 _,hE,hN,Zb hE,Zb hN,by omega,a2,o1.alloc CS⟩
theorem X7(m n:Int)(hb:Nat)(X:RxA):∀ b∈(repA m n hb X).blocks,b=hb\/b∈X.blocks:=by
 intro b h
 simpa [repA,RxA.blocks,X3] using h
theorem V1{w1 wk:World}{B:Nat}{X:RxA}(hX:X.In w1 w1.heap.size)(hB:∀ b∈X.blocks,B<=b/\b<w1.heap.size)(hblock:∀ b,B<=b->b<w1.heap.size->wk.heap[b]?=w1.heap[b]?)(hs:w1.heap.size<=wk.heap.size) :
 X.In wk wk.heap.size/\∀ b∈X.blocks,B<=b/\b<wk.heap.size:=
 ⟨hX.keep λb hb=>⟨by have:=hB b hb;omega,λo=>World.cell?_of_block (w:=w1) (hblock b (hB b hb).1 (hB b hb).2)⟩,λb hb=>by have:=hB b hb;omega⟩
def Xq(rb:Nat)(s:List UInt8)(x:Rx)(r:List UInt8):Prop:=∀ w1,ReadAt w1 rb s->Calls Tryz.prog 192 #[.pointer (some ⟨rb,0,none⟩)] w1 λe w2=>
 ∃ k mn mx s0 s1 s2 s3 a cap l,x=(RxA.node k mn mx s0 s1 s2 s3 a cap l).bare/\e=.returned (.agg #[.int .i64 k,.int .i64 mn,.int .i64 mx,.int .u64 s0,.int .u64 s1,.int .u64 s2,.int .u64 s3,.slice a l.length cap])/\ReadAt w2 rb r/\Only (λk=>k=rb) w1 w2/\(RxA.node k mn mx s0 s1 s2 s3 a cap l).In w2 w2.heap.size/\∀ b∈(RxA.node k mn mx s0 s1 s2 s3 a cap l).blocks,w1.heap.size<=b/\b<w2.heap.size
theorem Zbv(w:World)(rb:Nat)(s:List UInt8)(h:ReadAt w rb s)(x:Rx)(r:List UInt8)(hr:r.length<=128)(hatom:Xq rb s x r)(h42:Zg 42 r=false)(h43:Zg 43 r=false)(j0:Zg 63 r=false)(h123:Zg 123 r=false) :
 Calls Tryz.prog 186 #[.pointer (some ⟨rb,0,none⟩)] w λe w'=>ZW rb w (sign x r) e w':=by
 have H0:=Zb h
 obtain⟨nb,hnb⟩:∃ nb,w.heap.size=nb:=⟨_,rfl⟩
 obtain⟨W0,hW0⟩:∃ W0,W0=(w.alloc (.cells #[.int .i64 0,.int .i64 0,.int .i64 0,.int .u64 0,.int .u64 0,.int .u64 0,.int .u64 0,.slice none 0 0] 141)):=⟨_,rfl⟩
 have f0:ReadAt W0 rb s:=by rw[hW0];exact Ze h _
 have c0:W0.heap[nb]?=some (.cells (Zh (setA Q4.none)) 141 (0,0)):=by rw[hW0,<-hnb];exact Zd _ _
 have e0:Only (λk=>k=rb) w W0:=by rw[hW0];exact(Only.refl _ w).alloc _
 have c1:nb<W0.heap.size:=Zb c0;have a0:=Hd (hatom W0 f0);clear hatom f0;rw[hW0]at a0;have HN:=Hd c0;clear c0;have hS:sign x r=some (x,r):=by unfold sign;rw[h42,h43,j0,h123];rfl
 rw[hS];have i0:=Hd (λw1 (h1:ReadAt w1 rb r)=>Zx w1 rb 42 r h1 h42);have k0:=Hd (λw1 (h1:ReadAt w1 rb r)=>Zx w1 rb 43 r h1 h43);have l0:=Hd (λw1 (h1:ReadAt w1 rb r)=>Zx w1 rb 63 r h1 j0);have d0:=Hd (λw1 (h1:ReadAt w1 rb r)=>Zx w1 rb 123 r h1 h123)
 go_enter Tryz.func186,Tryz.ntmps186
 go_wp2_with (first
  |(go_at_call 192;(with_reducible refine a0.out.mono ?_);rintro e w1 ⟨k,mn,mx,s0,s1,s2,s3,a,cap,l,hX,rfl,h1,o1,hXin,hXb⟩;rw[<-hW0]at o1 hXb;have j1:=o1.size;have g0:rb<w1.heap.size:=(by omega);obtain⟨h2,HE2,HN2,hlE2,hlN2,hne,b0,o2⟩:=Yz h1 o1 HN (by omega) (by omega) g0 (.cells #[.int .i64 k,.int .i64 mn,.int .i64 mx,.int .u64 s0,.int .u64 s1,.int .u64 s2,.int .u64 s3,.slice a l.length cap] 141);have O0:=Hd hXin;have M0:=Hd hXb;clear hXin hXb)
  |(go_at_call 188;(with_reducible refine(i0.out _ h2).mono ?_);rintro e w3 ⟨rfl,h3,o3⟩;obtain⟨HE3,HN3,hlE3,hlN3⟩:=Zn o3 hlE2 hne hlN2 b0 HE2 HN2)
  |(go_at_call 188;(with_reducible refine(k0.out _ h3).mono ?_);rintro e w4 ⟨rfl,h4,o4⟩;obtain⟨HE4,HN4,hlE4,hlN4⟩:=Zn o4 hlE3 hne hlN3 b0 HE3 HN3)
  |(go_at_call 188;(with_reducible refine(l0.out _ h4).mono ?_);rintro e w5 ⟨rfl,h5,o5⟩;obtain⟨HE5,r0,hlE5,hlN5⟩:=Zn o5 hlE4 hne hlN4 b0 HE4 HN4)
  |(go_at_call 188;(with_reducible refine(d0.out _ h5).mono ?_);rintro e w6 ⟨rfl,h6,o6⟩;obtain⟨L0,K0,hlE6,hlN6⟩:=Zn o6 hlE5 hne hlN5 b0 HE5 r0)
  |(refine wpList_load_row rfl 141 (.tmp 3) ?_ w1.heap.size ?_ 141 #[.int .i64 k,.int .i64 mn,.int .i64 mx,.int .u64 s0,.int .u64 s1,.int .u64 s2,.int .u64 s3,.slice a l.length cap] (0,0) _ ?_ Tryz.underlying141 rfl ZH ?_;(with_reducible rfl);rfl;exact L0.out)
  |(refine wpList_store_row rfl 141 (.tmp 2) (.tmp 8) ?_ nb #[.int .i64 k,.int .i64 mn,.int .i64 mx,.int .u64 s0,.int .u64 s1,.int .u64 s2,.int .u64 s3,.slice a l.length cap] ?_ ?_ 141 (Zh (setA Q4.none)) ?_ ZH rfl (Zm (RxA.node k mn mx s0 s1 s2 s3 a cap l)) ?_;(with_reducible rfl);rfl;rfl;exact K0.out))
 refine bodyPost_ret (results_cell_row rfl _ _ nb 141 #[.int .i64 k,.int .i64 mn,.int .i64 mx,.int .u64 s0,.int .u64 s1,.int .u64 s2,.int .u64 s3,.slice a l.length cap] (0,0) _ rfl (setRow_heap _ _ _ _ _ _ K0.out) Tryz.underlying141 rfl ZH) rfl ?_;have oc:=((o3.then o4).then o5).then o6;obtain⟨hin,hbl⟩:=V1 (wk:=w6.setRow nb #[.int .i64 k,.int .i64 mn,.int .i64 mx,.int .u64 s0,.int .u64 s1,.int .u64 s2,.int .u64 s3,.slice a l.length cap]) O0.out M0.out (λb h1 h2=>by rw[setRow_other _ _ _ _ (by omega),oc.block b (by simp;omega) (by omega),Below.heap_alloc _ _ _ h2]) (by have:=oc.size;simp at this ⊢;omega);refine⟨((e0.then o2).then oc).setRow (q:=nb) (.inr (by omega)) _,.inr ⟨(RxA.node k mn mx s0 s1 s2 s3 a cap l),r,by rw[hX],rfl,(setRow_other _ _ _ _ (by omega)).trans h6,hin,λb hb=>⟨by have:=e0.size;have:=(hbl b hb).1;omega,(hbl b hb).2⟩⟩⟩
theorem Zbs(w:World)(rb:Nat)(s:List UInt8)(h:ReadAt w rb s)(x:Rx)(r:List UInt8)(hr:r.length<=128)(hatom:Xq rb s x r)(h42:Zg 42 r=true) :
 Calls Tryz.prog 186 #[.pointer (some ⟨rb,0,none⟩)] w λe w'=>ZW rb w (sign x r) e w':=by
 have H0:=Zb h
 obtain⟨nb,hnb⟩:∃ nb,w.heap.size=nb:=⟨_,rfl⟩
 obtain⟨W0,hW0⟩:∃ W0,W0=(w.alloc (.cells #[.int .i64 0,.int .i64 0,.int .i64 0,.int .u64 0,.int .u64 0,.int .u64 0,.int .u64 0,.slice none 0 0] 141)):=⟨_,rfl⟩
 have f0:ReadAt W0 rb s:=by rw[hW0];exact Ze h _
 have c0:W0.heap[nb]?=some (.cells (Zh (setA Q4.none)) 141 (0,0)):=by rw[hW0,<-hnb];exact Zd _ _
 have e0:Only (λk=>k=rb) w W0:=by rw[hW0];exact(Only.refl _ w).alloc _
 have c1:nb<W0.heap.size:=Zb c0;have a0:=Hd (hatom W0 f0);clear hatom f0;rw[hW0]at a0;have HN:=Hd c0;clear c0;have hS:sign x r=some (.rep 0 (-1) x,r.tail):=by unfold sign;rw[h42];rfl
 rw[hS];have k1:(0:Int)<=0/\(0:Int)<=15:=by omega
 have z1:(-1:Int)<=(-1)/\((-1):Int)<=15:=by omega
 have i0:=Hd (λw1 (h1:ReadAt w1 rb r)=>ZK w1 rb 42 r.tail (Zu h42▸h1))
 go_enter Tryz.func186,Tryz.ntmps186
 go_wp2_with (first
  |(go_at_call 192;(with_reducible refine a0.out.mono ?_);rintro e w1 ⟨k,mn,mx,s0,s1,s2,s3,a,cap,l,hX,rfl,h1,o1,hXin,hXb⟩;rw[<-hW0]at o1 hXb;have j1:=o1.size;have g0:rb<w1.heap.size:=(by omega);obtain⟨h2,HE2,HN2,hlE2,hlN2,hne,b0,o2⟩:=Yz h1 o1 HN (by omega) (by omega) g0 (.cells #[.int .i64 k,.int .i64 mn,.int .i64 mx,.int .u64 s0,.int .u64 s1,.int .u64 s2,.int .u64 s3,.slice a l.length cap] 141);have O0:=Hd hXin;have M0:=Hd hXb;clear hXin hXb)
  |(go_at_call 188;(with_reducible refine(i0.out _ h2).mono ?_);rintro e w3 ⟨rfl,h3,o3⟩;obtain⟨HE3,HN3,hlE3,hlN3⟩:=Zn o3 hlE2 hne hlN2 b0 HE2 HN2)
  |(refine wpList_load_row rfl 141 (.tmp 3) ?_ w1.heap.size ?_ 141 #[.int .i64 k,.int .i64 mn,.int .i64 mx,.int .u64 s0,.int .u64 s1,.int .u64 s2,.int .u64 s3,.slice a l.length cap] (0,0) _ ?_ Tryz.underlying141 rfl ZH ?_;(with_reducible rfl);rfl;exact HE3.out)
  |(refine wpList_store_row rfl 141 (.tmp 2) (.tmp 52) ?_ nb #[.int .i64 3,.int .i64 0,.int .i64 (-1),.int .u64 0,.int .u64 0,.int .u64 0,.int .u64 0,.slice (some ⟨w3.heap.size,0,none⟩) 1 1] ?_ ?_ 141 (Zh (setA Q4.none)) ?_ ZH rfl (Zm (repA 0 (-1) w3.heap.size (RxA.node k mn mx s0 s1 s2 s3 a cap l))) ?_;(with_reducible rfl);rfl;rfl;exact Ze HN3.out _))
 refine bodyPost_ret (results_cell_row rfl _ _ nb 141 #[.int .i64 3,.int .i64 0,.int .i64 (-1),.int .u64 0,.int .u64 0,.int .u64 0,.int .u64 0,.slice (some ⟨w3.heap.size,0,none⟩) 1 1] (0,0) _ rfl (setRow_heap _ _ _ _ _ _ (Ze HN3.out (.cells #[.int .i64 k,.int .i64 mn,.int .i64 mx,.int .u64 s0,.int .u64 s1,.int .u64 s2,.int .u64 s3,.slice a l.length cap] 141))) Tryz.underlying141 rfl ZH) rfl ?_;have oc:=o3;have A1:=oc.size;simp only[World.size_alloc]at A1;obtain⟨hin,hbl⟩:=V1 (wk:=(w3.alloc (.cells #[.int .i64 k,.int .i64 mn,.int .i64 mx,.int .u64 s0,.int .u64 s1,.int .u64 s2,.int .u64 s3,.slice a l.length cap] 141)).setRow nb #[.int .i64 3,.int .i64 0,.int .i64 (-1),.int .u64 0,.int .u64 0,.int .u64 0,.int .u64 0,.slice (some ⟨w3.heap.size,0,none⟩) 1 1]) O0.out M0.out (λb h1 h2=>by rw[setRow_other _ _ _ _ (by omega),Below.heap_alloc _ _ _ (by omega),oc.block b (by simp;omega) (by omega),Below.heap_alloc _ _ _ h2]) (by simp;omega);have I0:=UN (m:=0) (n:=(-1)) k1 z1 hin ((setRow_other (w3.alloc (.cells #[.int .i64 k,.int .i64 mn,.int .i64 mx,.int .u64 s0,.int .u64 s1,.int .u64 s2,.int .u64 s3,.slice a l.length cap] 141)) nb w3.heap.size #[.int .i64 3,.int .i64 0,.int .i64 (-1),.int .u64 0,.int .u64 0,.int .u64 0,.int .u64 0,.slice (some ⟨w3.heap.size,0,none⟩) 1 1] (by omega)).trans (Zd _ _));refine⟨(((e0.then o2).then oc).alloc _).setRow (q:=nb) (.inr (by omega)) _,.inr ⟨repA 0 (-1) w3.heap.size (RxA.node k mn mx s0 s1 s2 s3 a cap l),r.tail,by rw[YT,<-hX],rfl,(setRow_other _ _ _ _ (by omega)).trans (Ze h3 _),I0,λb hb=>?_⟩⟩;rcases X7 _ _ _ _ b hb with rfl|hb
 ·have:=e0.size;simp only[size_setRow,World.size_alloc];omega
 ·have:=hbl b hb;have:=e0.size;omega
theorem Zbu(w:World)(rb:Nat)(s:List UInt8)(h:ReadAt w rb s)(x:Rx)(r:List UInt8)(hr:r.length<=128)(hatom:Xq rb s x r)(h42:Zg 42 r=false)(h43:Zg 43 r=true) :
 Calls Tryz.prog 186 #[.pointer (some ⟨rb,0,none⟩)] w λe w'=>ZW rb w (sign x r) e w':=by
 have H0:=Zb h
 obtain⟨nb,hnb⟩:∃ nb,w.heap.size=nb:=⟨_,rfl⟩
 obtain⟨W0,hW0⟩:∃ W0,W0=(w.alloc (.cells #[.int .i64 0,.int .i64 0,.int .i64 0,.int .u64 0,.int .u64 0,.int .u64 0,.int .u64 0,.slice none 0 0] 141)):=⟨_,rfl⟩
 have f0:ReadAt W0 rb s:=by rw[hW0];exact Ze h _
 have c0:W0.heap[nb]?=some (.cells (Zh (setA Q4.none)) 141 (0,0)):=by rw[hW0,<-hnb];exact Zd _ _
 have e0:Only (λk=>k=rb) w W0:=by rw[hW0];exact(Only.refl _ w).alloc _
 have c1:nb<W0.heap.size:=Zb c0;have a0:=Hd (hatom W0 f0);clear hatom f0;rw[hW0]at a0;have HN:=Hd c0;clear c0;have hS:sign x r=some (.rep 1 (-1) x,r.tail):=by unfold sign;rw[h42,h43];rfl
 rw[hS];have k1:(0:Int)<=1/\(1:Int)<=15:=by omega
 have z1:(-1:Int)<=(-1)/\((-1):Int)<=15:=by omega
 have i0:=Hd (λw1 (h1:ReadAt w1 rb r)=>Zx w1 rb 42 r h1 h42);have k0:=Hd (λw1 (h1:ReadAt w1 rb r)=>ZK w1 rb 43 r.tail (Zu h43▸h1))
 go_enter Tryz.func186,Tryz.ntmps186
 go_wp2_with (first
  |(go_at_call 192;(with_reducible refine a0.out.mono ?_);rintro e w1 ⟨k,mn,mx,s0,s1,s2,s3,a,cap,l,hX,rfl,h1,o1,hXin,hXb⟩;rw[<-hW0]at o1 hXb;have j1:=o1.size;have g0:rb<w1.heap.size:=(by omega);obtain⟨h2,HE2,HN2,hlE2,hlN2,hne,b0,o2⟩:=Yz h1 o1 HN (by omega) (by omega) g0 (.cells #[.int .i64 k,.int .i64 mn,.int .i64 mx,.int .u64 s0,.int .u64 s1,.int .u64 s2,.int .u64 s3,.slice a l.length cap] 141);have O0:=Hd hXin;have M0:=Hd hXb;clear hXin hXb)
  |(go_at_call 188;(with_reducible refine(i0.out _ h2).mono ?_);rintro e w3 ⟨rfl,h3,o3⟩;obtain⟨HE3,HN3,hlE3,hlN3⟩:=Zn o3 hlE2 hne hlN2 b0 HE2 HN2)
  |(go_at_call 188;(with_reducible refine(k0.out _ h3).mono ?_);rintro e w4 ⟨rfl,h4,o4⟩;obtain⟨HE4,HN4,hlE4,hlN4⟩:=Zn o4 hlE3 hne hlN3 b0 HE3 HN3)
  |(refine wpList_load_row rfl 141 (.tmp 3) ?_ w1.heap.size ?_ 141 #[.int .i64 k,.int .i64 mn,.int .i64 mx,.int .u64 s0,.int .u64 s1,.int .u64 s2,.int .u64 s3,.slice a l.length cap] (0,0) _ ?_ Tryz.underlying141 rfl ZH ?_;(with_reducible rfl);rfl;exact HE4.out)
  |(refine wpList_store_row rfl 141 (.tmp 2) (.tmp 52) ?_ nb #[.int .i64 3,.int .i64 1,.int .i64 (-1),.int .u64 0,.int .u64 0,.int .u64 0,.int .u64 0,.slice (some ⟨w4.heap.size,0,none⟩) 1 1] ?_ ?_ 141 (Zh (setA Q4.none)) ?_ ZH rfl (Zm (repA 1 (-1) w4.heap.size (RxA.node k mn mx s0 s1 s2 s3 a cap l))) ?_;(with_reducible rfl);rfl;rfl;exact Ze HN4.out _))
 refine bodyPost_ret (results_cell_row rfl _ _ nb 141 #[.int .i64 3,.int .i64 1,.int .i64 (-1),.int .u64 0,.int .u64 0,.int .u64 0,.int .u64 0,.slice (some ⟨w4.heap.size,0,none⟩) 1 1] (0,0) _ rfl (setRow_heap _ _ _ _ _ _ (Ze HN4.out (.cells #[.int .i64 k,.int .i64 mn,.int .i64 mx,.int .u64 s0,.int .u64 s1,.int .u64 s2,.int .u64 s3,.slice a l.length cap] 141))) Tryz.underlying141 rfl ZH) rfl ?_
 have oc:=(o3.then o4)
 have A1:=oc.size;simp only[World.size_alloc]at A1;obtain⟨hin,hbl⟩:=V1 (wk:=(w4.alloc (.cells #[.int .i64 k,.int .i64 mn,.int .i64 mx,.int .u64 s0,.int .u64 s1,.int .u64 s2,.int .u64 s3,.slice a l.length cap] 141)).setRow nb #[.int .i64 3,.int .i64 1,.int .i64 (-1),.int .u64 0,.int .u64 0,.int .u64 0,.int .u64 0,.slice (some ⟨w4.heap.size,0,none⟩) 1 1]) O0.out M0.out (λb h1 h2=>by rw[setRow_other _ _ _ _ (by omega),Below.heap_alloc _ _ _ (by omega),oc.block b (by simp;omega) (by omega),Below.heap_alloc _ _ _ h2]) (by simp;omega);have I0:=UN (m:=1) (n:=(-1)) k1 z1 hin ((setRow_other (w4.alloc (.cells #[.int .i64 k,.int .i64 mn,.int .i64 mx,.int .u64 s0,.int .u64 s1,.int .u64 s2,.int .u64 s3,.slice a l.length cap] 141)) nb w4.heap.size #[.int .i64 3,.int .i64 1,.int .i64 (-1),.int .u64 0,.int .u64 0,.int .u64 0,.int .u64 0,.slice (some ⟨w4.heap.size,0,none⟩) 1 1] (by omega)).trans (Zd _ _));refine⟨(((e0.then o2).then oc).alloc _).setRow (q:=nb) (.inr (by omega)) _,.inr ⟨repA 1 (-1) w4.heap.size (RxA.node k mn mx s0 s1 s2 s3 a cap l),r.tail,by rw[YT,<-hX],rfl,(setRow_other _ _ _ _ (by omega)).trans (Ze h4 _),I0,λb hb=>?_⟩⟩;rcases X7 _ _ _ _ b hb with rfl|hb
 ·have:=e0.size;simp only[size_setRow,World.size_alloc];omega
 ·have:=hbl b hb;have:=e0.size;omega
theorem Zdq(w:World)(rb:Nat)(s:List UInt8)(h:ReadAt w rb s)(x:Rx)(r:List UInt8)(hr:r.length<=128)(hatom:Xq rb s x r)(h42:Zg 42 r=false)(h43:Zg 43 r=false)(j0:Zg 63 r=true) :
 Calls Tryz.prog 186 #[.pointer (some ⟨rb,0,none⟩)] w λe w'=>ZW rb w (sign x r) e w':=by
 have H0:=Zb h
 obtain⟨nb,hnb⟩:∃ nb,w.heap.size=nb:=⟨_,rfl⟩
 obtain⟨W0,hW0⟩:∃ W0,W0=(w.alloc (.cells #[.int .i64 0,.int .i64 0,.int .i64 0,.int .u64 0,.int .u64 0,.int .u64 0,.int .u64 0,.slice none 0 0] 141)):=⟨_,rfl⟩
 have f0:ReadAt W0 rb s:=by rw[hW0];exact Ze h _
 have c0:W0.heap[nb]?=some (.cells (Zh (setA Q4.none)) 141 (0,0)):=by rw[hW0,<-hnb];exact Zd _ _
 have e0:Only (λk=>k=rb) w W0:=by rw[hW0];exact(Only.refl _ w).alloc _
 have c1:nb<W0.heap.size:=Zb c0;have a0:=Hd (hatom W0 f0);clear hatom f0;rw[hW0]at a0;have HN:=Hd c0;clear c0;have hS:sign x r=some (.rep 0 1 x,r.tail):=by unfold sign;rw[h42,h43,j0];rfl
 rw[hS];have k1:(0:Int)<=0/\(0:Int)<=15:=by omega
 have z1:(-1:Int)<=1/\(1:Int)<=15:=by omega
 have i0:=Hd (λw1 (h1:ReadAt w1 rb r)=>Zx w1 rb 42 r h1 h42);have k0:=Hd (λw1 (h1:ReadAt w1 rb r)=>Zx w1 rb 43 r h1 h43);have l0:=Hd (λw1 (h1:ReadAt w1 rb r)=>ZK w1 rb 63 r.tail (Zu j0▸h1))
 go_enter Tryz.func186,Tryz.ntmps186
 go_wp2_with (first
  |(go_at_call 192;(with_reducible refine a0.out.mono ?_);rintro e w1 ⟨k,mn,mx,s0,s1,s2,s3,a,cap,l,hX,rfl,h1,o1,hXin,hXb⟩;rw[<-hW0]at o1 hXb;have j1:=o1.size;have g0:rb<w1.heap.size:=(by omega);obtain⟨h2,HE2,HN2,hlE2,hlN2,hne,b0,o2⟩:=Yz h1 o1 HN (by omega) (by omega) g0 (.cells #[.int .i64 k,.int .i64 mn,.int .i64 mx,.int .u64 s0,.int .u64 s1,.int .u64 s2,.int .u64 s3,.slice a l.length cap] 141);have O0:=Hd hXin;have M0:=Hd hXb;clear hXin hXb)
  |(go_at_call 188;(with_reducible refine(i0.out _ h2).mono ?_);rintro e w3 ⟨rfl,h3,o3⟩;obtain⟨HE3,HN3,hlE3,hlN3⟩:=Zn o3 hlE2 hne hlN2 b0 HE2 HN2)
  |(go_at_call 188;(with_reducible refine(k0.out _ h3).mono ?_);rintro e w4 ⟨rfl,h4,o4⟩;obtain⟨HE4,HN4,hlE4,hlN4⟩:=Zn o4 hlE3 hne hlN3 b0 HE3 HN3)
  |(go_at_call 188;(with_reducible refine(l0.out _ h4).mono ?_);rintro e w5 ⟨rfl,h5,o5⟩;obtain⟨HE5,r0,hlE5,hlN5⟩:=Zn o5 hlE4 hne hlN4 b0 HE4 HN4)
  |(refine wpList_load_row rfl 141 (.tmp 3) ?_ w1.heap.size ?_ 141 #[.int .i64 k,.int .i64 mn,.int .i64 mx,.int .u64 s0,.int .u64 s1,.int .u64 s2,.int .u64 s3,.slice a l.length cap] (0,0) _ ?_ Tryz.underlying141 rfl ZH ?_;(with_reducible rfl);rfl;exact HE5.out)
  |(refine wpList_store_row rfl 141 (.tmp 2) (.tmp 52) ?_ nb #[.int .i64 3,.int .i64 0,.int .i64 1,.int .u64 0,.int .u64 0,.int .u64 0,.int .u64 0,.slice (some ⟨w5.heap.size,0,none⟩) 1 1] ?_ ?_ 141 (Zh (setA Q4.none)) ?_ ZH rfl (Zm (repA 0 1 w5.heap.size (RxA.node k mn mx s0 s1 s2 s3 a cap l))) ?_;(with_reducible rfl);rfl;rfl;exact Ze r0.out _))
 refine bodyPost_ret (results_cell_row rfl _ _ nb 141 #[.int .i64 3,.int .i64 0,.int .i64 1,.int .u64 0,.int .u64 0,.int .u64 0,.int .u64 0,.slice (some ⟨w5.heap.size,0,none⟩) 1 1] (0,0) _ rfl (setRow_heap _ _ _ _ _ _ (Ze r0.out (.cells #[.int .i64 k,.int .i64 mn,.int .i64 mx,.int .u64 s0,.int .u64 s1,.int .u64 s2,.int .u64 s3,.slice a l.length cap] 141))) Tryz.underlying141 rfl ZH) rfl ?_
 have oc:=((o3.then o4).then o5)
 have A1:=oc.size;simp only[World.size_alloc]at A1;obtain⟨hin,hbl⟩:=V1 (wk:=(w5.alloc (.cells #[.int .i64 k,.int .i64 mn,.int .i64 mx,.int .u64 s0,.int .u64 s1,.int .u64 s2,.int .u64 s3,.slice a l.length cap] 141)).setRow nb #[.int .i64 3,.int .i64 0,.int .i64 1,.int .u64 0,.int .u64 0,.int .u64 0,.int .u64 0,.slice (some ⟨w5.heap.size,0,none⟩) 1 1]) O0.out M0.out (λb h1 h2=>by rw[setRow_other _ _ _ _ (by omega),Below.heap_alloc _ _ _ (by omega),oc.block b (by simp;omega) (by omega),Below.heap_alloc _ _ _ h2]) (by simp;omega);have I0:=UN (m:=0) (n:=1) k1 z1 hin ((setRow_other (w5.alloc (.cells #[.int .i64 k,.int .i64 mn,.int .i64 mx,.int .u64 s0,.int .u64 s1,.int .u64 s2,.int .u64 s3,.slice a l.length cap] 141)) nb w5.heap.size #[.int .i64 3,.int .i64 0,.int .i64 1,.int .u64 0,.int .u64 0,.int .u64 0,.int .u64 0,.slice (some ⟨w5.heap.size,0,none⟩) 1 1] (by omega)).trans (Zd _ _));refine⟨(((e0.then o2).then oc).alloc _).setRow (q:=nb) (.inr (by omega)) _,.inr ⟨repA 0 1 w5.heap.size (RxA.node k mn mx s0 s1 s2 s3 a cap l),r.tail,by rw[YT,<-hX],rfl,(setRow_other _ _ _ _ (by omega)).trans (Ze h5 _),I0,λb hb=>?_⟩⟩;rcases X7 _ _ _ _ b hb with rfl|hb
 ·have:=e0.size;simp only[size_setRow,World.size_alloc];omega
 ·have:=hbl b hb;have:=e0.size;omega
theorem ZfG(w:World)(rb:Nat)(s:List UInt8)(h:ReadAt w rb s)(x:Rx)(r:List UInt8)(hr:r.length<=128)(hatom:Xq rb s x r)(h42:Zg 42 r=false)(h43:Zg 43 r=false)(j0:Zg 63 r=false)(h123:Zg 123 r=true)(hn:Z4 r.tail=none) :
 Calls Tryz.prog 186 #[.pointer (some ⟨rb,0,none⟩)] w λe w'=>ZW rb w (sign x r) e w':=by
 have H0:=Zb h
 obtain⟨nb,hnb⟩:∃ nb,w.heap.size=nb:=⟨_,rfl⟩
 obtain⟨W0,hW0⟩:∃ W0,W0=(w.alloc (.cells #[.int .i64 0,.int .i64 0,.int .i64 0,.int .u64 0,.int .u64 0,.int .u64 0,.int .u64 0,.slice none 0 0] 141)):=⟨_,rfl⟩
 have f0:ReadAt W0 rb s:=by rw[hW0];exact Ze h _
 have c0:W0.heap[nb]?=some (.cells (Zh (setA Q4.none)) 141 (0,0)):=by rw[hW0,<-hnb];exact Zd _ _
 have e0:Only (λk=>k=rb) w W0:=by rw[hW0];exact(Only.refl _ w).alloc _
 have c1:nb<W0.heap.size:=Zb c0;have a0:=Hd (hatom W0 f0);clear hatom f0;rw[hW0]at a0;have HN:=Hd c0;clear c0;have A0:sign x r=match Z5 r.tail with|none=>none|some (m,n,r')=>some (.rep m n x,r'):=by unfold sign;rw[h42,h43,j0,h123];rfl
 have J1:=Xu r;have i0:=Hd (λw1 (h1:ReadAt w1 rb r)=>Zx w1 rb 42 r h1 h42);have k0:=Hd (λw1 (h1:ReadAt w1 rb r)=>Zx w1 rb 43 r h1 h43);have l0:=Hd (λw1 (h1:ReadAt w1 rb r)=>Zx w1 rb 63 r h1 j0);have d0:=Hd (λw1 (h1:ReadAt w1 rb r)=>ZK w1 rb 123 r.tail (Zu h123▸h1));have S0:=Hd (λw1 (h1:ReadAt w1 rb r.tail)=>(Xi w1 rb r.tail h1 (by omega)).mono λe w2 hR=>hR.none hn)
 have hS:sign x r=none:=by
  rw[A0];simp[Z5,hn]
 rw[hS];clear hS A0
 go_enter Tryz.func186,Tryz.ntmps186
 go_wp2_with (first
  |(go_at_call 192;(with_reducible refine a0.out.mono ?_);rintro e w1 ⟨k,mn,mx,s0,s1,s2,s3,a,cap,l,hX,rfl,h1,o1,hXin,hXb⟩;rw[<-hW0]at o1 hXb;have j1:=o1.size;have g0:rb<w1.heap.size:=(by omega);obtain⟨h2,HE2,HN2,hlE2,hlN2,hne,b0,o2⟩:=Yz h1 o1 HN (by omega) (by omega) g0 (.cells #[.int .i64 k,.int .i64 mn,.int .i64 mx,.int .u64 s0,.int .u64 s1,.int .u64 s2,.int .u64 s3,.slice a l.length cap] 141);have O0:=Hd hXin;have M0:=Hd hXb;clear hXin hXb)
  |(go_at_call 188;(with_reducible refine(i0.out _ h2).mono ?_);rintro e w3 ⟨rfl,h3,o3⟩;obtain⟨HE3,HN3,hlE3,hlN3⟩:=Zn o3 hlE2 hne hlN2 b0 HE2 HN2)
  |(go_at_call 188;(with_reducible refine(k0.out _ h3).mono ?_);rintro e w4 ⟨rfl,h4,o4⟩;obtain⟨HE4,HN4,hlE4,hlN4⟩:=Zn o4 hlE3 hne hlN3 b0 HE3 HN3)
  |(go_at_call 188;(with_reducible refine(l0.out _ h4).mono ?_);rintro e w5 ⟨rfl,h5,o5⟩;obtain⟨HE5,r0,hlE5,hlN5⟩:=Zn o5 hlE4 hne hlN4 b0 HE4 HN4)
  |(go_at_call 188;(with_reducible refine(d0.out _ h5).mono ?_);rintro e w6 ⟨rfl,h6,o6⟩;obtain⟨L0,K0,hlE6,hlN6⟩:=Zn o6 hlE5 hne hlN5 b0 HE5 r0)
  |(go_at_call 193;(with_reducible refine(S0.out _ h6).mono ?_);rintro e w7 ⟨rfl,o7⟩))
 exact⟨rfl,((((((e0.then o2).then o3).then o4).then o5).then o6).then o7),.inl ⟨rfl,rfl⟩⟩
theorem ZfF(w:World)(rb:Nat)(s:List UInt8)(h:ReadAt w rb s)(x:Rx)(r:List UInt8)(hr:r.length<=128)(hatom:Xq rb s x r)(h42:Zg 42 r=false)(h43:Zg 43 r=false)(j0:Zg 63 r=false)(h123:Zg 123 r=true)(m:Nat)(r1:List UInt8)(hn:Z4 r.tail=some (m,r1))(h44:Zg 44 r1=false)(h125:Zg 125 r1=false) :
 Calls Tryz.prog 186 #[.pointer (some ⟨rb,0,none⟩)] w λe w'=>ZW rb w (sign x r) e w':=by
 have H0:=Zb h
 obtain⟨nb,hnb⟩:∃ nb,w.heap.size=nb:=⟨_,rfl⟩
 obtain⟨W0,hW0⟩:∃ W0,W0=(w.alloc (.cells #[.int .i64 0,.int .i64 0,.int .i64 0,.int .u64 0,.int .u64 0,.int .u64 0,.int .u64 0,.slice none 0 0] 141)):=⟨_,rfl⟩
 have f0:ReadAt W0 rb s:=by rw[hW0];exact Ze h _
 have c0:W0.heap[nb]?=some (.cells (Zh (setA Q4.none)) 141 (0,0)):=by rw[hW0,<-hnb];exact Zd _ _
 have e0:Only (λk=>k=rb) w W0:=by rw[hW0];exact(Only.refl _ w).alloc _
 have c1:nb<W0.heap.size:=Zb c0;have a0:=Hd (hatom W0 f0);clear hatom f0;rw[hW0]at a0;have HN:=Hd c0;clear c0;have A0:sign x r=match Z5 r.tail with|none=>none|some (m,n,r')=>some (.rep m n x,r'):=by unfold sign;rw[h42,h43,j0,h123];rfl
 have J1:=Xu r;have i0:=Hd (λw1 (h1:ReadAt w1 rb r)=>Zx w1 rb 42 r h1 h42);have k0:=Hd (λw1 (h1:ReadAt w1 rb r)=>Zx w1 rb 43 r h1 h43);have l0:=Hd (λw1 (h1:ReadAt w1 rb r)=>Zx w1 rb 63 r h1 j0);have d0:=Hd (λw1 (h1:ReadAt w1 rb r)=>ZK w1 rb 123 r.tail (Zu h123▸h1));have R1:=Xw hn;have S0:=Hd (λw1 (h1:ReadAt w1 rb r.tail)=>(Xi w1 rb r.tail h1 (by omega)).mono λe w2 hR=>hR.some hn);have p0:=Hd (λw1 (h1:ReadAt w1 rb r1)=>Zx w1 rb 44 r1 h1 h44);have n0:=Hd (λw1 (h1:ReadAt w1 rb r1)=>Zx w1 rb 125 r1 h1 h125)
 have hS:sign x r=none:=by
  rw[A0];simp[Z5,hn,h44,h125]
 rw[hS];clear hS A0
 go_enter Tryz.func186,Tryz.ntmps186
 go_wp2_with (first
  |(go_at_call 192;(with_reducible refine a0.out.mono ?_);rintro e w1 ⟨k,mn,mx,s0,s1,s2,s3,a,cap,l,hX,rfl,h1,o1,hXin,hXb⟩;rw[<-hW0]at o1 hXb;have j1:=o1.size;have g0:rb<w1.heap.size:=(by omega);obtain⟨h2,HE2,HN2,hlE2,hlN2,hne,b0,o2⟩:=Yz h1 o1 HN (by omega) (by omega) g0 (.cells #[.int .i64 k,.int .i64 mn,.int .i64 mx,.int .u64 s0,.int .u64 s1,.int .u64 s2,.int .u64 s3,.slice a l.length cap] 141);have O0:=Hd hXin;have M0:=Hd hXb;clear hXin hXb)
  |(go_at_call 188;(with_reducible refine(i0.out _ h2).mono ?_);rintro e w3 ⟨rfl,h3,o3⟩;obtain⟨HE3,HN3,hlE3,hlN3⟩:=Zn o3 hlE2 hne hlN2 b0 HE2 HN2)
  |(go_at_call 188;(with_reducible refine(k0.out _ h3).mono ?_);rintro e w4 ⟨rfl,h4,o4⟩;obtain⟨HE4,HN4,hlE4,hlN4⟩:=Zn o4 hlE3 hne hlN3 b0 HE3 HN3)
  |(go_at_call 188;(with_reducible refine(l0.out _ h4).mono ?_);rintro e w5 ⟨rfl,h5,o5⟩;obtain⟨HE5,r0,hlE5,hlN5⟩:=Zn o5 hlE4 hne hlN4 b0 HE4 HN4)
  |(go_at_call 188;(with_reducible refine(d0.out _ h5).mono ?_);rintro e w6 ⟨rfl,h6,o6⟩;obtain⟨L0,K0,hlE6,hlN6⟩:=Zn o6 hlE5 hne hlN5 b0 HE5 r0)
  |(go_at_call 193;(with_reducible refine(S0.out _ h6).mono ?_);rintro e w7 ⟨rfl,h7,o7⟩;obtain⟨HE7,HN7,hlE7,hlN7⟩:=Zn o7 hlE6 hne hlN6 b0 L0 K0)
  |(go_at_call 188;(with_reducible refine(p0.out _ h7).mono ?_);rintro e w8 ⟨rfl,h8,o8⟩;obtain⟨HE8,HN8,hlE8,hlN8⟩:=Zn o8 hlE7 hne hlN7 b0 HE7 HN7)
  |(go_at_call 188;(with_reducible refine(n0.out _ h8).mono ?_);rintro e w9 ⟨rfl,h9,o9⟩;obtain⟨HE9,HN9,hlE9,hlN9⟩:=Zn o9 hlE8 hne hlN8 b0 HE8 HN8)
  |(go_at_call 174;refine(XW rfl _).mono ?_;rintro e wm ⟨rfl,q0⟩;have q0:=q0.symm;subst q0))
 exact⟨rfl,((((((((e0.then o2).then o3).then o4).then o5).then o6).then o7).then o8).then o9),.inl ⟨rfl,rfl⟩⟩
theorem ZfE(w:World)(rb:Nat)(s:List UInt8)(h:ReadAt w rb s)(x:Rx)(r:List UInt8)(hr:r.length<=128)(hatom:Xq rb s x r)(h42:Zg 42 r=false)(h43:Zg 43 r=false)(j0:Zg 63 r=false)(h123:Zg 123 r=true)(m:Nat)(r1:List UInt8)(hn:Z4 r.tail=some (m,r1))(h44:Zg 44 r1=false)(h125:Zg 125 r1=true) :
 Calls Tryz.prog 186 #[.pointer (some ⟨rb,0,none⟩)] w λe w'=>ZW rb w (sign x r) e w':=by
 have H0:=Zb h
 obtain⟨nb,hnb⟩:∃ nb,w.heap.size=nb:=⟨_,rfl⟩
 obtain⟨W0,hW0⟩:∃ W0,W0=(w.alloc (.cells #[.int .i64 0,.int .i64 0,.int .i64 0,.int .u64 0,.int .u64 0,.int .u64 0,.int .u64 0,.slice none 0 0] 141)):=⟨_,rfl⟩
 have f0:ReadAt W0 rb s:=by rw[hW0];exact Ze h _
 have c0:W0.heap[nb]?=some (.cells (Zh (setA Q4.none)) 141 (0,0)):=by rw[hW0,<-hnb];exact Zd _ _
 have e0:Only (λk=>k=rb) w W0:=by rw[hW0];exact(Only.refl _ w).alloc _
 have c1:nb<W0.heap.size:=Zb c0;have a0:=Hd (hatom W0 f0);clear hatom f0;rw[hW0]at a0;have HN:=Hd c0;clear c0;have A0:sign x r=match Z5 r.tail with|none=>none|some (m,n,r')=>some (.rep m n x,r'):=by unfold sign;rw[h42,h43,j0,h123];rfl
 have J1:=Xu r;have i0:=Hd (λw1 (h1:ReadAt w1 rb r)=>Zx w1 rb 42 r h1 h42);have k0:=Hd (λw1 (h1:ReadAt w1 rb r)=>Zx w1 rb 43 r h1 h43);have l0:=Hd (λw1 (h1:ReadAt w1 rb r)=>Zx w1 rb 63 r h1 j0);have d0:=Hd (λw1 (h1:ReadAt w1 rb r)=>ZK w1 rb 123 r.tail (Zu h123▸h1));have R1:=Xw hn;have S0:=Hd (λw1 (h1:ReadAt w1 rb r.tail)=>(Xi w1 rb r.tail h1 (by omega)).mono λe w2 hR=>hR.some hn);have p0:=Hd (λw1 (h1:ReadAt w1 rb r1)=>Zx w1 rb 44 r1 h1 h44);have n0:=Hd (λw1 (h1:ReadAt w1 rb r1)=>ZK w1 rb 125 r1.tail (Zu h125▸h1))
 have hS:sign x r=some (.rep (m:Nat) (m:Nat) x,r1.tail):=by
  rw[A0];simp[Z5,hn,h44,h125]
 rw[hS];clear hS A0;have k1:(0:Int)<=(m:Nat)/\((m:Nat):Int)<=15:=by omega
 have z1:(-1:Int)<=(m:Nat)/\((m:Nat):Int)<=15:=by omega
 go_enter Tryz.func186,Tryz.ntmps186
 go_wp2_with (first
  |(go_at_call 192;(with_reducible refine a0.out.mono ?_);rintro e w1 ⟨k,mn,mx,s0,s1,s2,s3,a,cap,l,hX,rfl,h1,o1,hXin,hXb⟩;rw[<-hW0]at o1 hXb;have j1:=o1.size;have g0:rb<w1.heap.size:=(by omega);obtain⟨h2,HE2,HN2,hlE2,hlN2,hne,b0,o2⟩:=Yz h1 o1 HN (by omega) (by omega) g0 (.cells #[.int .i64 k,.int .i64 mn,.int .i64 mx,.int .u64 s0,.int .u64 s1,.int .u64 s2,.int .u64 s3,.slice a l.length cap] 141);have O0:=Hd hXin;have M0:=Hd hXb;clear hXin hXb)
  |(go_at_call 188;(with_reducible refine(i0.out _ h2).mono ?_);rintro e w3 ⟨rfl,h3,o3⟩;obtain⟨HE3,HN3,hlE3,hlN3⟩:=Zn o3 hlE2 hne hlN2 b0 HE2 HN2)
  |(go_at_call 188;(with_reducible refine(k0.out _ h3).mono ?_);rintro e w4 ⟨rfl,h4,o4⟩;obtain⟨HE4,HN4,hlE4,hlN4⟩:=Zn o4 hlE3 hne hlN3 b0 HE3 HN3)
  |(go_at_call 188;(with_reducible refine(l0.out _ h4).mono ?_);rintro e w5 ⟨rfl,h5,o5⟩;obtain⟨HE5,r0,hlE5,hlN5⟩:=Zn o5 hlE4 hne hlN4 b0 HE4 HN4)
  |(go_at_call 188;(with_reducible refine(d0.out _ h5).mono ?_);rintro e w6 ⟨rfl,h6,o6⟩;obtain⟨L0,K0,hlE6,hlN6⟩:=Zn o6 hlE5 hne hlN5 b0 HE5 r0)
  |(go_at_call 193;(with_reducible refine(S0.out _ h6).mono ?_);rintro e w7 ⟨rfl,h7,o7⟩;obtain⟨HE7,HN7,hlE7,hlN7⟩:=Zn o7 hlE6 hne hlN6 b0 L0 K0)
  |(go_at_call 188;(with_reducible refine(p0.out _ h7).mono ?_);rintro e w8 ⟨rfl,h8,o8⟩;obtain⟨HE8,HN8,hlE8,hlN8⟩:=Zn o8 hlE7 hne hlN7 b0 HE7 HN7)
  |(go_at_call 188;(with_reducible refine(n0.out _ h8).mono ?_);rintro e w9 ⟨rfl,h9,o9⟩;obtain⟨HE9,HN9,hlE9,hlN9⟩:=Zn o9 hlE8 hne hlN8 b0 HE8 HN8)
  |(go_at_call 174;refine(Xs rfl _).mono ?_;rintro e wm ⟨rfl,q0⟩;have q0:=q0.symm;subst q0)
  |(refine wpList_load_row rfl 141 (.tmp 3) ?_ w1.heap.size ?_ 141 #[.int .i64 k,.int .i64 mn,.int .i64 mx,.int .u64 s0,.int .u64 s1,.int .u64 s2,.int .u64 s3,.slice a l.length cap] (0,0) _ ?_ Tryz.underlying141 rfl ZH ?_;(with_reducible rfl);rfl;exact HE9.out)
  |(refine wpList_store_row rfl 141 (.tmp 2) (.tmp 52) ?_ nb #[.int .i64 3,.int .i64 (m:Nat),.int .i64 (m:Nat),.int .u64 0,.int .u64 0,.int .u64 0,.int .u64 0,.slice (some ⟨w9.heap.size,0,none⟩) 1 1] ?_ ?_ 141 (Zh (setA Q4.none)) ?_ ZH rfl (Zm (repA (m:Nat) (m:Nat) w9.heap.size (RxA.node k mn mx s0 s1 s2 s3 a cap l))) ?_;(with_reducible rfl);rfl;rfl;exact Ze HN9.out _))
 refine bodyPost_ret (results_cell_row rfl _ _ nb 141 #[.int .i64 3,.int .i64 (m:Nat),.int .i64 (m:Nat),.int .u64 0,.int .u64 0,.int .u64 0,.int .u64 0,.slice (some ⟨w9.heap.size,0,none⟩) 1 1] (0,0) _ rfl (setRow_heap _ _ _ _ _ _ (Ze HN9.out (.cells #[.int .i64 k,.int .i64 mn,.int .i64 mx,.int .u64 s0,.int .u64 s1,.int .u64 s2,.int .u64 s3,.slice a l.length cap] 141))) Tryz.underlying141 rfl ZH) rfl ?_
 have oc:=((((((o3.then o4).then o5).then o6).then o7).then o8).then o9)
 have A1:=oc.size;simp only[World.size_alloc]at A1;obtain⟨hin,hbl⟩:=V1 (wk:=(w9.alloc (.cells #[.int .i64 k,.int .i64 mn,.int .i64 mx,.int .u64 s0,.int .u64 s1,.int .u64 s2,.int .u64 s3,.slice a l.length cap] 141)).setRow nb #[.int .i64 3,.int .i64 (m:Nat),.int .i64 (m:Nat),.int .u64 0,.int .u64 0,.int .u64 0,.int .u64 0,.slice (some ⟨w9.heap.size,0,none⟩) 1 1]) O0.out M0.out (λb h1 h2=>by rw[setRow_other _ _ _ _ (by omega),Below.heap_alloc _ _ _ (by omega),oc.block b (by simp;omega) (by omega),Below.heap_alloc _ _ _ h2]) (by simp;omega);have I0:=UN (m:=(m:Nat)) (n:=(m:Nat)) k1 z1 hin ((setRow_other (w9.alloc (.cells #[.int .i64 k,.int .i64 mn,.int .i64 mx,.int .u64 s0,.int .u64 s1,.int .u64 s2,.int .u64 s3,.slice a l.length cap] 141)) nb w9.heap.size #[.int .i64 3,.int .i64 (m:Nat),.int .i64 (m:Nat),.int .u64 0,.int .u64 0,.int .u64 0,.int .u64 0,.slice (some ⟨w9.heap.size,0,none⟩) 1 1] (by omega)).trans (Zd _ _));refine⟨(((e0.then o2).then oc).alloc _).setRow (q:=nb) (.inr (by omega)) _,.inr ⟨repA (m:Nat) (m:Nat) w9.heap.size (RxA.node k mn mx s0 s1 s2 s3 a cap l),r1.tail,by rw[YT,<-hX],rfl,(setRow_other _ _ _ _ (by omega)).trans (Ze h9 _),I0,λb hb=>?_⟩⟩;rcases X7 _ _ _ _ b hb with rfl|hb
 ·have:=e0.size;simp only[size_setRow,World.size_alloc];omega
 ·have:=hbl b hb;have:=e0.size;omega
theorem ZfD(w:World)(rb:Nat)(s:List UInt8)(h:ReadAt w rb s)(x:Rx)(r:List UInt8)(hr:r.length<=128)(hatom:Xq rb s x r)(h42:Zg 42 r=false)(h43:Zg 43 r=false)(j0:Zg 63 r=false)(h123:Zg 123 r=true)(m:Nat)(r1:List UInt8)(hn:Z4 r.tail=some (m,r1))(h44:Zg 44 r1=true)(h2t:r1.tail=[]) :
 Calls Tryz.prog 186 #[.pointer (some ⟨rb,0,none⟩)] w λe w'=>ZW rb w (sign x r) e w':=by
 have H0:=Zb h
 obtain⟨nb,hnb⟩:∃ nb,w.heap.size=nb:=⟨_,rfl⟩
 obtain⟨W0,hW0⟩:∃ W0,W0=(w.alloc (.cells #[.int .i64 0,.int .i64 0,.int .i64 0,.int .u64 0,.int .u64 0,.int .u64 0,.int .u64 0,.slice none 0 0] 141)):=⟨_,rfl⟩
 have f0:ReadAt W0 rb s:=by rw[hW0];exact Ze h _
 have c0:W0.heap[nb]?=some (.cells (Zh (setA Q4.none)) 141 (0,0)):=by rw[hW0,<-hnb];exact Zd _ _
 have e0:Only (λk=>k=rb) w W0:=by rw[hW0];exact(Only.refl _ w).alloc _
 have c1:nb<W0.heap.size:=Zb c0;have a0:=Hd (hatom W0 f0);clear hatom f0;rw[hW0]at a0;have HN:=Hd c0;clear c0;have A0:sign x r=match Z5 r.tail with|none=>none|some (m,n,r')=>some (.rep m n x,r'):=by unfold sign;rw[h42,h43,j0,h123];rfl
 have J1:=Xu r;have i0:=Hd (λw1 (h1:ReadAt w1 rb r)=>Zx w1 rb 42 r h1 h42);have k0:=Hd (λw1 (h1:ReadAt w1 rb r)=>Zx w1 rb 43 r h1 h43);have l0:=Hd (λw1 (h1:ReadAt w1 rb r)=>Zx w1 rb 63 r h1 j0);have d0:=Hd (λw1 (h1:ReadAt w1 rb r)=>ZK w1 rb 123 r.tail (Zu h123▸h1));have R1:=Xw hn;have S0:=Hd (λw1 (h1:ReadAt w1 rb r.tail)=>(Xi w1 rb r.tail h1 (by omega)).mono λe w2 hR=>hR.some hn)
 have p0:=Hd (λw1 (h1:ReadAt w1 rb r1)=>show Calls Tryz.prog 188 #[.pointer (some ⟨rb,0,none⟩),.string ⟨#[44]⟩] w1 λe w'=>e=.returned (.bool true)/\ReadAt w' rb []/\Only (λk=>k=rb) w1 w' from by
  have h:=ZK w1 rb 44 r1.tail (by rw[<-Zu h44];exact h1);rw[h2t]at h
  exact h)
 have n0:=Hd (λw1 (h1:ReadAt w1 rb [])=>Zx w1 rb 125 [] h1 rfl)
 have hS:sign x r=none:=by
  rw[A0];have p1:Zg 125 ([]:List UInt8)=false:=rfl;have b0:Z4 []=none:=rfl;simp[Z5,hn,h44,h2t,p1,b0]
 rw[hS];clear hS A0;clear h2t
 go_enter Tryz.func186,Tryz.ntmps186
 go_wp2_with (first
  |(go_at_call 192;(with_reducible refine a0.out.mono ?_);rintro e w1 ⟨k,mn,mx,s0,s1,s2,s3,a,cap,l,hX,rfl,h1,o1,hXin,hXb⟩;rw[<-hW0]at o1 hXb;have j1:=o1.size;have g0:rb<w1.heap.size:=(by omega);obtain⟨h2,HE2,HN2,hlE2,hlN2,hne,b0,o2⟩:=Yz h1 o1 HN (by omega) (by omega) g0 (.cells #[.int .i64 k,.int .i64 mn,.int .i64 mx,.int .u64 s0,.int .u64 s1,.int .u64 s2,.int .u64 s3,.slice a l.length cap] 141);have O0:=Hd hXin;have M0:=Hd hXb;clear hXin hXb)
  |(go_at_call 188;(with_reducible refine(i0.out _ h2).mono ?_);rintro e w3 ⟨rfl,h3,o3⟩;obtain⟨HE3,HN3,hlE3,hlN3⟩:=Zn o3 hlE2 hne hlN2 b0 HE2 HN2)
  |(go_at_call 188;(with_reducible refine(k0.out _ h3).mono ?_);rintro e w4 ⟨rfl,h4,o4⟩;obtain⟨HE4,HN4,hlE4,hlN4⟩:=Zn o4 hlE3 hne hlN3 b0 HE3 HN3)
  |(go_at_call 188;(with_reducible refine(l0.out _ h4).mono ?_);rintro e w5 ⟨rfl,h5,o5⟩;obtain⟨HE5,r0,hlE5,hlN5⟩:=Zn o5 hlE4 hne hlN4 b0 HE4 HN4)
  |(go_at_call 188;(with_reducible refine(d0.out _ h5).mono ?_);rintro e w6 ⟨rfl,h6,o6⟩;obtain⟨L0,K0,hlE6,hlN6⟩:=Zn o6 hlE5 hne hlN5 b0 HE5 r0)
  |(go_at_call 193;(with_reducible refine(S0.out _ h6).mono ?_);rintro e w7 ⟨rfl,h7,o7⟩;obtain⟨HE7,HN7,hlE7,hlN7⟩:=Zn o7 hlE6 hne hlN6 b0 L0 K0)
  |(go_at_call 188;(with_reducible refine(p0.out _ h7).mono ?_);rintro e w8 ⟨rfl,h8,o8⟩;obtain⟨HE8,HN8,hlE8,hlN8⟩:=Zn o8 hlE7 hne hlN7 b0 HE7 HN7;have F2:w8.cell? ⟨rb,0,none⟩=some (.string ⟨#[]⟩):=ZM h8)
  |(go_at_call 188;(with_reducible refine(n0.out _ h8).mono ?_);rintro e w9 ⟨rfl,h9,o9⟩;obtain⟨HE9,HN9,hlE9,hlN9⟩:=Zn o9 hlE8 hne hlN8 b0 HE8 HN8)
  |(go_at_call 174;refine(XW rfl _).mono ?_;rintro e wm ⟨rfl,q0⟩;have q0:=q0.symm;subst q0))
 exact⟨rfl,((((((((e0.then o2).then o3).then o4).then o5).then o6).then o7).then o8).then o9),.inl ⟨rfl,rfl⟩⟩
theorem ZfC(w:World)(rb:Nat)(s:List UInt8)(h:ReadAt w rb s)(x:Rx)(r:List UInt8)(hr:r.length<=128)(hatom:Xq rb s x r)(h42:Zg 42 r=false)(h43:Zg 43 r=false)(j0:Zg 63 r=false)(h123:Zg 123 r=true)(m:Nat)(r1:List UInt8)(hn:Z4 r.tail=some (m,r1))(h44:Zg 44 r1=true)(r2:List UInt8)(h2t:r1.tail=r2)(u:List UInt8)(hr2:r2=125::u) :
 Calls Tryz.prog 186 #[.pointer (some ⟨rb,0,none⟩)] w λe w'=>ZW rb w (sign x r) e w':=by
 have H0:=Zb h
 obtain⟨nb,hnb⟩:∃ nb,w.heap.size=nb:=⟨_,rfl⟩
 obtain⟨W0,hW0⟩:∃ W0,W0=(w.alloc (.cells #[.int .i64 0,.int .i64 0,.int .i64 0,.int .u64 0,.int .u64 0,.int .u64 0,.int .u64 0,.slice none 0 0] 141)):=⟨_,rfl⟩
 have f0:ReadAt W0 rb s:=by rw[hW0];exact Ze h _
 have c0:W0.heap[nb]?=some (.cells (Zh (setA Q4.none)) 141 (0,0)):=by rw[hW0,<-hnb];exact Zd _ _
 have e0:Only (λk=>k=rb) w W0:=by rw[hW0];exact(Only.refl _ w).alloc _
 have c1:nb<W0.heap.size:=Zb c0;have a0:=Hd (hatom W0 f0);clear hatom f0;rw[hW0]at a0;have HN:=Hd c0;clear c0;have A0:sign x r=match Z5 r.tail with|none=>none|some (m,n,r')=>some (.rep m n x,r'):=by unfold sign;rw[h42,h43,j0,h123];rfl
 have J1:=Xu r;have i0:=Hd (λw1 (h1:ReadAt w1 rb r)=>Zx w1 rb 42 r h1 h42);have k0:=Hd (λw1 (h1:ReadAt w1 rb r)=>Zx w1 rb 43 r h1 h43);have l0:=Hd (λw1 (h1:ReadAt w1 rb r)=>Zx w1 rb 63 r h1 j0);have d0:=Hd (λw1 (h1:ReadAt w1 rb r)=>ZK w1 rb 123 r.tail (Zu h123▸h1));have R1:=Xw hn;subst hr2;have S0:=Hd (λw1 (h1:ReadAt w1 rb r.tail)=>(Xi w1 rb r.tail h1 (by omega)).mono λe w2 hR=>hR.some hn)
 have p0:=Hd (λw1 (h1:ReadAt w1 rb r1)=>show Calls Tryz.prog 188 #[.pointer (some ⟨rb,0,none⟩),.string ⟨#[44]⟩] w1 λe w'=>e=.returned (.bool true)/\ReadAt w' rb (125::u)/\Only (λk=>k=rb) w1 w' from by
  have h:=ZK w1 rb 44 r1.tail (by rw[<-Zu h44];exact h1);rw[h2t]at h
  exact h)
 have n0:=Hd (λw1 (h1:ReadAt w1 rb (125::u))=>ZK w1 rb 125 u h1)
 obtain⟨S,HSS⟩:∃ S:ByteArray,Hid ((⟨(125::u).toArray⟩:ByteArray)=S):=⟨_,Hd rfl⟩
 obtain⟨hne,hem,hsz,hat,-⟩:=full 125 u HSS.out
 have hS:sign x r=some (.rep (m:Nat) (-1) x,u):=by
  rw[A0];have p1:Zg 125 (125::u)=true:=by simp[Zg]
  simp[Z5,hn,h44,h2t,p1]
 rw[hS];clear hS A0;have k1:(0:Int)<=(m:Nat)/\((m:Nat):Int)<=15:=by omega
 have z1:(-1:Int)<=(-1)/\((-1):Int)<=15:=by omega
 go_enter Tryz.func186,Tryz.ntmps186
 go_wp2_with (first
  |(go_at_call 192;(with_reducible refine a0.out.mono ?_);rintro e w1 ⟨k,mn,mx,s0,s1,s2,s3,a,cap,l,hX,rfl,h1,o1,hXin,hXb⟩;rw[<-hW0]at o1 hXb;have j1:=o1.size;have g0:rb<w1.heap.size:=(by omega);obtain⟨h2,HE2,HN2,hlE2,hlN2,hne,b0,o2⟩:=Yz h1 o1 HN (by omega) (by omega) g0 (.cells #[.int .i64 k,.int .i64 mn,.int .i64 mx,.int .u64 s0,.int .u64 s1,.int .u64 s2,.int .u64 s3,.slice a l.length cap] 141);have O0:=Hd hXin;have M0:=Hd hXb;clear hXin hXb)
  |(go_at_call 188;(with_reducible refine(i0.out _ h2).mono ?_);rintro e w3 ⟨rfl,h3,o3⟩;obtain⟨HE3,HN3,hlE3,hlN3⟩:=Zn o3 hlE2 hne hlN2 b0 HE2 HN2)
  |(go_at_call 188;(with_reducible refine(k0.out _ h3).mono ?_);rintro e w4 ⟨rfl,h4,o4⟩;obtain⟨HE4,HN4,hlE4,hlN4⟩:=Zn o4 hlE3 hne hlN3 b0 HE3 HN3)
  |(go_at_call 188;(with_reducible refine(l0.out _ h4).mono ?_);rintro e w5 ⟨rfl,h5,o5⟩;obtain⟨HE5,r0,hlE5,hlN5⟩:=Zn o5 hlE4 hne hlN4 b0 HE4 HN4)
  |(go_at_call 188;(with_reducible refine(d0.out _ h5).mono ?_);rintro e w6 ⟨rfl,h6,o6⟩;obtain⟨L0,K0,hlE6,hlN6⟩:=Zn o6 hlE5 hne hlN5 b0 HE5 r0)
  |(go_at_call 193;(with_reducible refine(S0.out _ h6).mono ?_);rintro e w7 ⟨rfl,h7,o7⟩;obtain⟨HE7,HN7,hlE7,hlN7⟩:=Zn o7 hlE6 hne hlN6 b0 L0 K0)
  |(go_at_call 188;(with_reducible refine(p0.out _ h7).mono ?_);rintro e w8 ⟨rfl,h8,o8⟩;obtain⟨HE8,HN8,hlE8,hlN8⟩:=Zn o8 hlE7 hne hlN7 b0 HE7 HN7;have F0:=h8;unfold ReadAt at F0;rw[HSS.out]at F0;have F2:=ZM F0;clear F0)
  |(go_at_call 188;(with_reducible refine(n0.out _ h8).mono ?_);rintro e w9 ⟨rfl,h9,o9⟩;obtain⟨HE9,HN9,hlE9,hlN9⟩:=Zn o9 hlE8 hne hlN8 b0 HE8 HN8)
  |(go_at_call 174;refine(Xs rfl _).mono ?_;rintro e wm ⟨rfl,q0⟩;have q0:=q0.symm;subst q0)
  |(refine wpList_load_row rfl 141 (.tmp 3) ?_ w1.heap.size ?_ 141 #[.int .i64 k,.int .i64 mn,.int .i64 mx,.int .u64 s0,.int .u64 s1,.int .u64 s2,.int .u64 s3,.slice a l.length cap] (0,0) _ ?_ Tryz.underlying141 rfl ZH ?_;(with_reducible rfl);rfl;exact HE9.out)
  |(refine wpList_store_row rfl 141 (.tmp 2) (.tmp 52) ?_ nb #[.int .i64 3,.int .i64 (m:Nat),.int .i64 (-1),.int .u64 0,.int .u64 0,.int .u64 0,.int .u64 0,.slice (some ⟨w9.heap.size,0,none⟩) 1 1] ?_ ?_ 141 (Zh (setA Q4.none)) ?_ ZH rfl (Zm (repA (m:Nat) (-1) w9.heap.size (RxA.node k mn mx s0 s1 s2 s3 a cap l))) ?_;(with_reducible rfl);rfl;rfl;exact Ze HN9.out _))
 refine bodyPost_ret (results_cell_row rfl _ _ nb 141 #[.int .i64 3,.int .i64 (m:Nat),.int .i64 (-1),.int .u64 0,.int .u64 0,.int .u64 0,.int .u64 0,.slice (some ⟨w9.heap.size,0,none⟩) 1 1] (0,0) _ rfl (setRow_heap _ _ _ _ _ _ (Ze HN9.out (.cells #[.int .i64 k,.int .i64 mn,.int .i64 mx,.int .u64 s0,.int .u64 s1,.int .u64 s2,.int .u64 s3,.slice a l.length cap] 141))) Tryz.underlying141 rfl ZH) rfl ?_
 have oc:=((((((o3.then o4).then o5).then o6).then o7).then o8).then o9)
 have A1:=oc.size;simp only[World.size_alloc]at A1;obtain⟨hin,hbl⟩:=V1 (wk:=(w9.alloc (.cells #[.int .i64 k,.int .i64 mn,.int .i64 mx,.int .u64 s0,.int .u64 s1,.int .u64 s2,.int .u64 s3,.slice a l.length cap] 141)).setRow nb #[.int .i64 3,.int .i64 (m:Nat),.int .i64 (-1),.int .u64 0,.int .u64 0,.int .u64 0,.int .u64 0,.slice (some ⟨w9.heap.size,0,none⟩) 1 1]) O0.out M0.out (λb h1 h2=>by rw[setRow_other _ _ _ _ (by omega),Below.heap_alloc _ _ _ (by omega),oc.block b (by simp;omega) (by omega),Below.heap_alloc _ _ _ h2]) (by simp;omega);have I0:=UN (m:=(m:Nat)) (n:=(-1)) k1 z1 hin ((setRow_other (w9.alloc (.cells #[.int .i64 k,.int .i64 mn,.int .i64 mx,.int .u64 s0,.int .u64 s1,.int .u64 s2,.int .u64 s3,.slice a l.length cap] 141)) nb w9.heap.size #[.int .i64 3,.int .i64 (m:Nat),.int .i64 (-1),.int .u64 0,.int .u64 0,.int .u64 0,.int .u64 0,.slice (some ⟨w9.heap.size,0,none⟩) 1 1] (by omega)).trans (Zd _ _));refine⟨(((e0.then o2).then oc).alloc _).setRow (q:=nb) (.inr (by omega)) _,.inr ⟨repA (m:Nat) (-1) w9.heap.size (RxA.node k mn mx s0 s1 s2 s3 a cap l),u,by rw[YT,<-hX],rfl,(setRow_other _ _ _ _ (by omega)).trans (Ze h9 _),I0,λb hb=>?_⟩⟩;rcases X7 _ _ _ _ b hb with rfl|hb
 ·have:=e0.size;simp only[size_setRow,World.size_alloc];omega
 ·have:=hbl b hb;have:=e0.size;omega
theorem ZfB(w:World)(rb:Nat)(s:List UInt8)(h:ReadAt w rb s)(x:Rx)(r:List UInt8)(hr:r.length<=128)(hatom:Xq rb s x r)(h42:Zg 42 r=false)(h43:Zg 43 r=false)(j0:Zg 63 r=false)(h123:Zg 123 r=true)(m:Nat)(r1:List UInt8)(hn:Z4 r.tail=some (m,r1))(h44:Zg 44 r1=true)(r2:List UInt8)(h2t:r1.tail=r2)(c:UInt8)(u:List UInt8)(hr2:r2=c::u)(hc:c≠125)(hn2:Z4 r2=none) :
 Calls Tryz.prog 186 #[.pointer (some ⟨rb,0,none⟩)] w λe w'=>ZW rb w (sign x r) e w':=by
 have H0:=Zb h
 obtain⟨nb,hnb⟩:∃ nb,w.heap.size=nb:=⟨_,rfl⟩
 obtain⟨W0,hW0⟩:∃ W0,W0=(w.alloc (.cells #[.int .i64 0,.int .i64 0,.int .i64 0,.int .u64 0,.int .u64 0,.int .u64 0,.int .u64 0,.slice none 0 0] 141)):=⟨_,rfl⟩
 have f0:ReadAt W0 rb s:=by rw[hW0];exact Ze h _
 have c0:W0.heap[nb]?=some (.cells (Zh (setA Q4.none)) 141 (0,0)):=by rw[hW0,<-hnb];exact Zd _ _
 have e0:Only (λk=>k=rb) w W0:=by rw[hW0];exact(Only.refl _ w).alloc _
 have c1:nb<W0.heap.size:=Zb c0;have a0:=Hd (hatom W0 f0);clear hatom f0;rw[hW0]at a0;have HN:=Hd c0;clear c0;have A0:sign x r=match Z5 r.tail with|none=>none|some (m,n,r')=>some (.rep m n x,r'):=by unfold sign;rw[h42,h43,j0,h123];rfl
 have J1:=Xu r;have i0:=Hd (λw1 (h1:ReadAt w1 rb r)=>Zx w1 rb 42 r h1 h42);have k0:=Hd (λw1 (h1:ReadAt w1 rb r)=>Zx w1 rb 43 r h1 h43);have l0:=Hd (λw1 (h1:ReadAt w1 rb r)=>Zx w1 rb 63 r h1 j0);have d0:=Hd (λw1 (h1:ReadAt w1 rb r)=>ZK w1 rb 123 r.tail (Zu h123▸h1));have R1:=Xw hn;subst hr2;have S0:=Hd (λw1 (h1:ReadAt w1 rb r.tail)=>(Xi w1 rb r.tail h1 (by omega)).mono λe w2 hR=>hR.some hn)
 have p0:=Hd (λw1 (h1:ReadAt w1 rb r1)=>show Calls Tryz.prog 188 #[.pointer (some ⟨rb,0,none⟩),.string ⟨#[44]⟩] w1 λe w'=>e=.returned (.bool true)/\ReadAt w' rb (c::u)/\Only (λk=>k=rb) w1 w' from by
  have h:=ZK w1 rb 44 r1.tail (by rw[<-Zu h44];exact h1);rw[h2t]at h
  exact h)
 obtain⟨S,HSS⟩:∃ S:ByteArray,Hid ((⟨(c::u).toArray⟩:ByteArray)=S):=⟨_,Hd rfl⟩
 obtain⟨hne,hem,hsz,hat,-⟩:=full c u HSS.out
 have S2:((c.toNat:Int) != 125)=true:=by
  rw[bne_iff_ne];intro h;exact hc (UInt8.toNat_inj.1 (by show c.toNat=125;omega))
 have k2:(c::u).length<=1000:=by have:=congrArg List.length h2t;have:=Xu r1;omega
 have p1:Zg 125 (c::u)=false:=by simp[Zg,hc]
 have S1:=Hd (λw1 (h1:ReadAt w1 rb (c::u))=>(Xi w1 rb (c::u) h1 (by omega)).mono λe w2 hR=>hR.none hn2)
 have hS:sign x r=none:=by
  rw[A0];simp[Z5,hn,h44,h2t,p1,hn2]
 rw[hS];clear hS A0
 go_enter Tryz.func186,Tryz.ntmps186
 go_wp2_with (first
  |(go_at_call 192;(with_reducible refine a0.out.mono ?_);rintro e w1 ⟨k,mn,mx,s0,s1,s2,s3,a,cap,l,hX,rfl,h1,o1,hXin,hXb⟩;rw[<-hW0]at o1 hXb;have j1:=o1.size;have g0:rb<w1.heap.size:=(by omega);obtain⟨h2,HE2,HN2,hlE2,hlN2,hne,b0,o2⟩:=Yz h1 o1 HN (by omega) (by omega) g0 (.cells #[.int .i64 k,.int .i64 mn,.int .i64 mx,.int .u64 s0,.int .u64 s1,.int .u64 s2,.int .u64 s3,.slice a l.length cap] 141);have O0:=Hd hXin;have M0:=Hd hXb;clear hXin hXb)
  |(go_at_call 188;(with_reducible refine(i0.out _ h2).mono ?_);rintro e w3 ⟨rfl,h3,o3⟩;obtain⟨HE3,HN3,hlE3,hlN3⟩:=Zn o3 hlE2 hne hlN2 b0 HE2 HN2)
  |(go_at_call 188;(with_reducible refine(k0.out _ h3).mono ?_);rintro e w4 ⟨rfl,h4,o4⟩;obtain⟨HE4,HN4,hlE4,hlN4⟩:=Zn o4 hlE3 hne hlN3 b0 HE3 HN3)
  |(go_at_call 188;(with_reducible refine(l0.out _ h4).mono ?_);rintro e w5 ⟨rfl,h5,o5⟩;obtain⟨HE5,r0,hlE5,hlN5⟩:=Zn o5 hlE4 hne hlN4 b0 HE4 HN4)
  |(go_at_call 188;(with_reducible refine(d0.out _ h5).mono ?_);rintro e w6 ⟨rfl,h6,o6⟩;obtain⟨L0,K0,hlE6,hlN6⟩:=Zn o6 hlE5 hne hlN5 b0 HE5 r0)
  |(go_at_call 193;(with_reducible refine(S0.out _ h6).mono ?_);rintro e w7 ⟨rfl,h7,o7⟩;obtain⟨HE7,HN7,hlE7,hlN7⟩:=Zn o7 hlE6 hne hlN6 b0 L0 K0)
  |(go_at_call 188;(with_reducible refine(p0.out _ h7).mono ?_);rintro e w8 ⟨rfl,h8,o8⟩;obtain⟨HE8,HN8,hlE8,hlN8⟩:=Zn o8 hlE7 hne hlN7 b0 HE7 HN7;have F0:=h8;unfold ReadAt at F0;rw[HSS.out]at F0;have F2:=ZM F0;clear F0)
  |(go_at_call 193;(with_reducible refine(S1.out _ h8).mono ?_);rintro e w9 ⟨rfl,o9⟩))
 exact⟨rfl,((((((((e0.then o2).then o3).then o4).then o5).then o6).then o7).then o8).then o9),.inl ⟨rfl,rfl⟩⟩
theorem Zdt(w:World)(rb:Nat)(s:List UInt8)(h:ReadAt w rb s)(x:Rx)(r:List UInt8)(hr:r.length<=128)(hatom:Xq rb s x r)(h42:Zg 42 r=false)(h43:Zg 43 r=false)(j0:Zg 63 r=false)(h123:Zg 123 r=true)(m:Nat)(r1:List UInt8)(hn:Z4 r.tail=some (m,r1))(h44:Zg 44 r1=true)(r2:List UInt8)(h2t:r1.tail=r2)(c:UInt8)(u:List UInt8)(hr2:r2=c::u)(hc:c≠125)(n:Nat)(r3:List UInt8)(hn2:Z4 r2=some (n,r3))(hmn:¬ m<=n) :
 Calls Tryz.prog 186 #[.pointer (some ⟨rb,0,none⟩)] w λe w'=>ZW rb w (sign x r) e w':=by
 have H0:=Zb h
 obtain⟨nb,hnb⟩:∃ nb,w.heap.size=nb:=⟨_,rfl⟩
 obtain⟨W0,hW0⟩:∃ W0,W0=(w.alloc (.cells #[.int .i64 0,.int .i64 0,.int .i64 0,.int .u64 0,.int .u64 0,.int .u64 0,.int .u64 0,.slice none 0 0] 141)):=⟨_,rfl⟩
 have f0:ReadAt W0 rb s:=by rw[hW0];exact Ze h _
 have c0:W0.heap[nb]?=some (.cells (Zh (setA Q4.none)) 141 (0,0)):=by rw[hW0,<-hnb];exact Zd _ _
 have e0:Only (λk=>k=rb) w W0:=by rw[hW0];exact(Only.refl _ w).alloc _
 have c1:nb<W0.heap.size:=Zb c0;have a0:=Hd (hatom W0 f0);clear hatom f0;rw[hW0]at a0;have HN:=Hd c0;clear c0;have A0:sign x r=match Z5 r.tail with|none=>none|some (m,n,r')=>some (.rep m n x,r'):=by unfold sign;rw[h42,h43,j0,h123];rfl
 have J1:=Xu r;have i0:=Hd (λw1 (h1:ReadAt w1 rb r)=>Zx w1 rb 42 r h1 h42);have k0:=Hd (λw1 (h1:ReadAt w1 rb r)=>Zx w1 rb 43 r h1 h43);have l0:=Hd (λw1 (h1:ReadAt w1 rb r)=>Zx w1 rb 63 r h1 j0);have d0:=Hd (λw1 (h1:ReadAt w1 rb r)=>ZK w1 rb 123 r.tail (Zu h123▸h1));have R1:=Xw hn;subst hr2;have F3:=Xw hn2;have S0:=Hd (λw1 (h1:ReadAt w1 rb r.tail)=>(Xi w1 rb r.tail h1 (by omega)).mono λe w2 hR=>hR.some hn)
 have p0:=Hd (λw1 (h1:ReadAt w1 rb r1)=>show Calls Tryz.prog 188 #[.pointer (some ⟨rb,0,none⟩),.string ⟨#[44]⟩] w1 λe w'=>e=.returned (.bool true)/\ReadAt w' rb (c::u)/\Only (λk=>k=rb) w1 w' from by
  have h:=ZK w1 rb 44 r1.tail (by rw[<-Zu h44];exact h1);rw[h2t]at h
  exact h)
 obtain⟨S,HSS⟩:∃ S:ByteArray,Hid ((⟨(c::u).toArray⟩:ByteArray)=S):=⟨_,Hd rfl⟩
 obtain⟨hne,hem,hsz,hat,-⟩:=full c u HSS.out
 have S2:((c.toNat:Int) != 125)=true:=by
  rw[bne_iff_ne];intro h;exact hc (UInt8.toNat_inj.1 (by show c.toNat=125;omega))
 have k2:(c::u).length<=1000:=by have:=congrArg List.length h2t;have:=Xu r1;omega
 have p1:Zg 125 (c::u)=false:=by simp[Zg,hc]
 have S1:=Hd (λw1 (h1:ReadAt w1 rb (c::u))=>(Xi w1 rb (c::u) h1 (by omega)).mono λe w2 hR=>hR.some hn2);have C3:¬ (m:Int)<=n:=by omega
 have hS:sign x r=none:=by
  rw[A0];simp[Z5,hn,h44,h2t,p1,hn2,hmn]
 rw[hS];clear hS A0
 go_enter Tryz.func186,Tryz.ntmps186
 go_wp2_with (first
  |(go_at_call 192;(with_reducible refine a0.out.mono ?_);rintro e w1 ⟨k,mn,mx,s0,s1,s2,s3,a,cap,l,hX,rfl,h1,o1,hXin,hXb⟩;rw[<-hW0]at o1 hXb;have j1:=o1.size;have g0:rb<w1.heap.size:=(by omega);obtain⟨h2,HE2,HN2,hlE2,hlN2,hne,b0,o2⟩:=Yz h1 o1 HN (by omega) (by omega) g0 (.cells #[.int .i64 k,.int .i64 mn,.int .i64 mx,.int .u64 s0,.int .u64 s1,.int .u64 s2,.int .u64 s3,.slice a l.length cap] 141);have O0:=Hd hXin;have M0:=Hd hXb;clear hXin hXb)
  |(go_at_call 188;(with_reducible refine(i0.out _ h2).mono ?_);rintro e w3 ⟨rfl,h3,o3⟩;obtain⟨HE3,HN3,hlE3,hlN3⟩:=Zn o3 hlE2 hne hlN2 b0 HE2 HN2)
  |(go_at_call 188;(with_reducible refine(k0.out _ h3).mono ?_);rintro e w4 ⟨rfl,h4,o4⟩;obtain⟨HE4,HN4,hlE4,hlN4⟩:=Zn o4 hlE3 hne hlN3 b0 HE3 HN3)
  |(go_at_call 188;(with_reducible refine(l0.out _ h4).mono ?_);rintro e w5 ⟨rfl,h5,o5⟩;obtain⟨HE5,r0,hlE5,hlN5⟩:=Zn o5 hlE4 hne hlN4 b0 HE4 HN4)
  |(go_at_call 188;(with_reducible refine(d0.out _ h5).mono ?_);rintro e w6 ⟨rfl,h6,o6⟩;obtain⟨L0,K0,hlE6,hlN6⟩:=Zn o6 hlE5 hne hlN5 b0 HE5 r0)
  |(go_at_call 193;(with_reducible refine(S0.out _ h6).mono ?_);rintro e w7 ⟨rfl,h7,o7⟩;obtain⟨HE7,HN7,hlE7,hlN7⟩:=Zn o7 hlE6 hne hlN6 b0 L0 K0)
  |(go_at_call 188;(with_reducible refine(p0.out _ h7).mono ?_);rintro e w8 ⟨rfl,h8,o8⟩;obtain⟨HE8,HN8,hlE8,hlN8⟩:=Zn o8 hlE7 hne hlN7 b0 HE7 HN7;have F0:=h8;unfold ReadAt at F0;rw[HSS.out]at F0;have F2:=ZM F0;clear F0)
  |(go_at_call 193;(with_reducible refine(S1.out _ h8).mono ?_);rintro e w9 ⟨rfl,h9,o9⟩;obtain⟨HE9,HN9,hlE9,hlN9⟩:=Zn o9 hlE8 hne hlN8 b0 HE8 HN8)
  |(go_at_call 174;refine(XW rfl _).mono ?_;rintro e wm ⟨rfl,q0⟩;have q0:=q0.symm;subst q0))
 exact⟨rfl,((((((((e0.then o2).then o3).then o4).then o5).then o6).then o7).then o8).then o9),.inl ⟨rfl,rfl⟩⟩
theorem Zds(w:World)(rb:Nat)(s:List UInt8)(h:ReadAt w rb s)(x:Rx)(r:List UInt8)(hr:r.length<=128)(hatom:Xq rb s x r)(h42:Zg 42 r=false)(h43:Zg 43 r=false)(j0:Zg 63 r=false)(h123:Zg 123 r=true)(m:Nat)(r1:List UInt8)(hn:Z4 r.tail=some (m,r1))(h44:Zg 44 r1=true)(r2:List UInt8)(h2t:r1.tail=r2)(c:UInt8)(u:List UInt8)(hr2:r2=c::u)(hc:c≠125)(n:Nat)(r3:List UInt8)(hn2:Z4 r2=some (n,r3))(hmn:m<=n)(h125:Zg 125 r3=false) :
 Calls Tryz.prog 186 #[.pointer (some ⟨rb,0,none⟩)] w λe w'=>ZW rb w (sign x r) e w':=by
 have H0:=Zb h
 obtain⟨nb,hnb⟩:∃ nb,w.heap.size=nb:=⟨_,rfl⟩
 obtain⟨W0,hW0⟩:∃ W0,W0=(w.alloc (.cells #[.int .i64 0,.int .i64 0,.int .i64 0,.int .u64 0,.int .u64 0,.int .u64 0,.int .u64 0,.slice none 0 0] 141)):=⟨_,rfl⟩
 have f0:ReadAt W0 rb s:=by rw[hW0];exact Ze h _
 have c0:W0.heap[nb]?=some (.cells (Zh (setA Q4.none)) 141 (0,0)):=by rw[hW0,<-hnb];exact Zd _ _
 have e0:Only (λk=>k=rb) w W0:=by rw[hW0];exact(Only.refl _ w).alloc _
 have c1:nb<W0.heap.size:=Zb c0;have a0:=Hd (hatom W0 f0);clear hatom f0;rw[hW0]at a0;have HN:=Hd c0;clear c0;have A0:sign x r=match Z5 r.tail with|none=>none|some (m,n,r')=>some (.rep m n x,r'):=by unfold sign;rw[h42,h43,j0,h123];rfl
 have J1:=Xu r;have i0:=Hd (λw1 (h1:ReadAt w1 rb r)=>Zx w1 rb 42 r h1 h42);have k0:=Hd (λw1 (h1:ReadAt w1 rb r)=>Zx w1 rb 43 r h1 h43);have l0:=Hd (λw1 (h1:ReadAt w1 rb r)=>Zx w1 rb 63 r h1 j0);have d0:=Hd (λw1 (h1:ReadAt w1 rb r)=>ZK w1 rb 123 r.tail (Zu h123▸h1));have R1:=Xw hn;subst hr2;have F3:=Xw hn2;have S0:=Hd (λw1 (h1:ReadAt w1 rb r.tail)=>(Xi w1 rb r.tail h1 (by omega)).mono λe w2 hR=>hR.some hn)
 have p0:=Hd (λw1 (h1:ReadAt w1 rb r1)=>show Calls Tryz.prog 188 #[.pointer (some ⟨rb,0,none⟩),.string ⟨#[44]⟩] w1 λe w'=>e=.returned (.bool true)/\ReadAt w' rb (c::u)/\Only (λk=>k=rb) w1 w' from by
  have h:=ZK w1 rb 44 r1.tail (by rw[<-Zu h44];exact h1);rw[h2t]at h
  exact h)
 obtain⟨S,HSS⟩:∃ S:ByteArray,Hid ((⟨(c::u).toArray⟩:ByteArray)=S):=⟨_,Hd rfl⟩
 obtain⟨hne,hem,hsz,hat,-⟩:=full c u HSS.out
 have S2:((c.toNat:Int) != 125)=true:=by
  rw[bne_iff_ne];intro h;exact hc (UInt8.toNat_inj.1 (by show c.toNat=125;omega))
 have k2:(c::u).length<=1000:=by have:=congrArg List.length h2t;have:=Xu r1;omega
 have p1:Zg 125 (c::u)=false:=by simp[Zg,hc]
 have S1:=Hd (λw1 (h1:ReadAt w1 rb (c::u))=>(Xi w1 rb (c::u) h1 (by omega)).mono λe w2 hR=>hR.some hn2);have n0:=Hd (λw1 (h1:ReadAt w1 rb r3)=>Zx w1 rb 125 r3 h1 h125);have C3:(m:Int)<=n:=by omega
 have hS:sign x r=none:=by
  rw[A0];simp[Z5,hn,h44,h2t,p1,hn2,hmn,h125]
 rw[hS];clear hS A0
 go_enter Tryz.func186,Tryz.ntmps186
 go_wp2_with (first
  |(go_at_call 192;(with_reducible refine a0.out.mono ?_);rintro e w1 ⟨k,mn,mx,s0,s1,s2,s3,a,cap,l,hX,rfl,h1,o1,hXin,hXb⟩;rw[<-hW0]at o1 hXb;have j1:=o1.size;have g0:rb<w1.heap.size:=(by omega);obtain⟨h2,HE2,HN2,hlE2,hlN2,hne,b0,o2⟩:=Yz h1 o1 HN (by omega) (by omega) g0 (.cells #[.int .i64 k,.int .i64 mn,.int .i64 mx,.int .u64 s0,.int .u64 s1,.int .u64 s2,.int .u64 s3,.slice a l.length cap] 141);have O0:=Hd hXin;have M0:=Hd hXb;clear hXin hXb)
  |(go_at_call 188;(with_reducible refine(i0.out _ h2).mono ?_);rintro e w3 ⟨rfl,h3,o3⟩;obtain⟨HE3,HN3,hlE3,hlN3⟩:=Zn o3 hlE2 hne hlN2 b0 HE2 HN2)
  |(go_at_call 188;(with_reducible refine(k0.out _ h3).mono ?_);rintro e w4 ⟨rfl,h4,o4⟩;obtain⟨HE4,HN4,hlE4,hlN4⟩:=Zn o4 hlE3 hne hlN3 b0 HE3 HN3)
  |(go_at_call 188;(with_reducible refine(l0.out _ h4).mono ?_);rintro e w5 ⟨rfl,h5,o5⟩;obtain⟨HE5,r0,hlE5,hlN5⟩:=Zn o5 hlE4 hne hlN4 b0 HE4 HN4)
  |(go_at_call 188;(with_reducible refine(d0.out _ h5).mono ?_);rintro e w6 ⟨rfl,h6,o6⟩;obtain⟨L0,K0,hlE6,hlN6⟩:=Zn o6 hlE5 hne hlN5 b0 HE5 r0)
  |(go_at_call 193;(with_reducible refine(S0.out _ h6).mono ?_);rintro e w7 ⟨rfl,h7,o7⟩;obtain⟨HE7,HN7,hlE7,hlN7⟩:=Zn o7 hlE6 hne hlN6 b0 L0 K0)
  |(go_at_call 188;(with_reducible refine(p0.out _ h7).mono ?_);rintro e w8 ⟨rfl,h8,o8⟩;obtain⟨HE8,HN8,hlE8,hlN8⟩:=Zn o8 hlE7 hne hlN7 b0 HE7 HN7;have F0:=h8;unfold ReadAt at F0;rw[HSS.out]at F0;have F2:=ZM F0;clear F0)
  |(go_at_call 193;(with_reducible refine(S1.out _ h8).mono ?_);rintro e w9 ⟨rfl,h9,o9⟩;obtain⟨HE9,HN9,hlE9,hlN9⟩:=Zn o9 hlE8 hne hlN8 b0 HE8 HN8)
  |(go_at_call 174;refine(Xs rfl _).mono ?_;rintro e wm ⟨rfl,q0⟩;have q0:=q0.symm;subst q0)
  |(go_at_call 174;refine(XW rfl _).mono ?_;rintro e wm ⟨rfl,q0⟩;have q0:=q0.symm;subst q0)
  |(go_at_call 188;(with_reducible refine(n0.out _ h9).mono ?_);rintro e w10 ⟨rfl,h10,o10⟩;obtain⟨HE10,HN10,hlE10,hlN10⟩:=Zn o10 hlE9 hne hlN9 b0 HE9 HN9))
 exact⟨rfl,(((((((((e0.then o2).then o3).then o4).then o5).then o6).then o7).then o8).then o9).then o10),.inl ⟨rfl,rfl⟩⟩
theorem Zdr(w:World)(rb:Nat)(s:List UInt8)(h:ReadAt w rb s)(x:Rx)(r:List UInt8)(hr:r.length<=128)(hatom:Xq rb s x r)(h42:Zg 42 r=false)(h43:Zg 43 r=false)(j0:Zg 63 r=false)(h123:Zg 123 r=true)(m:Nat)(r1:List UInt8)(hn:Z4 r.tail=some (m,r1))(h44:Zg 44 r1=true)(r2:List UInt8)(h2t:r1.tail=r2)(c:UInt8)(u:List UInt8)(hr2:r2=c::u)(hc:c≠125)(n:Nat)(r3:List UInt8)(hn2:Z4 r2=some (n,r3))(hmn:m<=n)(h125:Zg 125 r3=true) :
 Calls Tryz.prog 186 #[.pointer (some ⟨rb,0,none⟩)] w λe w'=>ZW rb w (sign x r) e w':=by
 have H0:=Zb h
 obtain⟨nb,hnb⟩:∃ nb,w.heap.size=nb:=⟨_,rfl⟩
 obtain⟨W0,hW0⟩:∃ W0,W0=(w.alloc (.cells #[.int .i64 0,.int .i64 0,.int .i64 0,.int .u64 0,.int .u64 0,.int .u64 0,.int .u64 0,.slice none 0 0] 141)):=⟨_,rfl⟩
 have f0:ReadAt W0 rb s:=by rw[hW0];exact Ze h _
 have c0:W0.heap[nb]?=some (.cells (Zh (setA Q4.none)) 141 (0,0)):=by rw[hW0,<-hnb];exact Zd _ _
 have e0:Only (λk=>k=rb) w W0:=by rw[hW0];exact(Only.refl _ w).alloc _
 have c1:nb<W0.heap.size:=Zb c0;have a0:=Hd (hatom W0 f0);clear hatom f0;rw[hW0]at a0;have HN:=Hd c0;clear c0;have A0:sign x r=match Z5 r.tail with|none=>none|some (m,n,r')=>some (.rep m n x,r'):=by unfold sign;rw[h42,h43,j0,h123];rfl
 have J1:=Xu r;have i0:=Hd (λw1 (h1:ReadAt w1 rb r)=>Zx w1 rb 42 r h1 h42);have k0:=Hd (λw1 (h1:ReadAt w1 rb r)=>Zx w1 rb 43 r h1 h43);have l0:=Hd (λw1 (h1:ReadAt w1 rb r)=>Zx w1 rb 63 r h1 j0);have d0:=Hd (λw1 (h1:ReadAt w1 rb r)=>ZK w1 rb 123 r.tail (Zu h123▸h1));have R1:=Xw hn;subst hr2;have F3:=Xw hn2;have S0:=Hd (λw1 (h1:ReadAt w1 rb r.tail)=>(Xi w1 rb r.tail h1 (by omega)).mono λe w2 hR=>hR.some hn)
 have p0:=Hd (λw1 (h1:ReadAt w1 rb r1)=>show Calls Tryz.prog 188 #[.pointer (some ⟨rb,0,none⟩),.string ⟨#[44]⟩] w1 λe w'=>e=.returned (.bool true)/\ReadAt w' rb (c::u)/\Only (λk=>k=rb) w1 w' from by
  have h:=ZK w1 rb 44 r1.tail (by rw[<-Zu h44];exact h1);rw[h2t]at h
  exact h)
 obtain⟨S,HSS⟩:∃ S:ByteArray,Hid ((⟨(c::u).toArray⟩:ByteArray)=S):=⟨_,Hd rfl⟩
 obtain⟨hne,hem,hsz,hat,-⟩:=full c u HSS.out
 have S2:((c.toNat:Int) != 125)=true:=by
  rw[bne_iff_ne];intro h;exact hc (UInt8.toNat_inj.1 (by show c.toNat=125;omega))
 have k2:(c::u).length<=1000:=by have:=congrArg List.length h2t;have:=Xu r1;omega
 have p1:Zg 125 (c::u)=false:=by simp[Zg,hc]
 have S1:=Hd (λw1 (h1:ReadAt w1 rb (c::u))=>(Xi w1 rb (c::u) h1 (by omega)).mono λe w2 hR=>hR.some hn2);have n0:=Hd (λw1 (h1:ReadAt w1 rb r3)=>ZK w1 rb 125 r3.tail (Zu h125▸h1));have C3:(m:Int)<=n:=by omega
 have hS:sign x r=some (.rep (m:Nat) (n:Nat) x,r3.tail):=by
  rw[A0];simp[Z5,hn,h44,h2t,p1,hn2,hmn,h125]
 rw[hS];clear hS A0;have k1:(0:Int)<=(m:Nat)/\((m:Nat):Int)<=15:=by omega
 have z1:(-1:Int)<=(n:Nat)/\((n:Nat):Int)<=15:=by omega
 go_enter Tryz.func186,Tryz.ntmps186
 go_wp2_with (first
  |(go_at_call 192;(with_reducible refine a0.out.mono ?_);rintro e w1 ⟨k,mn,mx,s0,s1,s2,s3,a,cap,l,hX,rfl,h1,o1,hXin,hXb⟩;rw[<-hW0]at o1 hXb;have j1:=o1.size;have g0:rb<w1.heap.size:=(by omega);obtain⟨h2,HE2,HN2,hlE2,hlN2,hne,b0,o2⟩:=Yz h1 o1 HN (by omega) (by omega) g0 (.cells #[.int .i64 k,.int .i64 mn,.int .i64 mx,.int .u64 s0,.int .u64 s1,.int .u64 s2,.int .u64 s3,.slice a l.length cap] 141);have O0:=Hd hXin;have M0:=Hd hXb;clear hXin hXb)
  |(go_at_call 188;(with_reducible refine(i0.out _ h2).mono ?_);rintro e w3 ⟨rfl,h3,o3⟩;obtain⟨HE3,HN3,hlE3,hlN3⟩:=Zn o3 hlE2 hne hlN2 b0 HE2 HN2)
  |(go_at_call 188;(with_reducible refine(k0.out _ h3).mono ?_);rintro e w4 ⟨rfl,h4,o4⟩;obtain⟨HE4,HN4,hlE4,hlN4⟩:=Zn o4 hlE3 hne hlN3 b0 HE3 HN3)
  |(go_at_call 188;(with_reducible refine(l0.out _ h4).mono ?_);rintro e w5 ⟨rfl,h5,o5⟩;obtain⟨HE5,r0,hlE5,hlN5⟩:=Zn o5 hlE4 hne hlN4 b0 HE4 HN4)
  |(go_at_call 188;(with_reducible refine(d0.out _ h5).mono ?_);rintro e w6 ⟨rfl,h6,o6⟩;obtain⟨L0,K0,hlE6,hlN6⟩:=Zn o6 hlE5 hne hlN5 b0 HE5 r0)
  |(go_at_call 193;(with_reducible refine(S0.out _ h6).mono ?_);rintro e w7 ⟨rfl,h7,o7⟩;obtain⟨HE7,HN7,hlE7,hlN7⟩:=Zn o7 hlE6 hne hlN6 b0 L0 K0)
  |(go_at_call 188;(with_reducible refine(p0.out _ h7).mono ?_);rintro e w8 ⟨rfl,h8,o8⟩;obtain⟨HE8,HN8,hlE8,hlN8⟩:=Zn o8 hlE7 hne hlN7 b0 HE7 HN7;have F0:=h8;unfold ReadAt at F0;rw[HSS.out]at F0;have F2:=ZM F0;clear F0)
  |(go_at_call 193;(with_reducible refine(S1.out _ h8).mono ?_);rintro e w9 ⟨rfl,h9,o9⟩;obtain⟨HE9,HN9,hlE9,hlN9⟩:=Zn o9 hlE8 hne hlN8 b0 HE8 HN8)
  |(go_at_call 174;refine(Xs rfl _).mono ?_;rintro e wm ⟨rfl,q0⟩;have q0:=q0.symm;subst q0)
  |(go_at_call 188;(with_reducible refine(n0.out _ h9).mono ?_);rintro e w10 ⟨rfl,h10,o10⟩;obtain⟨HE10,HN10,hlE10,hlN10⟩:=Zn o10 hlE9 hne hlN9 b0 HE9 HN9)
  |(refine wpList_load_row rfl 141 (.tmp 3) ?_ w1.heap.size ?_ 141 #[.int .i64 k,.int .i64 mn,.int .i64 mx,.int .u64 s0,.int .u64 s1,.int .u64 s2,.int .u64 s3,.slice a l.length cap] (0,0) _ ?_ Tryz.underlying141 rfl ZH ?_;(with_reducible rfl);rfl;exact HE10.out)
  |(refine wpList_store_row rfl 141 (.tmp 2) (.tmp 52) ?_ nb #[.int .i64 3,.int .i64 (m:Nat),.int .i64 (n:Nat),.int .u64 0,.int .u64 0,.int .u64 0,.int .u64 0,.slice (some ⟨w10.heap.size,0,none⟩) 1 1] ?_ ?_ 141 (Zh (setA Q4.none)) ?_ ZH rfl (Zm (repA (m:Nat) (n:Nat) w10.heap.size (RxA.node k mn mx s0 s1 s2 s3 a cap l))) ?_;(with_reducible rfl);rfl;rfl;exact Ze HN10.out _))
 refine bodyPost_ret (results_cell_row rfl _ _ nb 141 #[.int .i64 3,.int .i64 (m:Nat),.int .i64 (n:Nat),.int .u64 0,.int .u64 0,.int .u64 0,.int .u64 0,.slice (some ⟨w10.heap.size,0,none⟩) 1 1] (0,0) _ rfl (setRow_heap _ _ _ _ _ _ (Ze HN10.out (.cells #[.int .i64 k,.int .i64 mn,.int .i64 mx,.int .u64 s0,.int .u64 s1,.int .u64 s2,.int .u64 s3,.slice a l.length cap] 141))) Tryz.underlying141 rfl ZH) rfl ?_
 have oc:=(((((((o3.then o4).then o5).then o6).then o7).then o8).then o9).then o10)
 have A1:=oc.size;simp only[World.size_alloc]at A1;obtain⟨hin,hbl⟩:=V1 (wk:=(w10.alloc (.cells #[.int .i64 k,.int .i64 mn,.int .i64 mx,.int .u64 s0,.int .u64 s1,.int .u64 s2,.int .u64 s3,.slice a l.length cap] 141)).setRow nb #[.int .i64 3,.int .i64 (m:Nat),.int .i64 (n:Nat),.int .u64 0,.int .u64 0,.int .u64 0,.int .u64 0,.slice (some ⟨w10.heap.size,0,none⟩) 1 1]) O0.out M0.out (λb h1 h2=>by rw[setRow_other _ _ _ _ (by omega),Below.heap_alloc _ _ _ (by omega),oc.block b (by simp;omega) (by omega),Below.heap_alloc _ _ _ h2]) (by simp;omega);have I0:=UN (m:=(m:Nat)) (n:=(n:Nat)) k1 z1 hin ((setRow_other (w10.alloc (.cells #[.int .i64 k,.int .i64 mn,.int .i64 mx,.int .u64 s0,.int .u64 s1,.int .u64 s2,.int .u64 s3,.slice a l.length cap] 141)) nb w10.heap.size #[.int .i64 3,.int .i64 (m:Nat),.int .i64 (n:Nat),.int .u64 0,.int .u64 0,.int .u64 0,.int .u64 0,.slice (some ⟨w10.heap.size,0,none⟩) 1 1] (by omega)).trans (Zd _ _));refine⟨(((e0.then o2).then oc).alloc _).setRow (q:=nb) (.inr (by omega)) _,.inr ⟨repA (m:Nat) (n:Nat) w10.heap.size (RxA.node k mn mx s0 s1 s2 s3 a cap l),r3.tail,by rw[YT,<-hX],rfl,(setRow_other _ _ _ _ (by omega)).trans (Ze h10 _),I0,λb hb=>?_⟩⟩;rcases X7 _ _ _ _ b hb with rfl|hb
 ·have:=e0.size;simp only[size_setRow,World.size_alloc];omega
 ·have:=hbl b hb;have:=e0.size;omega
theorem Zbr(w:World)(rb:Nat)(s:List UInt8)(h:ReadAt w rb s)
 (hatom:∀ w1,ReadAt w1 rb s->Calls Tryz.prog 192 #[.pointer (some ⟨rb,0,none⟩)] w1 λe w2=>e=.panicked JO/\Only (λk=>k=rb) w1 w2) :
 Calls Tryz.prog 186 #[.pointer (some ⟨rb,0,none⟩)] w λe w'=>ZW rb w none e w':=by
 have a0:=Hd (hatom _ (Ze h (.cells #[.int .i64 0,.int .i64 0,.int .i64 0,.int .u64 0,.int .u64 0,.int .u64 0,.int .u64 0,.slice none 0 0] 141)));clear hatom
 go_enter Tryz.func186,Tryz.ntmps186
 go_wp2_with (go_at_call 192;refine a0.out.mono ?_;rintro e w1 ⟨rfl,o1⟩)
 exact⟨rfl,((Only.refl _ w).alloc _).then o1,.inl ⟨rfl,rfl⟩⟩
theorem Zbt(w:World)(rb:Nat)(s:List UInt8)(h:ReadAt w rb s)(x:Rx)(r:List UInt8)(hr:r.length<=128)(hatom:Xq rb s x r) :
 Calls Tryz.prog 186 #[.pointer (some ⟨rb,0,none⟩)] w λe w'=>ZW rb w (sign x r) e w':=by
 cases h42:Zg 42 r with
 |true=>exact Zbs w rb s h x r hr hatom h42
 |false=>
  cases h43:Zg 43 r with
  |true=>exact Zbu w rb s h x r hr hatom h42 h43
  |false=>
   cases j0:Zg 63 r with
   |true=>exact Zdq w rb s h x r hr hatom h42 h43 j0
   |false=>
    cases h123:Zg 123 r with
    |false=>exact Zbv w rb s h x r hr hatom h42 h43 j0 h123
    |true=>
     cases hn:Z4 r.tail with
     |none=>exact ZfG w rb s h x r hr hatom h42 h43 j0 h123 hn
     |some p=>
      obtain⟨m,r1⟩:=p
      cases h44:Zg 44 r1 with
      |false=>
       cases h125:Zg 125 r1 with
       |false=>exact ZfF w rb s h x r hr hatom h42 h43 j0 h123 m r1 hn h44 h125
       |true=>exact ZfE w rb s h x r hr hatom h42 h43 j0 h123 m r1 hn h44 h125
      |true=>
       cases h2:r1.tail with
       |nil=>exact ZfD w rb s h x r hr hatom h42 h43 j0 h123 m r1 hn h44 h2
       |cons c u=>
        by_cases hc:c=125
        ·exact ZfC w rb s h x r hr hatom h42 h43 j0 h123 m r1 hn h44 (c::u) h2 u (by rw[hc])
        ·cases hn2:Z4 (c::u) with
         |none=>exact ZfB w rb s h x r hr hatom h42 h43 j0 h123 m r1 hn h44 (c::u) h2 c u rfl hc hn2
         |some p2=>
          obtain⟨n,r3⟩:=p2;by_cases hmn:m<=n
          ·cases h125:Zg 125 r3 with
           |false=>exact Zds w rb s h x r hr hatom h42 h43 j0 h123 m r1 hn h44 (c::u) h2 c u rfl hc n r3 hn2 hmn h125
           |true=>exact Zdr w rb s h x r hr hatom h42 h43 j0 h123 m r1 hn h44 (c::u) h2 c u rfl hc n r3 hn2 hmn h125
          ·exact Zdt w rb s h x r hr hatom h42 h43 j0 h123 m r1 hn h44 (c::u) h2 c u rfl hc n r3 hn2 hmn
def B9:Option (Rx × List UInt8)->Option (Rx × List UInt8)
 |none=>none
 |some (x,r)=>sign x r
theorem E0(w:World)(rb:Nat)(s:List UInt8)(h:ReadAt w rb s)(A:Option (Rx × List UInt8))(hA:∀ x r,A=some (x,r)->r.length<=128)
 (hatom:∀ w1,ReadAt w1 rb s->Calls Tryz.prog 192 #[.pointer (some ⟨rb,0,none⟩)] w1 λe w2=>ZW rb w1 A e w2) :
 Calls Tryz.prog 186 #[.pointer (some ⟨rb,0,none⟩)] w λe w'=>ZW rb w (B9 A) e w':=by
 cases A with
 |none=>exact Zbr w rb s h (λw1 h1=>(hatom w1 h1).mono λe w2 hR=>Y4 hR)
 |some p=>
  obtain⟨x,r⟩:=p;refine Zbt w rb s h x r (hA x r rfl) (λw1 h1=>(hatom w1 h1).mono λe w2 hR=>?_);obtain⟨X,hX,he,h2,h3,h4,h5⟩:=YC hR;obtain⟨k,mn,mx,s0,s1,s2,s3,a,cap,l⟩:=X;exact⟨k,mn,mx,s0,s1,s2,s3,a,cap,l,hX,he,h2,h3,h4,h5⟩
