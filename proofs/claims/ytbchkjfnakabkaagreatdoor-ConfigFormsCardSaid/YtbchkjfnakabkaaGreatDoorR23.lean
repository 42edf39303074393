import Derived.Test.YtbchkjfnakabkaaGreatDoorR1b
import Derived.Test.YtbchkjfnakabkaaGreatDoorB34
import Derived.Test.YtbchkjfnakabkaaGreatDoorB2
import Derived.Test.YtbchkjfnakabkaaGreatDoorR1
import Derived.ScopeJumps
import Derived.Laws.Bits64
import Derived.Deep.LoopGhost
import Derived.Deep.AppendLies
set_option linter.unusedSimpArgs false
set_option linter.unusedVariables false
set_option maxHeartbeats 2000000
set_option maxRecDepth 100000
namespace Go.Proofs.YtbchkjfnakabkaaGreatDoor
open Go.RowKit PX
theorem Zgj{P:Program}{c:Code}{Q Q':Exit→Act→World→Prop}{a:Act}{w:World}(h:c.wp P Q a w)(hq:∀ e a w,Q e a w→Q' e a w):c.wp P Q' a w:=
 fun b k cs=>let ⟨e,a',w',q,r⟩:=h b k cs;⟨e,a',w',hq _ _ _ q,r⟩
theorem VQ{P:Program}{a:Act}{w:World}{Q:Exit→Act→World→Prop}{c X:Code}(l:Nat)(J:Act→World→Prop)(μ:Act→World→Nat)(hf:findLabel c l=some (Code.skip.seq X))
 (pass:∀ a w,J a w→X.wp P (Exit.jump l (fun a' w'=>J a' w'∧μ a' w'<μ a w) Q) a w)
 (first:(∀a w,J a w→X.wp P (Exit.jump l J Q) a w)→c.wp P (Exit.jump l J Q) a w):(Code.scope c).wp P Q a w:=by
 refine wp_scope_jumps l J μ hf (first fun a w hJ=>Zgj (pass a w hJ) ?_) fun a w hJ=>wp_seq (wp_skip (pass a w hJ))
 intro e a' w' h
 cases e with
 |goto l'=>exact⟨h.1,h.2.1⟩
 |_=>exact h
def Q4.cells(q:Q4):Array Value:=#[.int .u64 q.a,.int .u64 q.b,.int .u64 q.c,.int .u64 q.d]
def BS(rb:Nat)(w:World):Nat:=match w.cell? ⟨rb,0,none⟩ with|some (.string s)=>s.size|_=>0
theorem Yt{w:World}{rb:Nat}{l:List UInt8}(h:ReadAt w rb l):BS rb w=l.length:=by
 have:=ZK h;unfold BS;rw[this];simp[ByteArray.size]
def Jr(nt:Bool):Option (Q4 × List UInt8)→Option (Q4 × List UInt8)
 |none=>none
 |some (q,r)=>if (if nt then q.not else q).isNone then none else some (if nt then q.not else q,r)
theorem W6(f:Nat)(l:List UInt8):Yp f l=Jr (Zg 94 l) (ZS f Q4.none (if Zg 94 l then l.tail else l)):=by
 unfold Yp
 cases ZS f Q4.none (if Zg 94 l then l.tail else l) with
 |none=>rfl
 |some p=>rfl
theorem X4:∀ (k:Nat) (q:Q4) (n:Nat),q.withAll n (k+1)=(q.withAll n k).with (n+k)
 |0,q,n=>rfl
 |k+1,q,n=>by
  show(q.with n).withAll (n+1) (k+1)=((q.with n).withAll (n+1) k).with (n+(k+1))
  rw[X4 k (q.with n) (n+1),show n+1+k=n+(k+1) by omega]
theorem Zij(n:Nat)(hn:n<256):Go.bits .and .i64 (n:Int) 63=((n%64:Nat):Int):=by
 have key:∀ n:Nat,n<256→Go.bits .and .i64 (n:Int) 63=((n%64:Nat):Int):=by decide +kernel
 exact key n hn
theorem Jk(W:Int)(k:Nat)(hW:U64 W)(hk:k<64):Go.bits .or .u64 W (IntKind.u64.wrap (2 ^ k))=Yy W k:=ZhV W k ⟨hW.1,by have:=hW.2;omega⟩ hk
theorem ZfB(q:Q4)(w:World):(Op.equalIn 10000 138 (.agg (Q4.cells q)) (.agg #[.int .u64 0,.int .u64 0,.int .u64 0,.int .u64 0])).run Tryz.prog w=.ok q.isNone w:=by
 unfold Q4.cells;rw[Zgx];rfl
theorem xor1{x:Int}(h:U64 x):Go.bits .xor .u64 IntKind.u64.max x=18446744073709551615 - x:=by
 obtain⟨h1,h2⟩:=h
 obtain⟨n,rfl⟩:∃ n:Nat,x=n:=⟨x.toNat,by omega⟩
 have hn:n<2 ^ 64:=by omega
 have hb:(BitVec.ofNat 64 n).toNat=n:=by simp;omega
 have key:18446744073709551615 ^^^ n=18446744073709551615 - n:=by
  have h:=congrArg BitVec.toNat (BitVec.allOnes_xor (x:=BitVec.ofNat 64 n));rw[BitVec.toNat_xor,BitVec.toNat_not,BitVec.toNat_allOnes,hb]at h;exact h
 rw[show IntKind.u64.max=((18446744073709551615:Nat):Int) from rfl,bits_xor_u64_nat _ _ (by omega) (by omega),key];omega
theorem Uy{w:World}{b k:Nat}{o:Obj}{v0 v1 v2 v3:Value}(h:w.heap[k]?=some o)(hk:k≠b) :
 ((((w.setCell ⟨b,0,none⟩ v0).setCell ⟨b,1,none⟩ v1).setCell ⟨b,2,none⟩ v2).setCell ⟨b,3,none⟩ v3).heap[k]?=some o:=by
 rw[Below.heap_setCell _ _ _ _ (by exact fun e=>hk e),Below.heap_setCell _ _ _ _ (by exact fun e=>hk e),Below.heap_setCell _ _ _ _ (by exact fun e=>hk e),Below.heap_setCell _ _ _ _ (by exact fun e=>hk e)];exact h
theorem Wh{r:Nat→Prop}{a w:World}{b:Nat}{v0 v1 v2 v3:Value}(h:Only r a w)(hb:a.heap.size≤b) :
 Only r a ((((w.setCell ⟨b,0,none⟩ v0).setCell ⟨b,1,none⟩ v1).setCell ⟨b,2,none⟩ v2).setCell ⟨b,3,none⟩ v3):=
 (((h.setCell (p:=⟨b,0,none⟩) (.inr hb) _).setCell (p:=⟨b,1,none⟩) (.inr hb) _).setCell (p:=⟨b,2,none⟩) (.inr hb) _).setCell (p:=⟨b,3,none⟩) (.inr hb) _
theorem ZcB(q:Q4):(Q4.cells q).all (·.oneCell')=true:=by simp[Q4.cells,Value.oneCell']
theorem E7:(Tryz.prog.info? 138).map (·.size)=some 4:=by kernel_rfl
theorem V8{f:Nat}{q:Q4}{l:List UInt8}(h:Xa q l=none):ZS f q l=none:=by
 cases f with
 |zero=>rfl
 |succ f=>simp[ZS,h]
theorem Wt{f:Nat}{q q':Q4}{l r:List UInt8}(h:Xa q l=some (q',r))(hf:l.length≤f):∃ f',f=f'+1∧r.length≤f'∧ZS f q l=if Zg 93 r then some (q',r.tail) else ZS f' q' r:=by
 have:=Gl h
 cases f with
 |zero=>omega
 |succ f=>exact⟨f,rfl,by omega,by simp[ZS,h]⟩
def Zio(rb nb:Nat)(nt:Bool)(w:World)(o:Option (Q4 × List UInt8))(a:Act)(w':World):Prop:=
 (∃(u1 u5 u6 u7 u8 u9 u10 u11 u12 u13 u14 u15 u16 u17 u18 u19 u20 u21 u22 u23 u24 u25 u26 u27 u28 u29 u30 u31 u32 u33 u34 u35 u36 u37 u38 u39 u40 u41 u42 u43 u44 u45 u46 u47 u48 u49 u50 u51 u52 u53 u54 u55:Value),a={ tmps:=#[.pointer (some ⟨rb,0,none⟩),u1,.pointer (some ⟨nb,0,none⟩),.pointer (some ⟨nb+1,0,none⟩),.bool nt,u5,u6,u7,u8,u9,u10,u11,u12,u13,u14,u15,u16,u17,u18,u19,u20,u21,u22,u23,u24,u25,u26,u27,u28,u29,u30,u31,u32,u33,u34,u35,u36,u37,u38,u39,u40,u41,u42,u43,u44,u45,u46,u47,u48,u49,u50,u51,u52,u53,u54,u55],defers:=[] }) ∧
 ∃ (q:Q4) (l:List UInt8) (f:Nat),ReadAt w' rb l∧w'.heap[nb+1]?=some (.cells (Q4.cells q) 138 (0,0))∧w'.heap[nb]?=some (.cells (Q4.cells Q4.none) 138 (0,0))∧Only (fun k=>k=rb) w w'∧q.Ok ∧
  l.length≤f∧l.length≤1000∧ZS f q l=o
theorem Zp(w:World)(o:Obj)(n:Nat)(hn:w.heap.size=n):(w.alloc o).heap[n]?=some o:=by subst hn;exact Ze w o
theorem JG{w:World}{rb:Nat}{l:List UInt8}(h:ReadAt w rb l)(a b:Obj):ReadAt ((w.alloc a).alloc b) rb l:=Zd (Zd h a) b
theorem W3(w:World)(rb:Nat)(l:List UInt8)(f:Nat)(h:ReadAt w rb l)(hf:l.length≤f)(hl:l.length≤1000) :
 Calls Tryz.prog 196 #[.pointer (some ⟨rb,0,none⟩)] w fun e w'=>Reads rb w (Yp f l) (fun q=>.agg (Q4.cells q)) e w':=by
 have hlt:=Za h
 obtain⟨nt,hnt⟩:∃ nt,Zg 94 l=nt:=⟨_,rfl⟩
 obtain⟨o,ho⟩:∃ o,ZS f Q4.none (if nt then l.tail else l)=o:=⟨_,rfl⟩
 have hR:=W6 f l;rw[hnt,ho]at hR;have HR:=Hd hR;clear hR;have HO:=Hd ho;clear ho
 obtain⟨l1,hl1⟩:∃ l1,(if nt then l.tail else l)=l1:=⟨_,rfl⟩
 have htake:=fun w1 (h1:ReadAt w1 rb l)=>VX w1 rb l 94 h1
 rw[hnt]at htake;rw[hl1]at HO htake;have hl1f:l1.length≤f∧l1.length≤1000:=by rw[←hl1];have:=Xs l;split<;>omega
 have HT:=Hd htake;clear htake hl1 hnt
 obtain⟨nb,hnb⟩:∃ nb,w.heap.size=nb:=⟨_,rfl⟩
 have HW:=Hd h;clear h
 go_enter Tryz.func196,Tryz.ntmps196
 go_wp2_with fail
 refine VQ 0 (Zio rb nb nt w o) (fun _ w'=>BS rb w') rfl ?_ ?_
 ·rintro a w' ⟨⟨u1,u5,u6,u7,u8,u9,u10,u11,u12,u13,u14,u15,u16,u17,u18,u19,u20,u21,u22,u23,u24,u25,u26,u27,u28,u29,u30,u31,u32,u33,u34,u35,u36,u37,u38,u39,u40,u41,u42,u43,u44,u45,u46,u47,u48,u49,u50,u51,u52,u53,u54,u55,rfl⟩,q,l',f',hr,hs,hn,hon,hq,hlf,hl1k,hcl⟩;clear HT HO HW hl1f hf hl;have HCL:=Hd hcl;clear hcl;have HQ:=Hd hq;clear hq;have HS:=Hd hs;clear hs;have HN:=Hd hn;clear hn;have HON:=Hd hon;clear hon;have HONE:=Hd (Ql w' rb ⟨#[92,93,94,45]⟩ l' hr hl1k);have hleft:=Yt hr;clear hr;have HLEFT:=Hd hleft;clear hleft
  cases h1:one Yh l' with
  |none=>
   have HO1:=Hd ((V8 (f:=f') (q:=q) (by simp[Xa,h1])).symm.trans HCL.out);have H1:=Hd h1;clear h1
   go_wp2_with (go_at_call 197;refine HONE.out.mono ?_;rintro e w1 hR;obtain⟨rfl,o1⟩:=hR.none H1.out)
   exact⟨rfl,HON.out.then o1,.inl ⟨by rw[HR.out,←HO1.out];rfl,rfl⟩⟩
  |some ar=>
   obtain⟨a,r⟩:=ar;have hra:=V5 h1
   obtain⟨b45,hb45⟩:∃ b45,Zg 45 r=b45:=⟨_,rfl⟩
   obtain⟨r1,hr1⟩:∃ r1,(if b45 then r.tail else r)=r1:=⟨_,rfl⟩
   have HTK:=Hd (fun w1 (h:ReadAt w1 rb r)=>by
    have h:=VX w1 rb r 45 h;rw[hb45,hr1]at h
    exact h)
   have hr1l:r1.length≤r.length:=by rw[←hr1];have:=Xs r;split<;>omega
   have H1:=Hd h1;clear h1;have H45:=Hd hb45;clear hb45;have HR1:=Hd hr1;clear hr1
   go_upto_if 13 with(first
    |(go_at_call 197;refine HONE.out.mono ?_;rintro e w1 hR;obtain⟨rfl,hr1',o1⟩:=hR.some H1.out)
    |(go_at_call 188;refine(HTK.out _ hr1').mono ?_;rintro e w2 ⟨rfl,h2,o2⟩))
   go_cut [6] from 12 to 15 (fun v wr=>∃ (b:Nat) (r2:List UInt8),v=.int .i64 b∧ReadAt wr rb r2∧Only (fun k=>k=rb) w' wr∧b<256∧Xa q l'=(if a≤b then some (q.withAll a (b+1 - a),r2) else none)∧r2.length<l'.length)
   case first=>
    have hO2:=Hd (o1.then o2);clear o1 o2
    cases b45 with
    |false=>
     obtain rfl:r=r1:=HR1.out
     go_wp2_with fail
     go_meet
     case rel=>
      refine⟨a,r,rfl,h2,hO2.out,hra.2,?_,hra.1⟩;unfold Xa;rw[H1.out];simp only[H45.out,Bool.false_eq_true,if_false,Nat.le_refl,if_true];rw[show a+1 - a=1 by omega]
    |true=>
     obtain rfl:r.tail=r1:=HR1.out;have HONE2:=Hd (Ql w2 rb ⟨#[92,93,94,45]⟩ r.tail h2 (by omega))
     cases h3:one Yh r.tail with
     |none=>
      have hc1:Xa q l'=none:=by
       unfold Xa;rw[H1.out];simp only[H45.out,if_true,h3]
      have HO1:=Hd ((V8 (f:=f') hc1).symm.trans HCL.out);have H3:=Hd h3;clear h3 hc1
      go_wp2_with (go_at_call 197;refine HONE2.out.mono ?_;rintro e w3 hR;obtain⟨rfl,o3⟩:=hR.none H3.out)
      exact⟨rfl,(HON.out.then hO2.out).then o3,.inl ⟨by rw[HR.out,←HO1.out];rfl,rfl⟩⟩
     |some br=>
      obtain⟨b,r2⟩:=br;have hb:=V5 h3;have H3:=Hd h3;clear h3
      go_wp2_with (go_at_call 197;refine HONE2.out.mono ?_;rintro e w3 hR;obtain⟨rfl,hr3,o3⟩:=hR.some H3.out)
      go_meet
      case rel=>
       refine⟨b,r2,rfl,hr3,hO2.out.then o3,hb.2,?_,by have:=Xs r;omega⟩;unfold Xa;rw[H1.out];simp only[H45.out,if_true,H3.out]
   case rest=>
    clear h2 o1 o2;obtain⟨b,r2,rfl,hr2,honc,hb256,hc1,hr2l⟩:=hcut;have HC1:=Hd hc1;clear hc1;have HR2:=Hd hr2;clear hr2;have HONC:=Hd honc;clear honc;clear HTK HONE HR1 H45 hr1l H1;by_cases hab:a≤b
    ·obtain⟨f2,rfl,hf2,hcl2⟩:=Wt (f:=f') (HC1.out.trans (if_pos hab)) hlf;have HCL2:=Hd (hcl2.symm.trans HCL.out);clear hcl2;have habi:(a:Int)≤b:=by omega
     have hncw:nb+1<w'.heap.size:=Za HS.out;have hnbr:rb<nb:=by omega
     have hsc:wc.heap[nb+1]?=some (.cells (Q4.cells q) 138 (0,0)):=by
      rw[HONC.out.block (nb+1) hncw (by omega)];exact HS.out
     have HSC:=Hd hsc;clear hsc
     go_wp2_with (go_at_call 174;refine(Xr rfl _).mono ?_;rintro e w4 ⟨rfl,rfl⟩)
     go_loopw [5] (fun v wr=>∃ j:Nat,j≤b+1 - a∧v=.int .i64 ((a+j:Nat):Int)∧wr.heap[nb+1]?=some (.cells (Q4.cells (q.withAll a j)) 138 (0,0))∧Only (fun k=>k=nb+1) w4 wr) (fun v _=>b+1 - (intOf v).toNat)
     case atStart=>exact⟨0,by omega,rfl,HSC.out,Only.refl _ _⟩
     case round=>
      obtain⟨j,hj,rfl,hsr,honr⟩:=hrel;have hqj:=Q4.withAll_ok HQ.out (k:=j) (n:=a) (by omega)
      obtain⟨q1,hq1⟩:∃ q1,q.withAll a j=q1:=⟨_,rfl⟩
      rw[hq1]at hsr hqj;by_cases hje:j=b+1 - a
      ·have hgt:¬ ((a+j:Nat):Int)≤b:=by omega
       subst hje;rw[show a+(b+1 - a)=b+1 by omega]at hgt ⊢
       obtain⟨b93,hb93⟩:∃ b93,Zg 93 r2=b93:=⟨_,rfl⟩
       have hr2r:ReadAt wr rb r2:=by
        unfold ReadAt;rw[honr.block rb (by have:=HONC.out.size;omega) (by omega)];exact HR2.out
       have honw:=HON.out.then HONC.out;have honx:Only (fun k=>k=rb) w wr:=honw.trans (honr.mono fun _ _ h=>.inr (by omega));have HX:=Hd honx;clear honx honw;have honr0:=honr;clear honr
       have hnr:wr.heap[nb]?=some (.cells (Q4.cells Q4.none) 138 (0,0)):=by
        rw[honr0.block nb (by have:=HONC.out.size;omega) (by omega),HONC.out.block nb (by omega) (by omega)];exact HN.out
       have HTK:=VX wr rb r2 93 hr2r;have HQ1:=Hd hq1;clear hq1;have HQO:=Hd hqj;clear hqj;have HSR:=Hd hsr;clear hsr;have HNR:=Hd hnr;clear hnr honr0;have hnlt:=Za HNR.out;have hslt:=Za HSR.out;rw[hb93]at HTK;clear hr2r;have HB93:=Hd hb93;clear hb93
       cases b93 with
       |false=>
        simp only[Bool.false_eq_true,if_false]at HTK;have HT2:=Hd HTK;clear HTK
        go_wp2_with (go_at_call 188;refine HT2.out.mono ?_;rintro e w5 ⟨rfl,h5,o5⟩)
        go_step3
        refine⟨rfl,⟨⟨_,_,_,_,_,_,_,_,_,_,_,_,_,_,_,_,_,_,_,_,_,_,_,_,_,_,_,_,_,_,_,_,_,_,_,_,_,_,_,_,_,_,_,_,_,_,_,_,_,_,_,_,rfl⟩,q1,r2,f2,h5,(o5.block _ hslt (by omega)).trans HSR.out,(o5.block _ hnlt (by omega)).trans HNR.out,HX.out.then o5,HQO.out,hf2,by omega,?_⟩,?_⟩
        ·have h:=HCL2.out;rw[HB93.out,HQ1.out]at h;exact h
        ·rw[Yt h5,HLEFT.out];exact hr2l
       |true=>
        simp only[if_true]at HTK;have HT2:=Hd HTK;clear HTK
        have ho2:some (q1,r2.tail)=o:=by
         have h:=HCL2.out;rw[HB93.out,HQ1.out]at h;exact h
        subst ho2
        cases nt with
        |false=>
         have hEQ:=ZfB q1;cases hno:q1.isNone
         ·have HNO:=Hd hno;rw[hno]at hEQ;clear hno
          go_wp2_with (first
           |(go_at_call 188;refine HT2.out.mono ?_;rintro e w5 ⟨rfl,h5,o5⟩;have hs5:=(o5.block _ hslt (by omega)).trans HSR.out;have hn5:=(o5.block _ hnlt (by omega)).trans HNR.out;have HS5:=Hd hs5;have HN5:=Hd hn5;clear hs5 hn5)
           |(go_at_call 174;refine(Xr rfl _).mono ?_;rintro e w6 ⟨rfl,rfl⟩)
           |refine wpList_load_row rfl 138 (.tmp 3) rfl (nb+1) rfl 138 (Q4.cells q1) (0,0) _ HS5.out Tryz.underlying138 rfl E7 ?_
           |refine wpList_store_row rfl 138 (.tmp 2) (.tmp 55) rfl nb (Q4.cells q1) rfl rfl 138 _ HN5.out E7 rfl (ZcB _) ?_)
          refine bodyPost_ret (results_cell_row rfl _ _ nb 138 (Q4.cells q1) (0,0) _ rfl (setRow_heap _ _ _ _ _ _ HN5.out) Tryz.underlying138 rfl E7) rfl ?_;refine⟨(HX.out.then o5).setRow (q:=nb) (.inr (by omega)) _,.inr ⟨q1,r2.tail,by rw[HR.out];simp[Jr,HNO.out],rfl,?_⟩⟩;unfold ReadAt at h5 ⊢;rw[setRow_other _ _ _ _ (by omega)];exact h5
         ·have HNO:=Hd hno;rw[hno]at hEQ;clear hno
          go_wp2_with (first
           |(go_at_call 188;refine HT2.out.mono ?_;rintro e w5 ⟨rfl,h5,o5⟩;have hs5:=(o5.block _ hslt (by omega)).trans HSR.out;have hn5:=(o5.block _ hnlt (by omega)).trans HNR.out;have HS5:=Hd hs5;have HN5:=Hd hn5;clear hs5 hn5)
           |(go_at_call 174;refine(XR rfl _).mono ?_;rintro e w6 ⟨rfl,rfl⟩)
           |refine wpList_load_row rfl 138 (.tmp 3) rfl (nb+1) rfl 138 (Q4.cells q1) (0,0) _ HS5.out Tryz.underlying138 rfl E7 ?_)
          exact⟨rfl,(HX.out.then o5),.inl ⟨by rw[HR.out];simp[Jr,HNO.out],rfl⟩⟩
        |true=>
         have hsm:Q3 q1.not.a q1.not.b q1.not.c q1.not.d 0 0 0 0=q1.not.isNone:=rfl;have x0:Go.bits .xor .u64 (if IntKind.u64.signed=true then -1 else IntKind.u64.max) q1.a=q1.not.a:=xor1 HQO.out.1;have x1:Go.bits .xor .u64 (if IntKind.u64.signed=true then -1 else IntKind.u64.max) q1.b=q1.not.b:=xor1 HQO.out.2.1;have x2:Go.bits .xor .u64 (if IntKind.u64.signed=true then -1 else IntKind.u64.max) q1.c=q1.not.c:=xor1 HQO.out.2.2.1;have x3:Go.bits .xor .u64 (if IntKind.u64.signed=true then -1 else IntKind.u64.max) q1.d=q1.not.d:=xor1 HQO.out.2.2.2;cases hno:q1.not.isNone
         ·have HNO:=Hd hno;rw[hno]at hsm;have HSM:=Hd hsm;clear hsm;clear hno
          go_wp2_with (first
           |(go_at_call 188;refine HT2.out.mono ?_;rintro e w5 ⟨rfl,h5,o5⟩;have hs5:=(o5.block _ hslt (by omega)).trans HSR.out;have hn5:=(o5.block _ hnlt (by omega)).trans HNR.out;have HS5:=Hd hs5;have HN5:=Hd hn5;have s0:w5.cell? ⟨nb+1,0,none⟩=some (.int .u64 q1.a):=Zb hs5 0;have t0:=Zc hs5 0;have s1:w5.cell? ⟨nb+1,1,none⟩=some (.int .u64 q1.b):=Zb hs5 1;have t1:=Zc hs5 1;have s2:w5.cell? ⟨nb+1,2,none⟩=some (.int .u64 q1.c):=Zb hs5 2;have t2:=Zc hs5 2;have s3:w5.cell? ⟨nb+1,3,none⟩=some (.int .u64 q1.d):=Zb hs5 3;have t3:=Zc hs5 3;clear hs5 hn5)
           |(go_at_call 174;refine(Xr (by first|rfl|simp[HSM.out]) _).mono ?_;rintro e w6 ⟨rfl,rfl⟩)
           |(refine wpList_store_row rfl 138 (.tmp 2) (.tmp 55) ?_ nb (Q4.cells q1.not) ?_ ?_ 138 (Q4.cells Q4.none) ?_ E7 rfl (ZcB _) ?_;(with_reducible rfl);rfl;rfl;exact Uy HN5.out (by omega)))
          refine bodyPost_ret (results_cell_row rfl _ _ nb 138 (Q4.cells q1.not) (0,0) _ rfl (setRow_heap _ _ _ _ _ _ (Uy HN5.out (by omega))) Tryz.underlying138 rfl E7) rfl ?_;refine⟨(Wh (b:=nb+1) (HX.out.then o5) (by omega)).setRow (q:=nb) (.inr (by omega)) _,.inr ⟨q1.not,r2.tail,by rw[HR.out];simp[Jr,HNO.out],rfl,?_⟩⟩;unfold ReadAt at h5 ⊢;rw[setRow_other _ _ _ _ (by omega)];exact Uy h5 (by omega)
         ·have HNO:=Hd hno;rw[hno]at hsm;have HSM:=Hd hsm;clear hsm;clear hno
          go_wp2_with (first
           |(go_at_call 188;refine HT2.out.mono ?_;rintro e w5 ⟨rfl,h5,o5⟩;have hs5:=(o5.block _ hslt (by omega)).trans HSR.out;have hn5:=(o5.block _ hnlt (by omega)).trans HNR.out;have HS5:=Hd hs5;have HN5:=Hd hn5;have s0:w5.cell? ⟨nb+1,0,none⟩=some (.int .u64 q1.a):=Zb hs5 0;have t0:=Zc hs5 0;have s1:w5.cell? ⟨nb+1,1,none⟩=some (.int .u64 q1.b):=Zb hs5 1;have t1:=Zc hs5 1;have s2:w5.cell? ⟨nb+1,2,none⟩=some (.int .u64 q1.c):=Zb hs5 2;have t2:=Zc hs5 2;have s3:w5.cell? ⟨nb+1,3,none⟩=some (.int .u64 q1.d):=Zb hs5 3;have t3:=Zc hs5 3;clear hs5 hn5)
           |(go_at_call 174;refine(XR (by first|rfl|simp[HSM.out]) _).mono ?_;rintro e w6 ⟨rfl,rfl⟩))
          exact⟨rfl,(Wh (b:=nb+1) (HX.out.then o5) (by omega)),.inl ⟨by rw[HR.out];simp[Jr,HNO.out],rfl⟩⟩
      ·have hle:((a+j:Nat):Int)≤b:=by omega
       obtain⟨x,hx⟩:∃ x,a+j=x:=⟨_,rfl⟩
       rw[hx]at hle ⊢;have hx256:x<256:=by omega
       have s0:wr.cell? ⟨nb+1,0,none⟩=some (.int .u64 q1.a):=Zb hsr 0;have s1:wr.cell? ⟨nb+1,1,none⟩=some (.int .u64 q1.b):=Zb hsr 1;have s2:wr.cell? ⟨nb+1,2,none⟩=some (.int .u64 q1.c):=Zb hsr 2;have s3:wr.cell? ⟨nb+1,3,none⟩=some (.int .u64 q1.d):=Zb hsr 3;have fr0:=Zc hsr 0;have fr1:=Zc hsr 1;have fr2:=Zc hsr 2;have fr3:=Zc hsr 3;have HSR:=Hd hsr;clear hsr
       go_wp2_with fail
       have hw4:x<64∨(64≤x∧x<128)∨(128≤x∧x<192)∨192≤x:=by omega
       have h63:=Zij x hx256
       obtain⟨k,hk⟩:∃ k,x%64=k:=⟨_,rfl⟩
       have hk64:k<64:=by omega
       rw[hk]at h63;rcases hw4 with h4|h4|h4|h4
       ·have hd:(x:Int)/64=0:=by omega
        have hob:=Jk q1.a k hqj.1 hk64
        go_region
        go_wp2_with fail
        refine⟨⟨j+1,by omega,by rw[←hx];simp;omega,?_,(honr.setCell (p:=⟨nb+1,0,none⟩) (.inl rfl) _).drew⟩,by simp only[intOf];omega⟩;show(wr.setCell _ _).heap[nb+1]?=_;rw[Zf HSR.out,X4,hq1,hx];simp only[Q4.with,Q4.cells];rw[if_pos (by omega)];rw[show x=k by omega];rfl
       ·have hd:(x:Int)/64=1:=by omega
        have hob:=Jk q1.b k hqj.2.1 hk64
        go_region
        go_wp2_with fail
        refine⟨⟨j+1,by omega,by rw[←hx];simp;omega,?_,(honr.setCell (p:=⟨nb+1,1,none⟩) (.inl rfl) _).drew⟩,by simp only[intOf];omega⟩;show(wr.setCell _ _).heap[nb+1]?=_;rw[Zf HSR.out,X4,hq1,hx];simp only[Q4.with,Q4.cells];rw[if_neg (by omega),if_pos (by omega)];rw[show x - 64=k by omega];rfl
       ·have hd:(x:Int)/64=2:=by omega
        have hob:=Jk q1.c k hqj.2.2.1 hk64
        go_region
        go_wp2_with fail
        refine⟨⟨j+1,by omega,by rw[←hx];simp;omega,?_,(honr.setCell (p:=⟨nb+1,2,none⟩) (.inl rfl) _).drew⟩,by simp only[intOf];omega⟩;show(wr.setCell _ _).heap[nb+1]?=_;rw[Zf HSR.out,X4,hq1,hx];simp only[Q4.with,Q4.cells];rw[if_neg (by omega),if_neg (by omega),if_pos (by omega)];rw[show x - 128=k by omega];rfl
       ·have hd:(x:Int)/64=3:=by omega
        have hob:=Jk q1.d k hqj.2.2.2 hk64
        go_region
        go_wp2_with fail
        refine⟨⟨j+1,by omega,by rw[←hx];simp;omega,?_,(honr.setCell (p:=⟨nb+1,3,none⟩) (.inl rfl) _).drew⟩,by simp only[intOf];omega⟩;show(wr.setCell _ _).heap[nb+1]?=_;rw[Zf HSR.out,X4,hq1,hx];simp only[Q4.with,Q4.cells];rw[if_neg (by omega),if_neg (by omega),if_neg (by omega)];rw[show x - 192=k by omega];rfl
    ·have habi:¬ (a:Int)≤b:=by omega
     have HO1:=Hd ((V8 (f:=f') (HC1.out.trans (if_neg hab))).symm.trans HCL.out)
     go_wp2_with (go_at_call 174;refine(XR rfl _).mono ?_;rintro e w4 ⟨rfl,rfl⟩)
     exact⟨rfl,HON.out.then HONC.out,.inl ⟨by rw[HR.out,←HO1.out];rfl,rfl⟩⟩
 ·intro hX;have HX:=Hd hX;clear hX
  go_wp2_with (go_at_call 188;refine(HT.out _ (JG HW.out _ _)).mono ?_;rintro e w1 ⟨rfl,h1,o1⟩)
  go_step3
  rename (∀(a:Act) (w:World),_→_)=>hk
  refine hk _ _ (HX.out _ _ ⟨⟨_,_,_,_,_,_,_,_,_,_,_,_,_,_,_,_,_,_,_,_,_,_,_,_,_,_,_,_,_,_,_,_,_,_,_,_,_,_,_,_,_,_,_,_,_,_,_,_,_,_,_,_,rfl⟩,Q4.none,l1,f,h1,?_,?_,?_,Q4.none_ok,hl1f.1,hl1f.2,HO.out⟩)
  ·rw[o1.block (nb+1) (by simp;omega) (by omega)];rw[←hnb];exact Zp _ _ _ (by simp)
  ·rw[o1.block nb (by simp;omega) (by omega)];rw[←hnb];exact Zd (Ze _ _) _
  ·exact((Only.refl _ w).alloc _|>.alloc _).trans (o1.mono fun _ _ h=>.inl h)
end Go.Proofs.YtbchkjfnakabkaaGreatDoor
namespace Go.Proofs.YtbchkjfnakabkaaGreatDoor
open Go.RowKit PX
mutual
def RxA.blocks:RxA→List Nat
 |.node _ _ _ _ _ _ _ a _ l=>(match a with|some p=>[p.block]|none=>[])++XY l
def XY:List RxA→List Nat
 |[]=>[]
 |x::xs=>x.blocks++XY xs
end
theorem Up:∀ {l:List RxA} {b:Nat},b∈XY l↔∃ x∈l,b∈x.blocks
 |[],b=>by simp[XY]
 |x::xs,b=>by simp[XY,Up]
mutual
theorem RxA.In.keep{w w':World}{B B':Nat}:∀ {x:RxA},x.In w B→(∀b∈x.blocks,b<B'∧∀ o,w'.cell? ⟨b,o,none⟩=w.cell? ⟨b,o,none⟩)→x.In w' B'
 |.node k mn mx s0 s1 s2 s3 a cap l,h,hk=>by
  simp only[RxA.In]at h ⊢;refine⟨h.1,h.2.1,h.2.2.1,h.2.2.2.1,?_⟩;rcases h.2.2.2.2 with h|⟨b,o,rfl,hb,hl⟩
  ·exact .inl h
  ·have hb':=hk b (by simp[RxA.blocks]);exact .inr ⟨b,o,rfl,hb'.1,InL.keep hb'.2 hl (fun c hc=>hk c (by simp[RxA.blocks,hc]))⟩
theorem InL.keep{w w':World}{B B' b:Nat}(hb:∀ o,w'.cell? ⟨b,o,none⟩=w.cell? ⟨b,o,none⟩):∀ {l:List RxA} {o:Nat},InL w B b o l→(∀c∈XY l,c<B'∧∀ o,w'.cell? ⟨c,o,none⟩=w.cell? ⟨c,o,none⟩)→InL w' B' b o l
 |[],_,_,_=>trivial
 |x::xs,o,h,hk=>by
  simp only[InL]at h ⊢;exact⟨fun j hj=>(hb _).trans (h.1 j hj),RxA.In.keep h.2.1 (fun c hc=>hk c (by simp[XY,hc])),InL.keep hb h.2.2 (fun c hc=>hk c (by simp[XY,hc]))⟩
end
structure Kept (w:World) (B:Nat) (v1 v2:Value) (X:RxA):Prop where
 lies:X.In w w.heap.size
 far:∀ b∈X.blocks,B≤b∧b<w.heap.size∧v1.ownBlock≠some b∧v2.ownBlock≠some b
theorem Kept.later{w w':World}{B:Nat}{v1 v2 v1' v2':Value}{X:RxA}(h:Kept w B v1 v2 X)(hs:w.heap.size≤w'.heap.size)
 (hb:∀ b,B≤b→b<w.heap.size→v1.ownBlock≠some b→v2.ownBlock≠some b→w'.heap[b]?=w.heap[b]?∧v1'.ownBlock≠some b∧v2'.ownBlock≠some b):Kept w' B v1' v2' X:=by
 refine⟨h.lies.keep fun b hbb=>?_,fun b hbb=>?_⟩
 ·obtain⟨h1,h2,h3,h4⟩:=h.far b hbb;exact⟨by omega,fun o=>World.cell?_of_block (w:=w) (hb b h1 h2 h3 h4).1⟩
 ·obtain⟨h1,h2,h3,h4⟩:=h.far b hbb;have:=hb b h1 h2 h3 h4;exact⟨h1,by omega,this.2.1,this.2.2⟩
def Xb:List RxA→List Value
 |[]=>[]
 |x::xs=>x.cells++Xb xs
theorem Uo(x:RxA):x.cells.length=8:=by cases x;rfl
theorem Vp:∀ l:List RxA,(Xb l).length=l.length*8
 |[]=>rfl
 |x::xs=>by simp[Xb,Vp xs,Uo];omega
theorem Vq:∀ (a b:List RxA),Xb (a++b)=Xb a++Xb b
 |[],_=>rfl
 |x::a,b=>by simp[Xb,Vq a b]
theorem GR{w:World}{B g:Nat}:∀ {l:List RxA} {o:Nat},(∀j u,(Xb l)[j]?=some u→w.cell? ⟨g,o+j,none⟩=some u)→(∀X∈l,X.In w B)→InL w B g o l
 |[],_,_,_=>trivial
 |x::xs,o,h,hi=>by
  simp only[InL];refine⟨fun j hj=>?_,hi x (by simp),?_⟩
  ·have hl:j<x.cells.length:=by rw[Uo];exact hj
   rw[List.getElem?_eq_getElem hl];apply h;simp only[Xb];rw[List.getElem?_append_left hl,List.getElem?_eq_getElem hl]
  ·refine GR (fun j u hu=>?_) (fun X hX=>hi X (by simp[hX]));rw[show o+8+j=o+(8+j) by omega];apply h;simp only[Xb];rw[List.getElem?_append_right (by rw[Uo];omega),Uo,show 8+j - 8=j by omega];exact hu
def Xk(kind:Int)(a:Option Addr)(cap:Nat):List RxA→RxA
 |[x]=>x
 |l=>.node kind 0 0 0 0 0 0 a cap l
theorem YA(kind:Int)(a:Option Addr)(cap:Nat):∀ l:List RxA,(Xk kind a cap l).bare=Rx.joined kind (l.map RxA.bare)
 |[]=>by simp[Xk,RxA.bare,Rx.joined,XS]
 |[x]=>by simp[Xk,Rx.joined]
 |x::y::l=>by simp[Xk,RxA.bare,Rx.joined,XS,Vh]
end Go.Proofs.YtbchkjfnakabkaaGreatDoor
namespace Go.Proofs.YtbchkjfnakabkaaGreatDoor
open Go.RowKit PX
theorem ZF:(Tryz.prog.info? 141).map (·.size)=some 8:=by kernel_rfl
theorem BU:(Tryz.prog.info? 141).map (fun i=>(i.zero,i.size,i.bytes))=some (some (.agg #[.int .i64 0,.int .i64 0,.int .i64 0,.int .u64 0,.int .u64 0,.int .u64 0,.int .u64 0,.slice none 0 0]),8,80):=by kernel_rfl
def Zn:Array Value:=#[.int .i64 0,.int .i64 0,.int .i64 0,.int .u64 0,.int .u64 0,.int .u64 0,.int .u64 0,.slice none 0 0]
def Zh(x:RxA):Array Value:=x.cells.toArray
theorem Zi(x:RxA):(Zh x).size=8:=by cases x;rfl
theorem Zl(x:RxA):(Zh x).all (·.oneCell')=true:=by cases x;simp[Zh,RxA.cells,Value.oneCell']
theorem ZbD(x:RxA):x.val=.agg (Zh x):=rfl
theorem Zj(x:RxA):(Tryz.prog.info? 141).map (·.size)=some (Zh x).size:=by rw[Zi];exact ZF
theorem Y2(w:World)(o:Obj)(cs:Array Value):Below w.heap.size w ((w.alloc o).setRow w.heap.size cs):=by
 have h1:=(Below.refl w.heap.size w).alloc (Nat.le_refl _) o;exact⟨h1.os,h1.tape,h1.output,by simp,fun k hk=>(setRow_other _ _ _ _ (by omega)).trans (h1.block k hk)⟩
theorem Y9{w:World}{base n:Nat}{v:Value}{xs:List Value}(h:w.ownsRow base 141 8 v n xs):∃ a cap,v=.slice a n cap∧n≤cap∧cap≤maxLen∧((n=0∧a=none)∨∃ g,a=some ⟨g,0,none⟩∧base≤g∧g<w.heap.size∧v.ownBlock=some g):=by
 have hlt:=h.lt;rcases h.2 with⟨rfl,h0⟩|⟨g,cap,cur,rfl,hg,hh,h1,h2,_⟩
 ·subst h0;exact⟨none,0,rfl,Nat.le_refl _,by simp,.inl ⟨rfl,rfl⟩⟩
 ·exact⟨some ⟨g,0,none⟩,cap,rfl,h1,h2,.inr ⟨g,rfl,hg,Za hh,rfl⟩⟩
theorem UF(w:World)(kind:Int)(v:Value)(base:Nat)(L:List RxA)(hown:w.ownsRow base 141 8 v L.length (Xb L))(hlen:L.length≤1000) :
 Calls Tryz.prog 187 #[.int .i64 kind,v] w fun e w'=>∃ a cap,v=.slice a L.length cap∧e=.returned (.agg (Zh (Xk kind a cap L)))∧Below w.heap.size w w':=by
 obtain⟨a,cap,rfl,hc1,hc2,ha⟩:=Y9 hown;by_cases h1:L.length=1
 ·obtain⟨x,rfl⟩:=List.length_eq_one_iff.1 h1;obtain⟨g,rfl,hbg,hgw,-⟩:=ha.resolve_left (by rintro⟨h,-⟩;simp at h)
  have hC:∀ j u,(Zh x)[j]?=some u→w.cell? ⟨g,j,none⟩=some u:=by
   intro j u hu;have hj:j<8:=by have:=(Array.getElem?_eq_some_iff.1 hu).1;rwa [Zi]at this
   rw[hown.cellAt j (by simp;omega)]
   simpa [Xb,Zh] using hu
  have HC:=Hd hC;clear hC;have HSZ:=Hd (Zi x);have HONE:=Hd (Zl x);show Calls _ _ _ _ fun e w'=>∃ a' cap',Value.slice (some ⟨g,0,none⟩) [x].length cap=.slice a' [x].length cap'∧e=.returned (.agg (Zh x))∧Below w.heap.size w w'
  obtain⟨CS,HCS⟩:∃ CS,Hid (Zh x=CS):=⟨_,Hd rfl⟩
  rw[HCS.out]at HC HSZ HONE ⊢;clear hown;have HZ:=Hd (show(w.alloc (.cells Zn 141)).heap[w.heap.size]?=some (.cells Zn 141 (0,0)) from Ze w _);simp only[List.length_singleton];have hINF:(Tryz.prog.info? 141).map (·.size)=some CS.size:=by rw[HSZ.out];exact ZF
  have HINF:=Hd hINF;clear hINF;have HC2:=Hd (fun j u hu=>(World.cell?_of_block (w:=w) (a:=⟨g,j,none⟩) (Below.heap_alloc w (.cells Zn 141) g hgw)).trans (HC.out j u hu))
  go_enter Tryz.func187,Tryz.ntmps187
  go_wp2_with (first
   |refine Vn rfl 141 (.tmp 9) rfl g 0 rfl CS _ (by intro j u hu;rw[Nat.zero_add];exact HC2.out j u hu) Tryz.underlying141 rfl HINF.out ?_
   |refine wpList_store_row rfl 141 (.tmp 4) (.tmp 10) rfl w.heap.size CS rfl rfl 141 _ HZ.out HINF.out (by rw[HSZ.out];rfl) HONE.out ?_)
  refine bodyPost_ret (results_cell_row rfl _ _ w.heap.size 141 CS (0,0) _ rfl (setRow_heap _ _ _ _ _ _ HZ.out) Tryz.underlying141 rfl HINF.out) rfl ?_;exact⟨_,_,rfl,rfl,Y2 w _ _⟩
 ·have hj:Xk kind a cap L=.node kind 0 0 0 0 0 0 a cap L:=by
   match L,h1 with
   |[],_=>rfl
   |[_],h1=>exact absurd rfl h1
   |_::_::_,_=>rfl
  suffices hs:Calls Tryz.prog 187 #[.int .i64 kind,.slice a L.length cap] w fun e w'=>e=.returned (.agg (Zh (.node kind 0 0 0 0 0 0 a cap L)))∧Below w.heap.size w w' by
   refine hs.mono ?_;rintro e w' ⟨he,hb⟩;exact⟨a,cap,rfl,by rw[hj];exact he,hb⟩
  have HINF:=Hd (Zj (.node kind 0 0 0 0 0 0 a cap L));have HONE:=Hd (Zl (.node kind 0 0 0 0 0 0 a cap L));have hn1:((L.length:Int)==1)=false:=by rw[beq_eq_false_iff_ne];omega
  obtain⟨n,hn⟩:∃ n,L.length=n:=⟨_,rfl⟩
  have hcs:Zh (.node kind 0 0 0 0 0 0 a cap L)=#[.int .i64 kind,.int .i64 0,.int .i64 0,.int .u64 0,.int .u64 0,.int .u64 0,.int .u64 0,.slice a n cap]:=by rw[←hn];rfl
  obtain⟨CS,HCS⟩:∃ CS,Hid (Zh (.node kind 0 0 0 0 0 0 a cap L)=CS):=⟨_,Hd rfl⟩
  rw[HCS.out]at HINF HONE hcs ⊢;rw[hn]at hn1 hlen ⊢;clear hown ha hj;have hsz8:CS.size=8:=by rw[hcs];rfl
  have HCE:=Hd hcs;clear hcs;have HZ:=Hd (show(w.alloc (.cells Zn 141)).heap[w.heap.size]?=some (.cells Zn 141 (0,0)) from Ze w _)
  go_enter Tryz.func187,Tryz.ntmps187
  go_wp2_with (first
   |refine wpList_store_row rfl 141 (.tmp 4) (.tmp 13) rfl w.heap.size CS rfl (by rw[HCE.out];rfl) 141 _ HZ.out HINF.out (by rw[hsz8];rfl) HONE.out ?_)
  refine bodyPost_ret (results_cell_row rfl _ _ w.heap.size 141 CS (0,0) _ rfl (setRow_heap _ _ _ _ _ _ HZ.out) Tryz.underlying141 rfl HINF.out) rfl ?_;exact⟨rfl,Y2 w _ _⟩
end Go.Proofs.YtbchkjfnakabkaaGreatDoor
namespace Go.Proofs.YtbchkjfnakabkaaGreatDoor
open Go.RowKit PX
structure AltInv (B:Nat) (w:World) (v1 v2:Value) (l1 l2:List RxA):Prop where
 own1:w.ownsRow B 141 8 v1 l1.length (Xb l1)
 own2:w.ownsRow B 141 8 v2 l2.length (Xb l2)
 apart:∀ g,v1.ownBlock=some g→v2.ownBlock≠some g
 kept1:∀ X∈l1,Kept w B v1 v2 X
 kept2:∀ X∈l2,Kept w B v1 v2 X
theorem Kept.swap{w:World}{B:Nat}{v1 v2:Value}{X:RxA}(h:Kept w B v1 v2 X):Kept w B v2 v1 X:=
 ⟨h.lies,fun b hb=>⟨(h.far b hb).1,(h.far b hb).2.1,(h.far b hb).2.2.2,(h.far b hb).2.2.1⟩⟩
theorem AltInv.swap{B:Nat}{w:World}{v1 v2:Value}{l1 l2:List RxA}(h:AltInv B w v1 v2 l1 l2):AltInv B w v2 v1 l2 l1:=
 ⟨h.own2,h.own1,fun g h2 h1=>h.apart g h1 h2,fun X hX=>(h.kept2 X hX).swap,fun X hX=>(h.kept1 X hX).swap⟩
theorem Kept.only{w w':World}{B:Nat}{v1 v2:Value}{X:RxA}{r:Nat→Prop}(h:Kept w B v1 v2 X)(ho:Only r w w')(hr:∀ k,r k→k<B):Kept w' B v1 v2 X:=
 h.later ho.size fun b hb hlt h1 h2=>⟨ho.block b hlt (fun hk=>by have:=hr b hk;omega),h1,h2⟩
theorem AltInv.only{B:Nat}{w w':World}{v1 v2:Value}{l1 l2:List RxA}{r:Nat→Prop}(h:AltInv B w v1 v2 l1 l2)(ho:Only r w w')(hr:∀ k,r k→k<B):AltInv B w' v1 v2 l1 l2:=
 ⟨ho.ownsRow h.own1 (fun k hk hrk=>by have:=(h.own1.lt k hk).1;have:=hr k hrk;omega),ho.ownsRow h.own2 (fun k hk hrk=>by have:=(h.own2.lt k hk).1;have:=hr k hrk;omega),h.apart,
  fun X hX=>(h.kept1 X hX).only ho hr,fun X hX=>(h.kept2 X hX).only ho hr⟩
theorem AltInv.start(B:Nat)(w:World):AltInv B w (.slice none 0 0) (.slice none 0 0) [] []:=
 ⟨⟨rfl,.inl ⟨rfl,rfl⟩⟩,⟨rfl,.inl ⟨rfl,rfl⟩⟩,(fun g h=>by cases h),(fun X hX=>by cases hX),(fun X hX=>by cases hX)⟩
theorem AltInv.push{B:Nat}{w w':World}{v1 v2:Value}{l1 l2:List RxA}{X:RxA}{g cap:Nat}(h:AltInv B w v1 v2 l1 l2)(hX:Kept w B v1 v2 X)
 (hown:w'.ownsRow B 141 8 (.slice (some ⟨g,0,none⟩) (l2.length+1) cap) (l2.length+1) (Xb l2++X.cells)) (hg:w.grownBy w' v2.ownBlock) (hat:v2.ownBlock=some g∨g=w.heap.size) :
 AltInv B w' v1 (.slice (some ⟨g,0,none⟩) (l2.length+1) cap) l1 (l2++[X]):=by
 have ho:Only (fun k=>v2.ownBlock=some k) w w':=Only.grown (Only.refl _ w) hg (fun k hk=>.inl hk)
 have hk:∀ Y,Kept w B v1 v2 Y→Kept w' B v1 (.slice (some ⟨g,0,none⟩) (l2.length+1) cap) Y:=fun Y hY=>
  hY.later ho.size fun b hb hlt h1 h2=>⟨ho.block b hlt h2,h1,fun he=>by
   have he:g=b:=by simpa [Value.ownBlock] using he
   subst he;rcases hat with h'|h'
   ·exact h2 h'
   ·omega⟩
 refine⟨ho.ownsRow h.own1 (fun k h1 h2=>h.apart k h1 h2),?_,fun k h1 h2=>?_,fun Y hY=>hk Y (h.kept1 Y hY),fun Y hY=>?_⟩
 ·rw[Vq,show Xb [X]=X.cells by simp[Xb],List.length_append,List.length_singleton];exact hown
 ·have he:g=k:=by simpa [Value.ownBlock] using h2
  subst he;rcases hat with h'|h'
  ·exact h.apart g h1 h'
  ·have:=(h.own1.lt g h1).2;omega
 ·rcases List.mem_append.1 hY with hY|hY
  ·exact hk Y (h.kept2 Y hY)
  ·obtain rfl:=List.mem_singleton.1 hY;exact hk _ hX
theorem AltInv.join{B:Nat}{w:World}{v1:Value}{l1 l2:List RxA}{a:Option Addr}{cap:Nat}(kind:Int)(hkd:I64 kind)(h:AltInv B w v1 (.slice a l2.length cap) l1 l2)(hl:l2.length≤1000) :
 Kept w B v1 (.slice none 0 0) (Xk kind a cap l2):=by
 have hlone:∀ x,l2=[x]→Kept w B v1 (.slice none 0 0) x:=fun x hx=>
  (h.kept2 x (by simp[hx])).later (Nat.le_refl _) fun b _ _ h1 _=>⟨rfl,h1,fun h=>by cases h⟩
 have hnode:Kept w B v1 (.slice none 0 0) (.node kind 0 0 0 0 0 0 a cap l2):=by
  obtain⟨a',cap',he,hc1,hc2,ha⟩:=Y9 h.own2;simp only[Value.slice.injEq,true_and]at he;obtain⟨rfl,rfl⟩:=he
  have hblk:∀ b∈(RxA.node kind 0 0 0 0 0 0 a cap l2).blocks,(∃g,a=some ⟨g,0,none⟩∧b=g∧B≤g∧g<w.heap.size∧(Value.slice a l2.length cap).ownBlock=some g)∨∃ Y∈l2,b∈Y.blocks:=by
   intro b hb;simp only[RxA.blocks,List.mem_append]at hb;rcases hb with hb|hb
   ·rcases ha with⟨-, rfl⟩|⟨g,rfl,h1,h2,h3⟩
    ·simp at hb
    ·exact .inl ⟨g,rfl,by simpa using hb,h1,h2,h3⟩
   ·exact .inr (Up.1 hb)
  refine⟨?_,fun b hb=>?_⟩
  ·simp only[RxA.In];refine⟨⟨hkd,⟨by omega,by omega⟩,⟨by omega,by omega⟩,⟨by omega,by omega⟩,⟨by omega,by omega⟩,⟨by omega,by omega⟩,⟨by omega,by omega⟩⟩,hc1,hc2,by omega,?_⟩;rcases ha with⟨h0,-⟩|⟨g,rfl,h1,h2,h3⟩
   ·exact .inl (List.eq_nil_of_length_eq_zero h0)
   ·refine .inr ⟨g,0,rfl,h2,GR (fun j u hu=>?_) (fun X hX=>(h.kept2 X hX).lies)⟩;have hj:j<l2.length*8:=by rw[←Vp];exact(List.getElem?_eq_some_iff.1 hu).1
    rw[Nat.zero_add,h.own2.cellAt j hj];exact hu
  ·rcases hblk b hb with⟨g,-, rfl,h1,h2,h3⟩|⟨Y,hY,hbY⟩
   ·exact⟨h1,h2,fun he=>h.apart _ he h3,fun he=>by cases he⟩
   ·obtain⟨h1,h2,h3,-⟩:=(h.kept2 Y hY).far b hbY;exact⟨h1,h2,h3,fun he=>by cases he⟩
 match l2,hlone,hnode with
 |[],_,hn=>exact hn
 |[x],hl1,_=>exact hl1 x rfl
 |x::y::l,_,hn=>exact hn
theorem AltInv.drop{B:Nat}{w:World}{v1 v2:Value}{l1 l2:List RxA}(h:AltInv B w v1 v2 l1 l2):AltInv B w v1 (.slice none 0 0) l1 []:=
 ⟨h.own1,⟨rfl,.inl ⟨rfl,rfl⟩⟩,(fun g _ h2=>by cases h2),(fun X hX=>(h.kept1 X hX).later (Nat.le_refl _) fun b _ _ h1 _=>⟨rfl,h1,(fun h=>by cases h)⟩),(fun X hX=>by cases hX)⟩
theorem GH(X:RxA):∀ v∈X.cells,v.oneCell'=true:=by
 obtain⟨k,mn,mx,s0,s1,s2,s3,a,cap,l⟩:=X;intro v hv;simp only[RxA.cells,List.mem_cons,List.not_mem_nil,or_false]at hv;rcases hv with rfl|rfl|rfl|rfl|rfl|rfl|rfl|rfl<;>rfl
end Go.Proofs.YtbchkjfnakabkaaGreatDoor
namespace Go.Proofs.YtbchkjfnakabkaaGreatDoor
open Go.RowKit PX
def ZV(rb:Nat)(w:World)(o:Option (Rx × List UInt8))(e:Ending)(w':World):Prop:=
 Only (fun k=>k=rb) w w'∧((o=none∧e=.panicked Jy)∨∃ (X:RxA) (r:List UInt8),o=some (X.bare,r)∧e=.returned (.agg (Zh X))∧ReadAt w' rb r∧X.In w' w'.heap.size∧∀ b∈X.blocks,w.heap.size≤b∧b<w'.heap.size)
def Xx(altf:List UInt8→Option (Rx × List UInt8))(s:List UInt8):Option (Rx × List UInt8):=
 if Zg 46 s then some (.set Q4.all,s.tail)
 else if Zg 91 s then
  match Yp s.length s.tail with
  |none=>none
  |some (q,r)=>some (.set q,r)
 else if Zg 40 s then
  match altf s.tail with
  |none=>none
  |some (x,r)=>if Zg 41 r then some (x,r.tail) else none
 else
  match one VO s with
  |none=>none
  |some (b,r)=>some (.set (Q4.none.with b),r)
def setA(q:Q4):RxA:=.node 0 0 0 q.a q.b q.c q.d none 0 []
theorem Yc(q:Q4):(setA q).bare=.set q:=by simp[setA,RxA.bare,Rx.set,XS]
theorem Jg(q:Q4)(hq:q.Ok)(w:World)(B:Nat):(setA q).In w B:=by
 simp only[setA,RxA.In];exact⟨⟨⟨by omega,by omega⟩,⟨by omega,by omega⟩,⟨by omega,by omega⟩,hq.1,hq.2.1,hq.2.2.1,hq.2.2.2⟩,by simp,by simp,by simp,.inl trivial⟩
theorem Xv(q:Q4):(setA q).blocks=[]:=by simp[setA,RxA.blocks,XY]
theorem Q2{w:World}{b:Nat}{q:Q4}{v0 v1 v2 v3:Int}(h:w.heap[b]?=some (.cells (Zh (setA q)) 141 (0,0))) :
 ((((w.setCell ⟨b,3,none⟩ (.int .u64 v0)).setCell ⟨b,4,none⟩ (.int .u64 v1)).setCell ⟨b,5,none⟩ (.int .u64 v2)).setCell ⟨b,6,none⟩ (.int .u64 v3)).heap[b]?=some (.cells (Zh (setA ⟨v0,v1,v2,v3⟩)) 141 (0,0)):=by
 rw[Zf (Zf (Zf (Zf h _ _) _ _) _ _)];rfl
theorem Zeo(k:Nat)(hk:k<64):IntKind.u64.wrap (2 ^ k)=Yy 0 k:=by
 have h:=Jk 0 k ⟨by omega,by omega⟩ hk
 have h2:IntKind.u64.wrap (2 ^ k)=((2 ^ k:Nat):Int):=by
  have hp:(2:Nat) ^ k<2 ^ 64:=Nat.pow_lt_pow_right (by omega) hk;have e:((2:Int) ^ k)=((2 ^ k:Nat):Int):=by simp
  rw[e];generalize (2:Nat) ^ k=N at hp;simp only[IntKind.wrap,IntKind.signed,IntKind.bits];simp;omega
 rw[h2];unfold Yy;simp
theorem YW{rb:Nat}{w:World}{e:Ending}{w':World}(h:ZV rb w none e w'):e=.panicked Jy∧Only (fun k=>k=rb) w w':=by
 rcases h with⟨h1,⟨-, h2⟩|⟨_,_,h2,-⟩⟩
 ·exact⟨h2,h1⟩
 ·cases h2
theorem Yx{rb:Nat}{w:World}{x:Rx}{r:List UInt8}{e:Ending}{w':World}(h:ZV rb w (some (x,r)) e w') :
 ∃ X:RxA,x=X.bare∧e=.returned (.agg (Zh X))∧ReadAt w' rb r∧Only (fun k=>k=rb) w w'∧X.In w' w'.heap.size∧∀ b∈X.blocks,w.heap.size≤b∧b<w'.heap.size:=by
 rcases h with⟨h1,⟨h2,-⟩|⟨X,r',h2,h3,h4,h5,h6⟩⟩
 ·cases h2
 ·cases h2;exact⟨X,rfl,h3,h4,h1,h5,h6⟩
theorem Xt{w:World}{b k:Nat}{o:Obj}{v0 v1 v2 v3:Value}(h:w.heap[k]?=some o)(hk:k≠b) :
 ((((w.setCell ⟨b,3,none⟩ v0).setCell ⟨b,4,none⟩ v1).setCell ⟨b,5,none⟩ v2).setCell ⟨b,6,none⟩ v3).heap[k]?=some o:=by
 rw[Below.heap_setCell _ _ _ _ (by exact fun e=>hk e),Below.heap_setCell _ _ _ _ (by exact fun e=>hk e),Below.heap_setCell _ _ _ _ (by exact fun e=>hk e),Below.heap_setCell _ _ _ _ (by exact fun e=>hk e)];exact h
theorem Vt{r:Nat→Prop}{a w:World}{b:Nat}{v0 v1 v2 v3:Value}(h:Only r a w)(hb:a.heap.size≤b) :
 Only r a ((((w.setCell ⟨b,3,none⟩ v0).setCell ⟨b,4,none⟩ v1).setCell ⟨b,5,none⟩ v2).setCell ⟨b,6,none⟩ v3):=
 (((h.setCell (p:=⟨b,3,none⟩) (.inr hb) _).setCell (p:=⟨b,4,none⟩) (.inr hb) _).setCell (p:=⟨b,5,none⟩) (.inr hb) _).setCell (p:=⟨b,6,none⟩) (.inr hb) _
theorem ZfR(w:World)(rb:Nat)(s:List UInt8)(h:ReadAt w rb s)(hl:s.length≤128)(altf:List UInt8→Option (Rx × List UInt8))(h46:Zg 46 s=true) :
 Calls Tryz.prog 192 #[.pointer (some ⟨rb,0,none⟩)] w fun e w'=>ZV rb w (Xx altf s) e w':=by
 have hlt:=Za h
 obtain⟨nb,hnb⟩:∃ nb,w.heap.size=nb:=⟨_,rfl⟩
 obtain⟨W0,hW0⟩:∃ W0,W0=((w.alloc (.cells #[.int .i64 0,.int .i64 0,.int .i64 0,.int .u64 0,.int .u64 0,.int .u64 0,.int .u64 0,.slice none 0 0] 141)).alloc (.cells #[.int .i64 0,.int .i64 0,.int .i64 0,.int .u64 0,.int .u64 0,.int .u64 0,.int .u64 0,.slice none 0 0] 141)):=⟨_,rfl⟩
 have hr0:ReadAt W0 rb s:=by rw[hW0];exact JG h _ _
 have hN0:W0.heap[nb]?=some (.cells (Zh (setA Q4.none)) 141 (0,0)):=by rw[hW0,←hnb];exact Zd (Ze _ _) _
 have hE0:W0.heap[nb+1]?=some (.cells (Zh (setA Q4.none)) 141 (0,0)):=by rw[hW0,←hnb];exact Zp _ _ _ (by simp)
 have hO0:Only (fun k=>k=rb) w W0:=by rw[hW0];exact(((Only.refl _ w).alloc _).alloc _)
 have hnw:nb+1<W0.heap.size:=Za hE0;have hB:Xx altf s=some (.set Q4.all,s.tail):=by unfold Xx;rw[h46];rfl
 rw[hB];rw[Zr h46]at hr0;have HT46:=Hd (ZI _ rb 46 s.tail hr0);have HN:=Hd hN0;have HE:=Hd hE0;clear hr0 hN0 hE0;rw[hW0]at HT46
 go_enter Tryz.func192,Tryz.ntmps192
 go_wp2_with (first
  |(go_at_call 188;(with_reducible refine(HT46.out).mono ?_);rintro e w1 ⟨rfl,h1,o1⟩;rw[←hW0]at o1;have hE1:=(o1.block (nb+1) (by omega) (by omega)).trans HE.out;have hN1:=(o1.block nb (by omega) (by omega)).trans HN.out;have HE1:=Hd hE1;have HN1:=Hd hN1;clear hE1 hN1;have c3:w1.cell? ⟨nb+1,3,none⟩=some (.int .u64 0):=Zb HE1.out 3;have t3:=Zc HE1.out 3;have c4:w1.cell? ⟨nb+1,4,none⟩=some (.int .u64 0):=Zb HE1.out 4;have t4:=Zc HE1.out 4;have c5:w1.cell? ⟨nb+1,5,none⟩=some (.int .u64 0):=Zb HE1.out 5;have t5:=Zc HE1.out 5;have c6:w1.cell? ⟨nb+1,6,none⟩=some (.int .u64 0):=Zb HE1.out 6;have t6:=Zc HE1.out 6)
  |(refine wpList_load_row rfl 141 (.tmp 3) ?_ (nb+1) ?_ 141 (Zh (setA Q4.all)) (0,0) _ ?_ Tryz.underlying141 rfl (Zj _) ?_;(with_reducible rfl);rfl;exact Q2 HE1.out)
  |(refine wpList_store_row rfl 141 (.tmp 2) (.tmp 34) ?_ nb (Zh (setA Q4.all)) ?_ ?_ 141 (Zh (setA Q4.none)) ?_ (Zj _) (by rw[Zi,Zi]) (Zl _) ?_;(with_reducible rfl);rfl;rfl;exact Xt HN1.out (by omega)))
 refine bodyPost_ret (results_cell_row rfl _ _ nb 141 (Zh (setA Q4.all)) (0,0) _ rfl (setRow_heap _ _ _ _ _ _ (Xt (b:=nb+1) (v0:=.int .u64 18446744073709551615) (v1:=.int .u64 18446744073709551615) (v2:=.int .u64 18446744073709551615) (v3:=.int .u64 18446744073709551615) HN1.out (by omega))) Tryz.underlying141 rfl (Zj _)) rfl ?_;refine⟨Only.setRow (Vt (b:=nb+1) (hO0.then o1) (by omega)) (q:=nb) (.inr (by omega)) _,.inr ⟨setA Q4.all,s.tail,by rw[Yc],rfl,?_,Jg _ Q4.all_ok _ _,by rw[Xv];simp⟩⟩;unfold ReadAt at h1 ⊢;rw[setRow_other _ _ _ _ (by omega)];exact Xt h1 (by omega)
theorem ZbF(w:World)(rb:Nat)(s:List UInt8)(h:ReadAt w rb s)(hl:s.length≤128)(altf:List UInt8→Option (Rx × List UInt8))(h46:Zg 46 s=false)(h91:Zg 91 s=true) :
 Calls Tryz.prog 192 #[.pointer (some ⟨rb,0,none⟩)] w fun e w'=>ZV rb w (Xx altf s) e w':=by
 have hlt:=Za h
 obtain⟨nb,hnb⟩:∃ nb,w.heap.size=nb:=⟨_,rfl⟩
 obtain⟨W0,hW0⟩:∃ W0,W0=((w.alloc (.cells #[.int .i64 0,.int .i64 0,.int .i64 0,.int .u64 0,.int .u64 0,.int .u64 0,.int .u64 0,.slice none 0 0] 141)).alloc (.cells #[.int .i64 0,.int .i64 0,.int .i64 0,.int .u64 0,.int .u64 0,.int .u64 0,.int .u64 0,.slice none 0 0] 141)):=⟨_,rfl⟩
 have hr0:ReadAt W0 rb s:=by rw[hW0];exact JG h _ _
 have hN0:W0.heap[nb]?=some (.cells (Zh (setA Q4.none)) 141 (0,0)):=by rw[hW0,←hnb];exact Zd (Ze _ _) _
 have hE0:W0.heap[nb+1]?=some (.cells (Zh (setA Q4.none)) 141 (0,0)):=by rw[hW0,←hnb];exact Zp _ _ _ (by simp)
 have hO0:Only (fun k=>k=rb) w W0:=by rw[hW0];exact(((Only.refl _ w).alloc _).alloc _)
 have hnw:nb+1<W0.heap.size:=Za hE0;have HT46:=Hd (Zu _ rb 46 s hr0 h46);have HT91:=Hd (fun w1 (h1:ReadAt w1 rb s)=>ZI w1 rb 91 s.tail (Zr h91▸h1));have HN:=Hd hN0;have HE:=Hd hE0;clear hN0 hE0;clear hr0;rw[hW0]at HT46;have htl:=Xs s
 cases hc:Yp s.length s.tail with
 |none=>
  have hB:Xx altf s=none:=by unfold Xx;rw[h46,h91,hc];rfl
  have HC:=Hd hc;clear hc;rw[hB]
  go_enter Tryz.func192,Tryz.ntmps192
  go_wp2_with (first
   |(go_at_call 188;(with_reducible refine(HT46.out).mono ?_);rintro e w1 ⟨rfl,h1,o1⟩;rw[←hW0]at o1;have hE1:=(o1.block (nb+1) (by omega) (by omega)).trans HE.out;have hN1:=(o1.block nb (by omega) (by omega)).trans HN.out;have HE1:=Hd hE1;have HN1:=Hd hN1;clear hE1 hN1;have hnw1:nb+1<w1.heap.size:=Za HE1.out)
   |(go_at_call 188;(with_reducible refine(HT91.out _ h1).mono ?_);rintro e w2 ⟨rfl,h2,o2⟩;have hE2:=(o2.block (nb+1) (by omega) (by omega)).trans HE1.out;have hN2:=(o2.block nb (by omega) (by omega)).trans HN1.out;have HE2:=Hd hE2;have HN2:=Hd hN2;clear hE2 hN2;have hnw2:nb+1<w2.heap.size:=Za HE2.out)
   |(go_at_call 196;refine(W3 _ rb s.tail s.length h2 (by omega) (by omega)).mono ?_;rintro e w3 hR;obtain⟨rfl,o3⟩:=hR.none HC.out))
  exact⟨rfl,((hO0.then o1).then o2).then o3,.inl ⟨rfl,rfl⟩⟩
 |some p=>
  obtain⟨q,r⟩:=p;have hB:Xx altf s=some (.set q,r):=by unfold Xx;rw[h46,h91,hc];rfl
  have hq:=W4 hc;have HC:=Hd hc;clear hc;have HQ:=Hd hq;clear hq
  have HCL:=Hd (fun w2 (h2:ReadAt w2 rb s.tail)=>show Calls Tryz.prog 196 #[.pointer (some ⟨rb,0,none⟩)] w2 fun e w3=>e=.returned (.agg #[.int .u64 q.a,.int .u64 q.b,.int .u64 q.c,.int .u64 q.d])∧ReadAt w3 rb r∧Only (fun k=>k=rb) w2 w3 from
   (W3 w2 rb s.tail s.length h2 (by omega) (by omega)).mono fun e w3 hR=>hR.some HC.out)
  rw[hB]
  go_enter Tryz.func192,Tryz.ntmps192
  go_wp2_with (first
   |(go_at_call 188;(with_reducible refine(HT46.out).mono ?_);rintro e w1 ⟨rfl,h1,o1⟩;rw[←hW0]at o1;have hE1:=(o1.block (nb+1) (by omega) (by omega)).trans HE.out;have hN1:=(o1.block nb (by omega) (by omega)).trans HN.out;have HE1:=Hd hE1;have HN1:=Hd hN1;clear hE1 hN1;have hnw1:nb+1<w1.heap.size:=Za HE1.out)
   |(go_at_call 188;(with_reducible refine(HT91.out _ h1).mono ?_);rintro e w2 ⟨rfl,h2,o2⟩;have hE2:=(o2.block (nb+1) (by omega) (by omega)).trans HE1.out;have hN2:=(o2.block nb (by omega) (by omega)).trans HN1.out;have HE2:=Hd hE2;have HN2:=Hd hN2;clear hE2 hN2;have hnw2:nb+1<w2.heap.size:=Za HE2.out)
   |(go_at_call 196;refine(HCL.out _ h2).mono ?_;rintro e w3 ⟨rfl,h3,o3⟩;have hE3:=(o3.block (nb+1) (by omega) (by omega)).trans HE2.out;have hN3:=(o3.block nb (by omega) (by omega)).trans HN2.out;have HE3:=Hd hE3;have HN3:=Hd hN3;clear hE3 hN3;have hnw3:nb+1<w3.heap.size:=Za HE3.out;have c3:w3.cell? ⟨nb+1,3,none⟩=some (.int .u64 0):=Zb HE3.out 3;have t3:=Zc HE3.out 3;have c4:w3.cell? ⟨nb+1,4,none⟩=some (.int .u64 0):=Zb HE3.out 4;have t4:=Zc HE3.out 4;have c5:w3.cell? ⟨nb+1,5,none⟩=some (.int .u64 0):=Zb HE3.out 5;have t5:=Zc HE3.out 5;have c6:w3.cell? ⟨nb+1,6,none⟩=some (.int .u64 0):=Zb HE3.out 6;have t6:=Zc HE3.out 6)
   |(refine wpList_load_row rfl 141 (.tmp 3) ?_ (nb+1) ?_ 141 (Zh (setA q)) (0,0) _ ?_ Tryz.underlying141 rfl (Zj _) ?_;(with_reducible rfl);rfl;exact Q2 HE3.out)
   |(refine wpList_store_row rfl 141 (.tmp 2) (.tmp 34) ?_ nb (Zh (setA q)) ?_ ?_ 141 (Zh (setA Q4.none)) ?_ (Zj _) (by rw[Zi,Zi]) (Zl _) ?_;(with_reducible rfl);rfl;rfl;exact Xt HN3.out (by omega)))
  refine bodyPost_ret (results_cell_row rfl _ _ nb 141 (Zh (setA q)) (0,0) _ rfl (setRow_heap _ _ _ _ _ _ (Xt (b:=nb+1) (v0:=.int .u64 q.a) (v1:=.int .u64 q.b) (v2:=.int .u64 q.c) (v3:=.int .u64 q.d) HN3.out (by omega))) Tryz.underlying141 rfl (Zj _)) rfl ?_;refine⟨Only.setRow (Vt (b:=nb+1) (((hO0.then o1).then o2).then o3) (by omega)) (q:=nb) (.inr (by omega)) _,.inr ⟨setA q,r,by rw[Yc],rfl,?_,Jg _ HQ.out _ _,by rw[Xv];simp⟩⟩;unfold ReadAt at h3 ⊢;rw[setRow_other _ _ _ _ (by omega)];exact Xt h3 (by omega)
theorem ZfQ(w:World)(rb:Nat)(s:List UInt8)(h:ReadAt w rb s)(hl:s.length≤128)(altf:List UInt8→Option (Rx × List UInt8))(h46:Zg 46 s=false)(h91:Zg 91 s=false)(h40:Zg 40 s=false) :
 Calls Tryz.prog 192 #[.pointer (some ⟨rb,0,none⟩)] w fun e w'=>ZV rb w (Xx altf s) e w':=by
 have hlt:=Za h
 obtain⟨nb,hnb⟩:∃ nb,w.heap.size=nb:=⟨_,rfl⟩
 obtain⟨W0,hW0⟩:∃ W0,W0=((w.alloc (.cells #[.int .i64 0,.int .i64 0,.int .i64 0,.int .u64 0,.int .u64 0,.int .u64 0,.int .u64 0,.slice none 0 0] 141)).alloc (.cells #[.int .i64 0,.int .i64 0,.int .i64 0,.int .u64 0,.int .u64 0,.int .u64 0,.int .u64 0,.slice none 0 0] 141)):=⟨_,rfl⟩
 have hr0:ReadAt W0 rb s:=by rw[hW0];exact JG h _ _
 have hN0:W0.heap[nb]?=some (.cells (Zh (setA Q4.none)) 141 (0,0)):=by rw[hW0,←hnb];exact Zd (Ze _ _) _
 have hE0:W0.heap[nb+1]?=some (.cells (Zh (setA Q4.none)) 141 (0,0)):=by rw[hW0,←hnb];exact Zp _ _ _ (by simp)
 have hO0:Only (fun k=>k=rb) w W0:=by rw[hW0];exact(((Only.refl _ w).alloc _).alloc _)
 have hnw:nb+1<W0.heap.size:=Za hE0;have HT46:=Hd (Zu _ rb 46 s hr0 h46);have HT91:=Hd (fun w1 (h1:ReadAt w1 rb s)=>Zu w1 rb 91 s h1 h91);have HT40:=Hd (fun w1 (h1:ReadAt w1 rb s)=>Zu w1 rb 40 s h1 h40);have HN:=Hd hN0;have HE:=Hd hE0;clear hN0 hE0;clear hr0;rw[hW0]at HT46
 cases hc:one VO s with
 |none=>
  have hB:Xx altf s=none:=by unfold Xx;rw[h46,h91,h40,hc];rfl
  have HC:=Hd hc;clear hc;rw[hB]
  go_enter Tryz.func192,Tryz.ntmps192
  go_wp2_with (first
   |(go_at_call 188;(with_reducible refine(HT46.out).mono ?_);rintro e w1 ⟨rfl,h1,o1⟩;rw[←hW0]at o1;have hE1:=(o1.block (nb+1) (by omega) (by omega)).trans HE.out;have hN1:=(o1.block nb (by omega) (by omega)).trans HN.out;have HE1:=Hd hE1;have HN1:=Hd hN1;clear hE1 hN1;have hnw1:nb+1<w1.heap.size:=Za HE1.out)
   |(go_at_call 188;(with_reducible refine(HT91.out _ h1).mono ?_);rintro e w2 ⟨rfl,h2,o2⟩;have hE2:=(o2.block (nb+1) (by omega) (by omega)).trans HE1.out;have hN2:=(o2.block nb (by omega) (by omega)).trans HN1.out;have HE2:=Hd hE2;have HN2:=Hd hN2;clear hE2 hN2;have hnw2:nb+1<w2.heap.size:=Za HE2.out)
   |(go_at_call 188;(with_reducible refine(HT40.out _ h2).mono ?_);rintro e w3 ⟨rfl,h3,o3⟩;have hE3:=(o3.block (nb+1) (by omega) (by omega)).trans HE2.out;have hN3:=(o3.block nb (by omega) (by omega)).trans HN2.out;have HE3:=Hd hE3;have HN3:=Hd hN3;clear hE3 hN3;have hnw3:nb+1<w3.heap.size:=Za HE3.out)
   |(go_at_call 197;refine(Ql _ rb ⟨#[92,46,91,93,40,41,124,42,43,63,123,125]⟩ s h3 (by omega)).mono ?_;rintro e w4 hR;obtain⟨rfl,o4⟩:=hR.none HC.out))
  exact⟨rfl,(((hO0.then o1).then o2).then o3).then o4,.inl ⟨rfl,rfl⟩⟩
 |some p=>
  obtain⟨b,r⟩:=p;have hB:Xx altf s=some (.set (Q4.none.with b),r):=by unfold Xx;rw[h46,h91,h40,hc];rfl
  have hb:=(V5 hc).2;have hq:=Q4.with_ok Q4.none_ok hb;have HC:=Hd hc;clear hc;have HQ:=Hd hq;clear hq
  have HONE:=Hd (fun w3 (h3:ReadAt w3 rb s)=>show Calls Tryz.prog 197 #[.pointer (some ⟨rb,0,none⟩),.string ⟨#[92,46,91,93,40,41,124,42,43,63,123,125]⟩] w3 fun e w4=>e=.returned (.int .i64 (b:Nat))∧ReadAt w4 rb r∧Only (fun k=>k=rb) w3 w4 from
   (Ql w3 rb ⟨#[92,46,91,93,40,41,124,42,43,63,123,125]⟩ s h3 (by omega)).mono fun e w4 hR=>hR.some HC.out)
  rw[hB];have h63:=Zij b hb
  obtain⟨k,hk⟩:∃ k,b%64=k:=⟨_,rfl⟩
  have hk64:k<64:=by omega
  rw[hk]at h63;have hwr:IntKind.u64.wrap (2 ^ k)=Yy 0 k:=Zeo k hk64;have hw4:b<64∨(64≤b∧b<128)∨(128≤b∧b<192)∨192≤b:=by omega
  rcases hw4 with h4|h4|h4|h4
  ·have hd:(b:Int)/64=0:=by omega
   have hheap:∀ W:World,W.heap[nb+1]?=some (.cells (Zh (setA Q4.none)) 141 (0,0))→(W.setCell ⟨nb+1,3,none⟩ (.int .u64 (Yy 0 k))).heap[nb+1]?=some (.cells (Zh (setA (Q4.none.with b))) 141 (0,0)):=by
    intro W hW;rw[Zf hW];simp only[Q4.with];rw[if_pos (by omega)];rw[show b=k by omega];rfl
   have HHP:=Hd hheap;clear hheap
   go_enter Tryz.func192,Tryz.ntmps192
   go_wp2_with (first
    |(go_at_call 188;(with_reducible refine(HT46.out).mono ?_);rintro e w1 ⟨rfl,h1,o1⟩;rw[←hW0]at o1;have hE1:=(o1.block (nb+1) (by omega) (by omega)).trans HE.out;have hN1:=(o1.block nb (by omega) (by omega)).trans HN.out;have HE1:=Hd hE1;have HN1:=Hd hN1;clear hE1 hN1;have hnw1:nb+1<w1.heap.size:=Za HE1.out)
    |(go_at_call 188;(with_reducible refine(HT91.out _ h1).mono ?_);rintro e w2 ⟨rfl,h2,o2⟩;have hE2:=(o2.block (nb+1) (by omega) (by omega)).trans HE1.out;have hN2:=(o2.block nb (by omega) (by omega)).trans HN1.out;have HE2:=Hd hE2;have HN2:=Hd hN2;clear hE2 hN2;have hnw2:nb+1<w2.heap.size:=Za HE2.out)
    |(go_at_call 188;(with_reducible refine(HT40.out _ h2).mono ?_);rintro e w3 ⟨rfl,h3,o3⟩;have hE3:=(o3.block (nb+1) (by omega) (by omega)).trans HE2.out;have hN3:=(o3.block nb (by omega) (by omega)).trans HN2.out;have HE3:=Hd hE3;have HN3:=Hd hN3;clear hE3 hN3;have hnw3:nb+1<w3.heap.size:=Za HE3.out)
    |(go_at_call 197;refine(HONE.out _ h3).mono ?_;rintro e w4 ⟨rfl,h4,o4⟩;have hE4:=(o4.block (nb+1) (by omega) (by omega)).trans HE3.out;have hN4:=(o4.block nb (by omega) (by omega)).trans HN3.out;have HE4:=Hd hE4;have HN4:=Hd hN4;clear hE4 hN4;have hnw4:nb+1<w4.heap.size:=Za HE4.out;have c3:w4.cell? ⟨nb+1,3,none⟩=some (.int .u64 0):=Zb HE4.out 3;have t3:=Zc HE4.out 3;have c4:w4.cell? ⟨nb+1,4,none⟩=some (.int .u64 0):=Zb HE4.out 4;have t4:=Zc HE4.out 4;have c5:w4.cell? ⟨nb+1,5,none⟩=some (.int .u64 0):=Zb HE4.out 5;have t5:=Zc HE4.out 5;have c6:w4.cell? ⟨nb+1,6,none⟩=some (.int .u64 0):=Zb HE4.out 6;have t6:=Zc HE4.out 6)
    |(refine wpList_load_row rfl 141 (.tmp 3) ?_ (nb+1) ?_ 141 (Zh (setA (Q4.none.with b))) (0,0) _ ?_ Tryz.underlying141 rfl (Zj _) ?_;(with_reducible rfl);rfl;exact HHP.out _ HE4.out)
    |(refine wpList_store_row rfl 141 (.tmp 2) (.tmp 34) ?_ nb (Zh (setA (Q4.none.with b))) ?_ ?_ 141 (Zh (setA Q4.none)) ?_ (Zj _) (by rw[Zi,Zi]) (Zl _) ?_;(with_reducible rfl);rfl;rfl;exact(Below.heap_setCell _ _ _ _ (by show nb≠nb+1;omega)).trans HN4.out))
   refine bodyPost_ret (results_cell_row rfl _ _ nb 141 (Zh (setA (Q4.none.with b))) (0,0) _ rfl (setRow_heap _ _ _ _ _ _ ((Below.heap_setCell _ ⟨nb+1,3,none⟩ _ _ (by show nb≠nb+1;omega)).trans HN4.out)) Tryz.underlying141 rfl (Zj _)) rfl ?_;refine⟨Only.setRow ((((((hO0.then o1).then o2).then o3).then o4).setCell (p:=⟨nb+1,3,none⟩) (.inr (by show w.heap.size≤nb+1;omega)) _)) (q:=nb) (.inr (by omega)) _,.inr ⟨setA (Q4.none.with b),r,by rw[Yc],rfl,?_,Jg _ HQ.out _ _,by rw[Xv];simp⟩⟩;unfold ReadAt at h4 ⊢;rw[setRow_other _ _ _ _ (by omega)];exact(Below.heap_setCell _ _ _ _ (by show rb≠nb+1;omega)).trans h4
  ·have hd:(b:Int)/64=1:=by omega
   have hheap:∀ W:World,W.heap[nb+1]?=some (.cells (Zh (setA Q4.none)) 141 (0,0))→(W.setCell ⟨nb+1,4,none⟩ (.int .u64 (Yy 0 k))).heap[nb+1]?=some (.cells (Zh (setA (Q4.none.with b))) 141 (0,0)):=by
    intro W hW;rw[Zf hW];simp only[Q4.with];rw[if_neg (by omega),if_pos (by omega)];rw[show b - 64=k by omega];rfl
   have HHP:=Hd hheap;clear hheap
   go_enter Tryz.func192,Tryz.ntmps192
   go_wp2_with (first
    |(go_at_call 188;(with_reducible refine(HT46.out).mono ?_);rintro e w1 ⟨rfl,h1,o1⟩;rw[←hW0]at o1;have hE1:=(o1.block (nb+1) (by omega) (by omega)).trans HE.out;have hN1:=(o1.block nb (by omega) (by omega)).trans HN.out;have HE1:=Hd hE1;have HN1:=Hd hN1;clear hE1 hN1;have hnw1:nb+1<w1.heap.size:=Za HE1.out)
    |(go_at_call 188;(with_reducible refine(HT91.out _ h1).mono ?_);rintro e w2 ⟨rfl,h2,o2⟩;have hE2:=(o2.block (nb+1) (by omega) (by omega)).trans HE1.out;have hN2:=(o2.block nb (by omega) (by omega)).trans HN1.out;have HE2:=Hd hE2;have HN2:=Hd hN2;clear hE2 hN2;have hnw2:nb+1<w2.heap.size:=Za HE2.out)
    |(go_at_call 188;(with_reducible refine(HT40.out _ h2).mono ?_);rintro e w3 ⟨rfl,h3,o3⟩;have hE3:=(o3.block (nb+1) (by omega) (by omega)).trans HE2.out;have hN3:=(o3.block nb (by omega) (by omega)).trans HN2.out;have HE3:=Hd hE3;have HN3:=Hd hN3;clear hE3 hN3;have hnw3:nb+1<w3.heap.size:=Za HE3.out)
    |(go_at_call 197;refine(HONE.out _ h3).mono ?_;rintro e w4 ⟨rfl,h4,o4⟩;have hE4:=(o4.block (nb+1) (by omega) (by omega)).trans HE3.out;have hN4:=(o4.block nb (by omega) (by omega)).trans HN3.out;have HE4:=Hd hE4;have HN4:=Hd hN4;clear hE4 hN4;have hnw4:nb+1<w4.heap.size:=Za HE4.out;have c3:w4.cell? ⟨nb+1,3,none⟩=some (.int .u64 0):=Zb HE4.out 3;have t3:=Zc HE4.out 3;have c4:w4.cell? ⟨nb+1,4,none⟩=some (.int .u64 0):=Zb HE4.out 4;have t4:=Zc HE4.out 4;have c5:w4.cell? ⟨nb+1,5,none⟩=some (.int .u64 0):=Zb HE4.out 5;have t5:=Zc HE4.out 5;have c6:w4.cell? ⟨nb+1,6,none⟩=some (.int .u64 0):=Zb HE4.out 6;have t6:=Zc HE4.out 6)
    |(refine wpList_load_row rfl 141 (.tmp 3) ?_ (nb+1) ?_ 141 (Zh (setA (Q4.none.with b))) (0,0) _ ?_ Tryz.underlying141 rfl (Zj _) ?_;(with_reducible rfl);rfl;exact HHP.out _ HE4.out)
    |(refine wpList_store_row rfl 141 (.tmp 2) (.tmp 34) ?_ nb (Zh (setA (Q4.none.with b))) ?_ ?_ 141 (Zh (setA Q4.none)) ?_ (Zj _) (by rw[Zi,Zi]) (Zl _) ?_;(with_reducible rfl);rfl;rfl;exact(Below.heap_setCell _ _ _ _ (by show nb≠nb+1;omega)).trans HN4.out))
   refine bodyPost_ret (results_cell_row rfl _ _ nb 141 (Zh (setA (Q4.none.with b))) (0,0) _ rfl (setRow_heap _ _ _ _ _ _ ((Below.heap_setCell _ ⟨nb+1,4,none⟩ _ _ (by show nb≠nb+1;omega)).trans HN4.out)) Tryz.underlying141 rfl (Zj _)) rfl ?_;refine⟨Only.setRow ((((((hO0.then o1).then o2).then o3).then o4).setCell (p:=⟨nb+1,4,none⟩) (.inr (by show w.heap.size≤nb+1;omega)) _)) (q:=nb) (.inr (by omega)) _,.inr ⟨setA (Q4.none.with b),r,by rw[Yc],rfl,?_,Jg _ HQ.out _ _,by rw[Xv];simp⟩⟩;unfold ReadAt at h4 ⊢;rw[setRow_other _ _ _ _ (by omega)];exact(Below.heap_setCell _ _ _ _ (by show rb≠nb+1;omega)).trans h4
  ·have hd:(b:Int)/64=2:=by omega
   have hheap:∀ W:World,W.heap[nb+1]?=some (.cells (Zh (setA Q4.none)) 141 (0,0))→(W.setCell ⟨nb+1,5,none⟩ (.int .u64 (Yy 0 k))).heap[nb+1]?=some (.cells (Zh (setA (Q4.none.with b))) 141 (0,0)):=by
    intro W hW;rw[Zf hW];simp only[Q4.with];rw[if_neg (by omega),if_neg (by omega),if_pos (by omega)];rw[show b - 128=k by omega];rfl
   have HHP:=Hd hheap;clear hheap
   go_enter Tryz.func192,Tryz.ntmps192
   go_wp2_with (first
    |(go_at_call 188;(with_reducible refine(HT46.out).mono ?_);rintro e w1 ⟨rfl,h1,o1⟩;rw[←hW0]at o1;have hE1:=(o1.block (nb+1) (by omega) (by omega)).trans HE.out;have hN1:=(o1.block nb (by omega) (by omega)).trans HN.out;have HE1:=Hd hE1;have HN1:=Hd hN1;clear hE1 hN1;have hnw1:nb+1<w1.heap.size:=Za HE1.out)
    |(go_at_call 188;(with_reducible refine(HT91.out _ h1).mono ?_);rintro e w2 ⟨rfl,h2,o2⟩;have hE2:=(o2.block (nb+1) (by omega) (by omega)).trans HE1.out;have hN2:=(o2.block nb (by omega) (by omega)).trans HN1.out;have HE2:=Hd hE2;have HN2:=Hd hN2;clear hE2 hN2;have hnw2:nb+1<w2.heap.size:=Za HE2.out)
    |(go_at_call 188;(with_reducible refine(HT40.out _ h2).mono ?_);rintro e w3 ⟨rfl,h3,o3⟩;have hE3:=(o3.block (nb+1) (by omega) (by omega)).trans HE2.out;have hN3:=(o3.block nb (by omega) (by omega)).trans HN2.out;have HE3:=Hd hE3;have HN3:=Hd hN3;clear hE3 hN3;have hnw3:nb+1<w3.heap.size:=Za HE3.out)
    |(go_at_call 197;refine(HONE.out _ h3).mono ?_;rintro e w4 ⟨rfl,h4,o4⟩;have hE4:=(o4.block (nb+1) (by omega) (by omega)).trans HE3.out;have hN4:=(o4.block nb (by omega) (by omega)).trans HN3.out;have HE4:=Hd hE4;have HN4:=Hd hN4;clear hE4 hN4;have hnw4:nb+1<w4.heap.size:=Za HE4.out;have c3:w4.cell? ⟨nb+1,3,none⟩=some (.int .u64 0):=Zb HE4.out 3;have t3:=Zc HE4.out 3;have c4:w4.cell? ⟨nb+1,4,none⟩=some (.int .u64 0):=Zb HE4.out 4;have t4:=Zc HE4.out 4;have c5:w4.cell? ⟨nb+1,5,none⟩=some (.int .u64 0):=Zb HE4.out 5;have t5:=Zc HE4.out 5;have c6:w4.cell? ⟨nb+1,6,none⟩=some (.int .u64 0):=Zb HE4.out 6;have t6:=Zc HE4.out 6)
    |(refine wpList_load_row rfl 141 (.tmp 3) ?_ (nb+1) ?_ 141 (Zh (setA (Q4.none.with b))) (0,0) _ ?_ Tryz.underlying141 rfl (Zj _) ?_;(with_reducible rfl);rfl;exact HHP.out _ HE4.out)
    |(refine wpList_store_row rfl 141 (.tmp 2) (.tmp 34) ?_ nb (Zh (setA (Q4.none.with b))) ?_ ?_ 141 (Zh (setA Q4.none)) ?_ (Zj _) (by rw[Zi,Zi]) (Zl _) ?_;(with_reducible rfl);rfl;rfl;exact(Below.heap_setCell _ _ _ _ (by show nb≠nb+1;omega)).trans HN4.out))
   refine bodyPost_ret (results_cell_row rfl _ _ nb 141 (Zh (setA (Q4.none.with b))) (0,0) _ rfl (setRow_heap _ _ _ _ _ _ ((Below.heap_setCell _ ⟨nb+1,5,none⟩ _ _ (by show nb≠nb+1;omega)).trans HN4.out)) Tryz.underlying141 rfl (Zj _)) rfl ?_;refine⟨Only.setRow ((((((hO0.then o1).then o2).then o3).then o4).setCell (p:=⟨nb+1,5,none⟩) (.inr (by show w.heap.size≤nb+1;omega)) _)) (q:=nb) (.inr (by omega)) _,.inr ⟨setA (Q4.none.with b),r,by rw[Yc],rfl,?_,Jg _ HQ.out _ _,by rw[Xv];simp⟩⟩;unfold ReadAt at h4 ⊢;rw[setRow_other _ _ _ _ (by omega)];exact(Below.heap_setCell _ _ _ _ (by show rb≠nb+1;omega)).trans h4
  ·have hd:(b:Int)/64=3:=by omega
   have hheap:∀ W:World,W.heap[nb+1]?=some (.cells (Zh (setA Q4.none)) 141 (0,0))→(W.setCell ⟨nb+1,6,none⟩ (.int .u64 (Yy 0 k))).heap[nb+1]?=some (.cells (Zh (setA (Q4.none.with b))) 141 (0,0)):=by
    intro W hW;rw[Zf hW];simp only[Q4.with];rw[if_neg (by omega),if_neg (by omega),if_neg (by omega)];rw[show b - 192=k by omega];rfl
   have HHP:=Hd hheap;clear hheap
   go_enter Tryz.func192,Tryz.ntmps192
   go_wp2_with (first
    |(go_at_call 188;(with_reducible refine(HT46.out).mono ?_);rintro e w1 ⟨rfl,h1,o1⟩;rw[←hW0]at o1;have hE1:=(o1.block (nb+1) (by omega) (by omega)).trans HE.out;have hN1:=(o1.block nb (by omega) (by omega)).trans HN.out;have HE1:=Hd hE1;have HN1:=Hd hN1;clear hE1 hN1;have hnw1:nb+1<w1.heap.size:=Za HE1.out)
    |(go_at_call 188;(with_reducible refine(HT91.out _ h1).mono ?_);rintro e w2 ⟨rfl,h2,o2⟩;have hE2:=(o2.block (nb+1) (by omega) (by omega)).trans HE1.out;have hN2:=(o2.block nb (by omega) (by omega)).trans HN1.out;have HE2:=Hd hE2;have HN2:=Hd hN2;clear hE2 hN2;have hnw2:nb+1<w2.heap.size:=Za HE2.out)
    |(go_at_call 188;(with_reducible refine(HT40.out _ h2).mono ?_);rintro e w3 ⟨rfl,h3,o3⟩;have hE3:=(o3.block (nb+1) (by omega) (by omega)).trans HE2.out;have hN3:=(o3.block nb (by omega) (by omega)).trans HN2.out;have HE3:=Hd hE3;have HN3:=Hd hN3;clear hE3 hN3;have hnw3:nb+1<w3.heap.size:=Za HE3.out)
    |(go_at_call 197;refine(HONE.out _ h3).mono ?_;rintro e w4 ⟨rfl,h4,o4⟩;have hE4:=(o4.block (nb+1) (by omega) (by omega)).trans HE3.out;have hN4:=(o4.block nb (by omega) (by omega)).trans HN3.out;have HE4:=Hd hE4;have HN4:=Hd hN4;clear hE4 hN4;have hnw4:nb+1<w4.heap.size:=Za HE4.out;have c3:w4.cell? ⟨nb+1,3,none⟩=some (.int .u64 0):=Zb HE4.out 3;have t3:=Zc HE4.out 3;have c4:w4.cell? ⟨nb+1,4,none⟩=some (.int .u64 0):=Zb HE4.out 4;have t4:=Zc HE4.out 4;have c5:w4.cell? ⟨nb+1,5,none⟩=some (.int .u64 0):=Zb HE4.out 5;have t5:=Zc HE4.out 5;have c6:w4.cell? ⟨nb+1,6,none⟩=some (.int .u64 0):=Zb HE4.out 6;have t6:=Zc HE4.out 6)
    |(refine wpList_load_row rfl 141 (.tmp 3) ?_ (nb+1) ?_ 141 (Zh (setA (Q4.none.with b))) (0,0) _ ?_ Tryz.underlying141 rfl (Zj _) ?_;(with_reducible rfl);rfl;exact HHP.out _ HE4.out)
    |(refine wpList_store_row rfl 141 (.tmp 2) (.tmp 34) ?_ nb (Zh (setA (Q4.none.with b))) ?_ ?_ 141 (Zh (setA Q4.none)) ?_ (Zj _) (by rw[Zi,Zi]) (Zl _) ?_;(with_reducible rfl);rfl;rfl;exact(Below.heap_setCell _ _ _ _ (by show nb≠nb+1;omega)).trans HN4.out))
   refine bodyPost_ret (results_cell_row rfl _ _ nb 141 (Zh (setA (Q4.none.with b))) (0,0) _ rfl (setRow_heap _ _ _ _ _ _ ((Below.heap_setCell _ ⟨nb+1,6,none⟩ _ _ (by show nb≠nb+1;omega)).trans HN4.out)) Tryz.underlying141 rfl (Zj _)) rfl ?_;refine⟨Only.setRow ((((((hO0.then o1).then o2).then o3).then o4).setCell (p:=⟨nb+1,6,none⟩) (.inr (by show w.heap.size≤nb+1;omega)) _)) (q:=nb) (.inr (by omega)) _,.inr ⟨setA (Q4.none.with b),r,by rw[Yc],rfl,?_,Jg _ HQ.out _ _,by rw[Xv];simp⟩⟩;unfold ReadAt at h4 ⊢;rw[setRow_other _ _ _ _ (by omega)];exact(Below.heap_setCell _ _ _ _ (by show rb≠nb+1;omega)).trans h4
theorem Zec(w:World)(rb:Nat)(s:List UInt8)(h:ReadAt w rb s)(hl:s.length≤128)(altf:List UInt8→Option (Rx × List UInt8))(h46:Zg 46 s=false)(h91:Zg 91 s=false)(h40:Zg 40 s=true)
 (halt:∀ w1,ReadAt w1 rb s.tail→Calls Tryz.prog 173 #[.pointer (some ⟨rb,0,none⟩)] w1 fun e w2=>ZV rb w1 (altf s.tail) e w2) :
 Calls Tryz.prog 192 #[.pointer (some ⟨rb,0,none⟩)] w fun e w'=>ZV rb w (Xx altf s) e w':=by
 have hlt:=Za h
 obtain⟨nb,hnb⟩:∃ nb,w.heap.size=nb:=⟨_,rfl⟩
 obtain⟨W0,hW0⟩:∃ W0,W0=((w.alloc (.cells #[.int .i64 0,.int .i64 0,.int .i64 0,.int .u64 0,.int .u64 0,.int .u64 0,.int .u64 0,.slice none 0 0] 141)).alloc (.cells #[.int .i64 0,.int .i64 0,.int .i64 0,.int .u64 0,.int .u64 0,.int .u64 0,.int .u64 0,.slice none 0 0] 141)):=⟨_,rfl⟩
 have hr0:ReadAt W0 rb s:=by rw[hW0];exact JG h _ _
 have hN0:W0.heap[nb]?=some (.cells (Zh (setA Q4.none)) 141 (0,0)):=by rw[hW0,←hnb];exact Zd (Ze _ _) _
 have hE0:W0.heap[nb+1]?=some (.cells (Zh (setA Q4.none)) 141 (0,0)):=by rw[hW0,←hnb];exact Zp _ _ _ (by simp)
 have hO0:Only (fun k=>k=rb) w W0:=by rw[hW0];exact(((Only.refl _ w).alloc _).alloc _)
 have hnw:nb+1<W0.heap.size:=Za hE0;have HT46:=Hd (Zu _ rb 46 s hr0 h46);have HT91:=Hd (fun w1 (h1:ReadAt w1 rb s)=>Zu w1 rb 91 s h1 h91);have HT40:=Hd (fun w1 (h1:ReadAt w1 rb s)=>ZI w1 rb 40 s.tail (Zr h40▸h1));have HN:=Hd hN0;have HE:=Hd hE0;clear hN0 hE0;clear hr0;rw[hW0]at HT46
 cases hc:altf s.tail with
 |none=>
  have hB:Xx altf s=none:=by unfold Xx;rw[h46,h91,h40,hc];rfl
  rw[hc]at halt;have HALT:=Hd (fun w1 h1=>(halt w1 h1).mono fun e w2 hR=>YW hR);clear halt hc;rw[hB]
  go_enter Tryz.func192,Tryz.ntmps192
  go_wp2_with (first
   |(go_at_call 188;(with_reducible refine(HT46.out).mono ?_);rintro e w1 ⟨rfl,h1,o1⟩;rw[←hW0]at o1;have hE1:=(o1.block (nb+1) (by omega) (by omega)).trans HE.out;have hN1:=(o1.block nb (by omega) (by omega)).trans HN.out;have HE1:=Hd hE1;have HN1:=Hd hN1;clear hE1 hN1;have hnw1:nb+1<w1.heap.size:=Za HE1.out)
   |(go_at_call 188;(with_reducible refine(HT91.out _ h1).mono ?_);rintro e w2 ⟨rfl,h2,o2⟩;have hE2:=(o2.block (nb+1) (by omega) (by omega)).trans HE1.out;have hN2:=(o2.block nb (by omega) (by omega)).trans HN1.out;have HE2:=Hd hE2;have HN2:=Hd hN2;clear hE2 hN2;have hnw2:nb+1<w2.heap.size:=Za HE2.out)
   |(go_at_call 188;(with_reducible refine(HT40.out _ h2).mono ?_);rintro e w3 ⟨rfl,h3,o3⟩;have hE3:=(o3.block (nb+1) (by omega) (by omega)).trans HE2.out;have hN3:=(o3.block nb (by omega) (by omega)).trans HN2.out;have HE3:=Hd hE3;have HN3:=Hd hN3;clear hE3 hN3;have hnw3:nb+1<w3.heap.size:=Za HE3.out)
   |(go_at_call 173;refine(HALT.out _ h3).mono ?_;rintro e w4 ⟨rfl,o4⟩))
  exact⟨rfl,(((hO0.then o1).then o2).then o3).then o4,.inl ⟨rfl,rfl⟩⟩
 |some p=>
  obtain⟨x,r⟩:=p;have hB:Xx altf s=if Zg 41 r then some (x,r.tail) else none:=by unfold Xx;rw[h46,h91,h40,hc];rfl
  rw[hc]at halt
  have halt2:∀ w1,ReadAt w1 rb s.tail→Calls Tryz.prog 173 #[.pointer (some ⟨rb,0,none⟩)] w1 fun e w2=>∃ X:RxA,x=X.bare∧e=.returned (.agg (Zh X))∧ReadAt w2 rb r∧Only (fun k=>k=rb) w1 w2∧X.In w2 w2.heap.size∧∀ b∈X.blocks,w1.heap.size≤b∧b<w2.heap.size:=
   fun w1 h1=>(halt w1 h1).mono fun e w2 hR=>Yx hR
  clear halt hc;have HALT:=Hd halt2;clear halt2;rw[hB]
  cases h41:Zg 41 r with
  |false=>
   have HT41:=Hd (fun w1 (h1:ReadAt w1 rb r)=>Zu w1 rb 41 r h1 h41);clear h41
   go_enter Tryz.func192,Tryz.ntmps192
   go_wp2_with (first
    |(go_at_call 188;(with_reducible refine(HT46.out).mono ?_);rintro e w1 ⟨rfl,h1,o1⟩;rw[←hW0]at o1;have hE1:=(o1.block (nb+1) (by omega) (by omega)).trans HE.out;have hN1:=(o1.block nb (by omega) (by omega)).trans HN.out;have HE1:=Hd hE1;have HN1:=Hd hN1;clear hE1 hN1;have hnw1:nb+1<w1.heap.size:=Za HE1.out)
    |(go_at_call 188;(with_reducible refine(HT91.out _ h1).mono ?_);rintro e w2 ⟨rfl,h2,o2⟩;have hE2:=(o2.block (nb+1) (by omega) (by omega)).trans HE1.out;have hN2:=(o2.block nb (by omega) (by omega)).trans HN1.out;have HE2:=Hd hE2;have HN2:=Hd hN2;clear hE2 hN2;have hnw2:nb+1<w2.heap.size:=Za HE2.out)
    |(go_at_call 188;(with_reducible refine(HT40.out _ h2).mono ?_);rintro e w3 ⟨rfl,h3,o3⟩;have hE3:=(o3.block (nb+1) (by omega) (by omega)).trans HE2.out;have hN3:=(o3.block nb (by omega) (by omega)).trans HN2.out;have HE3:=Hd hE3;have HN3:=Hd hN3;clear hE3 hN3;have hnw3:nb+1<w3.heap.size:=Za HE3.out)
    |(go_at_call 173;refine(HALT.out _ h3).mono ?_;rintro e w4 ⟨X,hX,rfl,h4,o4,hXin,hXb⟩;have hE4:=(o4.block (nb+1) (by omega) (by omega)).trans HE3.out;have hN4:=(o4.block nb (by omega) (by omega)).trans HN3.out;have HE4:=Hd hE4;have HN4:=Hd hN4;clear hE4 hN4;have hnw4:nb+1<w4.heap.size:=Za HE4.out;have h5:ReadAt (w4.setRow (nb+1) (Zh X)) rb r:=(setRow_other _ _ _ _ (by omega)).trans h4)
    |(refine wpList_store_row rfl 141 (.tmp 3) (.tmp 30) ?_ (nb+1) (Zh X) ?_ ?_ 141 (Zh (setA Q4.none)) ?_ (Zj _) (by rw[Zi,Zi]) (Zl _) ?_;(with_reducible rfl);rfl;rfl;exact HE4.out)
    |(go_at_call 188;(with_reducible refine(HT41.out _ h5).mono ?_);rintro e w6 ⟨rfl,h6,o6⟩)
    |(go_at_call 174;refine(XR rfl _).mono ?_;rintro e w7 ⟨rfl,rfl⟩))
   exact⟨rfl,((((((hO0.then o1).then o2).then o3).then o4).setRow (q:=nb+1) (.inr (by omega)) _)).then o6,.inl ⟨rfl,rfl⟩⟩
  |true=>
   have HT41:=Hd (fun w1 (h1:ReadAt w1 rb r)=>ZI w1 rb 41 r.tail (Zr h41▸h1));clear h41;have hs4:∀ w4:World,(w4.setRow (nb+1) (Zh (setA Q4.none))).heap.size=w4.heap.size:=fun w4=>by simp
   go_enter Tryz.func192,Tryz.ntmps192
   go_wp2_with (first
    |(go_at_call 188;(with_reducible refine(HT46.out).mono ?_);rintro e w1 ⟨rfl,h1,o1⟩;rw[←hW0]at o1;have hE1:=(o1.block (nb+1) (by omega) (by omega)).trans HE.out;have hN1:=(o1.block nb (by omega) (by omega)).trans HN.out;have HE1:=Hd hE1;have HN1:=Hd hN1;clear hE1 hN1;have hnw1:nb+1<w1.heap.size:=Za HE1.out)
    |(go_at_call 188;(with_reducible refine(HT91.out _ h1).mono ?_);rintro e w2 ⟨rfl,h2,o2⟩;have hE2:=(o2.block (nb+1) (by omega) (by omega)).trans HE1.out;have hN2:=(o2.block nb (by omega) (by omega)).trans HN1.out;have HE2:=Hd hE2;have HN2:=Hd hN2;clear hE2 hN2;have hnw2:nb+1<w2.heap.size:=Za HE2.out)
    |(go_at_call 188;(with_reducible refine(HT40.out _ h2).mono ?_);rintro e w3 ⟨rfl,h3,o3⟩;have hE3:=(o3.block (nb+1) (by omega) (by omega)).trans HE2.out;have hN3:=(o3.block nb (by omega) (by omega)).trans HN2.out;have HE3:=Hd hE3;have HN3:=Hd hN3;clear hE3 hN3;have hnw3:nb+1<w3.heap.size:=Za HE3.out)
    |(go_at_call 173;refine(HALT.out _ h3).mono ?_;rintro e w4 ⟨X,hX,rfl,h4,o4,hXin,hXb⟩;have hE4:=(o4.block (nb+1) (by omega) (by omega)).trans HE3.out;have hN4:=(o4.block nb (by omega) (by omega)).trans HN3.out;have HE4:=Hd hE4;have HN4:=Hd hN4;clear hE4 hN4;have hnw4:nb+1<w4.heap.size:=Za HE4.out;have h5:ReadAt (w4.setRow (nb+1) (Zh X)) rb r:=(setRow_other _ _ _ _ (by omega)).trans h4)
    |(refine wpList_store_row rfl 141 (.tmp 3) (.tmp 30) ?_ (nb+1) (Zh X) ?_ ?_ 141 (Zh (setA Q4.none)) ?_ (Zj _) (by rw[Zi,Zi]) (Zl _) ?_;(with_reducible rfl);rfl;rfl;exact HE4.out)
    |(go_at_call 188;(with_reducible refine(HT41.out _ h5).mono ?_);rintro e w6 ⟨rfl,h6,o6⟩;have hE6:=(o6.block (nb+1) (by simp;omega) (by omega)).trans (setRow_heap _ _ _ (Zh X) _ _ HE4.out);have hN6:=(o6.block nb (by simp;omega) (by omega)).trans ((setRow_other _ (nb+1) nb (Zh X) (by omega)).trans HN4.out);have HE6:=Hd hE6;have HN6:=Hd hN6;clear hE6 hN6)
    |(go_at_call 174;refine(Xr rfl _).mono ?_;rintro e w7 ⟨rfl,rfl⟩)
    |(refine wpList_load_row rfl 141 (.tmp 3) ?_ (nb+1) ?_ 141 (Zh X) (0,0) _ ?_ Tryz.underlying141 rfl (Zj _) ?_;(with_reducible rfl);rfl;exact HE6.out)
    |(refine wpList_store_row rfl 141 (.tmp 2) (.tmp 34) ?_ nb (Zh X) ?_ ?_ 141 (Zh (setA Q4.none)) ?_ (Zj _) (by rw[Zi,Zi]) (Zl _) ?_;(with_reducible rfl);rfl;rfl;exact HN6.out))
   refine bodyPost_ret (results_cell_row rfl _ _ nb 141 (Zh X) (0,0) _ rfl (setRow_heap _ _ _ _ _ _ HN6.out) Tryz.underlying141 rfl (Zj _)) rfl ?_;refine⟨((((((hO0.then o1).then o2).then o3).then o4).setRow (q:=nb+1) (.inr (by omega)) _).then o6).setRow (q:=nb) (.inr (by omega)) _,.inr ⟨X,r.tail,rfl,rfl,?_,?_,?_⟩⟩
   ·unfold ReadAt at h6 ⊢;rw[setRow_other _ _ _ _ (by omega)];exact h6
   ·have hs6:=o6.size;simp only[size_setRow]at hs6 ⊢;refine hXin.keep fun b hb=>?_
    obtain⟨hb1,hb2⟩:=hXb b hb;have hs3:=o3.size;have hs2:=o2.size;have hs1:=o1.size;refine⟨by omega,fun o=>World.cell?_of_block (w:=w4) ?_⟩;show(World.setRow _ _ _).heap[b]?=_;rw[setRow_other _ _ _ _ (by omega),o6.block b (by simp;omega) (by omega),setRow_other _ _ _ _ (by omega)]
   ·intro b hb;have hs6:=o6.size;have hs0:=hO0.size;have hs3:=o3.size;have hs2:=o2.size;have hs1:=o1.size;simp only[size_setRow]at hs6 ⊢;have:=hXb b hb;omega
theorem QB(w:World)(rb:Nat)(s:List UInt8)(h:ReadAt w rb s)(hl:s.length≤128)(altf:List UInt8→Option (Rx × List UInt8))
 (halt:Zg 40 s=true→∀ w1,ReadAt w1 rb s.tail→Calls Tryz.prog 173 #[.pointer (some ⟨rb,0,none⟩)] w1 fun e w2=>ZV rb w1 (altf s.tail) e w2) :
 Calls Tryz.prog 192 #[.pointer (some ⟨rb,0,none⟩)] w fun e w'=>ZV rb w (Xx altf s) e w':=by
 cases h46:Zg 46 s with
 |true=>exact ZfR w rb s h hl altf h46
 |false=>
  cases h91:Zg 91 s with
  |true=>exact ZbF w rb s h hl altf h46 h91
  |false=>
   cases h40:Zg 40 s with
   |true=>exact Zec w rb s h hl altf h46 h91 h40 (halt h40)
   |false=>exact ZfQ w rb s h hl altf h46 h91 h40
end Go.Proofs.YtbchkjfnakabkaaGreatDoor
namespace Go.Proofs.YtbchkjfnakabkaaGreatDoor
open Go.RowKit PX
def repA(m n:Int)(hb:Nat)(X:RxA):RxA:=.node 3 m n 0 0 0 0 (some ⟨hb,0,none⟩) 1 [X]
theorem YN(m n:Int)(hb:Nat)(X:RxA):(repA m n hb X).bare=.rep m n X.bare:=by simp[repA,RxA.bare,Rx.rep,XS]
theorem UA{w:World}{m n:Int}{hb:Nat}{X:RxA}(hm:0≤m∧m≤15)(hn:-1≤n∧n≤15)(hX:X.In w w.heap.size)(hh:w.heap[hb]?=some (.cells (Zh X) 141 (0,0))):(repA m n hb X).In w w.heap.size:=by
 have hlt:=Za hh;simp only[repA,RxA.In];refine⟨⟨⟨by omega,by omega⟩,⟨by omega,by omega⟩,⟨by omega,by omega⟩,⟨by omega,by omega⟩,⟨by omega,by omega⟩,⟨by omega,by omega⟩,⟨by omega,by omega⟩⟩,by simp,by unfold maxLen;omega,by simp,.inr ⟨hb,0,rfl,hlt,?_⟩⟩;simp only[InL,and_true];refine⟨fun j hj=>?_,hX⟩;rw[Zb hh];simp[Zh]
theorem X1(m n:Int)(hb:Nat)(X:RxA):∀ b∈(repA m n hb X).blocks,b=hb∨b∈X.blocks:=by
 intro b h
 simpa [repA,RxA.blocks,XY] using h
theorem VK{w1 wk:World}{B:Nat}{X:RxA}(hX:X.In w1 w1.heap.size)(hB:∀ b∈X.blocks,B≤b∧b<w1.heap.size)(hblock:∀ b,B≤b→b<w1.heap.size→wk.heap[b]?=w1.heap[b]?)(hs:w1.heap.size≤wk.heap.size) :
 X.In wk wk.heap.size∧∀ b∈X.blocks,B≤b∧b<wk.heap.size:=
 ⟨hX.keep fun b hb=>⟨by have:=hB b hb;omega,fun o=>World.cell?_of_block (w:=w1) (hblock b (hB b hb).1 (hB b hb).2)⟩,fun b hb=>by have:=hB b hb;omega⟩
def Xp(rb:Nat)(s:List UInt8)(x:Rx)(r:List UInt8):Prop:=∀ w1,ReadAt w1 rb s→Calls Tryz.prog 192 #[.pointer (some ⟨rb,0,none⟩)] w1 fun e w2=>
 ∃ k mn mx s0 s1 s2 s3 a cap l,x=(RxA.node k mn mx s0 s1 s2 s3 a cap l).bare∧e=.returned (.agg #[.int .i64 k,.int .i64 mn,.int .i64 mx,.int .u64 s0,.int .u64 s1,.int .u64 s2,.int .u64 s3,.slice a l.length cap])∧ReadAt w2 rb r∧Only (fun k=>k=rb) w1 w2∧(RxA.node k mn mx s0 s1 s2 s3 a cap l).In w2 w2.heap.size∧∀ b∈(RxA.node k mn mx s0 s1 s2 s3 a cap l).blocks,w1.heap.size≤b∧b<w2.heap.size
theorem ZaW(w:World)(rb:Nat)(s:List UInt8)(h:ReadAt w rb s)(x:Rx)(r:List UInt8)(hr:r.length≤128)(hatom:Xp rb s x r)(h42:Zg 42 r=false)(h43:Zg 43 r=false)(h63:Zg 63 r=false)(h123:Zg 123 r=false) :
 Calls Tryz.prog 186 #[.pointer (some ⟨rb,0,none⟩)] w fun e w'=>ZV rb w (sign x r) e w':=by
 have hlt:=Za h
 obtain⟨nb,hnb⟩:∃ nb,w.heap.size=nb:=⟨_,rfl⟩
 obtain⟨W0,hW0⟩:∃ W0,W0=(w.alloc (.cells #[.int .i64 0,.int .i64 0,.int .i64 0,.int .u64 0,.int .u64 0,.int .u64 0,.int .u64 0,.slice none 0 0] 141)):=⟨_,rfl⟩
 have hr0:ReadAt W0 rb s:=by rw[hW0];exact Zd h _
 have hN0:W0.heap[nb]?=some (.cells (Zh (setA Q4.none)) 141 (0,0)):=by rw[hW0,←hnb];exact Ze _ _
 have hO0:Only (fun k=>k=rb) w W0:=by rw[hW0];exact(Only.refl _ w).alloc _
 have hnw:nb<W0.heap.size:=Za hN0;have HATOM:=Hd (hatom W0 hr0);clear hatom hr0;rw[hW0]at HATOM;have HN:=Hd hN0;clear hN0;have hS:sign x r=some (x,r):=by unfold sign;rw[h42,h43,h63,h123];rfl
 rw[hS];have HT42:=Hd (fun w1 (h1:ReadAt w1 rb r)=>Zu w1 rb 42 r h1 h42);have HT43:=Hd (fun w1 (h1:ReadAt w1 rb r)=>Zu w1 rb 43 r h1 h43);have HT63:=Hd (fun w1 (h1:ReadAt w1 rb r)=>Zu w1 rb 63 r h1 h63);have HT123:=Hd (fun w1 (h1:ReadAt w1 rb r)=>Zu w1 rb 123 r h1 h123)
 go_enter Tryz.func186,Tryz.ntmps186
 go_wp2_with (first
  |(go_at_call 192;(with_reducible refine HATOM.out.mono ?_);rintro e w1 ⟨k,mn,mx,s0,s1,s2,s3,a,cap,l,hX,rfl,h1,o1,hXin,hXb⟩;rw[←hW0]at o1 hXb;have hw1:=o1.size;have h2:ReadAt (w1.alloc (.cells #[.int .i64 k,.int .i64 mn,.int .i64 mx,.int .u64 s0,.int .u64 s1,.int .u64 s2,.int .u64 s3,.slice a l.length cap] 141)) rb r:=Zd h1 _;have hE2:=Ze w1 (.cells #[.int .i64 k,.int .i64 mn,.int .i64 mx,.int .u64 s0,.int .u64 s1,.int .u64 s2,.int .u64 s3,.slice a l.length cap] 141);have hN2:=Zd ((o1.block nb (by omega) (by omega)).trans HN.out) (.cells #[.int .i64 k,.int .i64 mn,.int .i64 mx,.int .u64 s0,.int .u64 s1,.int .u64 s2,.int .u64 s3,.slice a l.length cap] 141);have hlE2:=Za hE2;have hlN2:=Za hN2;have hne:¬ w1.heap.size=rb:=(by omega);have hnn:¬ nb=rb:=(by omega);have HE2:=Hd hE2;have HN2:=Hd hN2;clear hE2 hN2;have o2:=o1.alloc (.cells #[.int .i64 k,.int .i64 mn,.int .i64 mx,.int .u64 s0,.int .u64 s1,.int .u64 s2,.int .u64 s3,.slice a l.length cap] 141);have hXI:=Hd hXin;have hXB:=Hd hXb;clear hXin hXb;have hlt1:rb<w1.heap.size:=(by omega))
  |(go_at_call 188;(with_reducible refine(HT42.out _ h2).mono ?_);rintro e w3 ⟨rfl,h3,o3⟩;have hE3:=(o3.block w1.heap.size hlE2 hne).trans HE2.out;have hN3:=(o3.block nb hlN2 hnn).trans HN2.out;have hlE3:=Za hE3;have hlN3:=Za hN3;have HE3:=Hd hE3;have HN3:=Hd hN3;clear hE3 hN3)
  |(go_at_call 188;(with_reducible refine(HT43.out _ h3).mono ?_);rintro e w4 ⟨rfl,h4,o4⟩;have hE4:=(o4.block w1.heap.size hlE3 hne).trans HE3.out;have hN4:=(o4.block nb hlN3 hnn).trans HN3.out;have hlE4:=Za hE4;have hlN4:=Za hN4;have HE4:=Hd hE4;have HN4:=Hd hN4;clear hE4 hN4)
  |(go_at_call 188;(with_reducible refine(HT63.out _ h4).mono ?_);rintro e w5 ⟨rfl,h5,o5⟩;have hE5:=(o5.block w1.heap.size hlE4 hne).trans HE4.out;have hN5:=(o5.block nb hlN4 hnn).trans HN4.out;have hlE5:=Za hE5;have hlN5:=Za hN5;have HE5:=Hd hE5;have HN5:=Hd hN5;clear hE5 hN5)
  |(go_at_call 188;(with_reducible refine(HT123.out _ h5).mono ?_);rintro e w6 ⟨rfl,h6,o6⟩;have hE6:=(o6.block w1.heap.size hlE5 hne).trans HE5.out;have hN6:=(o6.block nb hlN5 hnn).trans HN5.out;have hlE6:=Za hE6;have hlN6:=Za hN6;have HE6:=Hd hE6;have HN6:=Hd hN6;clear hE6 hN6)
  |(refine wpList_load_row rfl 141 (.tmp 3) ?_ w1.heap.size ?_ 141 #[.int .i64 k,.int .i64 mn,.int .i64 mx,.int .u64 s0,.int .u64 s1,.int .u64 s2,.int .u64 s3,.slice a l.length cap] (0,0) _ ?_ Tryz.underlying141 rfl ZF ?_;(with_reducible rfl);rfl;exact HE6.out)
  |(refine wpList_store_row rfl 141 (.tmp 2) (.tmp 8) ?_ nb #[.int .i64 k,.int .i64 mn,.int .i64 mx,.int .u64 s0,.int .u64 s1,.int .u64 s2,.int .u64 s3,.slice a l.length cap] ?_ ?_ 141 (Zh (setA Q4.none)) ?_ ZF rfl (Zl (RxA.node k mn mx s0 s1 s2 s3 a cap l)) ?_;(with_reducible rfl);rfl;rfl;exact HN6.out))
 refine bodyPost_ret (results_cell_row rfl _ _ nb 141 #[.int .i64 k,.int .i64 mn,.int .i64 mx,.int .u64 s0,.int .u64 s1,.int .u64 s2,.int .u64 s3,.slice a l.length cap] (0,0) _ rfl (setRow_heap _ _ _ _ _ _ HN6.out) Tryz.underlying141 rfl ZF) rfl ?_;have oc:=((o3.then o4).then o5).then o6;obtain⟨hin,hbl⟩:=VK (wk:=w6.setRow nb #[.int .i64 k,.int .i64 mn,.int .i64 mx,.int .u64 s0,.int .u64 s1,.int .u64 s2,.int .u64 s3,.slice a l.length cap]) hXI.out hXB.out (fun b h1 h2=>by rw[setRow_other _ _ _ _ (by omega),oc.block b (by simp;omega) (by omega),Below.heap_alloc _ _ _ h2]) (by have:=oc.size;simp at this ⊢;omega);refine⟨((hO0.then o2).then oc).setRow (q:=nb) (.inr (by omega)) _,.inr ⟨(RxA.node k mn mx s0 s1 s2 s3 a cap l),r,by rw[hX],rfl,(setRow_other _ _ _ _ (by omega)).trans h6,hin,fun b hb=>⟨by have:=hO0.size;have:=(hbl b hb).1;omega,(hbl b hb).2⟩⟩⟩
theorem ZaT(w:World)(rb:Nat)(s:List UInt8)(h:ReadAt w rb s)(x:Rx)(r:List UInt8)(hr:r.length≤128)(hatom:Xp rb s x r)(h42:Zg 42 r=true) :
 Calls Tryz.prog 186 #[.pointer (some ⟨rb,0,none⟩)] w fun e w'=>ZV rb w (sign x r) e w':=by
 have hlt:=Za h
 obtain⟨nb,hnb⟩:∃ nb,w.heap.size=nb:=⟨_,rfl⟩
 obtain⟨W0,hW0⟩:∃ W0,W0=(w.alloc (.cells #[.int .i64 0,.int .i64 0,.int .i64 0,.int .u64 0,.int .u64 0,.int .u64 0,.int .u64 0,.slice none 0 0] 141)):=⟨_,rfl⟩
 have hr0:ReadAt W0 rb s:=by rw[hW0];exact Zd h _
 have hN0:W0.heap[nb]?=some (.cells (Zh (setA Q4.none)) 141 (0,0)):=by rw[hW0,←hnb];exact Ze _ _
 have hO0:Only (fun k=>k=rb) w W0:=by rw[hW0];exact(Only.refl _ w).alloc _
 have hnw:nb<W0.heap.size:=Za hN0;have HATOM:=Hd (hatom W0 hr0);clear hatom hr0;rw[hW0]at HATOM;have HN:=Hd hN0;clear hN0;have hS:sign x r=some (.rep 0 (-1) x,r.tail):=by unfold sign;rw[h42];rfl
 rw[hS];have hbm:(0:Int)≤0∧(0:Int)≤15:=by omega
 have hbn:(-1:Int)≤(-1)∧((-1):Int)≤15:=by omega
 have HT42:=Hd (fun w1 (h1:ReadAt w1 rb r)=>ZI w1 rb 42 r.tail (Zr h42▸h1))
 go_enter Tryz.func186,Tryz.ntmps186
 go_wp2_with (first
  |(go_at_call 192;(with_reducible refine HATOM.out.mono ?_);rintro e w1 ⟨k,mn,mx,s0,s1,s2,s3,a,cap,l,hX,rfl,h1,o1,hXin,hXb⟩;rw[←hW0]at o1 hXb;have hw1:=o1.size;have h2:ReadAt (w1.alloc (.cells #[.int .i64 k,.int .i64 mn,.int .i64 mx,.int .u64 s0,.int .u64 s1,.int .u64 s2,.int .u64 s3,.slice a l.length cap] 141)) rb r:=Zd h1 _;have hE2:=Ze w1 (.cells #[.int .i64 k,.int .i64 mn,.int .i64 mx,.int .u64 s0,.int .u64 s1,.int .u64 s2,.int .u64 s3,.slice a l.length cap] 141);have hN2:=Zd ((o1.block nb (by omega) (by omega)).trans HN.out) (.cells #[.int .i64 k,.int .i64 mn,.int .i64 mx,.int .u64 s0,.int .u64 s1,.int .u64 s2,.int .u64 s3,.slice a l.length cap] 141);have hlE2:=Za hE2;have hlN2:=Za hN2;have hne:¬ w1.heap.size=rb:=(by omega);have hnn:¬ nb=rb:=(by omega);have HE2:=Hd hE2;have HN2:=Hd hN2;clear hE2 hN2;have o2:=o1.alloc (.cells #[.int .i64 k,.int .i64 mn,.int .i64 mx,.int .u64 s0,.int .u64 s1,.int .u64 s2,.int .u64 s3,.slice a l.length cap] 141);have hXI:=Hd hXin;have hXB:=Hd hXb;clear hXin hXb;have hlt1:rb<w1.heap.size:=(by omega))
  |(go_at_call 188;(with_reducible refine(HT42.out _ h2).mono ?_);rintro e w3 ⟨rfl,h3,o3⟩;have hE3:=(o3.block w1.heap.size hlE2 hne).trans HE2.out;have hN3:=(o3.block nb hlN2 hnn).trans HN2.out;have hlE3:=Za hE3;have hlN3:=Za hN3;have HE3:=Hd hE3;have HN3:=Hd hN3;clear hE3 hN3)
  |(refine wpList_load_row rfl 141 (.tmp 3) ?_ w1.heap.size ?_ 141 #[.int .i64 k,.int .i64 mn,.int .i64 mx,.int .u64 s0,.int .u64 s1,.int .u64 s2,.int .u64 s3,.slice a l.length cap] (0,0) _ ?_ Tryz.underlying141 rfl ZF ?_;(with_reducible rfl);rfl;exact HE3.out)
  |(refine wpList_store_row rfl 141 (.tmp 2) (.tmp 52) ?_ nb #[.int .i64 3,.int .i64 0,.int .i64 (-1),.int .u64 0,.int .u64 0,.int .u64 0,.int .u64 0,.slice (some ⟨w3.heap.size,0,none⟩) 1 1] ?_ ?_ 141 (Zh (setA Q4.none)) ?_ ZF rfl (Zl (repA 0 (-1) w3.heap.size (RxA.node k mn mx s0 s1 s2 s3 a cap l))) ?_;(with_reducible rfl);rfl;rfl;exact Zd HN3.out _))
 refine bodyPost_ret (results_cell_row rfl _ _ nb 141 #[.int .i64 3,.int .i64 0,.int .i64 (-1),.int .u64 0,.int .u64 0,.int .u64 0,.int .u64 0,.slice (some ⟨w3.heap.size,0,none⟩) 1 1] (0,0) _ rfl (setRow_heap _ _ _ _ _ _ (Zd HN3.out (.cells #[.int .i64 k,.int .i64 mn,.int .i64 mx,.int .u64 s0,.int .u64 s1,.int .u64 s2,.int .u64 s3,.slice a l.length cap] 141))) Tryz.underlying141 rfl ZF) rfl ?_;have oc:=o3;have hkk:=oc.size;simp only[World.size_alloc]at hkk;obtain⟨hin,hbl⟩:=VK (wk:=(w3.alloc (.cells #[.int .i64 k,.int .i64 mn,.int .i64 mx,.int .u64 s0,.int .u64 s1,.int .u64 s2,.int .u64 s3,.slice a l.length cap] 141)).setRow nb #[.int .i64 3,.int .i64 0,.int .i64 (-1),.int .u64 0,.int .u64 0,.int .u64 0,.int .u64 0,.slice (some ⟨w3.heap.size,0,none⟩) 1 1]) hXI.out hXB.out (fun b h1 h2=>by rw[setRow_other _ _ _ _ (by omega),Below.heap_alloc _ _ _ (by omega),oc.block b (by simp;omega) (by omega),Below.heap_alloc _ _ _ h2]) (by simp;omega);have hrin:=UA (m:=0) (n:=(-1)) hbm hbn hin ((setRow_other (w3.alloc (.cells #[.int .i64 k,.int .i64 mn,.int .i64 mx,.int .u64 s0,.int .u64 s1,.int .u64 s2,.int .u64 s3,.slice a l.length cap] 141)) nb w3.heap.size #[.int .i64 3,.int .i64 0,.int .i64 (-1),.int .u64 0,.int .u64 0,.int .u64 0,.int .u64 0,.slice (some ⟨w3.heap.size,0,none⟩) 1 1] (by omega)).trans (Ze _ _));refine⟨(((hO0.then o2).then oc).alloc _).setRow (q:=nb) (.inr (by omega)) _,.inr ⟨repA 0 (-1) w3.heap.size (RxA.node k mn mx s0 s1 s2 s3 a cap l),r.tail,by rw[YN,←hX],rfl,(setRow_other _ _ _ _ (by omega)).trans (Zd h3 _),hrin,fun b hb=>?_⟩⟩;rcases X1 _ _ _ _ b hb with rfl|hb
 ·have:=hO0.size;simp only[size_setRow,World.size_alloc];omega
 ·have:=hbl b hb;have:=hO0.size;omega
theorem ZaV(w:World)(rb:Nat)(s:List UInt8)(h:ReadAt w rb s)(x:Rx)(r:List UInt8)(hr:r.length≤128)(hatom:Xp rb s x r)(h42:Zg 42 r=false)(h43:Zg 43 r=true) :
 Calls Tryz.prog 186 #[.pointer (some ⟨rb,0,none⟩)] w fun e w'=>ZV rb w (sign x r) e w':=by
 have hlt:=Za h
 obtain⟨nb,hnb⟩:∃ nb,w.heap.size=nb:=⟨_,rfl⟩
 obtain⟨W0,hW0⟩:∃ W0,W0=(w.alloc (.cells #[.int .i64 0,.int .i64 0,.int .i64 0,.int .u64 0,.int .u64 0,.int .u64 0,.int .u64 0,.slice none 0 0] 141)):=⟨_,rfl⟩
 have hr0:ReadAt W0 rb s:=by rw[hW0];exact Zd h _
 have hN0:W0.heap[nb]?=some (.cells (Zh (setA Q4.none)) 141 (0,0)):=by rw[hW0,←hnb];exact Ze _ _
 have hO0:Only (fun k=>k=rb) w W0:=by rw[hW0];exact(Only.refl _ w).alloc _
 have hnw:nb<W0.heap.size:=Za hN0;have HATOM:=Hd (hatom W0 hr0);clear hatom hr0;rw[hW0]at HATOM;have HN:=Hd hN0;clear hN0;have hS:sign x r=some (.rep 1 (-1) x,r.tail):=by unfold sign;rw[h42,h43];rfl
 rw[hS];have hbm:(0:Int)≤1∧(1:Int)≤15:=by omega
 have hbn:(-1:Int)≤(-1)∧((-1):Int)≤15:=by omega
 have HT42:=Hd (fun w1 (h1:ReadAt w1 rb r)=>Zu w1 rb 42 r h1 h42);have HT43:=Hd (fun w1 (h1:ReadAt w1 rb r)=>ZI w1 rb 43 r.tail (Zr h43▸h1))
 go_enter Tryz.func186,Tryz.ntmps186
 go_wp2_with (first
  |(go_at_call 192;(with_reducible refine HATOM.out.mono ?_);rintro e w1 ⟨k,mn,mx,s0,s1,s2,s3,a,cap,l,hX,rfl,h1,o1,hXin,hXb⟩;rw[←hW0]at o1 hXb;have hw1:=o1.size;have h2:ReadAt (w1.alloc (.cells #[.int .i64 k,.int .i64 mn,.int .i64 mx,.int .u64 s0,.int .u64 s1,.int .u64 s2,.int .u64 s3,.slice a l.length cap] 141)) rb r:=Zd h1 _;have hE2:=Ze w1 (.cells #[.int .i64 k,.int .i64 mn,.int .i64 mx,.int .u64 s0,.int .u64 s1,.int .u64 s2,.int .u64 s3,.slice a l.length cap] 141);have hN2:=Zd ((o1.block nb (by omega) (by omega)).trans HN.out) (.cells #[.int .i64 k,.int .i64 mn,.int .i64 mx,.int .u64 s0,.int .u64 s1,.int .u64 s2,.int .u64 s3,.slice a l.length cap] 141);have hlE2:=Za hE2;have hlN2:=Za hN2;have hne:¬ w1.heap.size=rb:=(by omega);have hnn:¬ nb=rb:=(by omega);have HE2:=Hd hE2;have HN2:=Hd hN2;clear hE2 hN2;have o2:=o1.alloc (.cells #[.int .i64 k,.int .i64 mn,.int .i64 mx,.int .u64 s0,.int .u64 s1,.int .u64 s2,.int .u64 s3,.slice a l.length cap] 141);have hXI:=Hd hXin;have hXB:=Hd hXb;clear hXin hXb;have hlt1:rb<w1.heap.size:=(by omega))
  |(go_at_call 188;(with_reducible refine(HT42.out _ h2).mono ?_);rintro e w3 ⟨rfl,h3,o3⟩;have hE3:=(o3.block w1.heap.size hlE2 hne).trans HE2.out;have hN3:=(o3.block nb hlN2 hnn).trans HN2.out;have hlE3:=Za hE3;have hlN3:=Za hN3;have HE3:=Hd hE3;have HN3:=Hd hN3;clear hE3 hN3)
  |(go_at_call 188;(with_reducible refine(HT43.out _ h3).mono ?_);rintro e w4 ⟨rfl,h4,o4⟩;have hE4:=(o4.block w1.heap.size hlE3 hne).trans HE3.out;have hN4:=(o4.block nb hlN3 hnn).trans HN3.out;have hlE4:=Za hE4;have hlN4:=Za hN4;have HE4:=Hd hE4;have HN4:=Hd hN4;clear hE4 hN4)
  |(refine wpList_load_row rfl 141 (.tmp 3) ?_ w1.heap.size ?_ 141 #[.int .i64 k,.int .i64 mn,.int .i64 mx,.int .u64 s0,.int .u64 s1,.int .u64 s2,.int .u64 s3,.slice a l.length cap] (0,0) _ ?_ Tryz.underlying141 rfl ZF ?_;(with_reducible rfl);rfl;exact HE4.out)
  |(refine wpList_store_row rfl 141 (.tmp 2) (.tmp 52) ?_ nb #[.int .i64 3,.int .i64 1,.int .i64 (-1),.int .u64 0,.int .u64 0,.int .u64 0,.int .u64 0,.slice (some ⟨w4.heap.size,0,none⟩) 1 1] ?_ ?_ 141 (Zh (setA Q4.none)) ?_ ZF rfl (Zl (repA 1 (-1) w4.heap.size (RxA.node k mn mx s0 s1 s2 s3 a cap l))) ?_;(with_reducible rfl);rfl;rfl;exact Zd HN4.out _))
 refine bodyPost_ret (results_cell_row rfl _ _ nb 141 #[.int .i64 3,.int .i64 1,.int .i64 (-1),.int .u64 0,.int .u64 0,.int .u64 0,.int .u64 0,.slice (some ⟨w4.heap.size,0,none⟩) 1 1] (0,0) _ rfl (setRow_heap _ _ _ _ _ _ (Zd HN4.out (.cells #[.int .i64 k,.int .i64 mn,.int .i64 mx,.int .u64 s0,.int .u64 s1,.int .u64 s2,.int .u64 s3,.slice a l.length cap] 141))) Tryz.underlying141 rfl ZF) rfl ?_
 have oc:=(o3.then o4)
 have hkk:=oc.size;simp only[World.size_alloc]at hkk;obtain⟨hin,hbl⟩:=VK (wk:=(w4.alloc (.cells #[.int .i64 k,.int .i64 mn,.int .i64 mx,.int .u64 s0,.int .u64 s1,.int .u64 s2,.int .u64 s3,.slice a l.length cap] 141)).setRow nb #[.int .i64 3,.int .i64 1,.int .i64 (-1),.int .u64 0,.int .u64 0,.int .u64 0,.int .u64 0,.slice (some ⟨w4.heap.size,0,none⟩) 1 1]) hXI.out hXB.out (fun b h1 h2=>by rw[setRow_other _ _ _ _ (by omega),Below.heap_alloc _ _ _ (by omega),oc.block b (by simp;omega) (by omega),Below.heap_alloc _ _ _ h2]) (by simp;omega);have hrin:=UA (m:=1) (n:=(-1)) hbm hbn hin ((setRow_other (w4.alloc (.cells #[.int .i64 k,.int .i64 mn,.int .i64 mx,.int .u64 s0,.int .u64 s1,.int .u64 s2,.int .u64 s3,.slice a l.length cap] 141)) nb w4.heap.size #[.int .i64 3,.int .i64 1,.int .i64 (-1),.int .u64 0,.int .u64 0,.int .u64 0,.int .u64 0,.slice (some ⟨w4.heap.size,0,none⟩) 1 1] (by omega)).trans (Ze _ _));refine⟨(((hO0.then o2).then oc).alloc _).setRow (q:=nb) (.inr (by omega)) _,.inr ⟨repA 1 (-1) w4.heap.size (RxA.node k mn mx s0 s1 s2 s3 a cap l),r.tail,by rw[YN,←hX],rfl,(setRow_other _ _ _ _ (by omega)).trans (Zd h4 _),hrin,fun b hb=>?_⟩⟩;rcases X1 _ _ _ _ b hb with rfl|hb
 ·have:=hO0.size;simp only[size_setRow,World.size_alloc];omega
 ·have:=hbl b hb;have:=hO0.size;omega
theorem ZcI(w:World)(rb:Nat)(s:List UInt8)(h:ReadAt w rb s)(x:Rx)(r:List UInt8)(hr:r.length≤128)(hatom:Xp rb s x r)(h42:Zg 42 r=false)(h43:Zg 43 r=false)(h63:Zg 63 r=true) :
 Calls Tryz.prog 186 #[.pointer (some ⟨rb,0,none⟩)] w fun e w'=>ZV rb w (sign x r) e w':=by
 have hlt:=Za h
 obtain⟨nb,hnb⟩:∃ nb,w.heap.size=nb:=⟨_,rfl⟩
 obtain⟨W0,hW0⟩:∃ W0,W0=(w.alloc (.cells #[.int .i64 0,.int .i64 0,.int .i64 0,.int .u64 0,.int .u64 0,.int .u64 0,.int .u64 0,.slice none 0 0] 141)):=⟨_,rfl⟩
 have hr0:ReadAt W0 rb s:=by rw[hW0];exact Zd h _
 have hN0:W0.heap[nb]?=some (.cells (Zh (setA Q4.none)) 141 (0,0)):=by rw[hW0,←hnb];exact Ze _ _
 have hO0:Only (fun k=>k=rb) w W0:=by rw[hW0];exact(Only.refl _ w).alloc _
 have hnw:nb<W0.heap.size:=Za hN0;have HATOM:=Hd (hatom W0 hr0);clear hatom hr0;rw[hW0]at HATOM;have HN:=Hd hN0;clear hN0;have hS:sign x r=some (.rep 0 1 x,r.tail):=by unfold sign;rw[h42,h43,h63];rfl
 rw[hS];have hbm:(0:Int)≤0∧(0:Int)≤15:=by omega
 have hbn:(-1:Int)≤1∧(1:Int)≤15:=by omega
 have HT42:=Hd (fun w1 (h1:ReadAt w1 rb r)=>Zu w1 rb 42 r h1 h42);have HT43:=Hd (fun w1 (h1:ReadAt w1 rb r)=>Zu w1 rb 43 r h1 h43);have HT63:=Hd (fun w1 (h1:ReadAt w1 rb r)=>ZI w1 rb 63 r.tail (Zr h63▸h1))
 go_enter Tryz.func186,Tryz.ntmps186
 go_wp2_with (first
  |(go_at_call 192;(with_reducible refine HATOM.out.mono ?_);rintro e w1 ⟨k,mn,mx,s0,s1,s2,s3,a,cap,l,hX,rfl,h1,o1,hXin,hXb⟩;rw[←hW0]at o1 hXb;have hw1:=o1.size;have h2:ReadAt (w1.alloc (.cells #[.int .i64 k,.int .i64 mn,.int .i64 mx,.int .u64 s0,.int .u64 s1,.int .u64 s2,.int .u64 s3,.slice a l.length cap] 141)) rb r:=Zd h1 _;have hE2:=Ze w1 (.cells #[.int .i64 k,.int .i64 mn,.int .i64 mx,.int .u64 s0,.int .u64 s1,.int .u64 s2,.int .u64 s3,.slice a l.length cap] 141);have hN2:=Zd ((o1.block nb (by omega) (by omega)).trans HN.out) (.cells #[.int .i64 k,.int .i64 mn,.int .i64 mx,.int .u64 s0,.int .u64 s1,.int .u64 s2,.int .u64 s3,.slice a l.length cap] 141);have hlE2:=Za hE2;have hlN2:=Za hN2;have hne:¬ w1.heap.size=rb:=(by omega);have hnn:¬ nb=rb:=(by omega);have HE2:=Hd hE2;have HN2:=Hd hN2;clear hE2 hN2;have o2:=o1.alloc (.cells #[.int .i64 k,.int .i64 mn,.int .i64 mx,.int .u64 s0,.int .u64 s1,.int .u64 s2,.int .u64 s3,.slice a l.length cap] 141);have hXI:=Hd hXin;have hXB:=Hd hXb;clear hXin hXb;have hlt1:rb<w1.heap.size:=(by omega))
  |(go_at_call 188;(with_reducible refine(HT42.out _ h2).mono ?_);rintro e w3 ⟨rfl,h3,o3⟩;have hE3:=(o3.block w1.heap.size hlE2 hne).trans HE2.out;have hN3:=(o3.block nb hlN2 hnn).trans HN2.out;have hlE3:=Za hE3;have hlN3:=Za hN3;have HE3:=Hd hE3;have HN3:=Hd hN3;clear hE3 hN3)
  |(go_at_call 188;(with_reducible refine(HT43.out _ h3).mono ?_);rintro e w4 ⟨rfl,h4,o4⟩;have hE4:=(o4.block w1.heap.size hlE3 hne).trans HE3.out;have hN4:=(o4.block nb hlN3 hnn).trans HN3.out;have hlE4:=Za hE4;have hlN4:=Za hN4;have HE4:=Hd hE4;have HN4:=Hd hN4;clear hE4 hN4)
  |(go_at_call 188;(with_reducible refine(HT63.out _ h4).mono ?_);rintro e w5 ⟨rfl,h5,o5⟩;have hE5:=(o5.block w1.heap.size hlE4 hne).trans HE4.out;have hN5:=(o5.block nb hlN4 hnn).trans HN4.out;have hlE5:=Za hE5;have hlN5:=Za hN5;have HE5:=Hd hE5;have HN5:=Hd hN5;clear hE5 hN5)
  |(refine wpList_load_row rfl 141 (.tmp 3) ?_ w1.heap.size ?_ 141 #[.int .i64 k,.int .i64 mn,.int .i64 mx,.int .u64 s0,.int .u64 s1,.int .u64 s2,.int .u64 s3,.slice a l.length cap] (0,0) _ ?_ Tryz.underlying141 rfl ZF ?_;(with_reducible rfl);rfl;exact HE5.out)
  |(refine wpList_store_row rfl 141 (.tmp 2) (.tmp 52) ?_ nb #[.int .i64 3,.int .i64 0,.int .i64 1,.int .u64 0,.int .u64 0,.int .u64 0,.int .u64 0,.slice (some ⟨w5.heap.size,0,none⟩) 1 1] ?_ ?_ 141 (Zh (setA Q4.none)) ?_ ZF rfl (Zl (repA 0 1 w5.heap.size (RxA.node k mn mx s0 s1 s2 s3 a cap l))) ?_;(with_reducible rfl);rfl;rfl;exact Zd HN5.out _))
 refine bodyPost_ret (results_cell_row rfl _ _ nb 141 #[.int .i64 3,.int .i64 0,.int .i64 1,.int .u64 0,.int .u64 0,.int .u64 0,.int .u64 0,.slice (some ⟨w5.heap.size,0,none⟩) 1 1] (0,0) _ rfl (setRow_heap _ _ _ _ _ _ (Zd HN5.out (.cells #[.int .i64 k,.int .i64 mn,.int .i64 mx,.int .u64 s0,.int .u64 s1,.int .u64 s2,.int .u64 s3,.slice a l.length cap] 141))) Tryz.underlying141 rfl ZF) rfl ?_
 have oc:=((o3.then o4).then o5)
 have hkk:=oc.size;simp only[World.size_alloc]at hkk;obtain⟨hin,hbl⟩:=VK (wk:=(w5.alloc (.cells #[.int .i64 k,.int .i64 mn,.int .i64 mx,.int .u64 s0,.int .u64 s1,.int .u64 s2,.int .u64 s3,.slice a l.length cap] 141)).setRow nb #[.int .i64 3,.int .i64 0,.int .i64 1,.int .u64 0,.int .u64 0,.int .u64 0,.int .u64 0,.slice (some ⟨w5.heap.size,0,none⟩) 1 1]) hXI.out hXB.out (fun b h1 h2=>by rw[setRow_other _ _ _ _ (by omega),Below.heap_alloc _ _ _ (by omega),oc.block b (by simp;omega) (by omega),Below.heap_alloc _ _ _ h2]) (by simp;omega);have hrin:=UA (m:=0) (n:=1) hbm hbn hin ((setRow_other (w5.alloc (.cells #[.int .i64 k,.int .i64 mn,.int .i64 mx,.int .u64 s0,.int .u64 s1,.int .u64 s2,.int .u64 s3,.slice a l.length cap] 141)) nb w5.heap.size #[.int .i64 3,.int .i64 0,.int .i64 1,.int .u64 0,.int .u64 0,.int .u64 0,.int .u64 0,.slice (some ⟨w5.heap.size,0,none⟩) 1 1] (by omega)).trans (Ze _ _));refine⟨(((hO0.then o2).then oc).alloc _).setRow (q:=nb) (.inr (by omega)) _,.inr ⟨repA 0 1 w5.heap.size (RxA.node k mn mx s0 s1 s2 s3 a cap l),r.tail,by rw[YN,←hX],rfl,(setRow_other _ _ _ _ (by omega)).trans (Zd h5 _),hrin,fun b hb=>?_⟩⟩;rcases X1 _ _ _ _ b hb with rfl|hb
 ·have:=hO0.size;simp only[size_setRow,World.size_alloc];omega
 ·have:=hbl b hb;have:=hO0.size;omega
theorem ZeV(w:World)(rb:Nat)(s:List UInt8)(h:ReadAt w rb s)(x:Rx)(r:List UInt8)(hr:r.length≤128)(hatom:Xp rb s x r)(h42:Zg 42 r=false)(h43:Zg 43 r=false)(h63:Zg 63 r=false)(h123:Zg 123 r=true)(hn:Z0 r.tail=none) :
 Calls Tryz.prog 186 #[.pointer (some ⟨rb,0,none⟩)] w fun e w'=>ZV rb w (sign x r) e w':=by
 have hlt:=Za h
 obtain⟨nb,hnb⟩:∃ nb,w.heap.size=nb:=⟨_,rfl⟩
 obtain⟨W0,hW0⟩:∃ W0,W0=(w.alloc (.cells #[.int .i64 0,.int .i64 0,.int .i64 0,.int .u64 0,.int .u64 0,.int .u64 0,.int .u64 0,.slice none 0 0] 141)):=⟨_,rfl⟩
 have hr0:ReadAt W0 rb s:=by rw[hW0];exact Zd h _
 have hN0:W0.heap[nb]?=some (.cells (Zh (setA Q4.none)) 141 (0,0)):=by rw[hW0,←hnb];exact Ze _ _
 have hO0:Only (fun k=>k=rb) w W0:=by rw[hW0];exact(Only.refl _ w).alloc _
 have hnw:nb<W0.heap.size:=Za hN0;have HATOM:=Hd (hatom W0 hr0);clear hatom hr0;rw[hW0]at HATOM;have HN:=Hd hN0;clear hN0;have hS0:sign x r=match Z5 r.tail with|none=>none|some (m,n,r')=>some (.rep m n x,r'):=by unfold sign;rw[h42,h43,h63,h123];rfl
 have htl:=Xs r;have HT42:=Hd (fun w1 (h1:ReadAt w1 rb r)=>Zu w1 rb 42 r h1 h42);have HT43:=Hd (fun w1 (h1:ReadAt w1 rb r)=>Zu w1 rb 43 r h1 h43);have HT63:=Hd (fun w1 (h1:ReadAt w1 rb r)=>Zu w1 rb 63 r h1 h63);have HT123:=Hd (fun w1 (h1:ReadAt w1 rb r)=>ZI w1 rb 123 r.tail (Zr h123▸h1));have HNA:=Hd (fun w1 (h1:ReadAt w1 rb r.tail)=>(Xh w1 rb r.tail h1 (by omega)).mono fun e w2 hR=>hR.none hn)
 have hS:sign x r=none:=by
  rw[hS0];simp[Z5,hn]
 rw[hS];clear hS hS0
 go_enter Tryz.func186,Tryz.ntmps186
 go_wp2_with (first
  |(go_at_call 192;(with_reducible refine HATOM.out.mono ?_);rintro e w1 ⟨k,mn,mx,s0,s1,s2,s3,a,cap,l,hX,rfl,h1,o1,hXin,hXb⟩;rw[←hW0]at o1 hXb;have hw1:=o1.size;have h2:ReadAt (w1.alloc (.cells #[.int .i64 k,.int .i64 mn,.int .i64 mx,.int .u64 s0,.int .u64 s1,.int .u64 s2,.int .u64 s3,.slice a l.length cap] 141)) rb r:=Zd h1 _;have hE2:=Ze w1 (.cells #[.int .i64 k,.int .i64 mn,.int .i64 mx,.int .u64 s0,.int .u64 s1,.int .u64 s2,.int .u64 s3,.slice a l.length cap] 141);have hN2:=Zd ((o1.block nb (by omega) (by omega)).trans HN.out) (.cells #[.int .i64 k,.int .i64 mn,.int .i64 mx,.int .u64 s0,.int .u64 s1,.int .u64 s2,.int .u64 s3,.slice a l.length cap] 141);have hlE2:=Za hE2;have hlN2:=Za hN2;have hne:¬ w1.heap.size=rb:=(by omega);have hnn:¬ nb=rb:=(by omega);have HE2:=Hd hE2;have HN2:=Hd hN2;clear hE2 hN2;have o2:=o1.alloc (.cells #[.int .i64 k,.int .i64 mn,.int .i64 mx,.int .u64 s0,.int .u64 s1,.int .u64 s2,.int .u64 s3,.slice a l.length cap] 141);have hXI:=Hd hXin;have hXB:=Hd hXb;clear hXin hXb;have hlt1:rb<w1.heap.size:=(by omega))
  |(go_at_call 188;(with_reducible refine(HT42.out _ h2).mono ?_);rintro e w3 ⟨rfl,h3,o3⟩;have hE3:=(o3.block w1.heap.size hlE2 hne).trans HE2.out;have hN3:=(o3.block nb hlN2 hnn).trans HN2.out;have hlE3:=Za hE3;have hlN3:=Za hN3;have HE3:=Hd hE3;have HN3:=Hd hN3;clear hE3 hN3)
  |(go_at_call 188;(with_reducible refine(HT43.out _ h3).mono ?_);rintro e w4 ⟨rfl,h4,o4⟩;have hE4:=(o4.block w1.heap.size hlE3 hne).trans HE3.out;have hN4:=(o4.block nb hlN3 hnn).trans HN3.out;have hlE4:=Za hE4;have hlN4:=Za hN4;have HE4:=Hd hE4;have HN4:=Hd hN4;clear hE4 hN4)
  |(go_at_call 188;(with_reducible refine(HT63.out _ h4).mono ?_);rintro e w5 ⟨rfl,h5,o5⟩;have hE5:=(o5.block w1.heap.size hlE4 hne).trans HE4.out;have hN5:=(o5.block nb hlN4 hnn).trans HN4.out;have hlE5:=Za hE5;have hlN5:=Za hN5;have HE5:=Hd hE5;have HN5:=Hd hN5;clear hE5 hN5)
  |(go_at_call 188;(with_reducible refine(HT123.out _ h5).mono ?_);rintro e w6 ⟨rfl,h6,o6⟩;have hE6:=(o6.block w1.heap.size hlE5 hne).trans HE5.out;have hN6:=(o6.block nb hlN5 hnn).trans HN5.out;have hlE6:=Za hE6;have hlN6:=Za hN6;have HE6:=Hd hE6;have HN6:=Hd hN6;clear hE6 hN6)
  |(go_at_call 193;(with_reducible refine(HNA.out _ h6).mono ?_);rintro e w7 ⟨rfl,o7⟩))
 exact⟨rfl,((((((hO0.then o2).then o3).then o4).then o5).then o6).then o7),.inl ⟨rfl,rfl⟩⟩
theorem ZeU(w:World)(rb:Nat)(s:List UInt8)(h:ReadAt w rb s)(x:Rx)(r:List UInt8)(hr:r.length≤128)(hatom:Xp rb s x r)(h42:Zg 42 r=false)(h43:Zg 43 r=false)(h63:Zg 63 r=false)(h123:Zg 123 r=true)(m:Nat)(r1:List UInt8)(hn:Z0 r.tail=some (m,r1))(h44:Zg 44 r1=false)(h125:Zg 125 r1=false) :
 Calls Tryz.prog 186 #[.pointer (some ⟨rb,0,none⟩)] w fun e w'=>ZV rb w (sign x r) e w':=by
 have hlt:=Za h
 obtain⟨nb,hnb⟩:∃ nb,w.heap.size=nb:=⟨_,rfl⟩
 obtain⟨W0,hW0⟩:∃ W0,W0=(w.alloc (.cells #[.int .i64 0,.int .i64 0,.int .i64 0,.int .u64 0,.int .u64 0,.int .u64 0,.int .u64 0,.slice none 0 0] 141)):=⟨_,rfl⟩
 have hr0:ReadAt W0 rb s:=by rw[hW0];exact Zd h _
 have hN0:W0.heap[nb]?=some (.cells (Zh (setA Q4.none)) 141 (0,0)):=by rw[hW0,←hnb];exact Ze _ _
 have hO0:Only (fun k=>k=rb) w W0:=by rw[hW0];exact(Only.refl _ w).alloc _
 have hnw:nb<W0.heap.size:=Za hN0;have HATOM:=Hd (hatom W0 hr0);clear hatom hr0;rw[hW0]at HATOM;have HN:=Hd hN0;clear hN0;have hS0:sign x r=match Z5 r.tail with|none=>none|some (m,n,r')=>some (.rep m n x,r'):=by unfold sign;rw[h42,h43,h63,h123];rfl
 have htl:=Xs r;have HT42:=Hd (fun w1 (h1:ReadAt w1 rb r)=>Zu w1 rb 42 r h1 h42);have HT43:=Hd (fun w1 (h1:ReadAt w1 rb r)=>Zu w1 rb 43 r h1 h43);have HT63:=Hd (fun w1 (h1:ReadAt w1 rb r)=>Zu w1 rb 63 r h1 h63);have HT123:=Hd (fun w1 (h1:ReadAt w1 rb r)=>ZI w1 rb 123 r.tail (Zr h123▸h1));have hlm:=Xu hn;have HNA:=Hd (fun w1 (h1:ReadAt w1 rb r.tail)=>(Xh w1 rb r.tail h1 (by omega)).mono fun e w2 hR=>hR.some hn);have HT44:=Hd (fun w1 (h1:ReadAt w1 rb r1)=>Zu w1 rb 44 r1 h1 h44);have HT125:=Hd (fun w1 (h1:ReadAt w1 rb r1)=>Zu w1 rb 125 r1 h1 h125)
 have hS:sign x r=none:=by
  rw[hS0];simp[Z5,hn,h44,h125]
 rw[hS];clear hS hS0
 go_enter Tryz.func186,Tryz.ntmps186
 go_wp2_with (first
  |(go_at_call 192;(with_reducible refine HATOM.out.mono ?_);rintro e w1 ⟨k,mn,mx,s0,s1,s2,s3,a,cap,l,hX,rfl,h1,o1,hXin,hXb⟩;rw[←hW0]at o1 hXb;have hw1:=o1.size;have h2:ReadAt (w1.alloc (.cells #[.int .i64 k,.int .i64 mn,.int .i64 mx,.int .u64 s0,.int .u64 s1,.int .u64 s2,.int .u64 s3,.slice a l.length cap] 141)) rb r:=Zd h1 _;have hE2:=Ze w1 (.cells #[.int .i64 k,.int .i64 mn,.int .i64 mx,.int .u64 s0,.int .u64 s1,.int .u64 s2,.int .u64 s3,.slice a l.length cap] 141);have hN2:=Zd ((o1.block nb (by omega) (by omega)).trans HN.out) (.cells #[.int .i64 k,.int .i64 mn,.int .i64 mx,.int .u64 s0,.int .u64 s1,.int .u64 s2,.int .u64 s3,.slice a l.length cap] 141);have hlE2:=Za hE2;have hlN2:=Za hN2;have hne:¬ w1.heap.size=rb:=(by omega);have hnn:¬ nb=rb:=(by omega);have HE2:=Hd hE2;have HN2:=Hd hN2;clear hE2 hN2;have o2:=o1.alloc (.cells #[.int .i64 k,.int .i64 mn,.int .i64 mx,.int .u64 s0,.int .u64 s1,.int .u64 s2,.int .u64 s3,.slice a l.length cap] 141);have hXI:=Hd hXin;have hXB:=Hd hXb;clear hXin hXb;have hlt1:rb<w1.heap.size:=(by omega))
  |(go_at_call 188;(with_reducible refine(HT42.out _ h2).mono ?_);rintro e w3 ⟨rfl,h3,o3⟩;have hE3:=(o3.block w1.heap.size hlE2 hne).trans HE2.out;have hN3:=(o3.block nb hlN2 hnn).trans HN2.out;have hlE3:=Za hE3;have hlN3:=Za hN3;have HE3:=Hd hE3;have HN3:=Hd hN3;clear hE3 hN3)
  |(go_at_call 188;(with_reducible refine(HT43.out _ h3).mono ?_);rintro e w4 ⟨rfl,h4,o4⟩;have hE4:=(o4.block w1.heap.size hlE3 hne).trans HE3.out;have hN4:=(o4.block nb hlN3 hnn).trans HN3.out;have hlE4:=Za hE4;have hlN4:=Za hN4;have HE4:=Hd hE4;have HN4:=Hd hN4;clear hE4 hN4)
  |(go_at_call 188;(with_reducible refine(HT63.out _ h4).mono ?_);rintro e w5 ⟨rfl,h5,o5⟩;have hE5:=(o5.block w1.heap.size hlE4 hne).trans HE4.out;have hN5:=(o5.block nb hlN4 hnn).trans HN4.out;have hlE5:=Za hE5;have hlN5:=Za hN5;have HE5:=Hd hE5;have HN5:=Hd hN5;clear hE5 hN5)
  |(go_at_call 188;(with_reducible refine(HT123.out _ h5).mono ?_);rintro e w6 ⟨rfl,h6,o6⟩;have hE6:=(o6.block w1.heap.size hlE5 hne).trans HE5.out;have hN6:=(o6.block nb hlN5 hnn).trans HN5.out;have hlE6:=Za hE6;have hlN6:=Za hN6;have HE6:=Hd hE6;have HN6:=Hd hN6;clear hE6 hN6)
  |(go_at_call 193;(with_reducible refine(HNA.out _ h6).mono ?_);rintro e w7 ⟨rfl,h7,o7⟩;have hE7:=(o7.block w1.heap.size hlE6 hne).trans HE6.out;have hN7:=(o7.block nb hlN6 hnn).trans HN6.out;have hlE7:=Za hE7;have hlN7:=Za hN7;have HE7:=Hd hE7;have HN7:=Hd hN7;clear hE7 hN7)
  |(go_at_call 188;(with_reducible refine(HT44.out _ h7).mono ?_);rintro e w8 ⟨rfl,h8,o8⟩;have hE8:=(o8.block w1.heap.size hlE7 hne).trans HE7.out;have hN8:=(o8.block nb hlN7 hnn).trans HN7.out;have hlE8:=Za hE8;have hlN8:=Za hN8;have HE8:=Hd hE8;have HN8:=Hd hN8;clear hE8 hN8)
  |(go_at_call 188;(with_reducible refine(HT125.out _ h8).mono ?_);rintro e w9 ⟨rfl,h9,o9⟩;have hE9:=(o9.block w1.heap.size hlE8 hne).trans HE8.out;have hN9:=(o9.block nb hlN8 hnn).trans HN8.out;have hlE9:=Za hE9;have hlN9:=Za hN9;have HE9:=Hd hE9;have HN9:=Hd hN9;clear hE9 hN9)
  |(go_at_call 174;refine(XR rfl _).mono ?_;rintro e wm ⟨rfl,hwm⟩;have hwm:=hwm.symm;subst hwm))
 exact⟨rfl,((((((((hO0.then o2).then o3).then o4).then o5).then o6).then o7).then o8).then o9),.inl ⟨rfl,rfl⟩⟩
theorem ZeT(w:World)(rb:Nat)(s:List UInt8)(h:ReadAt w rb s)(x:Rx)(r:List UInt8)(hr:r.length≤128)(hatom:Xp rb s x r)(h42:Zg 42 r=false)(h43:Zg 43 r=false)(h63:Zg 63 r=false)(h123:Zg 123 r=true)(m:Nat)(r1:List UInt8)(hn:Z0 r.tail=some (m,r1))(h44:Zg 44 r1=false)(h125:Zg 125 r1=true) :
 Calls Tryz.prog 186 #[.pointer (some ⟨rb,0,none⟩)] w fun e w'=>ZV rb w (sign x r) e w':=by
 have hlt:=Za h
 obtain⟨nb,hnb⟩:∃ nb,w.heap.size=nb:=⟨_,rfl⟩
 obtain⟨W0,hW0⟩:∃ W0,W0=(w.alloc (.cells #[.int .i64 0,.int .i64 0,.int .i64 0,.int .u64 0,.int .u64 0,.int .u64 0,.int .u64 0,.slice none 0 0] 141)):=⟨_,rfl⟩
 have hr0:ReadAt W0 rb s:=by rw[hW0];exact Zd h _
 have hN0:W0.heap[nb]?=some (.cells (Zh (setA Q4.none)) 141 (0,0)):=by rw[hW0,←hnb];exact Ze _ _
 have hO0:Only (fun k=>k=rb) w W0:=by rw[hW0];exact(Only.refl _ w).alloc _
 have hnw:nb<W0.heap.size:=Za hN0;have HATOM:=Hd (hatom W0 hr0);clear hatom hr0;rw[hW0]at HATOM;have HN:=Hd hN0;clear hN0;have hS0:sign x r=match Z5 r.tail with|none=>none|some (m,n,r')=>some (.rep m n x,r'):=by unfold sign;rw[h42,h43,h63,h123];rfl
 have htl:=Xs r;have HT42:=Hd (fun w1 (h1:ReadAt w1 rb r)=>Zu w1 rb 42 r h1 h42);have HT43:=Hd (fun w1 (h1:ReadAt w1 rb r)=>Zu w1 rb 43 r h1 h43);have HT63:=Hd (fun w1 (h1:ReadAt w1 rb r)=>Zu w1 rb 63 r h1 h63);have HT123:=Hd (fun w1 (h1:ReadAt w1 rb r)=>ZI w1 rb 123 r.tail (Zr h123▸h1));have hlm:=Xu hn;have HNA:=Hd (fun w1 (h1:ReadAt w1 rb r.tail)=>(Xh w1 rb r.tail h1 (by omega)).mono fun e w2 hR=>hR.some hn);have HT44:=Hd (fun w1 (h1:ReadAt w1 rb r1)=>Zu w1 rb 44 r1 h1 h44);have HT125:=Hd (fun w1 (h1:ReadAt w1 rb r1)=>ZI w1 rb 125 r1.tail (Zr h125▸h1))
 have hS:sign x r=some (.rep (m:Nat) (m:Nat) x,r1.tail):=by
  rw[hS0];simp[Z5,hn,h44,h125]
 rw[hS];clear hS hS0;have hbm:(0:Int)≤(m:Nat)∧((m:Nat):Int)≤15:=by omega
 have hbn:(-1:Int)≤(m:Nat)∧((m:Nat):Int)≤15:=by omega
 go_enter Tryz.func186,Tryz.ntmps186
 go_wp2_with (first
  |(go_at_call 192;(with_reducible refine HATOM.out.mono ?_);rintro e w1 ⟨k,mn,mx,s0,s1,s2,s3,a,cap,l,hX,rfl,h1,o1,hXin,hXb⟩;rw[←hW0]at o1 hXb;have hw1:=o1.size;have h2:ReadAt (w1.alloc (.cells #[.int .i64 k,.int .i64 mn,.int .i64 mx,.int .u64 s0,.int .u64 s1,.int .u64 s2,.int .u64 s3,.slice a l.length cap] 141)) rb r:=Zd h1 _;have hE2:=Ze w1 (.cells #[.int .i64 k,.int .i64 mn,.int .i64 mx,.int .u64 s0,.int .u64 s1,.int .u64 s2,.int .u64 s3,.slice a l.length cap] 141);have hN2:=Zd ((o1.block nb (by omega) (by omega)).trans HN.out) (.cells #[.int .i64 k,.int .i64 mn,.int .i64 mx,.int .u64 s0,.int .u64 s1,.int .u64 s2,.int .u64 s3,.slice a l.length cap] 141);have hlE2:=Za hE2;have hlN2:=Za hN2;have hne:¬ w1.heap.size=rb:=(by omega);have hnn:¬ nb=rb:=(by omega);have HE2:=Hd hE2;have HN2:=Hd hN2;clear hE2 hN2;have o2:=o1.alloc (.cells #[.int .i64 k,.int .i64 mn,.int .i64 mx,.int .u64 s0,.int .u64 s1,.int .u64 s2,.int .u64 s3,.slice a l.length cap] 141);have hXI:=Hd hXin;have hXB:=Hd hXb;clear hXin hXb;have hlt1:rb<w1.heap.size:=(by omega))
  |(go_at_call 188;(with_reducible refine(HT42.out _ h2).mono ?_);rintro e w3 ⟨rfl,h3,o3⟩;have hE3:=(o3.block w1.heap.size hlE2 hne).trans HE2.out;have hN3:=(o3.block nb hlN2 hnn).trans HN2.out;have hlE3:=Za hE3;have hlN3:=Za hN3;have HE3:=Hd hE3;have HN3:=Hd hN3;clear hE3 hN3)
  |(go_at_call 188;(with_reducible refine(HT43.out _ h3).mono ?_);rintro e w4 ⟨rfl,h4,o4⟩;have hE4:=(o4.block w1.heap.size hlE3 hne).trans HE3.out;have hN4:=(o4.block nb hlN3 hnn).trans HN3.out;have hlE4:=Za hE4;have hlN4:=Za hN4;have HE4:=Hd hE4;have HN4:=Hd hN4;clear hE4 hN4)
  |(go_at_call 188;(with_reducible refine(HT63.out _ h4).mono ?_);rintro e w5 ⟨rfl,h5,o5⟩;have hE5:=(o5.block w1.heap.size hlE4 hne).trans HE4.out;have hN5:=(o5.block nb hlN4 hnn).trans HN4.out;have hlE5:=Za hE5;have hlN5:=Za hN5;have HE5:=Hd hE5;have HN5:=Hd hN5;clear hE5 hN5)
  |(go_at_call 188;(with_reducible refine(HT123.out _ h5).mono ?_);rintro e w6 ⟨rfl,h6,o6⟩;have hE6:=(o6.block w1.heap.size hlE5 hne).trans HE5.out;have hN6:=(o6.block nb hlN5 hnn).trans HN5.out;have hlE6:=Za hE6;have hlN6:=Za hN6;have HE6:=Hd hE6;have HN6:=Hd hN6;clear hE6 hN6)
  |(go_at_call 193;(with_reducible refine(HNA.out _ h6).mono ?_);rintro e w7 ⟨rfl,h7,o7⟩;have hE7:=(o7.block w1.heap.size hlE6 hne).trans HE6.out;have hN7:=(o7.block nb hlN6 hnn).trans HN6.out;have hlE7:=Za hE7;have hlN7:=Za hN7;have HE7:=Hd hE7;have HN7:=Hd hN7;clear hE7 hN7)
  |(go_at_call 188;(with_reducible refine(HT44.out _ h7).mono ?_);rintro e w8 ⟨rfl,h8,o8⟩;have hE8:=(o8.block w1.heap.size hlE7 hne).trans HE7.out;have hN8:=(o8.block nb hlN7 hnn).trans HN7.out;have hlE8:=Za hE8;have hlN8:=Za hN8;have HE8:=Hd hE8;have HN8:=Hd hN8;clear hE8 hN8)
  |(go_at_call 188;(with_reducible refine(HT125.out _ h8).mono ?_);rintro e w9 ⟨rfl,h9,o9⟩;have hE9:=(o9.block w1.heap.size hlE8 hne).trans HE8.out;have hN9:=(o9.block nb hlN8 hnn).trans HN8.out;have hlE9:=Za hE9;have hlN9:=Za hN9;have HE9:=Hd hE9;have HN9:=Hd hN9;clear hE9 hN9)
  |(go_at_call 174;refine(Xr rfl _).mono ?_;rintro e wm ⟨rfl,hwm⟩;have hwm:=hwm.symm;subst hwm)
  |(refine wpList_load_row rfl 141 (.tmp 3) ?_ w1.heap.size ?_ 141 #[.int .i64 k,.int .i64 mn,.int .i64 mx,.int .u64 s0,.int .u64 s1,.int .u64 s2,.int .u64 s3,.slice a l.length cap] (0,0) _ ?_ Tryz.underlying141 rfl ZF ?_;(with_reducible rfl);rfl;exact HE9.out)
  |(refine wpList_store_row rfl 141 (.tmp 2) (.tmp 52) ?_ nb #[.int .i64 3,.int .i64 (m:Nat),.int .i64 (m:Nat),.int .u64 0,.int .u64 0,.int .u64 0,.int .u64 0,.slice (some ⟨w9.heap.size,0,none⟩) 1 1] ?_ ?_ 141 (Zh (setA Q4.none)) ?_ ZF rfl (Zl (repA (m:Nat) (m:Nat) w9.heap.size (RxA.node k mn mx s0 s1 s2 s3 a cap l))) ?_;(with_reducible rfl);rfl;rfl;exact Zd HN9.out _))
 refine bodyPost_ret (results_cell_row rfl _ _ nb 141 #[.int .i64 3,.int .i64 (m:Nat),.int .i64 (m:Nat),.int .u64 0,.int .u64 0,.int .u64 0,.int .u64 0,.slice (some ⟨w9.heap.size,0,none⟩) 1 1] (0,0) _ rfl (setRow_heap _ _ _ _ _ _ (Zd HN9.out (.cells #[.int .i64 k,.int .i64 mn,.int .i64 mx,.int .u64 s0,.int .u64 s1,.int .u64 s2,.int .u64 s3,.slice a l.length cap] 141))) Tryz.underlying141 rfl ZF) rfl ?_
 have oc:=((((((o3.then o4).then o5).then o6).then o7).then o8).then o9)
 have hkk:=oc.size;simp only[World.size_alloc]at hkk;obtain⟨hin,hbl⟩:=VK (wk:=(w9.alloc (.cells #[.int .i64 k,.int .i64 mn,.int .i64 mx,.int .u64 s0,.int .u64 s1,.int .u64 s2,.int .u64 s3,.slice a l.length cap] 141)).setRow nb #[.int .i64 3,.int .i64 (m:Nat),.int .i64 (m:Nat),.int .u64 0,.int .u64 0,.int .u64 0,.int .u64 0,.slice (some ⟨w9.heap.size,0,none⟩) 1 1]) hXI.out hXB.out (fun b h1 h2=>by rw[setRow_other _ _ _ _ (by omega),Below.heap_alloc _ _ _ (by omega),oc.block b (by simp;omega) (by omega),Below.heap_alloc _ _ _ h2]) (by simp;omega);have hrin:=UA (m:=(m:Nat)) (n:=(m:Nat)) hbm hbn hin ((setRow_other (w9.alloc (.cells #[.int .i64 k,.int .i64 mn,.int .i64 mx,.int .u64 s0,.int .u64 s1,.int .u64 s2,.int .u64 s3,.slice a l.length cap] 141)) nb w9.heap.size #[.int .i64 3,.int .i64 (m:Nat),.int .i64 (m:Nat),.int .u64 0,.int .u64 0,.int .u64 0,.int .u64 0,.slice (some ⟨w9.heap.size,0,none⟩) 1 1] (by omega)).trans (Ze _ _));refine⟨(((hO0.then o2).then oc).alloc _).setRow (q:=nb) (.inr (by omega)) _,.inr ⟨repA (m:Nat) (m:Nat) w9.heap.size (RxA.node k mn mx s0 s1 s2 s3 a cap l),r1.tail,by rw[YN,←hX],rfl,(setRow_other _ _ _ _ (by omega)).trans (Zd h9 _),hrin,fun b hb=>?_⟩⟩;rcases X1 _ _ _ _ b hb with rfl|hb
 ·have:=hO0.size;simp only[size_setRow,World.size_alloc];omega
 ·have:=hbl b hb;have:=hO0.size;omega
theorem ZeS(w:World)(rb:Nat)(s:List UInt8)(h:ReadAt w rb s)(x:Rx)(r:List UInt8)(hr:r.length≤128)(hatom:Xp rb s x r)(h42:Zg 42 r=false)(h43:Zg 43 r=false)(h63:Zg 63 r=false)(h123:Zg 123 r=true)(m:Nat)(r1:List UInt8)(hn:Z0 r.tail=some (m,r1))(h44:Zg 44 r1=true)(h2t:r1.tail=[]) :
 Calls Tryz.prog 186 #[.pointer (some ⟨rb,0,none⟩)] w fun e w'=>ZV rb w (sign x r) e w':=by
 have hlt:=Za h
 obtain⟨nb,hnb⟩:∃ nb,w.heap.size=nb:=⟨_,rfl⟩
 obtain⟨W0,hW0⟩:∃ W0,W0=(w.alloc (.cells #[.int .i64 0,.int .i64 0,.int .i64 0,.int .u64 0,.int .u64 0,.int .u64 0,.int .u64 0,.slice none 0 0] 141)):=⟨_,rfl⟩
 have hr0:ReadAt W0 rb s:=by rw[hW0];exact Zd h _
 have hN0:W0.heap[nb]?=some (.cells (Zh (setA Q4.none)) 141 (0,0)):=by rw[hW0,←hnb];exact Ze _ _
 have hO0:Only (fun k=>k=rb) w W0:=by rw[hW0];exact(Only.refl _ w).alloc _
 have hnw:nb<W0.heap.size:=Za hN0;have HATOM:=Hd (hatom W0 hr0);clear hatom hr0;rw[hW0]at HATOM;have HN:=Hd hN0;clear hN0;have hS0:sign x r=match Z5 r.tail with|none=>none|some (m,n,r')=>some (.rep m n x,r'):=by unfold sign;rw[h42,h43,h63,h123];rfl
 have htl:=Xs r;have HT42:=Hd (fun w1 (h1:ReadAt w1 rb r)=>Zu w1 rb 42 r h1 h42);have HT43:=Hd (fun w1 (h1:ReadAt w1 rb r)=>Zu w1 rb 43 r h1 h43);have HT63:=Hd (fun w1 (h1:ReadAt w1 rb r)=>Zu w1 rb 63 r h1 h63);have HT123:=Hd (fun w1 (h1:ReadAt w1 rb r)=>ZI w1 rb 123 r.tail (Zr h123▸h1));have hlm:=Xu hn;have HNA:=Hd (fun w1 (h1:ReadAt w1 rb r.tail)=>(Xh w1 rb r.tail h1 (by omega)).mono fun e w2 hR=>hR.some hn)
 have HT44:=Hd (fun w1 (h1:ReadAt w1 rb r1)=>show Calls Tryz.prog 188 #[.pointer (some ⟨rb,0,none⟩),.string ⟨#[44]⟩] w1 fun e w'=>e=.returned (.bool true)∧ReadAt w' rb []∧Only (fun k=>k=rb) w1 w' from by
  have h:=ZI w1 rb 44 r1.tail (by rw[←Zr h44];exact h1);rw[h2t]at h
  exact h)
 have HT125:=Hd (fun w1 (h1:ReadAt w1 rb [])=>Zu w1 rb 125 [] h1 rfl)
 have hS:sign x r=none:=by
  rw[hS0];have hst:Zg 125 ([]:List UInt8)=false:=rfl;have hnn:Z0 []=none:=rfl;simp[Z5,hn,h44,h2t,hst,hnn]
 rw[hS];clear hS hS0;clear h2t
 go_enter Tryz.func186,Tryz.ntmps186
 go_wp2_with (first
  |(go_at_call 192;(with_reducible refine HATOM.out.mono ?_);rintro e w1 ⟨k,mn,mx,s0,s1,s2,s3,a,cap,l,hX,rfl,h1,o1,hXin,hXb⟩;rw[←hW0]at o1 hXb;have hw1:=o1.size;have h2:ReadAt (w1.alloc (.cells #[.int .i64 k,.int .i64 mn,.int .i64 mx,.int .u64 s0,.int .u64 s1,.int .u64 s2,.int .u64 s3,.slice a l.length cap] 141)) rb r:=Zd h1 _;have hE2:=Ze w1 (.cells #[.int .i64 k,.int .i64 mn,.int .i64 mx,.int .u64 s0,.int .u64 s1,.int .u64 s2,.int .u64 s3,.slice a l.length cap] 141);have hN2:=Zd ((o1.block nb (by omega) (by omega)).trans HN.out) (.cells #[.int .i64 k,.int .i64 mn,.int .i64 mx,.int .u64 s0,.int .u64 s1,.int .u64 s2,.int .u64 s3,.slice a l.length cap] 141);have hlE2:=Za hE2;have hlN2:=Za hN2;have hne:¬ w1.heap.size=rb:=(by omega);have hnn:¬ nb=rb:=(by omega);have HE2:=Hd hE2;have HN2:=Hd hN2;clear hE2 hN2;have o2:=o1.alloc (.cells #[.int .i64 k,.int .i64 mn,.int .i64 mx,.int .u64 s0,.int .u64 s1,.int .u64 s2,.int .u64 s3,.slice a l.length cap] 141);have hXI:=Hd hXin;have hXB:=Hd hXb;clear hXin hXb;have hlt1:rb<w1.heap.size:=(by omega))
  |(go_at_call 188;(with_reducible refine(HT42.out _ h2).mono ?_);rintro e w3 ⟨rfl,h3,o3⟩;have hE3:=(o3.block w1.heap.size hlE2 hne).trans HE2.out;have hN3:=(o3.block nb hlN2 hnn).trans HN2.out;have hlE3:=Za hE3;have hlN3:=Za hN3;have HE3:=Hd hE3;have HN3:=Hd hN3;clear hE3 hN3)
  |(go_at_call 188;(with_reducible refine(HT43.out _ h3).mono ?_);rintro e w4 ⟨rfl,h4,o4⟩;have hE4:=(o4.block w1.heap.size hlE3 hne).trans HE3.out;have hN4:=(o4.block nb hlN3 hnn).trans HN3.out;have hlE4:=Za hE4;have hlN4:=Za hN4;have HE4:=Hd hE4;have HN4:=Hd hN4;clear hE4 hN4)
  |(go_at_call 188;(with_reducible refine(HT63.out _ h4).mono ?_);rintro e w5 ⟨rfl,h5,o5⟩;have hE5:=(o5.block w1.heap.size hlE4 hne).trans HE4.out;have hN5:=(o5.block nb hlN4 hnn).trans HN4.out;have hlE5:=Za hE5;have hlN5:=Za hN5;have HE5:=Hd hE5;have HN5:=Hd hN5;clear hE5 hN5)
  |(go_at_call 188;(with_reducible refine(HT123.out _ h5).mono ?_);rintro e w6 ⟨rfl,h6,o6⟩;have hE6:=(o6.block w1.heap.size hlE5 hne).trans HE5.out;have hN6:=(o6.block nb hlN5 hnn).trans HN5.out;have hlE6:=Za hE6;have hlN6:=Za hN6;have HE6:=Hd hE6;have HN6:=Hd hN6;clear hE6 hN6)
  |(go_at_call 193;(with_reducible refine(HNA.out _ h6).mono ?_);rintro e w7 ⟨rfl,h7,o7⟩;have hE7:=(o7.block w1.heap.size hlE6 hne).trans HE6.out;have hN7:=(o7.block nb hlN6 hnn).trans HN6.out;have hlE7:=Za hE7;have hlN7:=Za hN7;have HE7:=Hd hE7;have HN7:=Hd hN7;clear hE7 hN7)
  |(go_at_call 188;(with_reducible refine(HT44.out _ h7).mono ?_);rintro e w8 ⟨rfl,h8,o8⟩;have hE8:=(o8.block w1.heap.size hlE7 hne).trans HE7.out;have hN8:=(o8.block nb hlN7 hnn).trans HN7.out;have hlE8:=Za hE8;have hlN8:=Za hN8;have HE8:=Hd hE8;have HN8:=Hd hN8;clear hE8 hN8;have hc8:w8.cell? ⟨rb,0,none⟩=some (.string ⟨#[]⟩):=ZK h8)
  |(go_at_call 188;(with_reducible refine(HT125.out _ h8).mono ?_);rintro e w9 ⟨rfl,h9,o9⟩;have hE9:=(o9.block w1.heap.size hlE8 hne).trans HE8.out;have hN9:=(o9.block nb hlN8 hnn).trans HN8.out;have hlE9:=Za hE9;have hlN9:=Za hN9;have HE9:=Hd hE9;have HN9:=Hd hN9;clear hE9 hN9)
  |(go_at_call 174;refine(XR rfl _).mono ?_;rintro e wm ⟨rfl,hwm⟩;have hwm:=hwm.symm;subst hwm))
 exact⟨rfl,((((((((hO0.then o2).then o3).then o4).then o5).then o6).then o7).then o8).then o9),.inl ⟨rfl,rfl⟩⟩
theorem ZeR(w:World)(rb:Nat)(s:List UInt8)(h:ReadAt w rb s)(x:Rx)(r:List UInt8)(hr:r.length≤128)(hatom:Xp rb s x r)(h42:Zg 42 r=false)(h43:Zg 43 r=false)(h63:Zg 63 r=false)(h123:Zg 123 r=true)(m:Nat)(r1:List UInt8)(hn:Z0 r.tail=some (m,r1))(h44:Zg 44 r1=true)(r2:List UInt8)(h2t:r1.tail=r2)(u:List UInt8)(hr2:r2=125::u) :
 Calls Tryz.prog 186 #[.pointer (some ⟨rb,0,none⟩)] w fun e w'=>ZV rb w (sign x r) e w':=by
 have hlt:=Za h
 obtain⟨nb,hnb⟩:∃ nb,w.heap.size=nb:=⟨_,rfl⟩
 obtain⟨W0,hW0⟩:∃ W0,W0=(w.alloc (.cells #[.int .i64 0,.int .i64 0,.int .i64 0,.int .u64 0,.int .u64 0,.int .u64 0,.int .u64 0,.slice none 0 0] 141)):=⟨_,rfl⟩
 have hr0:ReadAt W0 rb s:=by rw[hW0];exact Zd h _
 have hN0:W0.heap[nb]?=some (.cells (Zh (setA Q4.none)) 141 (0,0)):=by rw[hW0,←hnb];exact Ze _ _
 have hO0:Only (fun k=>k=rb) w W0:=by rw[hW0];exact(Only.refl _ w).alloc _
 have hnw:nb<W0.heap.size:=Za hN0;have HATOM:=Hd (hatom W0 hr0);clear hatom hr0;rw[hW0]at HATOM;have HN:=Hd hN0;clear hN0;have hS0:sign x r=match Z5 r.tail with|none=>none|some (m,n,r')=>some (.rep m n x,r'):=by unfold sign;rw[h42,h43,h63,h123];rfl
 have htl:=Xs r;have HT42:=Hd (fun w1 (h1:ReadAt w1 rb r)=>Zu w1 rb 42 r h1 h42);have HT43:=Hd (fun w1 (h1:ReadAt w1 rb r)=>Zu w1 rb 43 r h1 h43);have HT63:=Hd (fun w1 (h1:ReadAt w1 rb r)=>Zu w1 rb 63 r h1 h63);have HT123:=Hd (fun w1 (h1:ReadAt w1 rb r)=>ZI w1 rb 123 r.tail (Zr h123▸h1));have hlm:=Xu hn;subst hr2;have HNA:=Hd (fun w1 (h1:ReadAt w1 rb r.tail)=>(Xh w1 rb r.tail h1 (by omega)).mono fun e w2 hR=>hR.some hn)
 have HT44:=Hd (fun w1 (h1:ReadAt w1 rb r1)=>show Calls Tryz.prog 188 #[.pointer (some ⟨rb,0,none⟩),.string ⟨#[44]⟩] w1 fun e w'=>e=.returned (.bool true)∧ReadAt w' rb (125::u)∧Only (fun k=>k=rb) w1 w' from by
  have h:=ZI w1 rb 44 r1.tail (by rw[←Zr h44];exact h1);rw[h2t]at h
  exact h)
 have HT125:=Hd (fun w1 (h1:ReadAt w1 rb (125::u))=>ZI w1 rb 125 u h1)
 obtain⟨S,HSS⟩:∃ S:ByteArray,Hid ((⟨(125::u).toArray⟩:ByteArray)=S):=⟨_,Hd rfl⟩
 obtain⟨hne,hem,hsz,hat,-⟩:=full 125 u HSS.out
 have hS:sign x r=some (.rep (m:Nat) (-1) x,u):=by
  rw[hS0];have hst:Zg 125 (125::u)=true:=by simp[Zg]
  simp[Z5,hn,h44,h2t,hst]
 rw[hS];clear hS hS0;have hbm:(0:Int)≤(m:Nat)∧((m:Nat):Int)≤15:=by omega
 have hbn:(-1:Int)≤(-1)∧((-1):Int)≤15:=by omega
 go_enter Tryz.func186,Tryz.ntmps186
 go_wp2_with (first
  |(go_at_call 192;(with_reducible refine HATOM.out.mono ?_);rintro e w1 ⟨k,mn,mx,s0,s1,s2,s3,a,cap,l,hX,rfl,h1,o1,hXin,hXb⟩;rw[←hW0]at o1 hXb;have hw1:=o1.size;have h2:ReadAt (w1.alloc (.cells #[.int .i64 k,.int .i64 mn,.int .i64 mx,.int .u64 s0,.int .u64 s1,.int .u64 s2,.int .u64 s3,.slice a l.length cap] 141)) rb r:=Zd h1 _;have hE2:=Ze w1 (.cells #[.int .i64 k,.int .i64 mn,.int .i64 mx,.int .u64 s0,.int .u64 s1,.int .u64 s2,.int .u64 s3,.slice a l.length cap] 141);have hN2:=Zd ((o1.block nb (by omega) (by omega)).trans HN.out) (.cells #[.int .i64 k,.int .i64 mn,.int .i64 mx,.int .u64 s0,.int .u64 s1,.int .u64 s2,.int .u64 s3,.slice a l.length cap] 141);have hlE2:=Za hE2;have hlN2:=Za hN2;have hne:¬ w1.heap.size=rb:=(by omega);have hnn:¬ nb=rb:=(by omega);have HE2:=Hd hE2;have HN2:=Hd hN2;clear hE2 hN2;have o2:=o1.alloc (.cells #[.int .i64 k,.int .i64 mn,.int .i64 mx,.int .u64 s0,.int .u64 s1,.int .u64 s2,.int .u64 s3,.slice a l.length cap] 141);have hXI:=Hd hXin;have hXB:=Hd hXb;clear hXin hXb;have hlt1:rb<w1.heap.size:=(by omega))
  |(go_at_call 188;(with_reducible refine(HT42.out _ h2).mono ?_);rintro e w3 ⟨rfl,h3,o3⟩;have hE3:=(o3.block w1.heap.size hlE2 hne).trans HE2.out;have hN3:=(o3.block nb hlN2 hnn).trans HN2.out;have hlE3:=Za hE3;have hlN3:=Za hN3;have HE3:=Hd hE3;have HN3:=Hd hN3;clear hE3 hN3)
  |(go_at_call 188;(with_reducible refine(HT43.out _ h3).mono ?_);rintro e w4 ⟨rfl,h4,o4⟩;have hE4:=(o4.block w1.heap.size hlE3 hne).trans HE3.out;have hN4:=(o4.block nb hlN3 hnn).trans HN3.out;have hlE4:=Za hE4;have hlN4:=Za hN4;have HE4:=Hd hE4;have HN4:=Hd hN4;clear hE4 hN4)
  |(go_at_call 188;(with_reducible refine(HT63.out _ h4).mono ?_);rintro e w5 ⟨rfl,h5,o5⟩;have hE5:=(o5.block w1.heap.size hlE4 hne).trans HE4.out;have hN5:=(o5.block nb hlN4 hnn).trans HN4.out;have hlE5:=Za hE5;have hlN5:=Za hN5;have HE5:=Hd hE5;have HN5:=Hd hN5;clear hE5 hN5)
  |(go_at_call 188;(with_reducible refine(HT123.out _ h5).mono ?_);rintro e w6 ⟨rfl,h6,o6⟩;have hE6:=(o6.block w1.heap.size hlE5 hne).trans HE5.out;have hN6:=(o6.block nb hlN5 hnn).trans HN5.out;have hlE6:=Za hE6;have hlN6:=Za hN6;have HE6:=Hd hE6;have HN6:=Hd hN6;clear hE6 hN6)
  |(go_at_call 193;(with_reducible refine(HNA.out _ h6).mono ?_);rintro e w7 ⟨rfl,h7,o7⟩;have hE7:=(o7.block w1.heap.size hlE6 hne).trans HE6.out;have hN7:=(o7.block nb hlN6 hnn).trans HN6.out;have hlE7:=Za hE7;have hlN7:=Za hN7;have HE7:=Hd hE7;have HN7:=Hd hN7;clear hE7 hN7)
  |(go_at_call 188;(with_reducible refine(HT44.out _ h7).mono ?_);rintro e w8 ⟨rfl,h8,o8⟩;have hE8:=(o8.block w1.heap.size hlE7 hne).trans HE7.out;have hN8:=(o8.block nb hlN7 hnn).trans HN7.out;have hlE8:=Za hE8;have hlN8:=Za hN8;have HE8:=Hd hE8;have HN8:=Hd hN8;clear hE8 hN8;have hS8:=h8;unfold ReadAt at hS8;rw[HSS.out]at hS8;have hc8:=ZK hS8;clear hS8)
  |(go_at_call 188;(with_reducible refine(HT125.out _ h8).mono ?_);rintro e w9 ⟨rfl,h9,o9⟩;have hE9:=(o9.block w1.heap.size hlE8 hne).trans HE8.out;have hN9:=(o9.block nb hlN8 hnn).trans HN8.out;have hlE9:=Za hE9;have hlN9:=Za hN9;have HE9:=Hd hE9;have HN9:=Hd hN9;clear hE9 hN9)
  |(go_at_call 174;refine(Xr rfl _).mono ?_;rintro e wm ⟨rfl,hwm⟩;have hwm:=hwm.symm;subst hwm)
  |(refine wpList_load_row rfl 141 (.tmp 3) ?_ w1.heap.size ?_ 141 #[.int .i64 k,.int .i64 mn,.int .i64 mx,.int .u64 s0,.int .u64 s1,.int .u64 s2,.int .u64 s3,.slice a l.length cap] (0,0) _ ?_ Tryz.underlying141 rfl ZF ?_;(with_reducible rfl);rfl;exact HE9.out)
  |(refine wpList_store_row rfl 141 (.tmp 2) (.tmp 52) ?_ nb #[.int .i64 3,.int .i64 (m:Nat),.int .i64 (-1),.int .u64 0,.int .u64 0,.int .u64 0,.int .u64 0,.slice (some ⟨w9.heap.size,0,none⟩) 1 1] ?_ ?_ 141 (Zh (setA Q4.none)) ?_ ZF rfl (Zl (repA (m:Nat) (-1) w9.heap.size (RxA.node k mn mx s0 s1 s2 s3 a cap l))) ?_;(with_reducible rfl);rfl;rfl;exact Zd HN9.out _))
 refine bodyPost_ret (results_cell_row rfl _ _ nb 141 #[.int .i64 3,.int .i64 (m:Nat),.int .i64 (-1),.int .u64 0,.int .u64 0,.int .u64 0,.int .u64 0,.slice (some ⟨w9.heap.size,0,none⟩) 1 1] (0,0) _ rfl (setRow_heap _ _ _ _ _ _ (Zd HN9.out (.cells #[.int .i64 k,.int .i64 mn,.int .i64 mx,.int .u64 s0,.int .u64 s1,.int .u64 s2,.int .u64 s3,.slice a l.length cap] 141))) Tryz.underlying141 rfl ZF) rfl ?_
 have oc:=((((((o3.then o4).then o5).then o6).then o7).then o8).then o9)
 have hkk:=oc.size;simp only[World.size_alloc]at hkk;obtain⟨hin,hbl⟩:=VK (wk:=(w9.alloc (.cells #[.int .i64 k,.int .i64 mn,.int .i64 mx,.int .u64 s0,.int .u64 s1,.int .u64 s2,.int .u64 s3,.slice a l.length cap] 141)).setRow nb #[.int .i64 3,.int .i64 (m:Nat),.int .i64 (-1),.int .u64 0,.int .u64 0,.int .u64 0,.int .u64 0,.slice (some ⟨w9.heap.size,0,none⟩) 1 1]) hXI.out hXB.out (fun b h1 h2=>by rw[setRow_other _ _ _ _ (by omega),Below.heap_alloc _ _ _ (by omega),oc.block b (by simp;omega) (by omega),Below.heap_alloc _ _ _ h2]) (by simp;omega);have hrin:=UA (m:=(m:Nat)) (n:=(-1)) hbm hbn hin ((setRow_other (w9.alloc (.cells #[.int .i64 k,.int .i64 mn,.int .i64 mx,.int .u64 s0,.int .u64 s1,.int .u64 s2,.int .u64 s3,.slice a l.length cap] 141)) nb w9.heap.size #[.int .i64 3,.int .i64 (m:Nat),.int .i64 (-1),.int .u64 0,.int .u64 0,.int .u64 0,.int .u64 0,.slice (some ⟨w9.heap.size,0,none⟩) 1 1] (by omega)).trans (Ze _ _));refine⟨(((hO0.then o2).then oc).alloc _).setRow (q:=nb) (.inr (by omega)) _,.inr ⟨repA (m:Nat) (-1) w9.heap.size (RxA.node k mn mx s0 s1 s2 s3 a cap l),u,by rw[YN,←hX],rfl,(setRow_other _ _ _ _ (by omega)).trans (Zd h9 _),hrin,fun b hb=>?_⟩⟩;rcases X1 _ _ _ _ b hb with rfl|hb
 ·have:=hO0.size;simp only[size_setRow,World.size_alloc];omega
 ·have:=hbl b hb;have:=hO0.size;omega
theorem ZeQ(w:World)(rb:Nat)(s:List UInt8)(h:ReadAt w rb s)(x:Rx)(r:List UInt8)(hr:r.length≤128)(hatom:Xp rb s x r)(h42:Zg 42 r=false)(h43:Zg 43 r=false)(h63:Zg 63 r=false)(h123:Zg 123 r=true)(m:Nat)(r1:List UInt8)(hn:Z0 r.tail=some (m,r1))(h44:Zg 44 r1=true)(r2:List UInt8)(h2t:r1.tail=r2)(c:UInt8)(u:List UInt8)(hr2:r2=c::u)(hc:c≠125)(hn2:Z0 r2=none) :
 Calls Tryz.prog 186 #[.pointer (some ⟨rb,0,none⟩)] w fun e w'=>ZV rb w (sign x r) e w':=by
 have hlt:=Za h
 obtain⟨nb,hnb⟩:∃ nb,w.heap.size=nb:=⟨_,rfl⟩
 obtain⟨W0,hW0⟩:∃ W0,W0=(w.alloc (.cells #[.int .i64 0,.int .i64 0,.int .i64 0,.int .u64 0,.int .u64 0,.int .u64 0,.int .u64 0,.slice none 0 0] 141)):=⟨_,rfl⟩
 have hr0:ReadAt W0 rb s:=by rw[hW0];exact Zd h _
 have hN0:W0.heap[nb]?=some (.cells (Zh (setA Q4.none)) 141 (0,0)):=by rw[hW0,←hnb];exact Ze _ _
 have hO0:Only (fun k=>k=rb) w W0:=by rw[hW0];exact(Only.refl _ w).alloc _
 have hnw:nb<W0.heap.size:=Za hN0;have HATOM:=Hd (hatom W0 hr0);clear hatom hr0;rw[hW0]at HATOM;have HN:=Hd hN0;clear hN0;have hS0:sign x r=match Z5 r.tail with|none=>none|some (m,n,r')=>some (.rep m n x,r'):=by unfold sign;rw[h42,h43,h63,h123];rfl
 have htl:=Xs r;have HT42:=Hd (fun w1 (h1:ReadAt w1 rb r)=>Zu w1 rb 42 r h1 h42);have HT43:=Hd (fun w1 (h1:ReadAt w1 rb r)=>Zu w1 rb 43 r h1 h43);have HT63:=Hd (fun w1 (h1:ReadAt w1 rb r)=>Zu w1 rb 63 r h1 h63);have HT123:=Hd (fun w1 (h1:ReadAt w1 rb r)=>ZI w1 rb 123 r.tail (Zr h123▸h1));have hlm:=Xu hn;subst hr2;have HNA:=Hd (fun w1 (h1:ReadAt w1 rb r.tail)=>(Xh w1 rb r.tail h1 (by omega)).mono fun e w2 hR=>hR.some hn)
 have HT44:=Hd (fun w1 (h1:ReadAt w1 rb r1)=>show Calls Tryz.prog 188 #[.pointer (some ⟨rb,0,none⟩),.string ⟨#[44]⟩] w1 fun e w'=>e=.returned (.bool true)∧ReadAt w' rb (c::u)∧Only (fun k=>k=rb) w1 w' from by
  have h:=ZI w1 rb 44 r1.tail (by rw[←Zr h44];exact h1);rw[h2t]at h
  exact h)
 obtain⟨S,HSS⟩:∃ S:ByteArray,Hid ((⟨(c::u).toArray⟩:ByteArray)=S):=⟨_,Hd rfl⟩
 obtain⟨hne,hem,hsz,hat,-⟩:=full c u HSS.out
 have hcz:((c.toNat:Int) != 125)=true:=by
  rw[bne_iff_ne];intro h;exact hc (UInt8.toNat_inj.1 (by show c.toNat=125;omega))
 have hcl:(c::u).length≤1000:=by have:=congrArg List.length h2t;have:=Xs r1;omega
 have hst:Zg 125 (c::u)=false:=by simp[Zg,hc]
 have HNB:=Hd (fun w1 (h1:ReadAt w1 rb (c::u))=>(Xh w1 rb (c::u) h1 (by omega)).mono fun e w2 hR=>hR.none hn2)
 have hS:sign x r=none:=by
  rw[hS0];simp[Z5,hn,h44,h2t,hst,hn2]
 rw[hS];clear hS hS0
 go_enter Tryz.func186,Tryz.ntmps186
 go_wp2_with (first
  |(go_at_call 192;(with_reducible refine HATOM.out.mono ?_);rintro e w1 ⟨k,mn,mx,s0,s1,s2,s3,a,cap,l,hX,rfl,h1,o1,hXin,hXb⟩;rw[←hW0]at o1 hXb;have hw1:=o1.size;have h2:ReadAt (w1.alloc (.cells #[.int .i64 k,.int .i64 mn,.int .i64 mx,.int .u64 s0,.int .u64 s1,.int .u64 s2,.int .u64 s3,.slice a l.length cap] 141)) rb r:=Zd h1 _;have hE2:=Ze w1 (.cells #[.int .i64 k,.int .i64 mn,.int .i64 mx,.int .u64 s0,.int .u64 s1,.int .u64 s2,.int .u64 s3,.slice a l.length cap] 141);have hN2:=Zd ((o1.block nb (by omega) (by omega)).trans HN.out) (.cells #[.int .i64 k,.int .i64 mn,.int .i64 mx,.int .u64 s0,.int .u64 s1,.int .u64 s2,.int .u64 s3,.slice a l.length cap] 141);have hlE2:=Za hE2;have hlN2:=Za hN2;have hne:¬ w1.heap.size=rb:=(by omega);have hnn:¬ nb=rb:=(by omega);have HE2:=Hd hE2;have HN2:=Hd hN2;clear hE2 hN2;have o2:=o1.alloc (.cells #[.int .i64 k,.int .i64 mn,.int .i64 mx,.int .u64 s0,.int .u64 s1,.int .u64 s2,.int .u64 s3,.slice a l.length cap] 141);have hXI:=Hd hXin;have hXB:=Hd hXb;clear hXin hXb;have hlt1:rb<w1.heap.size:=(by omega))
  |(go_at_call 188;(with_reducible refine(HT42.out _ h2).mono ?_);rintro e w3 ⟨rfl,h3,o3⟩;have hE3:=(o3.block w1.heap.size hlE2 hne).trans HE2.out;have hN3:=(o3.block nb hlN2 hnn).trans HN2.out;have hlE3:=Za hE3;have hlN3:=Za hN3;have HE3:=Hd hE3;have HN3:=Hd hN3;clear hE3 hN3)
  |(go_at_call 188;(with_reducible refine(HT43.out _ h3).mono ?_);rintro e w4 ⟨rfl,h4,o4⟩;have hE4:=(o4.block w1.heap.size hlE3 hne).trans HE3.out;have hN4:=(o4.block nb hlN3 hnn).trans HN3.out;have hlE4:=Za hE4;have hlN4:=Za hN4;have HE4:=Hd hE4;have HN4:=Hd hN4;clear hE4 hN4)
  |(go_at_call 188;(with_reducible refine(HT63.out _ h4).mono ?_);rintro e w5 ⟨rfl,h5,o5⟩;have hE5:=(o5.block w1.heap.size hlE4 hne).trans HE4.out;have hN5:=(o5.block nb hlN4 hnn).trans HN4.out;have hlE5:=Za hE5;have hlN5:=Za hN5;have HE5:=Hd hE5;have HN5:=Hd hN5;clear hE5 hN5)
  |(go_at_call 188;(with_reducible refine(HT123.out _ h5).mono ?_);rintro e w6 ⟨rfl,h6,o6⟩;have hE6:=(o6.block w1.heap.size hlE5 hne).trans HE5.out;have hN6:=(o6.block nb hlN5 hnn).trans HN5.out;have hlE6:=Za hE6;have hlN6:=Za hN6;have HE6:=Hd hE6;have HN6:=Hd hN6;clear hE6 hN6)
  |(go_at_call 193;(with_reducible refine(HNA.out _ h6).mono ?_);rintro e w7 ⟨rfl,h7,o7⟩;have hE7:=(o7.block w1.heap.size hlE6 hne).trans HE6.out;have hN7:=(o7.block nb hlN6 hnn).trans HN6.out;have hlE7:=Za hE7;have hlN7:=Za hN7;have HE7:=Hd hE7;have HN7:=Hd hN7;clear hE7 hN7)
  |(go_at_call 188;(with_reducible refine(HT44.out _ h7).mono ?_);rintro e w8 ⟨rfl,h8,o8⟩;have hE8:=(o8.block w1.heap.size hlE7 hne).trans HE7.out;have hN8:=(o8.block nb hlN7 hnn).trans HN7.out;have hlE8:=Za hE8;have hlN8:=Za hN8;have HE8:=Hd hE8;have HN8:=Hd hN8;clear hE8 hN8;have hS8:=h8;unfold ReadAt at hS8;rw[HSS.out]at hS8;have hc8:=ZK hS8;clear hS8)
  |(go_at_call 193;(with_reducible refine(HNB.out _ h8).mono ?_);rintro e w9 ⟨rfl,o9⟩))
 exact⟨rfl,((((((((hO0.then o2).then o3).then o4).then o5).then o6).then o7).then o8).then o9),.inl ⟨rfl,rfl⟩⟩
theorem ZcL(w:World)(rb:Nat)(s:List UInt8)(h:ReadAt w rb s)(x:Rx)(r:List UInt8)(hr:r.length≤128)(hatom:Xp rb s x r)(h42:Zg 42 r=false)(h43:Zg 43 r=false)(h63:Zg 63 r=false)(h123:Zg 123 r=true)(m:Nat)(r1:List UInt8)(hn:Z0 r.tail=some (m,r1))(h44:Zg 44 r1=true)(r2:List UInt8)(h2t:r1.tail=r2)(c:UInt8)(u:List UInt8)(hr2:r2=c::u)(hc:c≠125)(n:Nat)(r3:List UInt8)(hn2:Z0 r2=some (n,r3))(hmn:¬ m≤n) :
 Calls Tryz.prog 186 #[.pointer (some ⟨rb,0,none⟩)] w fun e w'=>ZV rb w (sign x r) e w':=by
 have hlt:=Za h
 obtain⟨nb,hnb⟩:∃ nb,w.heap.size=nb:=⟨_,rfl⟩
 obtain⟨W0,hW0⟩:∃ W0,W0=(w.alloc (.cells #[.int .i64 0,.int .i64 0,.int .i64 0,.int .u64 0,.int .u64 0,.int .u64 0,.int .u64 0,.slice none 0 0] 141)):=⟨_,rfl⟩
 have hr0:ReadAt W0 rb s:=by rw[hW0];exact Zd h _
 have hN0:W0.heap[nb]?=some (.cells (Zh (setA Q4.none)) 141 (0,0)):=by rw[hW0,←hnb];exact Ze _ _
 have hO0:Only (fun k=>k=rb) w W0:=by rw[hW0];exact(Only.refl _ w).alloc _
 have hnw:nb<W0.heap.size:=Za hN0;have HATOM:=Hd (hatom W0 hr0);clear hatom hr0;rw[hW0]at HATOM;have HN:=Hd hN0;clear hN0;have hS0:sign x r=match Z5 r.tail with|none=>none|some (m,n,r')=>some (.rep m n x,r'):=by unfold sign;rw[h42,h43,h63,h123];rfl
 have htl:=Xs r;have HT42:=Hd (fun w1 (h1:ReadAt w1 rb r)=>Zu w1 rb 42 r h1 h42);have HT43:=Hd (fun w1 (h1:ReadAt w1 rb r)=>Zu w1 rb 43 r h1 h43);have HT63:=Hd (fun w1 (h1:ReadAt w1 rb r)=>Zu w1 rb 63 r h1 h63);have HT123:=Hd (fun w1 (h1:ReadAt w1 rb r)=>ZI w1 rb 123 r.tail (Zr h123▸h1));have hlm:=Xu hn;subst hr2;have hln:=Xu hn2;have HNA:=Hd (fun w1 (h1:ReadAt w1 rb r.tail)=>(Xh w1 rb r.tail h1 (by omega)).mono fun e w2 hR=>hR.some hn)
 have HT44:=Hd (fun w1 (h1:ReadAt w1 rb r1)=>show Calls Tryz.prog 188 #[.pointer (some ⟨rb,0,none⟩),.string ⟨#[44]⟩] w1 fun e w'=>e=.returned (.bool true)∧ReadAt w' rb (c::u)∧Only (fun k=>k=rb) w1 w' from by
  have h:=ZI w1 rb 44 r1.tail (by rw[←Zr h44];exact h1);rw[h2t]at h
  exact h)
 obtain⟨S,HSS⟩:∃ S:ByteArray,Hid ((⟨(c::u).toArray⟩:ByteArray)=S):=⟨_,Hd rfl⟩
 obtain⟨hne,hem,hsz,hat,-⟩:=full c u HSS.out
 have hcz:((c.toNat:Int) != 125)=true:=by
  rw[bne_iff_ne];intro h;exact hc (UInt8.toNat_inj.1 (by show c.toNat=125;omega))
 have hcl:(c::u).length≤1000:=by have:=congrArg List.length h2t;have:=Xs r1;omega
 have hst:Zg 125 (c::u)=false:=by simp[Zg,hc]
 have HNB:=Hd (fun w1 (h1:ReadAt w1 rb (c::u))=>(Xh w1 rb (c::u) h1 (by omega)).mono fun e w2 hR=>hR.some hn2);have hmi:¬ (m:Int)≤n:=by omega
 have hS:sign x r=none:=by
  rw[hS0];simp[Z5,hn,h44,h2t,hst,hn2,hmn]
 rw[hS];clear hS hS0
 go_enter Tryz.func186,Tryz.ntmps186
 go_wp2_with (first
  |(go_at_call 192;(with_reducible refine HATOM.out.mono ?_);rintro e w1 ⟨k,mn,mx,s0,s1,s2,s3,a,cap,l,hX,rfl,h1,o1,hXin,hXb⟩;rw[←hW0]at o1 hXb;have hw1:=o1.size;have h2:ReadAt (w1.alloc (.cells #[.int .i64 k,.int .i64 mn,.int .i64 mx,.int .u64 s0,.int .u64 s1,.int .u64 s2,.int .u64 s3,.slice a l.length cap] 141)) rb r:=Zd h1 _;have hE2:=Ze w1 (.cells #[.int .i64 k,.int .i64 mn,.int .i64 mx,.int .u64 s0,.int .u64 s1,.int .u64 s2,.int .u64 s3,.slice a l.length cap] 141);have hN2:=Zd ((o1.block nb (by omega) (by omega)).trans HN.out) (.cells #[.int .i64 k,.int .i64 mn,.int .i64 mx,.int .u64 s0,.int .u64 s1,.int .u64 s2,.int .u64 s3,.slice a l.length cap] 141);have hlE2:=Za hE2;have hlN2:=Za hN2;have hne:¬ w1.heap.size=rb:=(by omega);have hnn:¬ nb=rb:=(by omega);have HE2:=Hd hE2;have HN2:=Hd hN2;clear hE2 hN2;have o2:=o1.alloc (.cells #[.int .i64 k,.int .i64 mn,.int .i64 mx,.int .u64 s0,.int .u64 s1,.int .u64 s2,.int .u64 s3,.slice a l.length cap] 141);have hXI:=Hd hXin;have hXB:=Hd hXb;clear hXin hXb;have hlt1:rb<w1.heap.size:=(by omega))
  |(go_at_call 188;(with_reducible refine(HT42.out _ h2).mono ?_);rintro e w3 ⟨rfl,h3,o3⟩;have hE3:=(o3.block w1.heap.size hlE2 hne).trans HE2.out;have hN3:=(o3.block nb hlN2 hnn).trans HN2.out;have hlE3:=Za hE3;have hlN3:=Za hN3;have HE3:=Hd hE3;have HN3:=Hd hN3;clear hE3 hN3)
  |(go_at_call 188;(with_reducible refine(HT43.out _ h3).mono ?_);rintro e w4 ⟨rfl,h4,o4⟩;have hE4:=(o4.block w1.heap.size hlE3 hne).trans HE3.out;have hN4:=(o4.block nb hlN3 hnn).trans HN3.out;have hlE4:=Za hE4;have hlN4:=Za hN4;have HE4:=Hd hE4;have HN4:=Hd hN4;clear hE4 hN4)
  |(go_at_call 188;(with_reducible refine(HT63.out _ h4).mono ?_);rintro e w5 ⟨rfl,h5,o5⟩;have hE5:=(o5.block w1.heap.size hlE4 hne).trans HE4.out;have hN5:=(o5.block nb hlN4 hnn).trans HN4.out;have hlE5:=Za hE5;have hlN5:=Za hN5;have HE5:=Hd hE5;have HN5:=Hd hN5;clear hE5 hN5)
  |(go_at_call 188;(with_reducible refine(HT123.out _ h5).mono ?_);rintro e w6 ⟨rfl,h6,o6⟩;have hE6:=(o6.block w1.heap.size hlE5 hne).trans HE5.out;have hN6:=(o6.block nb hlN5 hnn).trans HN5.out;have hlE6:=Za hE6;have hlN6:=Za hN6;have HE6:=Hd hE6;have HN6:=Hd hN6;clear hE6 hN6)
  |(go_at_call 193;(with_reducible refine(HNA.out _ h6).mono ?_);rintro e w7 ⟨rfl,h7,o7⟩;have hE7:=(o7.block w1.heap.size hlE6 hne).trans HE6.out;have hN7:=(o7.block nb hlN6 hnn).trans HN6.out;have hlE7:=Za hE7;have hlN7:=Za hN7;have HE7:=Hd hE7;have HN7:=Hd hN7;clear hE7 hN7)
  |(go_at_call 188;(with_reducible refine(HT44.out _ h7).mono ?_);rintro e w8 ⟨rfl,h8,o8⟩;have hE8:=(o8.block w1.heap.size hlE7 hne).trans HE7.out;have hN8:=(o8.block nb hlN7 hnn).trans HN7.out;have hlE8:=Za hE8;have hlN8:=Za hN8;have HE8:=Hd hE8;have HN8:=Hd hN8;clear hE8 hN8;have hS8:=h8;unfold ReadAt at hS8;rw[HSS.out]at hS8;have hc8:=ZK hS8;clear hS8)
  |(go_at_call 193;(with_reducible refine(HNB.out _ h8).mono ?_);rintro e w9 ⟨rfl,h9,o9⟩;have hE9:=(o9.block w1.heap.size hlE8 hne).trans HE8.out;have hN9:=(o9.block nb hlN8 hnn).trans HN8.out;have hlE9:=Za hE9;have hlN9:=Za hN9;have HE9:=Hd hE9;have HN9:=Hd hN9;clear hE9 hN9)
  |(go_at_call 174;refine(XR rfl _).mono ?_;rintro e wm ⟨rfl,hwm⟩;have hwm:=hwm.symm;subst hwm))
 exact⟨rfl,((((((((hO0.then o2).then o3).then o4).then o5).then o6).then o7).then o8).then o9),.inl ⟨rfl,rfl⟩⟩
theorem ZcK(w:World)(rb:Nat)(s:List UInt8)(h:ReadAt w rb s)(x:Rx)(r:List UInt8)(hr:r.length≤128)(hatom:Xp rb s x r)(h42:Zg 42 r=false)(h43:Zg 43 r=false)(h63:Zg 63 r=false)(h123:Zg 123 r=true)(m:Nat)(r1:List UInt8)(hn:Z0 r.tail=some (m,r1))(h44:Zg 44 r1=true)(r2:List UInt8)(h2t:r1.tail=r2)(c:UInt8)(u:List UInt8)(hr2:r2=c::u)(hc:c≠125)(n:Nat)(r3:List UInt8)(hn2:Z0 r2=some (n,r3))(hmn:m≤n)(h125:Zg 125 r3=false) :
 Calls Tryz.prog 186 #[.pointer (some ⟨rb,0,none⟩)] w fun e w'=>ZV rb w (sign x r) e w':=by
 have hlt:=Za h
 obtain⟨nb,hnb⟩:∃ nb,w.heap.size=nb:=⟨_,rfl⟩
 obtain⟨W0,hW0⟩:∃ W0,W0=(w.alloc (.cells #[.int .i64 0,.int .i64 0,.int .i64 0,.int .u64 0,.int .u64 0,.int .u64 0,.int .u64 0,.slice none 0 0] 141)):=⟨_,rfl⟩
 have hr0:ReadAt W0 rb s:=by rw[hW0];exact Zd h _
 have hN0:W0.heap[nb]?=some (.cells (Zh (setA Q4.none)) 141 (0,0)):=by rw[hW0,←hnb];exact Ze _ _
 have hO0:Only (fun k=>k=rb) w W0:=by rw[hW0];exact(Only.refl _ w).alloc _
 have hnw:nb<W0.heap.size:=Za hN0;have HATOM:=Hd (hatom W0 hr0);clear hatom hr0;rw[hW0]at HATOM;have HN:=Hd hN0;clear hN0;have hS0:sign x r=match Z5 r.tail with|none=>none|some (m,n,r')=>some (.rep m n x,r'):=by unfold sign;rw[h42,h43,h63,h123];rfl
 have htl:=Xs r;have HT42:=Hd (fun w1 (h1:ReadAt w1 rb r)=>Zu w1 rb 42 r h1 h42);have HT43:=Hd (fun w1 (h1:ReadAt w1 rb r)=>Zu w1 rb 43 r h1 h43);have HT63:=Hd (fun w1 (h1:ReadAt w1 rb r)=>Zu w1 rb 63 r h1 h63);have HT123:=Hd (fun w1 (h1:ReadAt w1 rb r)=>ZI w1 rb 123 r.tail (Zr h123▸h1));have hlm:=Xu hn;subst hr2;have hln:=Xu hn2;have HNA:=Hd (fun w1 (h1:ReadAt w1 rb r.tail)=>(Xh w1 rb r.tail h1 (by omega)).mono fun e w2 hR=>hR.some hn)
 have HT44:=Hd (fun w1 (h1:ReadAt w1 rb r1)=>show Calls Tryz.prog 188 #[.pointer (some ⟨rb,0,none⟩),.string ⟨#[44]⟩] w1 fun e w'=>e=.returned (.bool true)∧ReadAt w' rb (c::u)∧Only (fun k=>k=rb) w1 w' from by
  have h:=ZI w1 rb 44 r1.tail (by rw[←Zr h44];exact h1);rw[h2t]at h
  exact h)
 obtain⟨S,HSS⟩:∃ S:ByteArray,Hid ((⟨(c::u).toArray⟩:ByteArray)=S):=⟨_,Hd rfl⟩
 obtain⟨hne,hem,hsz,hat,-⟩:=full c u HSS.out
 have hcz:((c.toNat:Int) != 125)=true:=by
  rw[bne_iff_ne];intro h;exact hc (UInt8.toNat_inj.1 (by show c.toNat=125;omega))
 have hcl:(c::u).length≤1000:=by have:=congrArg List.length h2t;have:=Xs r1;omega
 have hst:Zg 125 (c::u)=false:=by simp[Zg,hc]
 have HNB:=Hd (fun w1 (h1:ReadAt w1 rb (c::u))=>(Xh w1 rb (c::u) h1 (by omega)).mono fun e w2 hR=>hR.some hn2);have HT125:=Hd (fun w1 (h1:ReadAt w1 rb r3)=>Zu w1 rb 125 r3 h1 h125);have hmi:(m:Int)≤n:=by omega
 have hS:sign x r=none:=by
  rw[hS0];simp[Z5,hn,h44,h2t,hst,hn2,hmn,h125]
 rw[hS];clear hS hS0
 go_enter Tryz.func186,Tryz.ntmps186
 go_wp2_with (first
  |(go_at_call 192;(with_reducible refine HATOM.out.mono ?_);rintro e w1 ⟨k,mn,mx,s0,s1,s2,s3,a,cap,l,hX,rfl,h1,o1,hXin,hXb⟩;rw[←hW0]at o1 hXb;have hw1:=o1.size;have h2:ReadAt (w1.alloc (.cells #[.int .i64 k,.int .i64 mn,.int .i64 mx,.int .u64 s0,.int .u64 s1,.int .u64 s2,.int .u64 s3,.slice a l.length cap] 141)) rb r:=Zd h1 _;have hE2:=Ze w1 (.cells #[.int .i64 k,.int .i64 mn,.int .i64 mx,.int .u64 s0,.int .u64 s1,.int .u64 s2,.int .u64 s3,.slice a l.length cap] 141);have hN2:=Zd ((o1.block nb (by omega) (by omega)).trans HN.out) (.cells #[.int .i64 k,.int .i64 mn,.int .i64 mx,.int .u64 s0,.int .u64 s1,.int .u64 s2,.int .u64 s3,.slice a l.length cap] 141);have hlE2:=Za hE2;have hlN2:=Za hN2;have hne:¬ w1.heap.size=rb:=(by omega);have hnn:¬ nb=rb:=(by omega);have HE2:=Hd hE2;have HN2:=Hd hN2;clear hE2 hN2;have o2:=o1.alloc (.cells #[.int .i64 k,.int .i64 mn,.int .i64 mx,.int .u64 s0,.int .u64 s1,.int .u64 s2,.int .u64 s3,.slice a l.length cap] 141);have hXI:=Hd hXin;have hXB:=Hd hXb;clear hXin hXb;have hlt1:rb<w1.heap.size:=(by omega))
  |(go_at_call 188;(with_reducible refine(HT42.out _ h2).mono ?_);rintro e w3 ⟨rfl,h3,o3⟩;have hE3:=(o3.block w1.heap.size hlE2 hne).trans HE2.out;have hN3:=(o3.block nb hlN2 hnn).trans HN2.out;have hlE3:=Za hE3;have hlN3:=Za hN3;have HE3:=Hd hE3;have HN3:=Hd hN3;clear hE3 hN3)
  |(go_at_call 188;(with_reducible refine(HT43.out _ h3).mono ?_);rintro e w4 ⟨rfl,h4,o4⟩;have hE4:=(o4.block w1.heap.size hlE3 hne).trans HE3.out;have hN4:=(o4.block nb hlN3 hnn).trans HN3.out;have hlE4:=Za hE4;have hlN4:=Za hN4;have HE4:=Hd hE4;have HN4:=Hd hN4;clear hE4 hN4)
  |(go_at_call 188;(with_reducible refine(HT63.out _ h4).mono ?_);rintro e w5 ⟨rfl,h5,o5⟩;have hE5:=(o5.block w1.heap.size hlE4 hne).trans HE4.out;have hN5:=(o5.block nb hlN4 hnn).trans HN4.out;have hlE5:=Za hE5;have hlN5:=Za hN5;have HE5:=Hd hE5;have HN5:=Hd hN5;clear hE5 hN5)
  |(go_at_call 188;(with_reducible refine(HT123.out _ h5).mono ?_);rintro e w6 ⟨rfl,h6,o6⟩;have hE6:=(o6.block w1.heap.size hlE5 hne).trans HE5.out;have hN6:=(o6.block nb hlN5 hnn).trans HN5.out;have hlE6:=Za hE6;have hlN6:=Za hN6;have HE6:=Hd hE6;have HN6:=Hd hN6;clear hE6 hN6)
  |(go_at_call 193;(with_reducible refine(HNA.out _ h6).mono ?_);rintro e w7 ⟨rfl,h7,o7⟩;have hE7:=(o7.block w1.heap.size hlE6 hne).trans HE6.out;have hN7:=(o7.block nb hlN6 hnn).trans HN6.out;have hlE7:=Za hE7;have hlN7:=Za hN7;have HE7:=Hd hE7;have HN7:=Hd hN7;clear hE7 hN7)
  |(go_at_call 188;(with_reducible refine(HT44.out _ h7).mono ?_);rintro e w8 ⟨rfl,h8,o8⟩;have hE8:=(o8.block w1.heap.size hlE7 hne).trans HE7.out;have hN8:=(o8.block nb hlN7 hnn).trans HN7.out;have hlE8:=Za hE8;have hlN8:=Za hN8;have HE8:=Hd hE8;have HN8:=Hd hN8;clear hE8 hN8;have hS8:=h8;unfold ReadAt at hS8;rw[HSS.out]at hS8;have hc8:=ZK hS8;clear hS8)
  |(go_at_call 193;(with_reducible refine(HNB.out _ h8).mono ?_);rintro e w9 ⟨rfl,h9,o9⟩;have hE9:=(o9.block w1.heap.size hlE8 hne).trans HE8.out;have hN9:=(o9.block nb hlN8 hnn).trans HN8.out;have hlE9:=Za hE9;have hlN9:=Za hN9;have HE9:=Hd hE9;have HN9:=Hd hN9;clear hE9 hN9)
  |(go_at_call 174;refine(Xr rfl _).mono ?_;rintro e wm ⟨rfl,hwm⟩;have hwm:=hwm.symm;subst hwm)
  |(go_at_call 174;refine(XR rfl _).mono ?_;rintro e wm ⟨rfl,hwm⟩;have hwm:=hwm.symm;subst hwm)
  |(go_at_call 188;(with_reducible refine(HT125.out _ h9).mono ?_);rintro e w10 ⟨rfl,h10,o10⟩;have hE10:=(o10.block w1.heap.size hlE9 hne).trans HE9.out;have hN10:=(o10.block nb hlN9 hnn).trans HN9.out;have hlE10:=Za hE10;have hlN10:=Za hN10;have HE10:=Hd hE10;have HN10:=Hd hN10;clear hE10 hN10))
 exact⟨rfl,(((((((((hO0.then o2).then o3).then o4).then o5).then o6).then o7).then o8).then o9).then o10),.inl ⟨rfl,rfl⟩⟩
theorem ZcJ(w:World)(rb:Nat)(s:List UInt8)(h:ReadAt w rb s)(x:Rx)(r:List UInt8)(hr:r.length≤128)(hatom:Xp rb s x r)(h42:Zg 42 r=false)(h43:Zg 43 r=false)(h63:Zg 63 r=false)(h123:Zg 123 r=true)(m:Nat)(r1:List UInt8)(hn:Z0 r.tail=some (m,r1))(h44:Zg 44 r1=true)(r2:List UInt8)(h2t:r1.tail=r2)(c:UInt8)(u:List UInt8)(hr2:r2=c::u)(hc:c≠125)(n:Nat)(r3:List UInt8)(hn2:Z0 r2=some (n,r3))(hmn:m≤n)(h125:Zg 125 r3=true) :
 Calls Tryz.prog 186 #[.pointer (some ⟨rb,0,none⟩)] w fun e w'=>ZV rb w (sign x r) e w':=by
 have hlt:=Za h
 obtain⟨nb,hnb⟩:∃ nb,w.heap.size=nb:=⟨_,rfl⟩
 obtain⟨W0,hW0⟩:∃ W0,W0=(w.alloc (.cells #[.int .i64 0,.int .i64 0,.int .i64 0,.int .u64 0,.int .u64 0,.int .u64 0,.int .u64 0,.slice none 0 0] 141)):=⟨_,rfl⟩
 have hr0:ReadAt W0 rb s:=by rw[hW0];exact Zd h _
 have hN0:W0.heap[nb]?=some (.cells (Zh (setA Q4.none)) 141 (0,0)):=by rw[hW0,←hnb];exact Ze _ _
 have hO0:Only (fun k=>k=rb) w W0:=by rw[hW0];exact(Only.refl _ w).alloc _
 have hnw:nb<W0.heap.size:=Za hN0;have HATOM:=Hd (hatom W0 hr0);clear hatom hr0;rw[hW0]at HATOM;have HN:=Hd hN0;clear hN0;have hS0:sign x r=match Z5 r.tail with|none=>none|some (m,n,r')=>some (.rep m n x,r'):=by unfold sign;rw[h42,h43,h63,h123];rfl
 have htl:=Xs r;have HT42:=Hd (fun w1 (h1:ReadAt w1 rb r)=>Zu w1 rb 42 r h1 h42);have HT43:=Hd (fun w1 (h1:ReadAt w1 rb r)=>Zu w1 rb 43 r h1 h43);have HT63:=Hd (fun w1 (h1:ReadAt w1 rb r)=>Zu w1 rb 63 r h1 h63);have HT123:=Hd (fun w1 (h1:ReadAt w1 rb r)=>ZI w1 rb 123 r.tail (Zr h123▸h1));have hlm:=Xu hn;subst hr2;have hln:=Xu hn2;have HNA:=Hd (fun w1 (h1:ReadAt w1 rb r.tail)=>(Xh w1 rb r.tail h1 (by omega)).mono fun e w2 hR=>hR.some hn)
 have HT44:=Hd (fun w1 (h1:ReadAt w1 rb r1)=>show Calls Tryz.prog 188 #[.pointer (some ⟨rb,0,none⟩),.string ⟨#[44]⟩] w1 fun e w'=>e=.returned (.bool true)∧ReadAt w' rb (c::u)∧Only (fun k=>k=rb) w1 w' from by
  have h:=ZI w1 rb 44 r1.tail (by rw[←Zr h44];exact h1);rw[h2t]at h
  exact h)
 obtain⟨S,HSS⟩:∃ S:ByteArray,Hid ((⟨(c::u).toArray⟩:ByteArray)=S):=⟨_,Hd rfl⟩
 obtain⟨hne,hem,hsz,hat,-⟩:=full c u HSS.out
 have hcz:((c.toNat:Int) != 125)=true:=by
  rw[bne_iff_ne];intro h;exact hc (UInt8.toNat_inj.1 (by show c.toNat=125;omega))
 have hcl:(c::u).length≤1000:=by have:=congrArg List.length h2t;have:=Xs r1;omega
 have hst:Zg 125 (c::u)=false:=by simp[Zg,hc]
 have HNB:=Hd (fun w1 (h1:ReadAt w1 rb (c::u))=>(Xh w1 rb (c::u) h1 (by omega)).mono fun e w2 hR=>hR.some hn2);have HT125:=Hd (fun w1 (h1:ReadAt w1 rb r3)=>ZI w1 rb 125 r3.tail (Zr h125▸h1));have hmi:(m:Int)≤n:=by omega
 have hS:sign x r=some (.rep (m:Nat) (n:Nat) x,r3.tail):=by
  rw[hS0];simp[Z5,hn,h44,h2t,hst,hn2,hmn,h125]
 rw[hS];clear hS hS0;have hbm:(0:Int)≤(m:Nat)∧((m:Nat):Int)≤15:=by omega
 have hbn:(-1:Int)≤(n:Nat)∧((n:Nat):Int)≤15:=by omega
 go_enter Tryz.func186,Tryz.ntmps186
 go_wp2_with (first
  |(go_at_call 192;(with_reducible refine HATOM.out.mono ?_);rintro e w1 ⟨k,mn,mx,s0,s1,s2,s3,a,cap,l,hX,rfl,h1,o1,hXin,hXb⟩;rw[←hW0]at o1 hXb;have hw1:=o1.size;have h2:ReadAt (w1.alloc (.cells #[.int .i64 k,.int .i64 mn,.int .i64 mx,.int .u64 s0,.int .u64 s1,.int .u64 s2,.int .u64 s3,.slice a l.length cap] 141)) rb r:=Zd h1 _;have hE2:=Ze w1 (.cells #[.int .i64 k,.int .i64 mn,.int .i64 mx,.int .u64 s0,.int .u64 s1,.int .u64 s2,.int .u64 s3,.slice a l.length cap] 141);have hN2:=Zd ((o1.block nb (by omega) (by omega)).trans HN.out) (.cells #[.int .i64 k,.int .i64 mn,.int .i64 mx,.int .u64 s0,.int .u64 s1,.int .u64 s2,.int .u64 s3,.slice a l.length cap] 141);have hlE2:=Za hE2;have hlN2:=Za hN2;have hne:¬ w1.heap.size=rb:=(by omega);have hnn:¬ nb=rb:=(by omega);have HE2:=Hd hE2;have HN2:=Hd hN2;clear hE2 hN2;have o2:=o1.alloc (.cells #[.int .i64 k,.int .i64 mn,.int .i64 mx,.int .u64 s0,.int .u64 s1,.int .u64 s2,.int .u64 s3,.slice a l.length cap] 141);have hXI:=Hd hXin;have hXB:=Hd hXb;clear hXin hXb;have hlt1:rb<w1.heap.size:=(by omega))
  |(go_at_call 188;(with_reducible refine(HT42.out _ h2).mono ?_);rintro e w3 ⟨rfl,h3,o3⟩;have hE3:=(o3.block w1.heap.size hlE2 hne).trans HE2.out;have hN3:=(o3.block nb hlN2 hnn).trans HN2.out;have hlE3:=Za hE3;have hlN3:=Za hN3;have HE3:=Hd hE3;have HN3:=Hd hN3;clear hE3 hN3)
  |(go_at_call 188;(with_reducible refine(HT43.out _ h3).mono ?_);rintro e w4 ⟨rfl,h4,o4⟩;have hE4:=(o4.block w1.heap.size hlE3 hne).trans HE3.out;have hN4:=(o4.block nb hlN3 hnn).trans HN3.out;have hlE4:=Za hE4;have hlN4:=Za hN4;have HE4:=Hd hE4;have HN4:=Hd hN4;clear hE4 hN4)
  |(go_at_call 188;(with_reducible refine(HT63.out _ h4).mono ?_);rintro e w5 ⟨rfl,h5,o5⟩;have hE5:=(o5.block w1.heap.size hlE4 hne).trans HE4.out;have hN5:=(o5.block nb hlN4 hnn).trans HN4.out;have hlE5:=Za hE5;have hlN5:=Za hN5;have HE5:=Hd hE5;have HN5:=Hd hN5;clear hE5 hN5)
  |(go_at_call 188;(with_reducible refine(HT123.out _ h5).mono ?_);rintro e w6 ⟨rfl,h6,o6⟩;have hE6:=(o6.block w1.heap.size hlE5 hne).trans HE5.out;have hN6:=(o6.block nb hlN5 hnn).trans HN5.out;have hlE6:=Za hE6;have hlN6:=Za hN6;have HE6:=Hd hE6;have HN6:=Hd hN6;clear hE6 hN6)
  |(go_at_call 193;(with_reducible refine(HNA.out _ h6).mono ?_);rintro e w7 ⟨rfl,h7,o7⟩;have hE7:=(o7.block w1.heap.size hlE6 hne).trans HE6.out;have hN7:=(o7.block nb hlN6 hnn).trans HN6.out;have hlE7:=Za hE7;have hlN7:=Za hN7;have HE7:=Hd hE7;have HN7:=Hd hN7;clear hE7 hN7)
  |(go_at_call 188;(with_reducible refine(HT44.out _ h7).mono ?_);rintro e w8 ⟨rfl,h8,o8⟩;have hE8:=(o8.block w1.heap.size hlE7 hne).trans HE7.out;have hN8:=(o8.block nb hlN7 hnn).trans HN7.out;have hlE8:=Za hE8;have hlN8:=Za hN8;have HE8:=Hd hE8;have HN8:=Hd hN8;clear hE8 hN8;have hS8:=h8;unfold ReadAt at hS8;rw[HSS.out]at hS8;have hc8:=ZK hS8;clear hS8)
  |(go_at_call 193;(with_reducible refine(HNB.out _ h8).mono ?_);rintro e w9 ⟨rfl,h9,o9⟩;have hE9:=(o9.block w1.heap.size hlE8 hne).trans HE8.out;have hN9:=(o9.block nb hlN8 hnn).trans HN8.out;have hlE9:=Za hE9;have hlN9:=Za hN9;have HE9:=Hd hE9;have HN9:=Hd hN9;clear hE9 hN9)
  |(go_at_call 174;refine(Xr rfl _).mono ?_;rintro e wm ⟨rfl,hwm⟩;have hwm:=hwm.symm;subst hwm)
  |(go_at_call 188;(with_reducible refine(HT125.out _ h9).mono ?_);rintro e w10 ⟨rfl,h10,o10⟩;have hE10:=(o10.block w1.heap.size hlE9 hne).trans HE9.out;have hN10:=(o10.block nb hlN9 hnn).trans HN9.out;have hlE10:=Za hE10;have hlN10:=Za hN10;have HE10:=Hd hE10;have HN10:=Hd hN10;clear hE10 hN10)
  |(refine wpList_load_row rfl 141 (.tmp 3) ?_ w1.heap.size ?_ 141 #[.int .i64 k,.int .i64 mn,.int .i64 mx,.int .u64 s0,.int .u64 s1,.int .u64 s2,.int .u64 s3,.slice a l.length cap] (0,0) _ ?_ Tryz.underlying141 rfl ZF ?_;(with_reducible rfl);rfl;exact HE10.out)
  |(refine wpList_store_row rfl 141 (.tmp 2) (.tmp 52) ?_ nb #[.int .i64 3,.int .i64 (m:Nat),.int .i64 (n:Nat),.int .u64 0,.int .u64 0,.int .u64 0,.int .u64 0,.slice (some ⟨w10.heap.size,0,none⟩) 1 1] ?_ ?_ 141 (Zh (setA Q4.none)) ?_ ZF rfl (Zl (repA (m:Nat) (n:Nat) w10.heap.size (RxA.node k mn mx s0 s1 s2 s3 a cap l))) ?_;(with_reducible rfl);rfl;rfl;exact Zd HN10.out _))
 refine bodyPost_ret (results_cell_row rfl _ _ nb 141 #[.int .i64 3,.int .i64 (m:Nat),.int .i64 (n:Nat),.int .u64 0,.int .u64 0,.int .u64 0,.int .u64 0,.slice (some ⟨w10.heap.size,0,none⟩) 1 1] (0,0) _ rfl (setRow_heap _ _ _ _ _ _ (Zd HN10.out (.cells #[.int .i64 k,.int .i64 mn,.int .i64 mx,.int .u64 s0,.int .u64 s1,.int .u64 s2,.int .u64 s3,.slice a l.length cap] 141))) Tryz.underlying141 rfl ZF) rfl ?_
 have oc:=(((((((o3.then o4).then o5).then o6).then o7).then o8).then o9).then o10)
 have hkk:=oc.size;simp only[World.size_alloc]at hkk;obtain⟨hin,hbl⟩:=VK (wk:=(w10.alloc (.cells #[.int .i64 k,.int .i64 mn,.int .i64 mx,.int .u64 s0,.int .u64 s1,.int .u64 s2,.int .u64 s3,.slice a l.length cap] 141)).setRow nb #[.int .i64 3,.int .i64 (m:Nat),.int .i64 (n:Nat),.int .u64 0,.int .u64 0,.int .u64 0,.int .u64 0,.slice (some ⟨w10.heap.size,0,none⟩) 1 1]) hXI.out hXB.out (fun b h1 h2=>by rw[setRow_other _ _ _ _ (by omega),Below.heap_alloc _ _ _ (by omega),oc.block b (by simp;omega) (by omega),Below.heap_alloc _ _ _ h2]) (by simp;omega);have hrin:=UA (m:=(m:Nat)) (n:=(n:Nat)) hbm hbn hin ((setRow_other (w10.alloc (.cells #[.int .i64 k,.int .i64 mn,.int .i64 mx,.int .u64 s0,.int .u64 s1,.int .u64 s2,.int .u64 s3,.slice a l.length cap] 141)) nb w10.heap.size #[.int .i64 3,.int .i64 (m:Nat),.int .i64 (n:Nat),.int .u64 0,.int .u64 0,.int .u64 0,.int .u64 0,.slice (some ⟨w10.heap.size,0,none⟩) 1 1] (by omega)).trans (Ze _ _));refine⟨(((hO0.then o2).then oc).alloc _).setRow (q:=nb) (.inr (by omega)) _,.inr ⟨repA (m:Nat) (n:Nat) w10.heap.size (RxA.node k mn mx s0 s1 s2 s3 a cap l),r3.tail,by rw[YN,←hX],rfl,(setRow_other _ _ _ _ (by omega)).trans (Zd h10 _),hrin,fun b hb=>?_⟩⟩;rcases X1 _ _ _ _ b hb with rfl|hb
 ·have:=hO0.size;simp only[size_setRow,World.size_alloc];omega
 ·have:=hbl b hb;have:=hO0.size;omega
theorem ZaS(w:World)(rb:Nat)(s:List UInt8)(h:ReadAt w rb s)
 (hatom:∀ w1,ReadAt w1 rb s→Calls Tryz.prog 192 #[.pointer (some ⟨rb,0,none⟩)] w1 fun e w2=>e=.panicked Jy∧Only (fun k=>k=rb) w1 w2) :
 Calls Tryz.prog 186 #[.pointer (some ⟨rb,0,none⟩)] w fun e w'=>ZV rb w none e w':=by
 have HATOM:=Hd (hatom _ (Zd h (.cells #[.int .i64 0,.int .i64 0,.int .i64 0,.int .u64 0,.int .u64 0,.int .u64 0,.int .u64 0,.slice none 0 0] 141)));clear hatom
 go_enter Tryz.func186,Tryz.ntmps186
 go_wp2_with (go_at_call 192;refine HATOM.out.mono ?_;rintro e w1 ⟨rfl,o1⟩)
 exact⟨rfl,((Only.refl _ w).alloc _).then o1,.inl ⟨rfl,rfl⟩⟩
theorem ZaU(w:World)(rb:Nat)(s:List UInt8)(h:ReadAt w rb s)(x:Rx)(r:List UInt8)(hr:r.length≤128)(hatom:Xp rb s x r) :
 Calls Tryz.prog 186 #[.pointer (some ⟨rb,0,none⟩)] w fun e w'=>ZV rb w (sign x r) e w':=by
 cases h42:Zg 42 r with
 |true=>exact ZaT w rb s h x r hr hatom h42
 |false=>
  cases h43:Zg 43 r with
  |true=>exact ZaV w rb s h x r hr hatom h42 h43
  |false=>
   cases h63:Zg 63 r with
   |true=>exact ZcI w rb s h x r hr hatom h42 h43 h63
   |false=>
    cases h123:Zg 123 r with
    |false=>exact ZaW w rb s h x r hr hatom h42 h43 h63 h123
    |true=>
     cases hn:Z0 r.tail with
     |none=>exact ZeV w rb s h x r hr hatom h42 h43 h63 h123 hn
     |some p=>
      obtain⟨m,r1⟩:=p
      cases h44:Zg 44 r1 with
      |false=>
       cases h125:Zg 125 r1 with
       |false=>exact ZeU w rb s h x r hr hatom h42 h43 h63 h123 m r1 hn h44 h125
       |true=>exact ZeT w rb s h x r hr hatom h42 h43 h63 h123 m r1 hn h44 h125
      |true=>
       cases h2:r1.tail with
       |nil=>exact ZeS w rb s h x r hr hatom h42 h43 h63 h123 m r1 hn h44 h2
       |cons c u=>
        by_cases hc:c=125
        ·exact ZeR w rb s h x r hr hatom h42 h43 h63 h123 m r1 hn h44 (c::u) h2 u (by rw[hc])
        ·cases hn2:Z0 (c::u) with
         |none=>exact ZeQ w rb s h x r hr hatom h42 h43 h63 h123 m r1 hn h44 (c::u) h2 c u rfl hc hn2
         |some p2=>
          obtain⟨n,r3⟩:=p2;by_cases hmn:m≤n
          ·cases h125:Zg 125 r3 with
           |false=>exact ZcK w rb s h x r hr hatom h42 h43 h63 h123 m r1 hn h44 (c::u) h2 c u rfl hc n r3 hn2 hmn h125
           |true=>exact ZcJ w rb s h x r hr hatom h42 h43 h63 h123 m r1 hn h44 (c::u) h2 c u rfl hc n r3 hn2 hmn h125
          ·exact ZcL w rb s h x r hr hatom h42 h43 h63 h123 m r1 hn h44 (c::u) h2 c u rfl hc n r3 hn2 hmn
def BD:Option (Rx × List UInt8)→Option (Rx × List UInt8)
 |none=>none
 |some (x,r)=>sign x r
theorem EP(w:World)(rb:Nat)(s:List UInt8)(h:ReadAt w rb s)(A:Option (Rx × List UInt8))(hA:∀ x r,A=some (x,r)→r.length≤128)
 (hatom:∀ w1,ReadAt w1 rb s→Calls Tryz.prog 192 #[.pointer (some ⟨rb,0,none⟩)] w1 fun e w2=>ZV rb w1 A e w2) :
 Calls Tryz.prog 186 #[.pointer (some ⟨rb,0,none⟩)] w fun e w'=>ZV rb w (BD A) e w':=by
 cases A with
 |none=>exact ZaS w rb s h (fun w1 h1=>(hatom w1 h1).mono fun e w2 hR=>YW hR)
 |some p=>
  obtain⟨x,r⟩:=p;refine ZaU w rb s h x r (hA x r rfl) (fun w1 h1=>(hatom w1 h1).mono fun e w2 hR=>?_);obtain⟨X,hX,he,h2,h3,h4,h5⟩:=Yx hR;obtain⟨k,mn,mx,s0,s1,s2,s3,a,cap,l⟩:=X;exact⟨k,mn,mx,s0,s1,s2,s3,a,cap,l,hX,he,h2,h3,h4,h5⟩
end Go.Proofs.YtbchkjfnakabkaaGreatDoor
