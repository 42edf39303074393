/- R2, merged: Class Made Join AltI Atom. -/
import Derived.Test.YtbchkjfnakabkaaGreatDoorR1b
import Derived.Test.YtbchkjfnakabkaaGreatDoorB34
import Derived.Test.YtbchkjfnakabkaaGreatDoorB2
import Derived.Test.YtbchkjfnakabkaaGreatDoorR1
import Derived.ScopeJumps
import Derived.Laws.Bits64
import Derived.Deep.LoopGhost
import Derived.Deep.AppendLies
set_option linter.unusedSimpArgs false
set_option linter.unusedVariables false
namespace Go.Proofs.YtbchkjfnakabkaaGreatDoor
open Go.RowKit PX
theorem wp_mono {P:Program} {c:Code} {Q Q':Exit→Act→World→Prop} {a:Act} {w:World} (h:c.wp P Q a w) (hq:∀ e a w,Q e a w→Q' e a w):c.wp P Q' a w:=
 fun b k cs=>let ⟨e,a',w',q,r⟩:=h b k cs;⟨e,a',w',hq _ _ _ q,r⟩
theorem wp_scope_back {P:Program} {a:Act} {w:World} {Q:Exit→Act→World→Prop} {c X:Code} (l:Nat) (J:Act→World→Prop) (μ:Act→World→Nat) (hf:findLabel c l=some (Code.skip.seq X))
 (pass:∀ a w,J a w→X.wp P (Exit.jump l (fun a' w'=>J a' w'∧μ a' w'<μ a w) Q) a w)
 (first:(∀a w,J a w→X.wp P (Exit.jump l J Q) a w)→c.wp P (Exit.jump l J Q) a w):(Code.scope c).wp P Q a w:=by
 refine wp_scope_jumps l J μ hf (first fun a w hJ=>wp_mono (pass a w hJ) ?_) fun a w hJ=>wp_seq (wp_skip (pass a w hJ))
 intro e a' w' h
 cases e with
 | goto l'=>exact⟨h.1,h.2.1⟩
 | _=>exact h
def Q4.cells (q:Q4):Array Value:=#[.int .u64 q.a,.int .u64 q.b,.int .u64 q.c,.int .u64 q.d]
def leftOf (rb:Nat) (w:World):Nat:=match w.cell? ⟨rb,0,none⟩ with | some (.string s)=>s.size | _=>0
theorem leftOf_read {w:World} {rb:Nat} {l:List UInt8} (h:ReadAt w rb l):leftOf rb w=l.length:=by
 have:=read_cell h
 unfold leftOf
 rw [this];simp [ByteArray.size]
def classEnd (nt:Bool):Option (Q4 × List UInt8)→Option (Q4 × List UInt8)
 | none=>none
 | some (q,r)=>if (if nt then q.not else q).isNone then none else some (if nt then q.not else q,r)
theorem classR_eq (f:Nat) (l:List UInt8):classR f l=classEnd (starts 94 l) (classLoop f Q4.none (if starts 94 l then l.tail else l)):=by
 unfold classR
 cases classLoop f Q4.none (if starts 94 l then l.tail else l) with
 | none=>rfl
 | some p=>rfl
theorem withAll_snoc:∀ (k:Nat) (q:Q4) (n:Nat),q.withAll n (k+1)=(q.withAll n k).with (n+k)
 | 0,q,n=>rfl
 | k+1,q,n=>by
  show (q.with n).withAll (n+1) (k+1)=((q.with n).withAll (n+1) k).with (n+(k+1))
  rw [withAll_snoc k (q.with n) (n+1),show n+1+k=n+(k+1) by omega]
theorem and63 (n:Nat) (hn:n<256):Go.bits .and .i64 (n:Int) 63=((n%64:Nat):Int):=by
 have key:∀ n:Nat,n<256→Go.bits .and .i64 (n:Int) 63=((n%64:Nat):Int):=by decide +kernel
 exact key n hn
theorem or_bit' (W:Int) (k:Nat) (hW:U64 W) (hk:k<64):Go.bits .or .u64 W (IntKind.u64.wrap (2 ^ k))=orBit W k:=or_bit W k ⟨hW.1,by have:=hW.2;omega⟩ hk
theorem eq4_none (q:Q4) (w:World):(Op.equalIn 10000 138 (.agg (Q4.cells q)) (.agg #[.int .u64 0,.int .u64 0,.int .u64 0,.int .u64 0])).run Tryz.prog w=.ok q.isNone w:=by
 unfold Q4.cells
 rw [run_eq4]
 rfl
theorem xor1 {x:Int} (h:U64 x):Go.bits .xor .u64 IntKind.u64.max x=18446744073709551615 - x:=by
 obtain ⟨h1,h2⟩:=h
 obtain ⟨n,rfl⟩:∃ n:Nat,x=n:=⟨x.toNat,by omega⟩
 have hn:n<2 ^ 64:=by omega
 have hb:(BitVec.ofNat 64 n).toNat=n:=by simp;omega
 have key:18446744073709551615 ^^^ n=18446744073709551615 - n:=by
  have h:=congrArg BitVec.toNat (BitVec.allOnes_xor (x:=BitVec.ofNat 64 n))
  rw [BitVec.toNat_xor,BitVec.toNat_not,BitVec.toNat_allOnes,hb] at h
  exact h
 rw [show IntKind.u64.max=((18446744073709551615:Nat):Int) from rfl,bits_xor_u64_nat _ _ (by omega) (by omega),key]
 omega
theorem set4_other {w:World} {b k:Nat} {o:Obj} {v0 v1 v2 v3:Value} (h:w.heap[k]?=some o) (hk:k≠b) :
 ((((w.setCell ⟨b,0,none⟩ v0).setCell ⟨b,1,none⟩ v1).setCell ⟨b,2,none⟩ v2).setCell ⟨b,3,none⟩ v3).heap[k]?=some o:=by
 rw [Below.heap_setCell _ _ _ _ (by exact fun e=>hk e),Below.heap_setCell _ _ _ _ (by exact fun e=>hk e),Below.heap_setCell _ _ _ _ (by exact fun e=>hk e),Below.heap_setCell _ _ _ _ (by exact fun e=>hk e)]
 exact h
theorem only_set4 {r:Nat→Prop} {a w:World} {b:Nat} {v0 v1 v2 v3:Value} (h:Only r a w) (hb:a.heap.size≤b) :
 Only r a ((((w.setCell ⟨b,0,none⟩ v0).setCell ⟨b,1,none⟩ v1).setCell ⟨b,2,none⟩ v2).setCell ⟨b,3,none⟩ v3):=
 (((h.setCell (p:=⟨b,0,none⟩) (.inr hb) _).setCell (p:=⟨b,1,none⟩) (.inr hb) _).setCell (p:=⟨b,2,none⟩) (.inr hb) _).setCell (p:=⟨b,3,none⟩) (.inr hb) _
theorem q4_one (q:Q4):(Q4.cells q).all (·.oneCell')=true:=by simp [Q4.cells,Value.oneCell']
theorem info4:(Tryz.prog.info? 138).map (·.size)=some 4:=by kernel_rfl
theorem loop_none {f:Nat} {q:Q4} {l:List UInt8} (h:classOne q l=none):classLoop f q l=none:=by
 cases f with
 | zero=>rfl
 | succ f=>simp [classLoop,h]
theorem loop_some {f:Nat} {q q':Q4} {l r:List UInt8} (h:classOne q l=some (q',r)) (hf:l.length≤f):∃ f',f=f'+1∧r.length≤f'∧classLoop f q l=if starts 93 r then some (q',r.tail) else classLoop f' q' r:=by
 have:=classOne_lt h
 cases f with
 | zero=>omega
 | succ f=>exact⟨f,rfl,by omega,by simp [classLoop,h]⟩
def ClassJ (rb nb:Nat) (nt:Bool) (w:World) (o:Option (Q4 × List UInt8)) (a:Act) (w':World):Prop:=
 (∃(u1 u5 u6 u7 u8 u9 u10 u11 u12 u13 u14 u15 u16 u17 u18 u19 u20 u21 u22 u23 u24 u25 u26 u27 u28 u29 u30 u31 u32 u33 u34 u35 u36 u37 u38 u39 u40 u41 u42 u43 u44 u45 u46 u47 u48 u49 u50 u51 u52 u53 u54 u55:Value),a={ tmps:=#[.pointer (some ⟨rb,0,none⟩),u1,.pointer (some ⟨nb,0,none⟩),.pointer (some ⟨nb+1,0,none⟩),.bool nt,u5,u6,u7,u8,u9,u10,u11,u12,u13,u14,u15,u16,u17,u18,u19,u20,u21,u22,u23,u24,u25,u26,u27,u28,u29,u30,u31,u32,u33,u34,u35,u36,u37,u38,u39,u40,u41,u42,u43,u44,u45,u46,u47,u48,u49,u50,u51,u52,u53,u54,u55],defers:=[] }) ∧
 ∃ (q:Q4) (l:List UInt8) (f:Nat),ReadAt w' rb l∧w'.heap[nb+1]?=some (.cells (Q4.cells q) 138 (0,0))∧w'.heap[nb]?=some (.cells (Q4.cells Q4.none) 138 (0,0))∧Only (fun k=>k=rb) w w'∧q.Ok ∧
  l.length≤f∧l.length≤1000∧classLoop f q l=o
theorem alloc_block' (w:World) (o:Obj) (n:Nat) (hn:w.heap.size=n):(w.alloc o).heap[n]?=some o:=by subst hn;exact alloc_block w o
theorem read_old2 {w:World} {rb:Nat} {l:List UInt8} (h:ReadAt w rb l) (a b:Obj):ReadAt ((w.alloc a).alloc b) rb l:=alloc_old (alloc_old h a) b
set_option maxRecDepth 100000 in
set_option maxHeartbeats 2000000 in
theorem class_any (w:World) (rb:Nat) (l:List UInt8) (f:Nat) (h:ReadAt w rb l) (hf:l.length≤f) (hl:l.length≤1000) :
 Calls Tryz.prog 196 #[.pointer (some ⟨rb,0,none⟩)] w fun e w'=>Reads rb w (classR f l) (fun q=>.agg (Q4.cells q)) e w':=by
 have hlt:=lt_of_block h
 obtain ⟨nt,hnt⟩:∃ nt,starts 94 l=nt:=⟨_,rfl⟩
 obtain ⟨o,ho⟩:∃ o,classLoop f Q4.none (if nt then l.tail else l)=o:=⟨_,rfl⟩
 have hR:=classR_eq f l
 rw [hnt,ho] at hR
 have HR:=Lib.hid hR;clear hR
 have HO:=Lib.hid ho;clear ho
 obtain ⟨l1,hl1⟩:∃ l1,(if nt then l.tail else l)=l1:=⟨_,rfl⟩
 have htake:=fun w1 (h1:ReadAt w1 rb l)=>take_any w1 rb l 94 h1
 rw [hnt] at htake
 rw [hl1] at HO htake
 have hl1f:l1.length≤f∧l1.length≤1000:=by rw [←hl1];have:=tail_le l;split<;>omega
 have HT:=Lib.hid htake;clear htake hl1 hnt
 obtain ⟨nb,hnb⟩:∃ nb,w.heap.size=nb:=⟨_,rfl⟩
 have HW:=Lib.hid h;clear h
 go_enter Tryz.func196,Tryz.ntmps196
 go_wp2_with fail
 refine wp_scope_back 0 (ClassJ rb nb nt w o) (fun _ w'=>leftOf rb w') rfl ?_ ?_
 ·rintro a w' ⟨⟨u1,u5,u6,u7,u8,u9,u10,u11,u12,u13,u14,u15,u16,u17,u18,u19,u20,u21,u22,u23,u24,u25,u26,u27,u28,u29,u30,u31,u32,u33,u34,u35,u36,u37,u38,u39,u40,u41,u42,u43,u44,u45,u46,u47,u48,u49,u50,u51,u52,u53,u54,u55,rfl⟩,q,l',f',hr,hs,hn,hon,hq,hlf,hl1k,hcl⟩
  clear HT HO HW hl1f hf hl
  have HCL:=Lib.hid hcl;clear hcl
  have HQ:=Lib.hid hq;clear hq
  have HS:=Lib.hid hs;clear hs
  have HN:=Lib.hid hn;clear hn
  have HON:=Lib.hid hon;clear hon
  have HONE:=Lib.hid (one_any w' rb ⟨#[92,93,94,45]⟩ l' hr hl1k)
  have hleft:=leftOf_read hr
  clear hr
  have HLEFT:=Lib.hid hleft;clear hleft
  cases h1:one butClass l' with
  | none=>
   have HO1:=Lib.hid ((loop_none (f:=f') (q:=q) (by simp [classOne,h1])).symm.trans HCL.out)
   have H1:=Lib.hid h1;clear h1
   go_wp2_with (go_at_call 197;refine HONE.out.mono ?_;rintro e w1 hR;obtain ⟨rfl,o1⟩:=hR.none H1.out)
   exact⟨rfl,HON.out.then o1,.inl ⟨by rw [HR.out,←HO1.out];rfl,rfl⟩⟩
  | some ar=>
   obtain ⟨a,r⟩:=ar
   have hra:=one_lt h1
   obtain ⟨b45,hb45⟩:∃ b45,starts 45 r=b45:=⟨_,rfl⟩
   obtain ⟨r1,hr1⟩:∃ r1,(if b45 then r.tail else r)=r1:=⟨_,rfl⟩
   have HTK:=Lib.hid (fun w1 (h:ReadAt w1 rb r)=>by
    have h:=take_any w1 rb r 45 h
    rw [hb45,hr1] at h
    exact h)
   have hr1l:r1.length≤r.length:=by rw [←hr1];have:=tail_le r;split<;>omega
   have H1:=Lib.hid h1;clear h1
   have H45:=Lib.hid hb45;clear hb45
   have HR1:=Lib.hid hr1;clear hr1
   go_upto_if 13 with (first
    | (go_at_call 197;refine HONE.out.mono ?_;rintro e w1 hR;obtain ⟨rfl,hr1',o1⟩:=hR.some H1.out)
    | (go_at_call 188;refine (HTK.out _ hr1').mono ?_;rintro e w2 ⟨rfl,h2,o2⟩))
   go_cut [6] from 12 to 15 (fun v wr=>∃ (b:Nat) (r2:List UInt8),v=.int .i64 b∧ReadAt wr rb r2∧Only (fun k=>k=rb) w' wr∧b<256∧classOne q l'=(if a≤b then some (q.withAll a (b+1 - a),r2) else none)∧r2.length<l'.length)
   case first=>
    have hO2:=Lib.hid (o1.then o2);clear o1 o2
    cases b45 with
    | false=>
     obtain rfl:r=r1:=HR1.out
     go_wp2_with fail
     go_meet
     case rel=>
      refine⟨a,r,rfl,h2,hO2.out,hra.2,?_,hra.1⟩
      unfold classOne
      rw [H1.out]
      simp only [H45.out,Bool.false_eq_true,if_false,Nat.le_refl,if_true]
      rw [show a+1 - a=1 by omega]
    | true=>
     obtain rfl:r.tail=r1:=HR1.out
     have HONE2:=Lib.hid (one_any w2 rb ⟨#[92,93,94,45]⟩ r.tail h2 (by omega))
     cases h3:one butClass r.tail with
     | none=>
      have hc1:classOne q l'=none:=by
       unfold classOne
       rw [H1.out]
       simp only [H45.out,if_true,h3]
      have HO1:=Lib.hid ((loop_none (f:=f') hc1).symm.trans HCL.out)
      have H3:=Lib.hid h3;clear h3 hc1
      go_wp2_with (go_at_call 197;refine HONE2.out.mono ?_;rintro e w3 hR;obtain ⟨rfl,o3⟩:=hR.none H3.out)
      exact⟨rfl,(HON.out.then hO2.out).then o3,.inl ⟨by rw [HR.out,←HO1.out];rfl,rfl⟩⟩
     | some br=>
      obtain ⟨b,r2⟩:=br
      have hb:=one_lt h3
      have H3:=Lib.hid h3;clear h3
      go_wp2_with (go_at_call 197;refine HONE2.out.mono ?_;rintro e w3 hR;obtain ⟨rfl,hr3,o3⟩:=hR.some H3.out)
      go_meet
      case rel=>
       refine⟨b,r2,rfl,hr3,hO2.out.then o3,hb.2,?_,by have:=tail_le r;omega⟩
       unfold classOne
       rw [H1.out]
       simp only [H45.out,if_true,H3.out]
   case rest=>
    clear h2 o1 o2
    obtain ⟨b,r2,rfl,hr2,honc,hb256,hc1,hr2l⟩:=hcut
    have HC1:=Lib.hid hc1;clear hc1
    have HR2:=Lib.hid hr2;clear hr2
    have HONC:=Lib.hid honc;clear honc
    clear HTK HONE HR1 H45 hr1l H1
    by_cases hab:a≤b
    ·obtain ⟨f2,rfl,hf2,hcl2⟩:=loop_some (f:=f') (HC1.out.trans (if_pos hab)) hlf
     have HCL2:=Lib.hid (hcl2.symm.trans HCL.out);clear hcl2
     have habi:(a:Int)≤b:=by omega
     have hncw:nb+1<w'.heap.size:=lt_of_block HS.out
     have hnbr:rb<nb:=by omega
     have hsc:wc.heap[nb+1]?=some (.cells (Q4.cells q) 138 (0,0)):=by
      rw [HONC.out.block (nb+1) hncw (by omega)];exact HS.out
     have HSC:=Lib.hid hsc;clear hsc
     go_wp2_with (go_at_call 174;refine (must_yes rfl _).mono ?_;rintro e w4 ⟨rfl,rfl⟩)
     go_loopw [5] (fun v wr=>∃ j:Nat,j≤b+1 - a∧v=.int .i64 ((a+j:Nat):Int)∧wr.heap[nb+1]?=some (.cells (Q4.cells (q.withAll a j)) 138 (0,0))∧Only (fun k=>k=nb+1) w4 wr) (fun v _=>b+1 - (intOf v).toNat)
     case atStart=>exact⟨0,by omega,rfl,HSC.out,Only.refl _ _⟩
     case round=>
      obtain ⟨j,hj,rfl,hsr,honr⟩:=hrel
      have hqj:=Q4.withAll_ok HQ.out (k:=j) (n:=a) (by omega)
      obtain ⟨q1,hq1⟩:∃ q1,q.withAll a j=q1:=⟨_,rfl⟩
      rw [hq1] at hsr hqj
      by_cases hje:j=b+1 - a
      ·have hgt:¬ ((a+j:Nat):Int)≤b:=by omega
       subst hje
       rw [show a+(b+1 - a)=b+1 by omega] at hgt ⊢
       obtain ⟨b93,hb93⟩:∃ b93,starts 93 r2=b93:=⟨_,rfl⟩
       have hr2r:ReadAt wr rb r2:=by
        unfold ReadAt
        rw [honr.block rb (by have:=HONC.out.size;omega) (by omega)];exact HR2.out
       have honw:=HON.out.then HONC.out
       have honx:Only (fun k=>k=rb) w wr:=honw.trans (honr.mono fun _ _ h=>.inr (by omega))
       have HX:=Lib.hid honx;clear honx honw
       have honr0:=honr;clear honr
       have hnr:wr.heap[nb]?=some (.cells (Q4.cells Q4.none) 138 (0,0)):=by
        rw [honr0.block nb (by have:=HONC.out.size;omega) (by omega),HONC.out.block nb (by omega) (by omega)];exact HN.out
       have HTK:=take_any wr rb r2 93 hr2r
       have HQ1:=Lib.hid hq1;clear hq1
       have HQO:=Lib.hid hqj;clear hqj
       have HSR:=Lib.hid hsr;clear hsr
       have HNR:=Lib.hid hnr;clear hnr honr0
       have hnlt:=lt_of_block HNR.out
       have hslt:=lt_of_block HSR.out
       rw [hb93] at HTK
       clear hr2r
       have HB93:=Lib.hid hb93;clear hb93
       cases b93 with
       | false=>
        simp only [Bool.false_eq_true,if_false] at HTK
        have HT2:=Lib.hid HTK;clear HTK
        go_wp2_with (go_at_call 188;refine HT2.out.mono ?_;rintro e w5 ⟨rfl,h5,o5⟩)
        go_step3
        refine⟨rfl,⟨⟨_,_,_,_,_,_,_,_,_,_,_,_,_,_,_,_,_,_,_,_,_,_,_,_,_,_,_,_,_,_,_,_,_,_,_,_,_,_,_,_,_,_,_,_,_,_,_,_,_,_,_,_,rfl⟩,q1,r2,f2,h5,(o5.block _ hslt (by omega)).trans HSR.out,(o5.block _ hnlt (by omega)).trans HNR.out,HX.out.then o5,HQO.out,hf2,by omega,?_⟩,?_⟩
        ·have h:=HCL2.out
         rw [HB93.out,HQ1.out] at h
         exact h
        ·rw [leftOf_read h5,HLEFT.out];exact hr2l
       | true=>
        simp only [if_true] at HTK
        have HT2:=Lib.hid HTK;clear HTK
        have ho2:some (q1,r2.tail)=o:=by
         have h:=HCL2.out
         rw [HB93.out,HQ1.out] at h
         exact h
        subst ho2
        cases nt with
        | false=>
         have hEQ:=eq4_none q1
         cases hno:q1.isNone
         ·have HNO:=Lib.hid hno
          rw [hno] at hEQ
          clear hno
          go_wp2_with (first
           | (go_at_call 188;refine HT2.out.mono ?_;rintro e w5 ⟨rfl,h5,o5⟩;have hs5:=(o5.block _ hslt (by omega)).trans HSR.out;have hn5:=(o5.block _ hnlt (by omega)).trans HNR.out;have HS5:=Lib.hid hs5;have HN5:=Lib.hid hn5;clear hs5 hn5)
           | (go_at_call 174;refine (must_yes rfl _).mono ?_;rintro e w6 ⟨rfl,rfl⟩)
           | refine wpList_load_row rfl 138 (.tmp 3) rfl (nb+1) rfl 138 (Q4.cells q1) (0,0) _ HS5.out Tryz.underlying138 rfl info4 ?_
           | refine wpList_store_row rfl 138 (.tmp 2) (.tmp 55) rfl nb (Q4.cells q1) rfl rfl 138 _ HN5.out info4 rfl (q4_one _) ?_)
          refine bodyPost_ret (results_cell_row rfl _ _ nb 138 (Q4.cells q1) (0,0) _ rfl (setRow_heap _ _ _ _ _ _ HN5.out) Tryz.underlying138 rfl info4) rfl ?_
          refine⟨(HX.out.then o5).setRow (q:=nb) (.inr (by omega)) _,.inr ⟨q1,r2.tail,by rw [HR.out];simp [classEnd,HNO.out],rfl,?_⟩⟩
          unfold ReadAt at h5 ⊢
          rw [setRow_other _ _ _ _ (by omega)]
          exact h5
         ·have HNO:=Lib.hid hno
          rw [hno] at hEQ
          clear hno
          go_wp2_with (first
           | (go_at_call 188;refine HT2.out.mono ?_;rintro e w5 ⟨rfl,h5,o5⟩;have hs5:=(o5.block _ hslt (by omega)).trans HSR.out;have hn5:=(o5.block _ hnlt (by omega)).trans HNR.out;have HS5:=Lib.hid hs5;have HN5:=Lib.hid hn5;clear hs5 hn5)
           | (go_at_call 174;refine (must_no rfl _).mono ?_;rintro e w6 ⟨rfl,rfl⟩)
           | refine wpList_load_row rfl 138 (.tmp 3) rfl (nb+1) rfl 138 (Q4.cells q1) (0,0) _ HS5.out Tryz.underlying138 rfl info4 ?_)
          exact⟨rfl,(HX.out.then o5),.inl ⟨by rw [HR.out];simp [classEnd,HNO.out],rfl⟩⟩
        | true=>
         have hsm:same4 q1.not.a q1.not.b q1.not.c q1.not.d 0 0 0 0=q1.not.isNone:=rfl
         have x0:Go.bits .xor .u64 (if IntKind.u64.signed=true then -1 else IntKind.u64.max) q1.a=q1.not.a:=xor1 HQO.out.1
         have x1:Go.bits .xor .u64 (if IntKind.u64.signed=true then -1 else IntKind.u64.max) q1.b=q1.not.b:=xor1 HQO.out.2.1
         have x2:Go.bits .xor .u64 (if IntKind.u64.signed=true then -1 else IntKind.u64.max) q1.c=q1.not.c:=xor1 HQO.out.2.2.1
         have x3:Go.bits .xor .u64 (if IntKind.u64.signed=true then -1 else IntKind.u64.max) q1.d=q1.not.d:=xor1 HQO.out.2.2.2
         cases hno:q1.not.isNone
         ·have HNO:=Lib.hid hno
          rw [hno] at hsm
          have HSM:=Lib.hid hsm;clear hsm
          clear hno
          go_wp2_with (first
           | (go_at_call 188;refine HT2.out.mono ?_;rintro e w5 ⟨rfl,h5,o5⟩;have hs5:=(o5.block _ hslt (by omega)).trans HSR.out;have hn5:=(o5.block _ hnlt (by omega)).trans HNR.out;have HS5:=Lib.hid hs5;have HN5:=Lib.hid hn5;have s0:w5.cell? ⟨nb+1,0,none⟩=some (.int .u64 q1.a):=cell_of_block hs5 0;have t0:=free_of_block hs5 0;have s1:w5.cell? ⟨nb+1,1,none⟩=some (.int .u64 q1.b):=cell_of_block hs5 1;have t1:=free_of_block hs5 1;have s2:w5.cell? ⟨nb+1,2,none⟩=some (.int .u64 q1.c):=cell_of_block hs5 2;have t2:=free_of_block hs5 2;have s3:w5.cell? ⟨nb+1,3,none⟩=some (.int .u64 q1.d):=cell_of_block hs5 3;have t3:=free_of_block hs5 3;clear hs5 hn5)
           | (go_at_call 174;refine (must_yes (by first | rfl | simp [HSM.out]) _).mono ?_;rintro e w6 ⟨rfl,rfl⟩)
           | (refine wpList_store_row rfl 138 (.tmp 2) (.tmp 55) ?_ nb (Q4.cells q1.not) ?_ ?_ 138 (Q4.cells Q4.none) ?_ info4 rfl (q4_one _) ?_;(with_reducible rfl);rfl;rfl;exact set4_other HN5.out (by omega)))
          refine bodyPost_ret (results_cell_row rfl _ _ nb 138 (Q4.cells q1.not) (0,0) _ rfl (setRow_heap _ _ _ _ _ _ (set4_other HN5.out (by omega))) Tryz.underlying138 rfl info4) rfl ?_
          refine⟨(only_set4 (b:=nb+1) (HX.out.then o5) (by omega)).setRow (q:=nb) (.inr (by omega)) _,.inr ⟨q1.not,r2.tail,by rw [HR.out];simp [classEnd,HNO.out],rfl,?_⟩⟩
          unfold ReadAt at h5 ⊢
          rw [setRow_other _ _ _ _ (by omega)]
          exact set4_other h5 (by omega)
         ·have HNO:=Lib.hid hno
          rw [hno] at hsm
          have HSM:=Lib.hid hsm;clear hsm
          clear hno
          go_wp2_with (first
           | (go_at_call 188;refine HT2.out.mono ?_;rintro e w5 ⟨rfl,h5,o5⟩;have hs5:=(o5.block _ hslt (by omega)).trans HSR.out;have hn5:=(o5.block _ hnlt (by omega)).trans HNR.out;have HS5:=Lib.hid hs5;have HN5:=Lib.hid hn5;have s0:w5.cell? ⟨nb+1,0,none⟩=some (.int .u64 q1.a):=cell_of_block hs5 0;have t0:=free_of_block hs5 0;have s1:w5.cell? ⟨nb+1,1,none⟩=some (.int .u64 q1.b):=cell_of_block hs5 1;have t1:=free_of_block hs5 1;have s2:w5.cell? ⟨nb+1,2,none⟩=some (.int .u64 q1.c):=cell_of_block hs5 2;have t2:=free_of_block hs5 2;have s3:w5.cell? ⟨nb+1,3,none⟩=some (.int .u64 q1.d):=cell_of_block hs5 3;have t3:=free_of_block hs5 3;clear hs5 hn5)
           | (go_at_call 174;refine (must_no (by first | rfl | simp [HSM.out]) _).mono ?_;rintro e w6 ⟨rfl,rfl⟩))
          exact⟨rfl,(only_set4 (b:=nb+1) (HX.out.then o5) (by omega)),.inl ⟨by rw [HR.out];simp [classEnd,HNO.out],rfl⟩⟩
      ·have hle:((a+j:Nat):Int)≤b:=by omega
       obtain ⟨x,hx⟩:∃ x,a+j=x:=⟨_,rfl⟩
       rw [hx] at hle ⊢
       have hx256:x<256:=by omega
       have s0:wr.cell? ⟨nb+1,0,none⟩=some (.int .u64 q1.a):=cell_of_block hsr 0
       have s1:wr.cell? ⟨nb+1,1,none⟩=some (.int .u64 q1.b):=cell_of_block hsr 1
       have s2:wr.cell? ⟨nb+1,2,none⟩=some (.int .u64 q1.c):=cell_of_block hsr 2
       have s3:wr.cell? ⟨nb+1,3,none⟩=some (.int .u64 q1.d):=cell_of_block hsr 3
       have fr0:=free_of_block hsr 0
       have fr1:=free_of_block hsr 1
       have fr2:=free_of_block hsr 2
       have fr3:=free_of_block hsr 3
       have HSR:=Lib.hid hsr;clear hsr
       go_wp2_with fail
       have hw4:x<64∨(64≤x∧x<128)∨(128≤x∧x<192)∨192≤x:=by omega
       have h63:=and63 x hx256
       obtain ⟨k,hk⟩:∃ k,x%64=k:=⟨_,rfl⟩
       have hk64:k<64:=by omega
       rw [hk] at h63
       rcases hw4 with h4 | h4 | h4 | h4
       ·have hd:(x:Int)/64=0:=by omega
        have hob:=or_bit' q1.a k hqj.1 hk64
        go_region
        go_wp2_with fail
        refine⟨⟨j+1,by omega,by rw [←hx];simp;omega,?_,(honr.setCell (p:=⟨nb+1,0,none⟩) (.inl rfl) _).drew⟩,by simp only [intOf];omega⟩
        show (wr.setCell _ _).heap[nb+1]?=_
        rw [setCell_block HSR.out,withAll_snoc,hq1,hx]
        simp only [Q4.with,Q4.cells]
        rw [if_pos (by omega)]
        rw [show x=k by omega]
        rfl
       ·have hd:(x:Int)/64=1:=by omega
        have hob:=or_bit' q1.b k hqj.2.1 hk64
        go_region
        go_wp2_with fail
        refine⟨⟨j+1,by omega,by rw [←hx];simp;omega,?_,(honr.setCell (p:=⟨nb+1,1,none⟩) (.inl rfl) _).drew⟩,by simp only [intOf];omega⟩
        show (wr.setCell _ _).heap[nb+1]?=_
        rw [setCell_block HSR.out,withAll_snoc,hq1,hx]
        simp only [Q4.with,Q4.cells]
        rw [if_neg (by omega),if_pos (by omega)]
        rw [show x - 64=k by omega]
        rfl
       ·have hd:(x:Int)/64=2:=by omega
        have hob:=or_bit' q1.c k hqj.2.2.1 hk64
        go_region
        go_wp2_with fail
        refine⟨⟨j+1,by omega,by rw [←hx];simp;omega,?_,(honr.setCell (p:=⟨nb+1,2,none⟩) (.inl rfl) _).drew⟩,by simp only [intOf];omega⟩
        show (wr.setCell _ _).heap[nb+1]?=_
        rw [setCell_block HSR.out,withAll_snoc,hq1,hx]
        simp only [Q4.with,Q4.cells]
        rw [if_neg (by omega),if_neg (by omega),if_pos (by omega)]
        rw [show x - 128=k by omega]
        rfl
       ·have hd:(x:Int)/64=3:=by omega
        have hob:=or_bit' q1.d k hqj.2.2.2 hk64
        go_region
        go_wp2_with fail
        refine⟨⟨j+1,by omega,by rw [←hx];simp;omega,?_,(honr.setCell (p:=⟨nb+1,3,none⟩) (.inl rfl) _).drew⟩,by simp only [intOf];omega⟩
        show (wr.setCell _ _).heap[nb+1]?=_
        rw [setCell_block HSR.out,withAll_snoc,hq1,hx]
        simp only [Q4.with,Q4.cells]
        rw [if_neg (by omega),if_neg (by omega),if_neg (by omega)]
        rw [show x - 192=k by omega]
        rfl
    ·have habi:¬ (a:Int)≤b:=by omega
     have HO1:=Lib.hid ((loop_none (f:=f') (HC1.out.trans (if_neg hab))).symm.trans HCL.out)
     go_wp2_with (go_at_call 174;refine (must_no rfl _).mono ?_;rintro e w4 ⟨rfl,rfl⟩)
     exact⟨rfl,HON.out.then HONC.out,.inl ⟨by rw [HR.out,←HO1.out];rfl,rfl⟩⟩
 ·intro hX
  have HX:=Lib.hid hX;clear hX
  go_wp2_with (go_at_call 188;refine (HT.out _ (read_old2 HW.out _ _)).mono ?_;rintro e w1 ⟨rfl,h1,o1⟩)
  go_step3
  rename (∀(a:Act) (w:World),_→_)=>hk
  refine hk _ _ (HX.out _ _ ⟨⟨_,_,_,_,_,_,_,_,_,_,_,_,_,_,_,_,_,_,_,_,_,_,_,_,_,_,_,_,_,_,_,_,_,_,_,_,_,_,_,_,_,_,_,_,_,_,_,_,_,_,_,_,rfl⟩,Q4.none,l1,f,h1,?_,?_,?_,Q4.none_ok,hl1f.1,hl1f.2,HO.out⟩)
  ·rw [o1.block (nb+1) (by simp;omega) (by omega)]
   rw [←hnb]
   exact alloc_block' _ _ _ (by simp)
  ·rw [o1.block nb (by simp;omega) (by omega)]
   rw [←hnb]
   exact alloc_old (alloc_block _ _) _
  ·exact ((Only.refl _ w).alloc _ |>.alloc _).trans (o1.mono fun _ _ h=>.inl h)
end Go.Proofs.YtbchkjfnakabkaaGreatDoor
namespace Go.Proofs.YtbchkjfnakabkaaGreatDoor
open Go.RowKit PX
mutual
def RxA.blocks:RxA→List Nat
 | .node _ _ _ _ _ _ _ a _ l=>(match a with | some p=>[p.block] | none=>[])++blocksAll l
def blocksAll:List RxA→List Nat
 | []=>[]
 | x::xs=>x.blocks++blocksAll xs
end
theorem blocksAll_mem:∀ {l:List RxA} {b:Nat},b∈blocksAll l↔∃ x∈l,b∈x.blocks
 | [],b=>by simp [blocksAll]
 | x::xs,b=>by simp [blocksAll,blocksAll_mem]
mutual
theorem RxA.In.keep {w w':World} {B B':Nat}:∀ {x:RxA},x.In w B→(∀b∈x.blocks,b<B'∧∀ o,w'.cell? ⟨b,o,none⟩=w.cell? ⟨b,o,none⟩)→x.In w' B'
 | .node k mn mx s0 s1 s2 s3 a cap l,h,hk=>by
  simp only [RxA.In] at h ⊢
  refine⟨h.1,h.2.1,h.2.2.1,h.2.2.2.1,?_⟩
  rcases h.2.2.2.2 with h | ⟨b,o,rfl,hb,hl⟩
  ·exact .inl h
  ·have hb':=hk b (by simp [RxA.blocks])
   exact .inr ⟨b,o,rfl,hb'.1,InL.keep hb'.2 hl (fun c hc=>hk c (by simp [RxA.blocks,hc]))⟩
theorem InL.keep {w w':World} {B B' b:Nat} (hb:∀ o,w'.cell? ⟨b,o,none⟩=w.cell? ⟨b,o,none⟩):∀ {l:List RxA} {o:Nat},InL w B b o l→(∀c∈blocksAll l,c<B'∧∀ o,w'.cell? ⟨c,o,none⟩=w.cell? ⟨c,o,none⟩)→InL w' B' b o l
 | [],_,_,_=>trivial
 | x::xs,o,h,hk=>by
  simp only [InL] at h ⊢
  exact⟨fun j hj=>(hb _).trans (h.1 j hj),RxA.In.keep h.2.1 (fun c hc=>hk c (by simp [blocksAll,hc])),InL.keep hb h.2.2 (fun c hc=>hk c (by simp [blocksAll,hc]))⟩
end
structure Kept (w:World) (B:Nat) (v1 v2:Value) (X:RxA):Prop where
 lies:X.In w w.heap.size
 far:∀ b∈X.blocks,B≤b∧b<w.heap.size∧v1.ownBlock≠some b∧v2.ownBlock≠some b
theorem Kept.later {w w':World} {B:Nat} {v1 v2 v1' v2':Value} {X:RxA} (h:Kept w B v1 v2 X) (hs:w.heap.size≤w'.heap.size)
 (hb:∀ b,B≤b→b<w.heap.size→v1.ownBlock≠some b→v2.ownBlock≠some b→w'.heap[b]?=w.heap[b]?∧v1'.ownBlock≠some b∧v2'.ownBlock≠some b):Kept w' B v1' v2' X:=by
 refine⟨h.lies.keep fun b hbb=>?_,fun b hbb=>?_⟩
 ·obtain ⟨h1,h2,h3,h4⟩:=h.far b hbb
  exact⟨by omega,fun o=>World.cell?_of_block (w:=w) (hb b h1 h2 h3 h4).1⟩
 ·obtain ⟨h1,h2,h3,h4⟩:=h.far b hbb
  have:=hb b h1 h2 h3 h4
  exact⟨h1,by omega,this.2.1,this.2.2⟩
def rxCells:List RxA→List Value
 | []=>[]
 | x::xs=>x.cells++rxCells xs
theorem cells_len (x:RxA):x.cells.length=8:=by cases x;rfl
theorem rxCells_length:∀ l:List RxA,(rxCells l).length=l.length*8
 | []=>rfl
 | x::xs=>by simp [rxCells,rxCells_length xs,cells_len];omega
theorem rxCells_append:∀ (a b:List RxA),rxCells (a++b)=rxCells a++rxCells b
 | [],_=>rfl
 | x::a,b=>by simp [rxCells,rxCells_append a b]
theorem inL_of_row {w:World} {B g:Nat}:∀ {l:List RxA} {o:Nat},(∀j u,(rxCells l)[j]?=some u→w.cell? ⟨g,o+j,none⟩=some u)→(∀X∈l,X.In w B)→InL w B g o l
 | [],_,_,_=>trivial
 | x::xs,o,h,hi=>by
  simp only [InL]
  refine⟨fun j hj=>?_,hi x (by simp),?_⟩
  ·have hl:j<x.cells.length:=by rw [cells_len];exact hj
   rw [List.getElem?_eq_getElem hl]
   apply h
   simp only [rxCells]
   rw [List.getElem?_append_left hl,List.getElem?_eq_getElem hl]
  ·refine inL_of_row (fun j u hu=>?_) (fun X hX=>hi X (by simp [hX]))
   rw [show o+8+j=o+(8+j) by omega]
   apply h
   simp only [rxCells]
   rw [List.getElem?_append_right (by rw [cells_len];omega),cells_len,show 8+j - 8=j by omega]
   exact hu
def joinedA (kind:Int) (a:Option Addr) (cap:Nat):List RxA→RxA
 | [x]=>x
 | l=>.node kind 0 0 0 0 0 0 a cap l
theorem joinedA_bare (kind:Int) (a:Option Addr) (cap:Nat):∀ l:List RxA,(joinedA kind a cap l).bare=Rx.joined kind (l.map RxA.bare)
 | []=>by simp [joinedA,RxA.bare,Rx.joined,bareAll]
 | [x]=>by simp [joinedA,Rx.joined]
 | x::y::l=>by simp [joinedA,RxA.bare,Rx.joined,bareAll,bareAll_eq]
end Go.Proofs.YtbchkjfnakabkaaGreatDoor
namespace Go.Proofs.YtbchkjfnakabkaaGreatDoor
open Go.RowKit PX
theorem info_rx:(Tryz.prog.info? 141).map (·.size)=some 8:=by kernel_rfl
theorem info_rx3:(Tryz.prog.info? 141).map (fun i=>(i.zero,i.size,i.bytes))=some (some (.agg #[.int .i64 0,.int .i64 0,.int .i64 0,.int .u64 0,.int .u64 0,.int .u64 0,.int .u64 0,.slice none 0 0]),8,80):=by kernel_rfl
def zeroRx:Array Value:=#[.int .i64 0,.int .i64 0,.int .i64 0,.int .u64 0,.int .u64 0,.int .u64 0,.int .u64 0,.slice none 0 0]
def cellsA (x:RxA):Array Value:=x.cells.toArray
theorem cellsA_size (x:RxA):(cellsA x).size=8:=by cases x;rfl
theorem cellsA_one (x:RxA):(cellsA x).all (·.oneCell')=true:=by cases x;simp [cellsA,RxA.cells,Value.oneCell']
theorem info_rxA (x:RxA):(Tryz.prog.info? 141).map (·.size)=some (cellsA x).size:=by rw [cellsA_size];exact info_rx
theorem below_newRow (w:World) (o:Obj) (cs:Array Value):Below w.heap.size w ((w.alloc o).setRow w.heap.size cs):=by
 have h1:=(Below.refl w.heap.size w).alloc (Nat.le_refl _) o
 exact⟨h1.os,h1.tape,h1.output,by simp,fun k hk=>(setRow_other _ _ _ _ (by omega)).trans (h1.block k hk)⟩
theorem row_value {w:World} {base n:Nat} {v:Value} {xs:List Value} (h:w.ownsRow base 141 8 v n xs):∃ a cap,v=.slice a n cap∧n≤cap∧cap≤maxLen∧((n=0∧a=none)∨∃ g,a=some ⟨g,0,none⟩∧base≤g∧g<w.heap.size∧v.ownBlock=some g):=by
 have hlt:=h.lt
 rcases h.2 with ⟨rfl,h0⟩ | ⟨g,cap,cur,rfl,hg,hh,h1,h2,_⟩
 ·subst h0;exact⟨none,0,rfl,Nat.le_refl _,by simp,.inl ⟨rfl,rfl⟩⟩
 ·exact⟨some ⟨g,0,none⟩,cap,rfl,h1,h2,.inr ⟨g,rfl,hg,lt_of_block hh,rfl⟩⟩
set_option maxRecDepth 100000 in
set_option maxHeartbeats 1000000 in
theorem joined_any (w:World) (kind:Int) (v:Value) (base:Nat) (L:List RxA) (hown:w.ownsRow base 141 8 v L.length (rxCells L)) (hlen:L.length≤1000) :
 Calls Tryz.prog 187 #[.int .i64 kind,v] w fun e w'=>∃ a cap,v=.slice a L.length cap∧e=.returned (.agg (cellsA (joinedA kind a cap L)))∧Below w.heap.size w w':=by
 obtain ⟨a,cap,rfl,hc1,hc2,ha⟩:=row_value hown
 by_cases h1:L.length=1
 ·obtain ⟨x,rfl⟩:=List.length_eq_one_iff.1 h1
  obtain ⟨g,rfl,hbg,hgw,-⟩:=ha.resolve_left (by rintro ⟨h,-⟩;simp at h)
  have hC:∀ j u,(cellsA x)[j]?=some u→w.cell? ⟨g,j,none⟩=some u:=by
   intro j u hu
   have hj:j<8:=by have:=(Array.getElem?_eq_some_iff.1 hu).1;rwa [cellsA_size] at this
   rw [hown.cellAt j (by simp;omega)]
   simpa [rxCells,cellsA] using hu
  have HC:=Lib.hid hC;clear hC
  have HSZ:=Lib.hid (cellsA_size x)
  have HONE:=Lib.hid (cellsA_one x)
  show Calls _ _ _ _ fun e w'=>∃ a' cap',Value.slice (some ⟨g,0,none⟩) [x].length cap=.slice a' [x].length cap'∧e=.returned (.agg (cellsA x))∧Below w.heap.size w w'
  obtain ⟨CS,HCS⟩:∃ CS,Hid (cellsA x=CS):=⟨_,Lib.hid rfl⟩
  rw [HCS.out] at HC HSZ HONE ⊢
  clear hown
  have HZ:=Lib.hid (show (w.alloc (.cells zeroRx 141)).heap[w.heap.size]?=some (.cells zeroRx 141 (0,0)) from alloc_block w _)
  simp only [List.length_singleton]
  have hINF:(Tryz.prog.info? 141).map (·.size)=some CS.size:=by rw [HSZ.out];exact info_rx
  have HINF:=Lib.hid hINF;clear hINF
  have HC2:=Lib.hid (fun j u hu=>(World.cell?_of_block (w:=w) (a:=⟨g,j,none⟩) (Below.heap_alloc w (.cells zeroRx 141) g hgw)).trans (HC.out j u hu))
  go_enter Tryz.func187,Tryz.ntmps187
  go_wp2_with (first
   | refine wpList_load_at rfl 141 (.tmp 9) rfl g 0 rfl CS _ (by intro j u hu;rw [Nat.zero_add];exact HC2.out j u hu) Tryz.underlying141 rfl HINF.out ?_
   | refine wpList_store_row rfl 141 (.tmp 4) (.tmp 10) rfl w.heap.size CS rfl rfl 141 _ HZ.out HINF.out (by rw [HSZ.out];rfl) HONE.out ?_)
  refine bodyPost_ret (results_cell_row rfl _ _ w.heap.size 141 CS (0,0) _ rfl (setRow_heap _ _ _ _ _ _ HZ.out) Tryz.underlying141 rfl HINF.out) rfl ?_
  exact⟨_,_,rfl,rfl,below_newRow w _ _⟩
 ·have hj:joinedA kind a cap L=.node kind 0 0 0 0 0 0 a cap L:=by
   match L,h1 with
   | [],_=>rfl
   | [_],h1=>exact absurd rfl h1
   | _::_::_,_=>rfl
  suffices hs:Calls Tryz.prog 187 #[.int .i64 kind,.slice a L.length cap] w fun e w'=>e=.returned (.agg (cellsA (.node kind 0 0 0 0 0 0 a cap L)))∧Below w.heap.size w w' by
   refine hs.mono ?_
   rintro e w' ⟨he,hb⟩
   exact⟨a,cap,rfl,by rw [hj];exact he,hb⟩
  have HINF:=Lib.hid (info_rxA (.node kind 0 0 0 0 0 0 a cap L))
  have HONE:=Lib.hid (cellsA_one (.node kind 0 0 0 0 0 0 a cap L))
  have hn1:((L.length:Int)==1)=false:=by rw [beq_eq_false_iff_ne];omega
  obtain ⟨n,hn⟩:∃ n,L.length=n:=⟨_,rfl⟩
  have hcs:cellsA (.node kind 0 0 0 0 0 0 a cap L)=#[.int .i64 kind,.int .i64 0,.int .i64 0,.int .u64 0,.int .u64 0,.int .u64 0,.int .u64 0,.slice a n cap]:=by rw [←hn];rfl
  obtain ⟨CS,HCS⟩:∃ CS,Hid (cellsA (.node kind 0 0 0 0 0 0 a cap L)=CS):=⟨_,Lib.hid rfl⟩
  rw [HCS.out] at HINF HONE hcs ⊢
  rw [hn] at hn1 hlen ⊢
  clear hown ha hj
  have hsz8:CS.size=8:=by rw [hcs];rfl
  have HCE:=Lib.hid hcs;clear hcs
  have HZ:=Lib.hid (show (w.alloc (.cells zeroRx 141)).heap[w.heap.size]?=some (.cells zeroRx 141 (0,0)) from alloc_block w _)
  go_enter Tryz.func187,Tryz.ntmps187
  go_wp2_with (first
   | refine wpList_store_row rfl 141 (.tmp 4) (.tmp 13) rfl w.heap.size CS rfl (by rw [HCE.out];rfl) 141 _ HZ.out HINF.out (by rw [hsz8];rfl) HONE.out ?_)
  refine bodyPost_ret (results_cell_row rfl _ _ w.heap.size 141 CS (0,0) _ rfl (setRow_heap _ _ _ _ _ _ HZ.out) Tryz.underlying141 rfl HINF.out) rfl ?_
  exact⟨rfl,below_newRow w _ _⟩
end Go.Proofs.YtbchkjfnakabkaaGreatDoor
namespace Go.Proofs.YtbchkjfnakabkaaGreatDoor
open Go.RowKit PX
structure AltInv (B:Nat) (w:World) (v1 v2:Value) (l1 l2:List RxA):Prop where
 own1:w.ownsRow B 141 8 v1 l1.length (rxCells l1)
 own2:w.ownsRow B 141 8 v2 l2.length (rxCells l2)
 apart:∀ g,v1.ownBlock=some g→v2.ownBlock≠some g
 kept1:∀ X∈l1,Kept w B v1 v2 X
 kept2:∀ X∈l2,Kept w B v1 v2 X
theorem Kept.swap {w:World} {B:Nat} {v1 v2:Value} {X:RxA} (h:Kept w B v1 v2 X):Kept w B v2 v1 X:=
 ⟨h.lies,fun b hb=>⟨(h.far b hb).1,(h.far b hb).2.1,(h.far b hb).2.2.2,(h.far b hb).2.2.1⟩⟩
theorem AltInv.swap {B:Nat} {w:World} {v1 v2:Value} {l1 l2:List RxA} (h:AltInv B w v1 v2 l1 l2):AltInv B w v2 v1 l2 l1:=
 ⟨h.own2,h.own1,fun g h2 h1=>h.apart g h1 h2,fun X hX=>(h.kept2 X hX).swap,fun X hX=>(h.kept1 X hX).swap⟩
theorem Kept.only {w w':World} {B:Nat} {v1 v2:Value} {X:RxA} {r:Nat→Prop} (h:Kept w B v1 v2 X) (ho:Only r w w') (hr:∀ k,r k→k<B):Kept w' B v1 v2 X:=
 h.later ho.size fun b hb hlt h1 h2=>⟨ho.block b hlt (fun hk=>by have:=hr b hk;omega),h1,h2⟩
theorem AltInv.only {B:Nat} {w w':World} {v1 v2:Value} {l1 l2:List RxA} {r:Nat→Prop} (h:AltInv B w v1 v2 l1 l2) (ho:Only r w w') (hr:∀ k,r k→k<B):AltInv B w' v1 v2 l1 l2:=
 ⟨ho.ownsRow h.own1 (fun k hk hrk=>by have:=(h.own1.lt k hk).1;have:=hr k hrk;omega),ho.ownsRow h.own2 (fun k hk hrk=>by have:=(h.own2.lt k hk).1;have:=hr k hrk;omega),h.apart,
  fun X hX=>(h.kept1 X hX).only ho hr,fun X hX=>(h.kept2 X hX).only ho hr⟩
theorem AltInv.start (B:Nat) (w:World):AltInv B w (.slice none 0 0) (.slice none 0 0) [] []:=
 ⟨⟨rfl,.inl ⟨rfl,rfl⟩⟩,⟨rfl,.inl ⟨rfl,rfl⟩⟩,(fun g h=>by cases h),(fun X hX=>by cases hX),(fun X hX=>by cases hX)⟩
theorem AltInv.push {B:Nat} {w w':World} {v1 v2:Value} {l1 l2:List RxA} {X:RxA} {g cap:Nat} (h:AltInv B w v1 v2 l1 l2) (hX:Kept w B v1 v2 X)
 (hown:w'.ownsRow B 141 8 (.slice (some ⟨g,0,none⟩) (l2.length+1) cap) (l2.length+1) (rxCells l2++X.cells)) (hg:w.grownBy w' v2.ownBlock) (hat:v2.ownBlock=some g∨g=w.heap.size) :
 AltInv B w' v1 (.slice (some ⟨g,0,none⟩) (l2.length+1) cap) l1 (l2++[X]):=by
 have ho:Only (fun k=>v2.ownBlock=some k) w w':=Only.grown (Only.refl _ w) hg (fun k hk=>.inl hk)
 have hk:∀ Y,Kept w B v1 v2 Y→Kept w' B v1 (.slice (some ⟨g,0,none⟩) (l2.length+1) cap) Y:=fun Y hY=>
  hY.later ho.size fun b hb hlt h1 h2=>⟨ho.block b hlt h2,h1,fun he=>by
   have he:g=b:=by simpa [Value.ownBlock] using he
   subst he
   rcases hat with h' | h'
   ·exact h2 h'
   ·omega⟩
 refine⟨ho.ownsRow h.own1 (fun k h1 h2=>h.apart k h1 h2),?_,fun k h1 h2=>?_,fun Y hY=>hk Y (h.kept1 Y hY),fun Y hY=>?_⟩
 ·rw [rxCells_append,show rxCells [X]=X.cells by simp [rxCells],List.length_append,List.length_singleton]
  exact hown
 ·have he:g=k:=by simpa [Value.ownBlock] using h2
  subst he
  rcases hat with h' | h'
  ·exact h.apart g h1 h'
  ·have:=(h.own1.lt g h1).2;omega
 ·rcases List.mem_append.1 hY with hY | hY
  ·exact hk Y (h.kept2 Y hY)
  ·obtain rfl:=List.mem_singleton.1 hY
   exact hk _ hX
theorem AltInv.join {B:Nat} {w:World} {v1:Value} {l1 l2:List RxA} {a:Option Addr} {cap:Nat} (kind:Int) (hkd:I64 kind) (h:AltInv B w v1 (.slice a l2.length cap) l1 l2) (hl:l2.length≤1000) :
 Kept w B v1 (.slice none 0 0) (joinedA kind a cap l2):=by
 have hlone:∀ x,l2=[x]→Kept w B v1 (.slice none 0 0) x:=fun x hx=>
  (h.kept2 x (by simp [hx])).later (Nat.le_refl _) fun b _ _ h1 _=>⟨rfl,h1,fun h=>by cases h⟩
 have hnode:Kept w B v1 (.slice none 0 0) (.node kind 0 0 0 0 0 0 a cap l2):=by
  obtain ⟨a',cap',he,hc1,hc2,ha⟩:=row_value h.own2
  simp only [Value.slice.injEq,true_and] at he
  obtain ⟨rfl,rfl⟩:=he
  have hblk:∀ b∈(RxA.node kind 0 0 0 0 0 0 a cap l2).blocks,(∃g,a=some ⟨g,0,none⟩∧b=g∧B≤g∧g<w.heap.size∧(Value.slice a l2.length cap).ownBlock=some g)∨∃ Y∈l2,b∈Y.blocks:=by
   intro b hb
   simp only [RxA.blocks,List.mem_append] at hb
   rcases hb with hb | hb
   ·rcases ha with ⟨-, rfl⟩ | ⟨g,rfl,h1,h2,h3⟩
    ·simp at hb
    ·exact .inl ⟨g,rfl,by simpa using hb,h1,h2,h3⟩
   ·exact .inr (blocksAll_mem.1 hb)
  refine⟨?_,fun b hb=>?_⟩
  ·simp only [RxA.In]
   refine⟨⟨hkd,⟨by omega,by omega⟩,⟨by omega,by omega⟩,⟨by omega,by omega⟩,⟨by omega,by omega⟩,⟨by omega,by omega⟩,⟨by omega,by omega⟩⟩,hc1,hc2,by omega,?_⟩
   rcases ha with ⟨h0,-⟩ | ⟨g,rfl,h1,h2,h3⟩
   ·exact .inl (List.eq_nil_of_length_eq_zero h0)
   ·refine .inr ⟨g,0,rfl,h2,inL_of_row (fun j u hu=>?_) (fun X hX=>(h.kept2 X hX).lies)⟩
    have hj:j<l2.length*8:=by rw [←rxCells_length];exact (List.getElem?_eq_some_iff.1 hu).1
    rw [Nat.zero_add,h.own2.cellAt j hj];exact hu
  ·rcases hblk b hb with ⟨g,-, rfl,h1,h2,h3⟩ | ⟨Y,hY,hbY⟩
   ·exact⟨h1,h2,fun he=>h.apart _ he h3,fun he=>by cases he⟩
   ·obtain ⟨h1,h2,h3,-⟩:=(h.kept2 Y hY).far b hbY
    exact⟨h1,h2,h3,fun he=>by cases he⟩
 match l2,hlone,hnode with
 | [],_,hn=>exact hn
 | [x],hl1,_=>exact hl1 x rfl
 | x::y::l,_,hn=>exact hn
theorem AltInv.drop {B:Nat} {w:World} {v1 v2:Value} {l1 l2:List RxA} (h:AltInv B w v1 v2 l1 l2):AltInv B w v1 (.slice none 0 0) l1 []:=
 ⟨h.own1,⟨rfl,.inl ⟨rfl,rfl⟩⟩,(fun g _ h2=>by cases h2),(fun X hX=>(h.kept1 X hX).later (Nat.le_refl _) fun b _ _ h1 _=>⟨rfl,h1,(fun h=>by cases h)⟩),(fun X hX=>by cases hX)⟩
theorem rx_one (X:RxA):∀ v∈X.cells,v.oneCell'=true:=by
 obtain ⟨k,mn,mx,s0,s1,s2,s3,a,cap,l⟩:=X
 intro v hv
 simp only [RxA.cells,List.mem_cons,List.not_mem_nil,or_false] at hv
 rcases hv with rfl | rfl | rfl | rfl | rfl | rfl | rfl | rfl<;>rfl
end Go.Proofs.YtbchkjfnakabkaaGreatDoor
namespace Go.Proofs.YtbchkjfnakabkaaGreatDoor
open Go.RowKit PX
def ReadsRx (rb:Nat) (w:World) (o:Option (Rx × List UInt8)) (e:Ending) (w':World):Prop:=
 Only (fun k=>k=rb) w w'∧((o=none∧e=.panicked wrongP)∨∃ (X:RxA) (r:List UInt8),o=some (X.bare,r)∧e=.returned (.agg (cellsA X))∧ReadAt w' rb r∧X.In w' w'.heap.size∧∀ b∈X.blocks,w.heap.size≤b∧b<w'.heap.size)
def atomB (altf:List UInt8→Option (Rx × List UInt8)) (s:List UInt8):Option (Rx × List UInt8):=
 if starts 46 s then some (.set Q4.all,s.tail)
 else if starts 91 s then
  match classR s.length s.tail with
  | none=>none
  | some (q,r)=>some (.set q,r)
 else if starts 40 s then
  match altf s.tail with
  | none=>none
  | some (x,r)=>if starts 41 r then some (x,r.tail) else none
 else
  match one butAtom s with
  | none=>none
  | some (b,r)=>some (.set (Q4.none.with b),r)
def setA (q:Q4):RxA:=.node 0 0 0 q.a q.b q.c q.d none 0 []
theorem setA_bare (q:Q4):(setA q).bare=.set q:=by simp [setA,RxA.bare,Rx.set,bareAll]
theorem setA_in (q:Q4) (hq:q.Ok) (w:World) (B:Nat):(setA q).In w B:=by
 simp only [setA,RxA.In]
 exact⟨⟨⟨by omega,by omega⟩,⟨by omega,by omega⟩,⟨by omega,by omega⟩,hq.1,hq.2.1,hq.2.2.1,hq.2.2.2⟩,by simp,by simp,by simp,.inl trivial⟩
theorem setA_blocks (q:Q4):(setA q).blocks=[]:=by simp [setA,RxA.blocks,blocksAll]
theorem set_cells {w:World} {b:Nat} {q:Q4} {v0 v1 v2 v3:Int} (h:w.heap[b]?=some (.cells (cellsA (setA q)) 141 (0,0))) :
 ((((w.setCell ⟨b,3,none⟩ (.int .u64 v0)).setCell ⟨b,4,none⟩ (.int .u64 v1)).setCell ⟨b,5,none⟩ (.int .u64 v2)).setCell ⟨b,6,none⟩ (.int .u64 v3)).heap[b]?=some (.cells (cellsA (setA ⟨v0,v1,v2,v3⟩)) 141 (0,0)):=by
 rw [setCell_block (setCell_block (setCell_block (setCell_block h _ _) _ _) _ _)]
 rfl
theorem wrap_bit (k:Nat) (hk:k<64):IntKind.u64.wrap (2 ^ k)=orBit 0 k:=by
 have h:=or_bit' 0 k ⟨by omega,by omega⟩ hk
 have h2:IntKind.u64.wrap (2 ^ k)=((2 ^ k:Nat):Int):=by
  have hp:(2:Nat) ^ k<2 ^ 64:=Nat.pow_lt_pow_right (by omega) hk
  have e:((2:Int) ^ k)=((2 ^ k:Nat):Int):=by simp
  rw [e]
  generalize (2:Nat) ^ k=N at hp
  simp only [IntKind.wrap,IntKind.signed,IntKind.bits]
  simp
  omega
 rw [h2]
 unfold orBit
 simp
theorem readsRx_none {rb:Nat} {w:World} {e:Ending} {w':World} (h:ReadsRx rb w none e w'):e=.panicked wrongP∧Only (fun k=>k=rb) w w':=by
 rcases h with ⟨h1,⟨-, h2⟩ | ⟨_,_,h2,-⟩⟩
 ·exact⟨h2,h1⟩
 ·cases h2
theorem readsRx_some {rb:Nat} {w:World} {x:Rx} {r:List UInt8} {e:Ending} {w':World} (h:ReadsRx rb w (some (x,r)) e w') :
 ∃ X:RxA,x=X.bare∧e=.returned (.agg (cellsA X))∧ReadAt w' rb r∧Only (fun k=>k=rb) w w'∧X.In w' w'.heap.size∧∀ b∈X.blocks,w.heap.size≤b∧b<w'.heap.size:=by
 rcases h with ⟨h1,⟨h2,-⟩ | ⟨X,r',h2,h3,h4,h5,h6⟩⟩
 ·cases h2
 ·cases h2;exact⟨X,rfl,h3,h4,h1,h5,h6⟩
theorem set_cells_other {w:World} {b k:Nat} {o:Obj} {v0 v1 v2 v3:Value} (h:w.heap[k]?=some o) (hk:k≠b) :
 ((((w.setCell ⟨b,3,none⟩ v0).setCell ⟨b,4,none⟩ v1).setCell ⟨b,5,none⟩ v2).setCell ⟨b,6,none⟩ v3).heap[k]?=some o:=by
 rw [Below.heap_setCell _ _ _ _ (by exact fun e=>hk e),Below.heap_setCell _ _ _ _ (by exact fun e=>hk e),Below.heap_setCell _ _ _ _ (by exact fun e=>hk e),Below.heap_setCell _ _ _ _ (by exact fun e=>hk e)]
 exact h
theorem only_set_cells {r:Nat→Prop} {a w:World} {b:Nat} {v0 v1 v2 v3:Value} (h:Only r a w) (hb:a.heap.size≤b) :
 Only r a ((((w.setCell ⟨b,3,none⟩ v0).setCell ⟨b,4,none⟩ v1).setCell ⟨b,5,none⟩ v2).setCell ⟨b,6,none⟩ v3):=
 (((h.setCell (p:=⟨b,3,none⟩) (.inr hb) _).setCell (p:=⟨b,4,none⟩) (.inr hb) _).setCell (p:=⟨b,5,none⟩) (.inr hb) _).setCell (p:=⟨b,6,none⟩) (.inr hb) _
set_option maxRecDepth 100000 in
set_option maxHeartbeats 1000000 in
theorem atom_dot (w:World) (rb:Nat) (s:List UInt8) (h:ReadAt w rb s) (hl:s.length≤128) (altf:List UInt8→Option (Rx × List UInt8)) (h46:starts 46 s=true) :
 Calls Tryz.prog 192 #[.pointer (some ⟨rb,0,none⟩)] w fun e w'=>ReadsRx rb w (atomB altf s) e w':=by
 have hlt:=lt_of_block h
 obtain ⟨nb,hnb⟩:∃ nb,w.heap.size=nb:=⟨_,rfl⟩
 obtain ⟨W0,hW0⟩:∃ W0,W0=((w.alloc (.cells #[.int .i64 0,.int .i64 0,.int .i64 0,.int .u64 0,.int .u64 0,.int .u64 0,.int .u64 0,.slice none 0 0] 141)).alloc (.cells #[.int .i64 0,.int .i64 0,.int .i64 0,.int .u64 0,.int .u64 0,.int .u64 0,.int .u64 0,.slice none 0 0] 141)):=⟨_,rfl⟩
 have hr0:ReadAt W0 rb s:=by rw [hW0];exact read_old2 h _ _
 have hN0:W0.heap[nb]?=some (.cells (cellsA (setA Q4.none)) 141 (0,0)):=by rw [hW0,←hnb];exact alloc_old (alloc_block _ _) _
 have hE0:W0.heap[nb+1]?=some (.cells (cellsA (setA Q4.none)) 141 (0,0)):=by rw [hW0,←hnb];exact alloc_block' _ _ _ (by simp)
 have hO0:Only (fun k=>k=rb) w W0:=by rw [hW0];exact (((Only.refl _ w).alloc _).alloc _)
 have hnw:nb+1<W0.heap.size:=lt_of_block hE0
 have hB:atomB altf s=some (.set Q4.all,s.tail):=by unfold atomB;rw [h46];rfl
 rw [hB]
 rw [starts_cons h46] at hr0
 have HT46:=Lib.hid (take_yes _ rb 46 s.tail hr0)
 have HN:=Lib.hid hN0
 have HE:=Lib.hid hE0
 clear hr0 hN0 hE0
 rw [hW0] at HT46
 go_enter Tryz.func192,Tryz.ntmps192
 go_wp2_with (first
  | (go_at_call 188;(with_reducible refine (HT46.out).mono ?_);rintro e w1 ⟨rfl,h1,o1⟩;rw [←hW0] at o1;have hE1:=(o1.block (nb+1) (by omega) (by omega)).trans HE.out;have hN1:=(o1.block nb (by omega) (by omega)).trans HN.out;have HE1:=Lib.hid hE1;have HN1:=Lib.hid hN1;clear hE1 hN1;have c3:w1.cell? ⟨nb+1,3,none⟩=some (.int .u64 0):=cell_of_block HE1.out 3;have t3:=free_of_block HE1.out 3;have c4:w1.cell? ⟨nb+1,4,none⟩=some (.int .u64 0):=cell_of_block HE1.out 4;have t4:=free_of_block HE1.out 4;have c5:w1.cell? ⟨nb+1,5,none⟩=some (.int .u64 0):=cell_of_block HE1.out 5;have t5:=free_of_block HE1.out 5;have c6:w1.cell? ⟨nb+1,6,none⟩=some (.int .u64 0):=cell_of_block HE1.out 6;have t6:=free_of_block HE1.out 6)
  | (refine wpList_load_row rfl 141 (.tmp 3) ?_ (nb+1) ?_ 141 (cellsA (setA Q4.all)) (0,0) _ ?_ Tryz.underlying141 rfl (info_rxA _) ?_;(with_reducible rfl);rfl;exact set_cells HE1.out)
  | (refine wpList_store_row rfl 141 (.tmp 2) (.tmp 34) ?_ nb (cellsA (setA Q4.all)) ?_ ?_ 141 (cellsA (setA Q4.none)) ?_ (info_rxA _) (by rw [cellsA_size,cellsA_size]) (cellsA_one _) ?_;(with_reducible rfl);rfl;rfl;exact set_cells_other HN1.out (by omega)))
 refine bodyPost_ret (results_cell_row rfl _ _ nb 141 (cellsA (setA Q4.all)) (0,0) _ rfl (setRow_heap _ _ _ _ _ _ (set_cells_other (b:=nb+1) (v0:=.int .u64 18446744073709551615) (v1:=.int .u64 18446744073709551615) (v2:=.int .u64 18446744073709551615) (v3:=.int .u64 18446744073709551615) HN1.out (by omega))) Tryz.underlying141 rfl (info_rxA _)) rfl ?_
 refine⟨Only.setRow (only_set_cells (b:=nb+1) (hO0.then o1) (by omega)) (q:=nb) (.inr (by omega)) _,.inr ⟨setA Q4.all,s.tail,by rw [setA_bare],rfl,?_,setA_in _ Q4.all_ok _ _,by rw [setA_blocks];simp⟩⟩
 unfold ReadAt at h1 ⊢
 rw [setRow_other _ _ _ _ (by omega)]
 exact set_cells_other h1 (by omega)
set_option maxRecDepth 100000 in
set_option maxHeartbeats 1000000 in
theorem atom_class (w:World) (rb:Nat) (s:List UInt8) (h:ReadAt w rb s) (hl:s.length≤128) (altf:List UInt8→Option (Rx × List UInt8)) (h46:starts 46 s=false) (h91:starts 91 s=true) :
 Calls Tryz.prog 192 #[.pointer (some ⟨rb,0,none⟩)] w fun e w'=>ReadsRx rb w (atomB altf s) e w':=by
 have hlt:=lt_of_block h
 obtain ⟨nb,hnb⟩:∃ nb,w.heap.size=nb:=⟨_,rfl⟩
 obtain ⟨W0,hW0⟩:∃ W0,W0=((w.alloc (.cells #[.int .i64 0,.int .i64 0,.int .i64 0,.int .u64 0,.int .u64 0,.int .u64 0,.int .u64 0,.slice none 0 0] 141)).alloc (.cells #[.int .i64 0,.int .i64 0,.int .i64 0,.int .u64 0,.int .u64 0,.int .u64 0,.int .u64 0,.slice none 0 0] 141)):=⟨_,rfl⟩
 have hr0:ReadAt W0 rb s:=by rw [hW0];exact read_old2 h _ _
 have hN0:W0.heap[nb]?=some (.cells (cellsA (setA Q4.none)) 141 (0,0)):=by rw [hW0,←hnb];exact alloc_old (alloc_block _ _) _
 have hE0:W0.heap[nb+1]?=some (.cells (cellsA (setA Q4.none)) 141 (0,0)):=by rw [hW0,←hnb];exact alloc_block' _ _ _ (by simp)
 have hO0:Only (fun k=>k=rb) w W0:=by rw [hW0];exact (((Only.refl _ w).alloc _).alloc _)
 have hnw:nb+1<W0.heap.size:=lt_of_block hE0
 have HT46:=Lib.hid (take_no _ rb 46 s hr0 h46)
 have HT91:=Lib.hid (fun w1 (h1:ReadAt w1 rb s)=>take_yes w1 rb 91 s.tail (starts_cons h91▸h1))
 have HN:=Lib.hid hN0
 have HE:=Lib.hid hE0
 clear hN0 hE0
 clear hr0
 rw [hW0] at HT46
 have htl:=tail_le s
 cases hc:classR s.length s.tail with
 | none=>
  have hB:atomB altf s=none:=by unfold atomB;rw [h46,h91,hc];rfl
  have HC:=Lib.hid hc;clear hc
  rw [hB]
  go_enter Tryz.func192,Tryz.ntmps192
  go_wp2_with (first
   | (go_at_call 188;(with_reducible refine (HT46.out).mono ?_);rintro e w1 ⟨rfl,h1,o1⟩;rw [←hW0] at o1;have hE1:=(o1.block (nb+1) (by omega) (by omega)).trans HE.out;have hN1:=(o1.block nb (by omega) (by omega)).trans HN.out;have HE1:=Lib.hid hE1;have HN1:=Lib.hid hN1;clear hE1 hN1;have hnw1:nb+1<w1.heap.size:=lt_of_block HE1.out)
   | (go_at_call 188;(with_reducible refine (HT91.out _ h1).mono ?_);rintro e w2 ⟨rfl,h2,o2⟩;have hE2:=(o2.block (nb+1) (by omega) (by omega)).trans HE1.out;have hN2:=(o2.block nb (by omega) (by omega)).trans HN1.out;have HE2:=Lib.hid hE2;have HN2:=Lib.hid hN2;clear hE2 hN2;have hnw2:nb+1<w2.heap.size:=lt_of_block HE2.out)
   | (go_at_call 196;refine (class_any _ rb s.tail s.length h2 (by omega) (by omega)).mono ?_;rintro e w3 hR;obtain ⟨rfl,o3⟩:=hR.none HC.out))
  exact⟨rfl,((hO0.then o1).then o2).then o3,.inl ⟨rfl,rfl⟩⟩
 | some p=>
  obtain ⟨q,r⟩:=p
  have hB:atomB altf s=some (.set q,r):=by unfold atomB;rw [h46,h91,hc];rfl
  have hq:=classR_ok hc
  have HC:=Lib.hid hc;clear hc
  have HQ:=Lib.hid hq;clear hq
  have HCL:=Lib.hid (fun w2 (h2:ReadAt w2 rb s.tail)=>show Calls Tryz.prog 196 #[.pointer (some ⟨rb,0,none⟩)] w2 fun e w3=>e=.returned (.agg #[.int .u64 q.a,.int .u64 q.b,.int .u64 q.c,.int .u64 q.d])∧ReadAt w3 rb r∧Only (fun k=>k=rb) w2 w3 from
   (class_any w2 rb s.tail s.length h2 (by omega) (by omega)).mono fun e w3 hR=>hR.some HC.out)
  rw [hB]
  go_enter Tryz.func192,Tryz.ntmps192
  go_wp2_with (first
   | (go_at_call 188;(with_reducible refine (HT46.out).mono ?_);rintro e w1 ⟨rfl,h1,o1⟩;rw [←hW0] at o1;have hE1:=(o1.block (nb+1) (by omega) (by omega)).trans HE.out;have hN1:=(o1.block nb (by omega) (by omega)).trans HN.out;have HE1:=Lib.hid hE1;have HN1:=Lib.hid hN1;clear hE1 hN1;have hnw1:nb+1<w1.heap.size:=lt_of_block HE1.out)
   | (go_at_call 188;(with_reducible refine (HT91.out _ h1).mono ?_);rintro e w2 ⟨rfl,h2,o2⟩;have hE2:=(o2.block (nb+1) (by omega) (by omega)).trans HE1.out;have hN2:=(o2.block nb (by omega) (by omega)).trans HN1.out;have HE2:=Lib.hid hE2;have HN2:=Lib.hid hN2;clear hE2 hN2;have hnw2:nb+1<w2.heap.size:=lt_of_block HE2.out)
   | (go_at_call 196;refine (HCL.out _ h2).mono ?_;rintro e w3 ⟨rfl,h3,o3⟩;have hE3:=(o3.block (nb+1) (by omega) (by omega)).trans HE2.out;have hN3:=(o3.block nb (by omega) (by omega)).trans HN2.out;have HE3:=Lib.hid hE3;have HN3:=Lib.hid hN3;clear hE3 hN3;have hnw3:nb+1<w3.heap.size:=lt_of_block HE3.out;have c3:w3.cell? ⟨nb+1,3,none⟩=some (.int .u64 0):=cell_of_block HE3.out 3;have t3:=free_of_block HE3.out 3;have c4:w3.cell? ⟨nb+1,4,none⟩=some (.int .u64 0):=cell_of_block HE3.out 4;have t4:=free_of_block HE3.out 4;have c5:w3.cell? ⟨nb+1,5,none⟩=some (.int .u64 0):=cell_of_block HE3.out 5;have t5:=free_of_block HE3.out 5;have c6:w3.cell? ⟨nb+1,6,none⟩=some (.int .u64 0):=cell_of_block HE3.out 6;have t6:=free_of_block HE3.out 6)
   | (refine wpList_load_row rfl 141 (.tmp 3) ?_ (nb+1) ?_ 141 (cellsA (setA q)) (0,0) _ ?_ Tryz.underlying141 rfl (info_rxA _) ?_;(with_reducible rfl);rfl;exact set_cells HE3.out)
   | (refine wpList_store_row rfl 141 (.tmp 2) (.tmp 34) ?_ nb (cellsA (setA q)) ?_ ?_ 141 (cellsA (setA Q4.none)) ?_ (info_rxA _) (by rw [cellsA_size,cellsA_size]) (cellsA_one _) ?_;(with_reducible rfl);rfl;rfl;exact set_cells_other HN3.out (by omega)))
  refine bodyPost_ret (results_cell_row rfl _ _ nb 141 (cellsA (setA q)) (0,0) _ rfl (setRow_heap _ _ _ _ _ _ (set_cells_other (b:=nb+1) (v0:=.int .u64 q.a) (v1:=.int .u64 q.b) (v2:=.int .u64 q.c) (v3:=.int .u64 q.d) HN3.out (by omega))) Tryz.underlying141 rfl (info_rxA _)) rfl ?_
  refine⟨Only.setRow (only_set_cells (b:=nb+1) (((hO0.then o1).then o2).then o3) (by omega)) (q:=nb) (.inr (by omega)) _,.inr ⟨setA q,r,by rw [setA_bare],rfl,?_,setA_in _ HQ.out _ _,by rw [setA_blocks];simp⟩⟩
  unfold ReadAt at h3 ⊢
  rw [setRow_other _ _ _ _ (by omega)]
  exact set_cells_other h3 (by omega)
set_option maxRecDepth 100000 in
set_option maxHeartbeats 1000000 in
theorem atom_one (w:World) (rb:Nat) (s:List UInt8) (h:ReadAt w rb s) (hl:s.length≤128) (altf:List UInt8→Option (Rx × List UInt8)) (h46:starts 46 s=false) (h91:starts 91 s=false) (h40:starts 40 s=false) :
 Calls Tryz.prog 192 #[.pointer (some ⟨rb,0,none⟩)] w fun e w'=>ReadsRx rb w (atomB altf s) e w':=by
 have hlt:=lt_of_block h
 obtain ⟨nb,hnb⟩:∃ nb,w.heap.size=nb:=⟨_,rfl⟩
 obtain ⟨W0,hW0⟩:∃ W0,W0=((w.alloc (.cells #[.int .i64 0,.int .i64 0,.int .i64 0,.int .u64 0,.int .u64 0,.int .u64 0,.int .u64 0,.slice none 0 0] 141)).alloc (.cells #[.int .i64 0,.int .i64 0,.int .i64 0,.int .u64 0,.int .u64 0,.int .u64 0,.int .u64 0,.slice none 0 0] 141)):=⟨_,rfl⟩
 have hr0:ReadAt W0 rb s:=by rw [hW0];exact read_old2 h _ _
 have hN0:W0.heap[nb]?=some (.cells (cellsA (setA Q4.none)) 141 (0,0)):=by rw [hW0,←hnb];exact alloc_old (alloc_block _ _) _
 have hE0:W0.heap[nb+1]?=some (.cells (cellsA (setA Q4.none)) 141 (0,0)):=by rw [hW0,←hnb];exact alloc_block' _ _ _ (by simp)
 have hO0:Only (fun k=>k=rb) w W0:=by rw [hW0];exact (((Only.refl _ w).alloc _).alloc _)
 have hnw:nb+1<W0.heap.size:=lt_of_block hE0
 have HT46:=Lib.hid (take_no _ rb 46 s hr0 h46)
 have HT91:=Lib.hid (fun w1 (h1:ReadAt w1 rb s)=>take_no w1 rb 91 s h1 h91)
 have HT40:=Lib.hid (fun w1 (h1:ReadAt w1 rb s)=>take_no w1 rb 40 s h1 h40)
 have HN:=Lib.hid hN0
 have HE:=Lib.hid hE0
 clear hN0 hE0
 clear hr0
 rw [hW0] at HT46
 cases hc:one butAtom s with
 | none=>
  have hB:atomB altf s=none:=by unfold atomB;rw [h46,h91,h40,hc];rfl
  have HC:=Lib.hid hc;clear hc
  rw [hB]
  go_enter Tryz.func192,Tryz.ntmps192
  go_wp2_with (first
   | (go_at_call 188;(with_reducible refine (HT46.out).mono ?_);rintro e w1 ⟨rfl,h1,o1⟩;rw [←hW0] at o1;have hE1:=(o1.block (nb+1) (by omega) (by omega)).trans HE.out;have hN1:=(o1.block nb (by omega) (by omega)).trans HN.out;have HE1:=Lib.hid hE1;have HN1:=Lib.hid hN1;clear hE1 hN1;have hnw1:nb+1<w1.heap.size:=lt_of_block HE1.out)
   | (go_at_call 188;(with_reducible refine (HT91.out _ h1).mono ?_);rintro e w2 ⟨rfl,h2,o2⟩;have hE2:=(o2.block (nb+1) (by omega) (by omega)).trans HE1.out;have hN2:=(o2.block nb (by omega) (by omega)).trans HN1.out;have HE2:=Lib.hid hE2;have HN2:=Lib.hid hN2;clear hE2 hN2;have hnw2:nb+1<w2.heap.size:=lt_of_block HE2.out)
   | (go_at_call 188;(with_reducible refine (HT40.out _ h2).mono ?_);rintro e w3 ⟨rfl,h3,o3⟩;have hE3:=(o3.block (nb+1) (by omega) (by omega)).trans HE2.out;have hN3:=(o3.block nb (by omega) (by omega)).trans HN2.out;have HE3:=Lib.hid hE3;have HN3:=Lib.hid hN3;clear hE3 hN3;have hnw3:nb+1<w3.heap.size:=lt_of_block HE3.out)
   | (go_at_call 197;refine (one_any _ rb ⟨#[92,46,91,93,40,41,124,42,43,63,123,125]⟩ s h3 (by omega)).mono ?_;rintro e w4 hR;obtain ⟨rfl,o4⟩:=hR.none HC.out))
  exact⟨rfl,(((hO0.then o1).then o2).then o3).then o4,.inl ⟨rfl,rfl⟩⟩
 | some p=>
  obtain ⟨b,r⟩:=p
  have hB:atomB altf s=some (.set (Q4.none.with b),r):=by unfold atomB;rw [h46,h91,h40,hc];rfl
  have hb:=(one_lt hc).2
  have hq:=Q4.with_ok Q4.none_ok hb
  have HC:=Lib.hid hc;clear hc
  have HQ:=Lib.hid hq;clear hq
  have HONE:=Lib.hid (fun w3 (h3:ReadAt w3 rb s)=>show Calls Tryz.prog 197 #[.pointer (some ⟨rb,0,none⟩),.string ⟨#[92,46,91,93,40,41,124,42,43,63,123,125]⟩] w3 fun e w4=>e=.returned (.int .i64 (b:Nat))∧ReadAt w4 rb r∧Only (fun k=>k=rb) w3 w4 from
   (one_any w3 rb ⟨#[92,46,91,93,40,41,124,42,43,63,123,125]⟩ s h3 (by omega)).mono fun e w4 hR=>hR.some HC.out)
  rw [hB]
  have h63:=and63 b hb
  obtain ⟨k,hk⟩:∃ k,b%64=k:=⟨_,rfl⟩
  have hk64:k<64:=by omega
  rw [hk] at h63
  have hwr:IntKind.u64.wrap (2 ^ k)=orBit 0 k:=wrap_bit k hk64
  have hw4:b<64∨(64≤b∧b<128)∨(128≤b∧b<192)∨192≤b:=by omega
  rcases hw4 with h4 | h4 | h4 | h4
  ·have hd:(b:Int)/64=0:=by omega
   have hheap:∀ W:World,W.heap[nb+1]?=some (.cells (cellsA (setA Q4.none)) 141 (0,0))→(W.setCell ⟨nb+1,3,none⟩ (.int .u64 (orBit 0 k))).heap[nb+1]?=some (.cells (cellsA (setA (Q4.none.with b))) 141 (0,0)):=by
    intro W hW
    rw [setCell_block hW]
    simp only [Q4.with]
    rw [if_pos (by omega)]
    rw [show b=k by omega]
    rfl
   have HHP:=Lib.hid hheap;clear hheap
   go_enter Tryz.func192,Tryz.ntmps192
   go_wp2_with (first
    | (go_at_call 188;(with_reducible refine (HT46.out).mono ?_);rintro e w1 ⟨rfl,h1,o1⟩;rw [←hW0] at o1;have hE1:=(o1.block (nb+1) (by omega) (by omega)).trans HE.out;have hN1:=(o1.block nb (by omega) (by omega)).trans HN.out;have HE1:=Lib.hid hE1;have HN1:=Lib.hid hN1;clear hE1 hN1;have hnw1:nb+1<w1.heap.size:=lt_of_block HE1.out)
    | (go_at_call 188;(with_reducible refine (HT91.out _ h1).mono ?_);rintro e w2 ⟨rfl,h2,o2⟩;have hE2:=(o2.block (nb+1) (by omega) (by omega)).trans HE1.out;have hN2:=(o2.block nb (by omega) (by omega)).trans HN1.out;have HE2:=Lib.hid hE2;have HN2:=Lib.hid hN2;clear hE2 hN2;have hnw2:nb+1<w2.heap.size:=lt_of_block HE2.out)
    | (go_at_call 188;(with_reducible refine (HT40.out _ h2).mono ?_);rintro e w3 ⟨rfl,h3,o3⟩;have hE3:=(o3.block (nb+1) (by omega) (by omega)).trans HE2.out;have hN3:=(o3.block nb (by omega) (by omega)).trans HN2.out;have HE3:=Lib.hid hE3;have HN3:=Lib.hid hN3;clear hE3 hN3;have hnw3:nb+1<w3.heap.size:=lt_of_block HE3.out)
    | (go_at_call 197;refine (HONE.out _ h3).mono ?_;rintro e w4 ⟨rfl,h4,o4⟩;have hE4:=(o4.block (nb+1) (by omega) (by omega)).trans HE3.out;have hN4:=(o4.block nb (by omega) (by omega)).trans HN3.out;have HE4:=Lib.hid hE4;have HN4:=Lib.hid hN4;clear hE4 hN4;have hnw4:nb+1<w4.heap.size:=lt_of_block HE4.out;have c3:w4.cell? ⟨nb+1,3,none⟩=some (.int .u64 0):=cell_of_block HE4.out 3;have t3:=free_of_block HE4.out 3;have c4:w4.cell? ⟨nb+1,4,none⟩=some (.int .u64 0):=cell_of_block HE4.out 4;have t4:=free_of_block HE4.out 4;have c5:w4.cell? ⟨nb+1,5,none⟩=some (.int .u64 0):=cell_of_block HE4.out 5;have t5:=free_of_block HE4.out 5;have c6:w4.cell? ⟨nb+1,6,none⟩=some (.int .u64 0):=cell_of_block HE4.out 6;have t6:=free_of_block HE4.out 6)
    | (refine wpList_load_row rfl 141 (.tmp 3) ?_ (nb+1) ?_ 141 (cellsA (setA (Q4.none.with b))) (0,0) _ ?_ Tryz.underlying141 rfl (info_rxA _) ?_;(with_reducible rfl);rfl;exact HHP.out _ HE4.out)
    | (refine wpList_store_row rfl 141 (.tmp 2) (.tmp 34) ?_ nb (cellsA (setA (Q4.none.with b))) ?_ ?_ 141 (cellsA (setA Q4.none)) ?_ (info_rxA _) (by rw [cellsA_size,cellsA_size]) (cellsA_one _) ?_;(with_reducible rfl);rfl;rfl;exact (Below.heap_setCell _ _ _ _ (by show nb≠nb+1;omega)).trans HN4.out))
   refine bodyPost_ret (results_cell_row rfl _ _ nb 141 (cellsA (setA (Q4.none.with b))) (0,0) _ rfl (setRow_heap _ _ _ _ _ _ ((Below.heap_setCell _ ⟨nb+1,3,none⟩ _ _ (by show nb≠nb+1;omega)).trans HN4.out)) Tryz.underlying141 rfl (info_rxA _)) rfl ?_
   refine⟨Only.setRow ((((((hO0.then o1).then o2).then o3).then o4).setCell (p:=⟨nb+1,3,none⟩) (.inr (by show w.heap.size≤nb+1;omega)) _)) (q:=nb) (.inr (by omega)) _,.inr ⟨setA (Q4.none.with b),r,by rw [setA_bare],rfl,?_,setA_in _ HQ.out _ _,by rw [setA_blocks];simp⟩⟩
   unfold ReadAt at h4 ⊢
   rw [setRow_other _ _ _ _ (by omega)]
   exact (Below.heap_setCell _ _ _ _ (by show rb≠nb+1;omega)).trans h4
  ·have hd:(b:Int)/64=1:=by omega
   have hheap:∀ W:World,W.heap[nb+1]?=some (.cells (cellsA (setA Q4.none)) 141 (0,0))→(W.setCell ⟨nb+1,4,none⟩ (.int .u64 (orBit 0 k))).heap[nb+1]?=some (.cells (cellsA (setA (Q4.none.with b))) 141 (0,0)):=by
    intro W hW
    rw [setCell_block hW]
    simp only [Q4.with]
    rw [if_neg (by omega),if_pos (by omega)]
    rw [show b - 64=k by omega]
    rfl
   have HHP:=Lib.hid hheap;clear hheap
   go_enter Tryz.func192,Tryz.ntmps192
   go_wp2_with (first
    | (go_at_call 188;(with_reducible refine (HT46.out).mono ?_);rintro e w1 ⟨rfl,h1,o1⟩;rw [←hW0] at o1;have hE1:=(o1.block (nb+1) (by omega) (by omega)).trans HE.out;have hN1:=(o1.block nb (by omega) (by omega)).trans HN.out;have HE1:=Lib.hid hE1;have HN1:=Lib.hid hN1;clear hE1 hN1;have hnw1:nb+1<w1.heap.size:=lt_of_block HE1.out)
    | (go_at_call 188;(with_reducible refine (HT91.out _ h1).mono ?_);rintro e w2 ⟨rfl,h2,o2⟩;have hE2:=(o2.block (nb+1) (by omega) (by omega)).trans HE1.out;have hN2:=(o2.block nb (by omega) (by omega)).trans HN1.out;have HE2:=Lib.hid hE2;have HN2:=Lib.hid hN2;clear hE2 hN2;have hnw2:nb+1<w2.heap.size:=lt_of_block HE2.out)
    | (go_at_call 188;(with_reducible refine (HT40.out _ h2).mono ?_);rintro e w3 ⟨rfl,h3,o3⟩;have hE3:=(o3.block (nb+1) (by omega) (by omega)).trans HE2.out;have hN3:=(o3.block nb (by omega) (by omega)).trans HN2.out;have HE3:=Lib.hid hE3;have HN3:=Lib.hid hN3;clear hE3 hN3;have hnw3:nb+1<w3.heap.size:=lt_of_block HE3.out)
    | (go_at_call 197;refine (HONE.out _ h3).mono ?_;rintro e w4 ⟨rfl,h4,o4⟩;have hE4:=(o4.block (nb+1) (by omega) (by omega)).trans HE3.out;have hN4:=(o4.block nb (by omega) (by omega)).trans HN3.out;have HE4:=Lib.hid hE4;have HN4:=Lib.hid hN4;clear hE4 hN4;have hnw4:nb+1<w4.heap.size:=lt_of_block HE4.out;have c3:w4.cell? ⟨nb+1,3,none⟩=some (.int .u64 0):=cell_of_block HE4.out 3;have t3:=free_of_block HE4.out 3;have c4:w4.cell? ⟨nb+1,4,none⟩=some (.int .u64 0):=cell_of_block HE4.out 4;have t4:=free_of_block HE4.out 4;have c5:w4.cell? ⟨nb+1,5,none⟩=some (.int .u64 0):=cell_of_block HE4.out 5;have t5:=free_of_block HE4.out 5;have c6:w4.cell? ⟨nb+1,6,none⟩=some (.int .u64 0):=cell_of_block HE4.out 6;have t6:=free_of_block HE4.out 6)
    | (refine wpList_load_row rfl 141 (.tmp 3) ?_ (nb+1) ?_ 141 (cellsA (setA (Q4.none.with b))) (0,0) _ ?_ Tryz.underlying141 rfl (info_rxA _) ?_;(with_reducible rfl);rfl;exact HHP.out _ HE4.out)
    | (refine wpList_store_row rfl 141 (.tmp 2) (.tmp 34) ?_ nb (cellsA (setA (Q4.none.with b))) ?_ ?_ 141 (cellsA (setA Q4.none)) ?_ (info_rxA _) (by rw [cellsA_size,cellsA_size]) (cellsA_one _) ?_;(with_reducible rfl);rfl;rfl;exact (Below.heap_setCell _ _ _ _ (by show nb≠nb+1;omega)).trans HN4.out))
   refine bodyPost_ret (results_cell_row rfl _ _ nb 141 (cellsA (setA (Q4.none.with b))) (0,0) _ rfl (setRow_heap _ _ _ _ _ _ ((Below.heap_setCell _ ⟨nb+1,4,none⟩ _ _ (by show nb≠nb+1;omega)).trans HN4.out)) Tryz.underlying141 rfl (info_rxA _)) rfl ?_
   refine⟨Only.setRow ((((((hO0.then o1).then o2).then o3).then o4).setCell (p:=⟨nb+1,4,none⟩) (.inr (by show w.heap.size≤nb+1;omega)) _)) (q:=nb) (.inr (by omega)) _,.inr ⟨setA (Q4.none.with b),r,by rw [setA_bare],rfl,?_,setA_in _ HQ.out _ _,by rw [setA_blocks];simp⟩⟩
   unfold ReadAt at h4 ⊢
   rw [setRow_other _ _ _ _ (by omega)]
   exact (Below.heap_setCell _ _ _ _ (by show rb≠nb+1;omega)).trans h4
  ·have hd:(b:Int)/64=2:=by omega
   have hheap:∀ W:World,W.heap[nb+1]?=some (.cells (cellsA (setA Q4.none)) 141 (0,0))→(W.setCell ⟨nb+1,5,none⟩ (.int .u64 (orBit 0 k))).heap[nb+1]?=some (.cells (cellsA (setA (Q4.none.with b))) 141 (0,0)):=by
    intro W hW
    rw [setCell_block hW]
    simp only [Q4.with]
    rw [if_neg (by omega),if_neg (by omega),if_pos (by omega)]
    rw [show b - 128=k by omega]
    rfl
   have HHP:=Lib.hid hheap;clear hheap
   go_enter Tryz.func192,Tryz.ntmps192
   go_wp2_with (first
    | (go_at_call 188;(with_reducible refine (HT46.out).mono ?_);rintro e w1 ⟨rfl,h1,o1⟩;rw [←hW0] at o1;have hE1:=(o1.block (nb+1) (by omega) (by omega)).trans HE.out;have hN1:=(o1.block nb (by omega) (by omega)).trans HN.out;have HE1:=Lib.hid hE1;have HN1:=Lib.hid hN1;clear hE1 hN1;have hnw1:nb+1<w1.heap.size:=lt_of_block HE1.out)
    | (go_at_call 188;(with_reducible refine (HT91.out _ h1).mono ?_);rintro e w2 ⟨rfl,h2,o2⟩;have hE2:=(o2.block (nb+1) (by omega) (by omega)).trans HE1.out;have hN2:=(o2.block nb (by omega) (by omega)).trans HN1.out;have HE2:=Lib.hid hE2;have HN2:=Lib.hid hN2;clear hE2 hN2;have hnw2:nb+1<w2.heap.size:=lt_of_block HE2.out)
    | (go_at_call 188;(with_reducible refine (HT40.out _ h2).mono ?_);rintro e w3 ⟨rfl,h3,o3⟩;have hE3:=(o3.block (nb+1) (by omega) (by omega)).trans HE2.out;have hN3:=(o3.block nb (by omega) (by omega)).trans HN2.out;have HE3:=Lib.hid hE3;have HN3:=Lib.hid hN3;clear hE3 hN3;have hnw3:nb+1<w3.heap.size:=lt_of_block HE3.out)
    | (go_at_call 197;refine (HONE.out _ h3).mono ?_;rintro e w4 ⟨rfl,h4,o4⟩;have hE4:=(o4.block (nb+1) (by omega) (by omega)).trans HE3.out;have hN4:=(o4.block nb (by omega) (by omega)).trans HN3.out;have HE4:=Lib.hid hE4;have HN4:=Lib.hid hN4;clear hE4 hN4;have hnw4:nb+1<w4.heap.size:=lt_of_block HE4.out;have c3:w4.cell? ⟨nb+1,3,none⟩=some (.int .u64 0):=cell_of_block HE4.out 3;have t3:=free_of_block HE4.out 3;have c4:w4.cell? ⟨nb+1,4,none⟩=some (.int .u64 0):=cell_of_block HE4.out 4;have t4:=free_of_block HE4.out 4;have c5:w4.cell? ⟨nb+1,5,none⟩=some (.int .u64 0):=cell_of_block HE4.out 5;have t5:=free_of_block HE4.out 5;have c6:w4.cell? ⟨nb+1,6,none⟩=some (.int .u64 0):=cell_of_block HE4.out 6;have t6:=free_of_block HE4.out 6)
    | (refine wpList_load_row rfl 141 (.tmp 3) ?_ (nb+1) ?_ 141 (cellsA (setA (Q4.none.with b))) (0,0) _ ?_ Tryz.underlying141 rfl (info_rxA _) ?_;(with_reducible rfl);rfl;exact HHP.out _ HE4.out)
    | (refine wpList_store_row rfl 141 (.tmp 2) (.tmp 34) ?_ nb (cellsA (setA (Q4.none.with b))) ?_ ?_ 141 (cellsA (setA Q4.none)) ?_ (info_rxA _) (by rw [cellsA_size,cellsA_size]) (cellsA_one _) ?_;(with_reducible rfl);rfl;rfl;exact (Below.heap_setCell _ _ _ _ (by show nb≠nb+1;omega)).trans HN4.out))
   refine bodyPost_ret (results_cell_row rfl _ _ nb 141 (cellsA (setA (Q4.none.with b))) (0,0) _ rfl (setRow_heap _ _ _ _ _ _ ((Below.heap_setCell _ ⟨nb+1,5,none⟩ _ _ (by show nb≠nb+1;omega)).trans HN4.out)) Tryz.underlying141 rfl (info_rxA _)) rfl ?_
   refine⟨Only.setRow ((((((hO0.then o1).then o2).then o3).then o4).setCell (p:=⟨nb+1,5,none⟩) (.inr (by show w.heap.size≤nb+1;omega)) _)) (q:=nb) (.inr (by omega)) _,.inr ⟨setA (Q4.none.with b),r,by rw [setA_bare],rfl,?_,setA_in _ HQ.out _ _,by rw [setA_blocks];simp⟩⟩
   unfold ReadAt at h4 ⊢
   rw [setRow_other _ _ _ _ (by omega)]
   exact (Below.heap_setCell _ _ _ _ (by show rb≠nb+1;omega)).trans h4
  ·have hd:(b:Int)/64=3:=by omega
   have hheap:∀ W:World,W.heap[nb+1]?=some (.cells (cellsA (setA Q4.none)) 141 (0,0))→(W.setCell ⟨nb+1,6,none⟩ (.int .u64 (orBit 0 k))).heap[nb+1]?=some (.cells (cellsA (setA (Q4.none.with b))) 141 (0,0)):=by
    intro W hW
    rw [setCell_block hW]
    simp only [Q4.with]
    rw [if_neg (by omega),if_neg (by omega),if_neg (by omega)]
    rw [show b - 192=k by omega]
    rfl
   have HHP:=Lib.hid hheap;clear hheap
   go_enter Tryz.func192,Tryz.ntmps192
   go_wp2_with (first
    | (go_at_call 188;(with_reducible refine (HT46.out).mono ?_);rintro e w1 ⟨rfl,h1,o1⟩;rw [←hW0] at o1;have hE1:=(o1.block (nb+1) (by omega) (by omega)).trans HE.out;have hN1:=(o1.block nb (by omega) (by omega)).trans HN.out;have HE1:=Lib.hid hE1;have HN1:=Lib.hid hN1;clear hE1 hN1;have hnw1:nb+1<w1.heap.size:=lt_of_block HE1.out)
    | (go_at_call 188;(with_reducible refine (HT91.out _ h1).mono ?_);rintro e w2 ⟨rfl,h2,o2⟩;have hE2:=(o2.block (nb+1) (by omega) (by omega)).trans HE1.out;have hN2:=(o2.block nb (by omega) (by omega)).trans HN1.out;have HE2:=Lib.hid hE2;have HN2:=Lib.hid hN2;clear hE2 hN2;have hnw2:nb+1<w2.heap.size:=lt_of_block HE2.out)
    | (go_at_call 188;(with_reducible refine (HT40.out _ h2).mono ?_);rintro e w3 ⟨rfl,h3,o3⟩;have hE3:=(o3.block (nb+1) (by omega) (by omega)).trans HE2.out;have hN3:=(o3.block nb (by omega) (by omega)).trans HN2.out;have HE3:=Lib.hid hE3;have HN3:=Lib.hid hN3;clear hE3 hN3;have hnw3:nb+1<w3.heap.size:=lt_of_block HE3.out)
    | (go_at_call 197;refine (HONE.out _ h3).mono ?_;rintro e w4 ⟨rfl,h4,o4⟩;have hE4:=(o4.block (nb+1) (by omega) (by omega)).trans HE3.out;have hN4:=(o4.block nb (by omega) (by omega)).trans HN3.out;have HE4:=Lib.hid hE4;have HN4:=Lib.hid hN4;clear hE4 hN4;have hnw4:nb+1<w4.heap.size:=lt_of_block HE4.out;have c3:w4.cell? ⟨nb+1,3,none⟩=some (.int .u64 0):=cell_of_block HE4.out 3;have t3:=free_of_block HE4.out 3;have c4:w4.cell? ⟨nb+1,4,none⟩=some (.int .u64 0):=cell_of_block HE4.out 4;have t4:=free_of_block HE4.out 4;have c5:w4.cell? ⟨nb+1,5,none⟩=some (.int .u64 0):=cell_of_block HE4.out 5;have t5:=free_of_block HE4.out 5;have c6:w4.cell? ⟨nb+1,6,none⟩=some (.int .u64 0):=cell_of_block HE4.out 6;have t6:=free_of_block HE4.out 6)
    | (refine wpList_load_row rfl 141 (.tmp 3) ?_ (nb+1) ?_ 141 (cellsA (setA (Q4.none.with b))) (0,0) _ ?_ Tryz.underlying141 rfl (info_rxA _) ?_;(with_reducible rfl);rfl;exact HHP.out _ HE4.out)
    | (refine wpList_store_row rfl 141 (.tmp 2) (.tmp 34) ?_ nb (cellsA (setA (Q4.none.with b))) ?_ ?_ 141 (cellsA (setA Q4.none)) ?_ (info_rxA _) (by rw [cellsA_size,cellsA_size]) (cellsA_one _) ?_;(with_reducible rfl);rfl;rfl;exact (Below.heap_setCell _ _ _ _ (by show nb≠nb+1;omega)).trans HN4.out))
   refine bodyPost_ret (results_cell_row rfl _ _ nb 141 (cellsA (setA (Q4.none.with b))) (0,0) _ rfl (setRow_heap _ _ _ _ _ _ ((Below.heap_setCell _ ⟨nb+1,6,none⟩ _ _ (by show nb≠nb+1;omega)).trans HN4.out)) Tryz.underlying141 rfl (info_rxA _)) rfl ?_
   refine⟨Only.setRow ((((((hO0.then o1).then o2).then o3).then o4).setCell (p:=⟨nb+1,6,none⟩) (.inr (by show w.heap.size≤nb+1;omega)) _)) (q:=nb) (.inr (by omega)) _,.inr ⟨setA (Q4.none.with b),r,by rw [setA_bare],rfl,?_,setA_in _ HQ.out _ _,by rw [setA_blocks];simp⟩⟩
   unfold ReadAt at h4 ⊢
   rw [setRow_other _ _ _ _ (by omega)]
   exact (Below.heap_setCell _ _ _ _ (by show rb≠nb+1;omega)).trans h4
set_option maxRecDepth 100000 in
set_option maxHeartbeats 1000000 in
theorem atom_open (w:World) (rb:Nat) (s:List UInt8) (h:ReadAt w rb s) (hl:s.length≤128) (altf:List UInt8→Option (Rx × List UInt8)) (h46:starts 46 s=false) (h91:starts 91 s=false) (h40:starts 40 s=true)
 (halt:∀ w1,ReadAt w1 rb s.tail→Calls Tryz.prog 173 #[.pointer (some ⟨rb,0,none⟩)] w1 fun e w2=>ReadsRx rb w1 (altf s.tail) e w2) :
 Calls Tryz.prog 192 #[.pointer (some ⟨rb,0,none⟩)] w fun e w'=>ReadsRx rb w (atomB altf s) e w':=by
 have hlt:=lt_of_block h
 obtain ⟨nb,hnb⟩:∃ nb,w.heap.size=nb:=⟨_,rfl⟩
 obtain ⟨W0,hW0⟩:∃ W0,W0=((w.alloc (.cells #[.int .i64 0,.int .i64 0,.int .i64 0,.int .u64 0,.int .u64 0,.int .u64 0,.int .u64 0,.slice none 0 0] 141)).alloc (.cells #[.int .i64 0,.int .i64 0,.int .i64 0,.int .u64 0,.int .u64 0,.int .u64 0,.int .u64 0,.slice none 0 0] 141)):=⟨_,rfl⟩
 have hr0:ReadAt W0 rb s:=by rw [hW0];exact read_old2 h _ _
 have hN0:W0.heap[nb]?=some (.cells (cellsA (setA Q4.none)) 141 (0,0)):=by rw [hW0,←hnb];exact alloc_old (alloc_block _ _) _
 have hE0:W0.heap[nb+1]?=some (.cells (cellsA (setA Q4.none)) 141 (0,0)):=by rw [hW0,←hnb];exact alloc_block' _ _ _ (by simp)
 have hO0:Only (fun k=>k=rb) w W0:=by rw [hW0];exact (((Only.refl _ w).alloc _).alloc _)
 have hnw:nb+1<W0.heap.size:=lt_of_block hE0
 have HT46:=Lib.hid (take_no _ rb 46 s hr0 h46)
 have HT91:=Lib.hid (fun w1 (h1:ReadAt w1 rb s)=>take_no w1 rb 91 s h1 h91)
 have HT40:=Lib.hid (fun w1 (h1:ReadAt w1 rb s)=>take_yes w1 rb 40 s.tail (starts_cons h40▸h1))
 have HN:=Lib.hid hN0
 have HE:=Lib.hid hE0
 clear hN0 hE0
 clear hr0
 rw [hW0] at HT46
 cases hc:altf s.tail with
 | none=>
  have hB:atomB altf s=none:=by unfold atomB;rw [h46,h91,h40,hc];rfl
  rw [hc] at halt
  have HALT:=Lib.hid (fun w1 h1=>(halt w1 h1).mono fun e w2 hR=>readsRx_none hR);clear halt hc
  rw [hB]
  go_enter Tryz.func192,Tryz.ntmps192
  go_wp2_with (first
   | (go_at_call 188;(with_reducible refine (HT46.out).mono ?_);rintro e w1 ⟨rfl,h1,o1⟩;rw [←hW0] at o1;have hE1:=(o1.block (nb+1) (by omega) (by omega)).trans HE.out;have hN1:=(o1.block nb (by omega) (by omega)).trans HN.out;have HE1:=Lib.hid hE1;have HN1:=Lib.hid hN1;clear hE1 hN1;have hnw1:nb+1<w1.heap.size:=lt_of_block HE1.out)
   | (go_at_call 188;(with_reducible refine (HT91.out _ h1).mono ?_);rintro e w2 ⟨rfl,h2,o2⟩;have hE2:=(o2.block (nb+1) (by omega) (by omega)).trans HE1.out;have hN2:=(o2.block nb (by omega) (by omega)).trans HN1.out;have HE2:=Lib.hid hE2;have HN2:=Lib.hid hN2;clear hE2 hN2;have hnw2:nb+1<w2.heap.size:=lt_of_block HE2.out)
   | (go_at_call 188;(with_reducible refine (HT40.out _ h2).mono ?_);rintro e w3 ⟨rfl,h3,o3⟩;have hE3:=(o3.block (nb+1) (by omega) (by omega)).trans HE2.out;have hN3:=(o3.block nb (by omega) (by omega)).trans HN2.out;have HE3:=Lib.hid hE3;have HN3:=Lib.hid hN3;clear hE3 hN3;have hnw3:nb+1<w3.heap.size:=lt_of_block HE3.out)
   | (go_at_call 173;refine (HALT.out _ h3).mono ?_;rintro e w4 ⟨rfl,o4⟩))
  exact⟨rfl,(((hO0.then o1).then o2).then o3).then o4,.inl ⟨rfl,rfl⟩⟩
 | some p=>
  obtain ⟨x,r⟩:=p
  have hB:atomB altf s=if starts 41 r then some (x,r.tail) else none:=by unfold atomB;rw [h46,h91,h40,hc];rfl
  rw [hc] at halt
  have halt2:∀ w1,ReadAt w1 rb s.tail→Calls Tryz.prog 173 #[.pointer (some ⟨rb,0,none⟩)] w1 fun e w2=>∃ X:RxA,x=X.bare∧e=.returned (.agg (cellsA X))∧ReadAt w2 rb r∧Only (fun k=>k=rb) w1 w2∧X.In w2 w2.heap.size∧∀ b∈X.blocks,w1.heap.size≤b∧b<w2.heap.size:=
   fun w1 h1=>(halt w1 h1).mono fun e w2 hR=>readsRx_some hR
  clear halt hc
  have HALT:=Lib.hid halt2;clear halt2
  rw [hB]
  cases h41:starts 41 r with
  | false=>
   have HT41:=Lib.hid (fun w1 (h1:ReadAt w1 rb r)=>take_no w1 rb 41 r h1 h41);clear h41
   go_enter Tryz.func192,Tryz.ntmps192
   go_wp2_with (first
    | (go_at_call 188;(with_reducible refine (HT46.out).mono ?_);rintro e w1 ⟨rfl,h1,o1⟩;rw [←hW0] at o1;have hE1:=(o1.block (nb+1) (by omega) (by omega)).trans HE.out;have hN1:=(o1.block nb (by omega) (by omega)).trans HN.out;have HE1:=Lib.hid hE1;have HN1:=Lib.hid hN1;clear hE1 hN1;have hnw1:nb+1<w1.heap.size:=lt_of_block HE1.out)
    | (go_at_call 188;(with_reducible refine (HT91.out _ h1).mono ?_);rintro e w2 ⟨rfl,h2,o2⟩;have hE2:=(o2.block (nb+1) (by omega) (by omega)).trans HE1.out;have hN2:=(o2.block nb (by omega) (by omega)).trans HN1.out;have HE2:=Lib.hid hE2;have HN2:=Lib.hid hN2;clear hE2 hN2;have hnw2:nb+1<w2.heap.size:=lt_of_block HE2.out)
    | (go_at_call 188;(with_reducible refine (HT40.out _ h2).mono ?_);rintro e w3 ⟨rfl,h3,o3⟩;have hE3:=(o3.block (nb+1) (by omega) (by omega)).trans HE2.out;have hN3:=(o3.block nb (by omega) (by omega)).trans HN2.out;have HE3:=Lib.hid hE3;have HN3:=Lib.hid hN3;clear hE3 hN3;have hnw3:nb+1<w3.heap.size:=lt_of_block HE3.out)
    | (go_at_call 173;refine (HALT.out _ h3).mono ?_;rintro e w4 ⟨X,hX,rfl,h4,o4,hXin,hXb⟩;have hE4:=(o4.block (nb+1) (by omega) (by omega)).trans HE3.out;have hN4:=(o4.block nb (by omega) (by omega)).trans HN3.out;have HE4:=Lib.hid hE4;have HN4:=Lib.hid hN4;clear hE4 hN4;have hnw4:nb+1<w4.heap.size:=lt_of_block HE4.out;have h5:ReadAt (w4.setRow (nb+1) (cellsA X)) rb r:=(setRow_other _ _ _ _ (by omega)).trans h4)
    | (refine wpList_store_row rfl 141 (.tmp 3) (.tmp 30) ?_ (nb+1) (cellsA X) ?_ ?_ 141 (cellsA (setA Q4.none)) ?_ (info_rxA _) (by rw [cellsA_size,cellsA_size]) (cellsA_one _) ?_;(with_reducible rfl);rfl;rfl;exact HE4.out)
    | (go_at_call 188;(with_reducible refine (HT41.out _ h5).mono ?_);rintro e w6 ⟨rfl,h6,o6⟩)
    | (go_at_call 174;refine (must_no rfl _).mono ?_;rintro e w7 ⟨rfl,rfl⟩))
   exact⟨rfl,((((((hO0.then o1).then o2).then o3).then o4).setRow (q:=nb+1) (.inr (by omega)) _)).then o6,.inl ⟨rfl,rfl⟩⟩
  | true=>
   have HT41:=Lib.hid (fun w1 (h1:ReadAt w1 rb r)=>take_yes w1 rb 41 r.tail (starts_cons h41▸h1));clear h41
   have hs4:∀ w4:World,(w4.setRow (nb+1) (cellsA (setA Q4.none))).heap.size=w4.heap.size:=fun w4=>by simp
   go_enter Tryz.func192,Tryz.ntmps192
   go_wp2_with (first
    | (go_at_call 188;(with_reducible refine (HT46.out).mono ?_);rintro e w1 ⟨rfl,h1,o1⟩;rw [←hW0] at o1;have hE1:=(o1.block (nb+1) (by omega) (by omega)).trans HE.out;have hN1:=(o1.block nb (by omega) (by omega)).trans HN.out;have HE1:=Lib.hid hE1;have HN1:=Lib.hid hN1;clear hE1 hN1;have hnw1:nb+1<w1.heap.size:=lt_of_block HE1.out)
    | (go_at_call 188;(with_reducible refine (HT91.out _ h1).mono ?_);rintro e w2 ⟨rfl,h2,o2⟩;have hE2:=(o2.block (nb+1) (by omega) (by omega)).trans HE1.out;have hN2:=(o2.block nb (by omega) (by omega)).trans HN1.out;have HE2:=Lib.hid hE2;have HN2:=Lib.hid hN2;clear hE2 hN2;have hnw2:nb+1<w2.heap.size:=lt_of_block HE2.out)
    | (go_at_call 188;(with_reducible refine (HT40.out _ h2).mono ?_);rintro e w3 ⟨rfl,h3,o3⟩;have hE3:=(o3.block (nb+1) (by omega) (by omega)).trans HE2.out;have hN3:=(o3.block nb (by omega) (by omega)).trans HN2.out;have HE3:=Lib.hid hE3;have HN3:=Lib.hid hN3;clear hE3 hN3;have hnw3:nb+1<w3.heap.size:=lt_of_block HE3.out)
    | (go_at_call 173;refine (HALT.out _ h3).mono ?_;rintro e w4 ⟨X,hX,rfl,h4,o4,hXin,hXb⟩;have hE4:=(o4.block (nb+1) (by omega) (by omega)).trans HE3.out;have hN4:=(o4.block nb (by omega) (by omega)).trans HN3.out;have HE4:=Lib.hid hE4;have HN4:=Lib.hid hN4;clear hE4 hN4;have hnw4:nb+1<w4.heap.size:=lt_of_block HE4.out;have h5:ReadAt (w4.setRow (nb+1) (cellsA X)) rb r:=(setRow_other _ _ _ _ (by omega)).trans h4)
    | (refine wpList_store_row rfl 141 (.tmp 3) (.tmp 30) ?_ (nb+1) (cellsA X) ?_ ?_ 141 (cellsA (setA Q4.none)) ?_ (info_rxA _) (by rw [cellsA_size,cellsA_size]) (cellsA_one _) ?_;(with_reducible rfl);rfl;rfl;exact HE4.out)
    | (go_at_call 188;(with_reducible refine (HT41.out _ h5).mono ?_);rintro e w6 ⟨rfl,h6,o6⟩;have hE6:=(o6.block (nb+1) (by simp;omega) (by omega)).trans (setRow_heap _ _ _ (cellsA X) _ _ HE4.out);have hN6:=(o6.block nb (by simp;omega) (by omega)).trans ((setRow_other _ (nb+1) nb (cellsA X) (by omega)).trans HN4.out);have HE6:=Lib.hid hE6;have HN6:=Lib.hid hN6;clear hE6 hN6)
    | (go_at_call 174;refine (must_yes rfl _).mono ?_;rintro e w7 ⟨rfl,rfl⟩)
    | (refine wpList_load_row rfl 141 (.tmp 3) ?_ (nb+1) ?_ 141 (cellsA X) (0,0) _ ?_ Tryz.underlying141 rfl (info_rxA _) ?_;(with_reducible rfl);rfl;exact HE6.out)
    | (refine wpList_store_row rfl 141 (.tmp 2) (.tmp 34) ?_ nb (cellsA X) ?_ ?_ 141 (cellsA (setA Q4.none)) ?_ (info_rxA _) (by rw [cellsA_size,cellsA_size]) (cellsA_one _) ?_;(with_reducible rfl);rfl;rfl;exact HN6.out))
   refine bodyPost_ret (results_cell_row rfl _ _ nb 141 (cellsA X) (0,0) _ rfl (setRow_heap _ _ _ _ _ _ HN6.out) Tryz.underlying141 rfl (info_rxA _)) rfl ?_
   refine⟨((((((hO0.then o1).then o2).then o3).then o4).setRow (q:=nb+1) (.inr (by omega)) _).then o6).setRow (q:=nb) (.inr (by omega)) _,.inr ⟨X,r.tail,rfl,rfl,?_,?_,?_⟩⟩
   ·unfold ReadAt at h6 ⊢
    rw [setRow_other _ _ _ _ (by omega)]
    exact h6
   ·have hs6:=o6.size
    simp only [size_setRow] at hs6 ⊢
    refine hXin.keep fun b hb=>?_
    obtain ⟨hb1,hb2⟩:=hXb b hb
    have hs3:=o3.size
    have hs2:=o2.size
    have hs1:=o1.size
    refine⟨by omega,fun o=>World.cell?_of_block (w:=w4) ?_⟩
    show (World.setRow _ _ _).heap[b]?=_
    rw [setRow_other _ _ _ _ (by omega),o6.block b (by simp;omega) (by omega),setRow_other _ _ _ _ (by omega)]
   ·intro b hb
    have hs6:=o6.size
    have hs0:=hO0.size
    have hs3:=o3.size
    have hs2:=o2.size
    have hs1:=o1.size
    simp only [size_setRow] at hs6 ⊢
    have:=hXb b hb
    omega
theorem atom_any (w:World) (rb:Nat) (s:List UInt8) (h:ReadAt w rb s) (hl:s.length≤128) (altf:List UInt8→Option (Rx × List UInt8))
 (halt:starts 40 s=true→∀ w1,ReadAt w1 rb s.tail→Calls Tryz.prog 173 #[.pointer (some ⟨rb,0,none⟩)] w1 fun e w2=>ReadsRx rb w1 (altf s.tail) e w2) :
 Calls Tryz.prog 192 #[.pointer (some ⟨rb,0,none⟩)] w fun e w'=>ReadsRx rb w (atomB altf s) e w':=by
 cases h46:starts 46 s with
 | true=>exact atom_dot w rb s h hl altf h46
 | false=>
  cases h91:starts 91 s with
  | true=>exact atom_class w rb s h hl altf h46 h91
  | false=>
   cases h40:starts 40 s with
   | true=>exact atom_open w rb s h hl altf h46 h91 h40 (halt h40)
   | false=>exact atom_one w rb s h hl altf h46 h91 h40
end Go.Proofs.YtbchkjfnakabkaaGreatDoor
