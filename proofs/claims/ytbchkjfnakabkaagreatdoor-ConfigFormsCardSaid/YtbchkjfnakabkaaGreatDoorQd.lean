import Derived.Test.YtbchkjfnakabkaaGreatDoorQ11
import Derived.Test.YtbchkjfnakabkaaGreatDoorR4
import Derived.Deep.AppendLies
set_option linter.unusedSimpArgs false
set_option linter.unusedVariables false
set_option maxHeartbeats 4000000
set_option maxRecDepth 100000
namespace Go.Proofs.YtbchkjfnakabkaaGreatDoor
open Go.RowKit PX
theorem Uz(w:World)(rb:Nat)(S:ByteArray)(i:Nat)(h:RefAt w rb S i false)(hs:S.size≤1000)(A:Option (Rx × List UInt8))
 (hatom:∀ w1,RefAt w1 rb S i false→Calls Tryz.prog 154 #[.pointer (some ⟨rb,0,none⟩)] w1 fun e w2=>XK rb S i w1 A e w2) :
 Calls Tryz.prog 130 #[.pointer (some ⟨rb,0,none⟩)] w fun e w'=>XK rb S i w (BD A) e w':=by
 cases A with
 |none=>exact ZaL w rb S i h hs (.node 0 0 0 0 0 0 0 []) [] (QD _ _ hatom)
 |some p=>
  obtain⟨x,r⟩:=p;have ha:=W9 hatom;show Calls _ _ _ _ fun e w'=>XK rb S i w (sign x r) e w'
  cases h42:Zg 42 r with
  |true=>exact Dw w rb S i h hs x r ha h42
  |false=>
   cases h43:Zg 43 r with
   |true=>exact Dx w rb S i h hs x r ha h42 h43
   |false=>
    cases h63:Zg 63 r with
    |true=>exact ZaK w rb S i h hs x r ha h42 h43 h63
    |false=>
     cases h123:Zg 123 r with
     |true=>exact Qe w rb S i h hs x r ha h42 h43 h63 h123
     |false=>exact Dy w rb S i h hs x r ha h42 h43 h63 h123
def Zin(O:Option (Rx × List UInt8))(F:Nat)(S:ByteArray)(lA:List RxA)(more bad:Bool)(j:Nat):Prop:=
 (bad=true∧O=none)∨(bad=false∧more=true∧∃ f,3*(rest S j).length+1≤f∧f≤F∧altR f (lA.map RxA.bare) [] (rest S j)=O)∨(bad=false∧more=false∧O=some (Rx.joined 2 (lA.map RxA.bare),rest S j))
def InnerO(O:Option (Rx × List UInt8))(F:Nat)(S:ByteArray)(lA rowA:List RxA)(bad:Bool)(j:Nat):Prop:=
 (bad=true∧O=none)∨(bad=false∧∃ f,3*(rest S j).length+1≤f∧f≤F∧altR f (lA.map RxA.bare) (rowA.map RxA.bare) (rest S j)=O)
def ZfU(F rb:Nat)(S:ByteArray):Prop:=∀ f',f'<F→∀ w i,RefAt w rb S i false→i≤S.size→3*(rest S i).length≤f'→Calls Tryz.prog 130 #[.pointer (some ⟨rb,0,none⟩)] w fun e w'=>XK rb S i w (XI f' (rest S i)) e w'
def Zc5:Value→Nat
 |.bool true=>1
 |_=>0
theorem B6{w:World}{g base:Nat}(h:w.heap[g]?=some (.cells #[] 141 (0,0)))(hb:base≤g):w.ownsRow base 141 8 (.slice (some ⟨g,0,none⟩) 0 0) 0 []:=
 ⟨rfl,.inr ⟨g,0,#[],rfl,hb,h,Nat.le_refl _,by unfold maxLen;omega,rfl,rfl⟩⟩
theorem AltInv.empty{B:Nat}{w:World}{g:Nat}(h:w.heap[g]?=some (.cells #[] 141 (0,0)))(hb:B≤g):AltInv B w (.slice (some ⟨g,0,none⟩) 0 0) (.slice none 0 0) [] []:=
 ⟨B6 h hb,⟨rfl,.inl ⟨rfl,rfl⟩⟩,(fun g _ h=>by cases h),(fun X hX=>by cases hX),(fun X hX=>by cases hX)⟩
theorem AltInv.fresh{B:Nat}{w:World}{v1:Value}{l1:List RxA}(h:AltInv B w v1 (.slice none 0 0) l1 [])(hB:B≤w.heap.size):AltInv B (w.alloc (.cells #[] 141)) v1 (.slice (some ⟨w.heap.size,0,none⟩) 0 0) l1 []:=by
 have ho:Only (fun _=>False) w (w.alloc (.cells #[] 141)):=(Only.refl _ w).alloc _;refine⟨ho.ownsRow h.own1 (fun k _ h=>h),B6 (Ze w _) hB,fun g h1 h2=>?_,fun X hX=>?_,fun X hX=>by cases hX⟩
 ·have:=(h.own1.lt g h1).2;simp only[Value.ownBlock,Option.some.injEq]at h2;omega
 ·refine(h.kept1 X hX).later ho.size fun b hb hlt h1 h2=>⟨ho.block b hlt (fun h=>h),h1,fun he=>?_⟩
  simp only[Value.ownBlock,Option.some.injEq]at he;omega
theorem InnerO.stop{O:Option (Rx × List UInt8)}{F:Nat}{S:ByteArray}{lA rowA:List RxA}{j:Nat}(h:InnerO O F S lA rowA false j)(hst:((rest S j).isEmpty || Zg 124 (rest S j) || Zg 41 (rest S j))=true) :
 ∃ f1,3*(rest S j).length≤f1∧f1+1≤F∧O=if Zg 124 (rest S j) then altR f1 (lA.map RxA.bare++[Rx.joined 1 (rowA.map RxA.bare)]) [] (rest S j).tail else some (Rx.joined 2 (lA.map RxA.bare++[Rx.joined 1 (rowA.map RxA.bare)]),rest S j):=by
 rcases h with⟨h,-⟩|⟨-, f,h1,h2,h3⟩
 ·cases h
 ·obtain⟨f1,rfl⟩:∃ f1,f=f1+1:=⟨f - 1,by omega⟩
  refine⟨f1,by omega,h2,?_⟩;rw[←h3]
  cases h124:Zg 124 (rest S j) with
  |true=>rw[Zad h124];rfl
  |false=>rw[Gm hst h124];rfl
theorem InnerO.go{O:Option (Rx × List UInt8)}{F:Nat}{S:ByteArray}{lA rowA:List RxA}{j:Nat}(h:InnerO O F S lA rowA false j)(hst:((rest S j).isEmpty || Zg 124 (rest S j) || Zg 41 (rest S j))=false) :
 ∃ f1,f1<F∧3*(rest S j).length≤f1∧O=match XI f1 (rest S j) with|none=>none|some (x,r)=>altR f1 (lA.map RxA.bare) (rowA.map RxA.bare++[x]) r:=by
 rcases h with⟨h,-⟩|⟨-, f,h1,h2,h3⟩
 ·cases h
 ·obtain⟨f1,rfl⟩:∃ f1,f=f1+1:=⟨f - 1,by omega⟩
  exact⟨f1,by omega,by omega,by rw[←h3,Zef hst];rfl⟩
theorem InnerO.next{O:Option (Rx × List UInt8)}{F f1:Nat}{S:ByteArray}{lA rowA:List RxA}{j j':Nat}{b:Bool}{X:RxA}(hf:f1<F)(hl:3*(rest S j).length≤f1)(hO:O=match XI f1 (rest S j) with|none=>none|some (x,r)=>altR f1 (lA.map RxA.bare) (rowA.map RxA.bare++[x]) r)
 (hor:(b=false∧XI f1 (rest S j)=some (X.bare,rest S j'))∨(b=true∧XI f1 (rest S j)=none)):InnerO O F S lA (rowA++[X]) b j'∧(b=false→j<j'):=by
 rcases hor with⟨rfl,h⟩|⟨rfl,h⟩
 ·have hr:=(DE f1).2.1 _ _ _ h;have l1:=ZP S j;have l2:=ZP S j';rw[h]at hO;refine⟨.inr ⟨rfl,f1,by omega,by omega,?_⟩,fun _=>by omega⟩;rw[List.map_append,List.map_singleton];exact hO.symm
 ·rw[h]at hO;exact⟨.inl ⟨rfl,hO⟩,fun h=>by cases h⟩
theorem BA(F:Nat)(w:World)(rb:Nat)(S:ByteArray)(i:Nat)(hp:ZfU F rb S)(h:RefAt w rb S i false)(hs:S.size≤128)(hi:i≤S.size)(hF:3*(rest S i).length+1≤F) :
 Calls Tryz.prog 104 #[.pointer (some ⟨rb,0,none⟩)] w fun e w'=>XK rb S i w (altR F [] [] (rest S i)) e w':=by
 obtain⟨O,hO⟩:∃ O,altR F [] [] (rest S i)=O:=⟨_,rfl⟩
 rw[hO]
 obtain⟨nb,hnb⟩:∃ nb,w.heap.size=nb:=⟨_,rfl⟩
 have hrb:=Za h;rw[hnb]at hrb;obtain⟨i0,hi0,hz0,hz1,hz2⟩:=info_parts BU;have HSZ:=Hd hnb;have HW:=Hd h;have HP:=Hd hp;have HOO:=Hd hO;have HF:=Hd hF;clear h hp hO hF
 go_enter Tryz.func104,Tryz.ntmps104
 go_wp2_with fail
 have hcn:((w.alloc (.cells Zn 141)).alloc (.cells #[] 141)).heap[nb]?=some (.cells Zn 141 (0,0)):=Zd (Zp _ _ _ HSZ.out) _;have hcg:((w.alloc (.cells Zn 141)).alloc (.cells #[] 141)).heap[nb+1]?=some (.cells #[] 141 (0,0)):=Zp _ _ _ (by have:=HSZ.out;simp;omega);have hcr:RefAt ((w.alloc (.cells Zn 141)).alloc (.cells #[] 141)) rb S i false:=Zd (Zd HW.out _) _;have hco:Only (fun k=>k=rb) w ((w.alloc (.cells Zn 141)).alloc (.cells #[] 141)):=((Only.refl _ w).alloc _).alloc _;have HST:=Hd (show _∧_∧_∧_ from⟨hcn,AltInv.empty (B:=nb+1) hcg (Nat.le_refl _),hcr,hco⟩);clear hcn hcg hcr hco
 go_loopw [3,4] (fun v3 v4 wr=>∃ (lA:List RxA) (more bad:Bool) (j:Nat),v4=.bool more∧RefAt wr rb S j bad∧wr.heap[nb]?=some (.cells Zn 141 (0,0))∧Only (fun k=>k=rb) w wr∧AltInv (nb+1) wr v3 (.slice none 0 0) lA [] ∧
  i≤j∧j≤S.size∧lA.length+(S.size - j)≤128+(if more then 0 else 1)∧Zin O F S lA more bad j) (fun _ v4 wr=>2*(S.size - ZaQ rb wr)+Zc5 v4)
 case atStart=>
  obtain⟨a1,a2,a3,a4⟩:=HST.out;exact⟨[],true,false,i,rfl,a3,a1,a4,a2,Nat.le_refl _,hi,by simp;omega,.inr (.inl ⟨rfl,rfl,F,HF.out,Nat.le_refl _,HOO.out⟩)⟩
 case round=>
  obtain⟨lA,more,bad,j,rfl,hr,hn,hon,hinv,hij,hjs,hlen,hout⟩:=hrel;clear HST HOO HF HW
  obtain⟨vl,rfl⟩:∃ vl,vl=u3:=⟨_,rfl⟩
  obtain⟨c0,c1,c2,z1,z2⟩:=hr.cells;have HR:=Hd hr;have HN:=Hd hn;have HON:=Hd hon;have HINV:=Hd hinv;have HOUT:=Hd hout;have hnl:=Za hn;have HLEN:=Hd hlen;clear hr hn hon hinv hout hlen;by_cases hgo:more=true∧bad=false
  ·obtain⟨rfl,rfl⟩:=hgo;have hfr:=HINV.out.fresh (by omega);have hr1:RefAt (wr.alloc (.cells #[] 141)) rb S j false:=Zd HR.out _;have hn1:(wr.alloc (.cells #[] 141)).heap[nb]?=some (.cells Zn 141 (0,0)):=Zd HN.out _;have ho1:Only (fun k=>k=rb) w (wr.alloc (.cells #[] 141)):=HON.out.alloc _
   have hin0:InnerO O F S lA [] false j:=by
    rcases HOUT.out with⟨h,-⟩|⟨-, -, f,h1,h2,h3⟩|⟨-, h,-⟩
    ·cases h
    ·exact .inr ⟨rfl,f,h1,h2,h3⟩
    ·cases h
   obtain⟨W1,hW1⟩:∃ W1,wr.alloc (.cells #[] 141)=W1:=⟨_,rfl⟩
   obtain⟨gb,hgb⟩:∃ gb,wr.heap.size=gb:=⟨_,rfl⟩
   have HW1:=Hd hW1;have HGB:=Hd hgb;rw[hW1]at hfr hr1 hn1 ho1;rw[hgb]at hfr;have HFR:=Hd hfr;have HR1:=Hd hr1;have HN1:=Hd hn1;have HO1:=Hd ho1;have HIN0:=Hd hin0;clear hfr hr1 hn1 ho1 hin0 hW1 hgb
   go_upto_block 2 with fail
   rw[HW1.out,HGB.out];clear c0 c1 c2 z1 z2
   obtain⟨wo,rfl⟩:∃ wo:World,wo=wr:=⟨_,rfl⟩
   have HRB0:=HR
   go_cut [5] from 16 to 61 (fun v5 wx=>∃ (rowA:List RxA) (bx:Bool) (jx:Nat),RefAt wx rb S jx bx∧wx.heap[nb]?=some (.cells Zn 141 (0,0))∧Only (fun k=>k=rb) w wx∧AltInv (nb+1) wx vl v5 lA rowA∧j≤jx∧jx≤S.size∧rowA.length+(S.size - jx)≤129∧InnerO O F S lA rowA bx jx∧(bx=false→((rest S jx).isEmpty || Zg 124 (rest S jx) || Zg 41 (rest S jx))=true))
   case first=>
    go_wp2_with fail
    go_loopw [5] (fun v5 wx=>∃ (rowA:List RxA) (bx:Bool) (jx:Nat),RefAt wx rb S jx bx∧wx.heap[nb]?=some (.cells Zn 141 (0,0))∧Only (fun k=>k=rb) w wx∧AltInv (nb+1) wx vl v5 lA rowA∧j≤jx∧jx≤S.size∧rowA.length+(S.size - jx)≤128+(if bx then 1 else 0)∧InnerO O F S lA rowA bx jx) (fun _ wx=>2*(S.size - ZaQ rb wx)+ZfP rb wx)
    case atStart=>exact⟨[],false,j,HR1.out,HN1.out,HO1.out,HFR.out,Nat.le_refl _,hjs,by simp;omega,HIN0.out⟩
    case round=>
     obtain⟨rowA,bx,jx,hr,hn,hon,hinv,hjx,hjxs,hlx,hin⟩:=hrel
     obtain⟨vr,rfl⟩:∃ vr,vr=u5:=⟨_,rfl⟩
     obtain⟨c0,c1,c2,z1,z2⟩:=hr.cells;have HRX:=Hd hr;have HNX:=Hd hn;have HOX:=Hd hon;have HIX:=Hd hinv;have HLX:=Hd hlx;have HIN:=Hd hin;have hnlx:=Za hn;clear hr hn hon hinv hlx hin
     cases bx with
     |true=>
      go_wp2_with fail
      go_quiet (fail)
      go_wp2_with fail
      go_meet
      case rel=>
       exact⟨rowA,true,jx,HRX.out.drewN _,HNX.out,HOX.out.drewN _,HIX.out.only ((Only.refl (fun _=>False) wr).drewN _) (fun j hj=>hj.elim),hjx,hjxs,by have:=HLX.out;simp at this;omega,HIN.out,fun h=>by cases h⟩
     |false=>
      have hcase:(rest S jx=[])∨(∃u,rest S jx=124::u)∨(∃u,rest S jx=41::u)∨(∃c u,rest S jx=c::u∧c≠124∧c≠41):=by
       cases rest S jx with
       |nil=>exact .inl rfl
       |cons c u=>
        by_cases h1:c=124
        ·exact .inr (.inl ⟨u,by rw[h1]⟩)
        ·by_cases h2:c=41
         ·exact .inr (.inr (.inl ⟨u,by rw[h2]⟩))
         ·exact .inr (.inr (.inr ⟨c,u,rfl,h1,h2⟩))
      rcases hcase with hr|⟨u,hr⟩|⟨u,hr⟩|⟨c,u,hr,hc1,hc2⟩
      ·have HSTOP:=Hd (show((rest S jx).isEmpty || Zg 124 (rest S jx) || Zg 41 (rest S jx))=true by rw[hr];rfl)
       have hd:decide (jx<S.size)=false:=by
        have h1:=ZP S jx;rw[hr]at h1;simp at h1 ⊢;omega
       clear hr
       go_wp2_with fail
       go_quiet (fail)
       go_wp2_with fail
       go_meet
       case rel=>
        exact⟨rowA,false,jx,HRX.out.drewN _,HNX.out,HOX.out.drewN _,HIX.out.only ((Only.refl (fun _=>False) wr).drewN _) (fun j hj=>hj.elim),hjx,hjxs,by have:=HLX.out;simp at this;omega,HIN.out,fun _=>HSTOP.out⟩
      ·have HSTOP:=Hd (show((rest S jx).isEmpty || Zg 124 (rest S jx) || Zg 41 (rest S jx))=true by rw[hr];rfl);have hd:decide (jx<S.size)=true:=by have:=(ZJ hr).1;simp;omega
       have hx:∀ w,(Instr.index 9 (.string S) (.int .i64 jx)).run Tryz.prog w=.ok (.int .u8 124) w:=Xd hr;clear hr
       go_wp2_with fail
       go_quiet (fail)
       go_wp2_with fail
       go_meet
       case rel=>
        exact⟨rowA,false,jx,HRX.out.drewN _,HNX.out,HOX.out.drewN _,HIX.out.only ((Only.refl (fun _=>False) wr).drewN _) (fun j hj=>hj.elim),hjx,hjxs,by have:=HLX.out;simp at this;omega,HIN.out,fun _=>HSTOP.out⟩
      ·have HSTOP:=Hd (show((rest S jx).isEmpty || Zg 124 (rest S jx) || Zg 41 (rest S jx))=true by rw[hr];rfl);have hd:decide (jx<S.size)=true:=by have:=(ZJ hr).1;simp;omega
       have hx:∀ w,(Instr.index 9 (.string S) (.int .i64 jx)).run Tryz.prog w=.ok (.int .u8 41) w:=Xd hr;clear hr
       go_wp2_with fail
       go_quiet (fail)
       go_wp2_with fail
       go_meet
       case rel=>
        exact⟨rowA,false,jx,HRX.out.drewN _,HNX.out,HOX.out.drewN _,HIX.out.only ((Only.refl (fun _=>False) wr).drewN _) (fun j hj=>hj.elim),hjx,hjxs,by have:=HLX.out;simp at this;omega,HIN.out,fun _=>HSTOP.out⟩
      ·have hst:((rest S jx).isEmpty || Zg 124 (rest S jx) || Zg 41 (rest S jx))=false:=by rw[hr];simp[Zg,hc1,hc2]
       obtain⟨f1,hf1,hf2,hO⟩:=HIN.out.go hst;have hd:decide (jx<S.size)=true:=by have:=(ZJ hr).1;simp;omega
       have hx:=Xd hr
       have h124:((c.toNat:Int) != 124)=true:=by
        rw[bne_iff_ne];intro h;exact hc1 (UInt8.toNat_inj.1 (by show c.toNat=124;omega))
       have h41:((c.toNat:Int) != 41)=true:=by
        rw[bne_iff_ne];intro h;exact hc2 (UInt8.toNat_inj.1 (by show c.toNat=41;omega))
       have HPC:=Hd (fun w1 (h1:RefAt w1 rb S jx false)=>HP.out f1 hf1 w1 jx h1 hjxs hf2);have HO:=Hd hO;have HF1:=Hd hf1;have HF2:=Hd hf2;have hlr:rowA.length+(S.size - jx)≤128:=by have:=HLX.out;simpa using this
       clear hst hr hc1 hc2 hO hf1 hf2
       go_wp2_with fail
       go_quiet (fail)
       have HRN:=Hd (HRX.out.drewN nq);have HNN:=Hd (show(wr.drewN nq).heap[nb]?=_ from HNX.out);have HON2:=Hd (HOX.out.drewN nq);have HI0:=Hd (HIX.out.only ((Only.refl (fun _=>False) wr).drewN nq) (fun j hj=>hj.elim))
       obtain⟨wq,hwq⟩:∃ wq,wr.drewN nq=wq:=⟨_,rfl⟩
       rw[hwq]at HRN HNN HON2 HI0;rw[hwq];have hnlq:=Za HNN.out;clear hwq c0 c1 c2 z1 z2
       go_wp2_with (first
        | (go_at_call 130
           (with_reducible refine(HPC.out _ HRN.out).mono ?_)
           rintro e w1 ⟨o1,X,jy,by',he,hij2,hjs2,h1,hXin,hXb,hor⟩;obtain⟨k,mn,mx,s0,s1,s2,s3,a,cap,l⟩:=X;obtain rfl:e=.returned (.agg #[.int .i64 k,.int .i64 mn,.int .i64 mx,.int .u64 s0,.int .u64 s1,.int .u64 s2,.int .u64 s3,.slice a l.length cap]):=he;have hs1:=o1.size;have hinv1:=HI0.out.only o1 (by intro j hj;omega)
           have hK:Kept w1 (nb+1) vl vr (RxA.node k mn mx s0 s1 s2 s3 a cap l):=⟨hXin,fun b hb=>by
            have h3:=hXb b hb
            exact⟨by omega,h3.2,fun he=>by have:=(HI0.out.own1.lt b he).2;omega,fun he=>by have:=(HI0.out.own2.lt b he).2;omega⟩⟩
           have hinv2:=hinv1.only (Only.alloc (r:=fun k=>k=rb) (Only.refl _ w1) (.cells [.int .i64 k,.int .i64 mn,.int .i64 mx,.int .u64 s0,.int .u64 s1,.int .u64 s2,.int .u64 s3,.slice a l.length cap].toArray 141)) (by intro j hj;omega);have hK2:=hK.only (Only.alloc (r:=fun k=>k=rb) (Only.refl _ w1) (.cells [.int .i64 k,.int .i64 mn,.int .i64 mx,.int .u64 s0,.int .u64 s1,.int .u64 s2,.int .u64 s3,.slice a l.length cap].toArray 141)) (by intro j hj;omega);have HI2:=Hd hinv2;have HK2:=Hd hK2;have HH1:=Hd h1;have HQ1:=Hd o1;have HOR:=Hd hor;clear hinv1 hK hinv2 hK2 hXin hXb h1 hor o1
           have hrl2:rowA.length+1≤1000:=(by omega))
        | (refine wpList_append_lies _ rfl (.tmp 57) (.tmp 60) 139 rfl (nb+1) 141 i0 _ 8 80 Tryz.underlying139 hi0 hz0 hz1 hz2 rfl (by decide) vr rowA.length (Xb rowA) rfl HI2.out.own2 ⟨w1.heap.size,0,none⟩ 1 1 [.int .i64 k,.int .i64 mn,.int .i64 mx,.int .u64 s0,.int .u64 s1,.int .u64 s2,.int .u64 s3,.slice a l.length cap] rfl rfl (Je w1 [.int .i64 k,.int .i64 mn,.int .i64 mx,.int .u64 s0,.int .u64 s1,.int .u64 s2,.int .u64 s3,.slice a l.length cap] 141) (by intro v hv;exact GH (RxA.node k mn mx s0 s1 s2 s3 a cap l) v hv) (by decide) (by unfold maxLen;omega) (by omega) (by simp;omega) _ rfl ?_
           intro g cap' w3 hown3 hgrow hgat hglt)
        |fail)
       have hpush:=HI2.out.push HK2.out hown3 hgrow hgat;have hO3:Only (fun k=>k=rb) w w3:=((HON2.out.then HQ1.out).alloc _).grown hgrow (fun b hb=>.inr (by have:=(HI0.out.own2.lt b hb).1;have:=HSZ.out;omega));have hvr:∀ b,b<nb+1→some b≠vr.ownBlock:=fun b hb he=>by have:=(HI0.out.own2.lt b he.symm).1;omega
       have h3:RefAt w3 rb S jy by':=(hgrow.block rb (by simp;omega) (hvr rb (by omega))).trans (Zd HH1.out _)
       have hn3:w3.heap[nb]?=some (.cells Zn 141 (0,0)):=(hgrow.block nb (by simp;omega) (hvr nb (by omega))).trans (Zd ((HQ1.out.block nb hnlq (by omega)).trans HNN.out) _);obtain⟨hin3,hjj3⟩:=InnerO.next HF1.out HF2.out HO.out HOR.out;refine⟨⟨rowA++[(RxA.node k mn mx s0 s1 s2 s3 a cap l)],by',jy,h3,hn3,hO3,?_,by omega,hjs2,?_,hin3⟩,?_⟩
       ·have e:rowA.length+1=(rowA++[(RxA.node k mn mx s0 s1 s2 s3 a cap l)]).length:=by simp
        exact hpush
       ·rw[List.length_append,List.length_singleton]
        cases by' with
        |true=>simp;omega
        |false=>have:=hjj3 rfl;simp;omega
       ·rw[YG h3,Eo h3,YG HRX.out,Eo HRX.out]
        cases by' with
        |true=>simp;omega
        |false=>have:=hjj3 rfl;simp;omega
   case rest=>
    obtain⟨rowA,bx,jx,hr,hn,hon,hinv,hjx,hjxs,hlx,hin,hstop⟩:=hcut
    obtain⟨vr,rfl⟩:∃ vr,vr=u5:=⟨_,rfl⟩
    obtain⟨wq,rfl⟩:∃ wq:World,wq=wc:=⟨_,rfl⟩
    obtain⟨ar,cr,rfl,hcr1,hcr2,-⟩:=Y9 hinv.own2;have hKJ:=hinv.join 1 ⟨by omega,by omega⟩ (by omega);have hJB:=YA 1 ar cr rowA;have hJC:=EK wq 1 (.slice ar rowA.length cr) (nb+1) rowA hinv.own2 (by omega)
    obtain⟨k,mn,mx,s0,s1,s2,s3,a,cap,l,hXJ⟩:∃ k mn mx s0 s1 s2 s3 a cap l,Xk 1 ar cr rowA=(RxA.node k mn mx s0 s1 s2 s3 a cap l):=by
     obtain⟨k,mn,mx,s0,s1,s2,s3,a,cap,l⟩:=Xk 1 ar cr rowA;exact⟨k,mn,mx,s0,s1,s2,s3,a,cap,l,rfl⟩
    have hJC2:Calls Tryz.prog 131 #[.int .i64 1,.slice ar rowA.length cr] wq fun e w1=>e=.returned (.agg #[.int .i64 k,.int .i64 mn,.int .i64 mx,.int .u64 s0,.int .u64 s1,.int .u64 s2,.int .u64 s3,.slice a l.length cap])∧Below wq.heap.size wq w1:=by
     refine hJC.mono ?_;rintro e w1 ⟨a',c',he,hee,hb⟩;simp only[Value.slice.injEq,true_and]at he;obtain⟨rfl,rfl⟩:=he;rw[hXJ]at hee;exact⟨hee,hb⟩
    rw[hXJ]at hKJ hJB;have HI0:=Hd hinv.drop;have HOWN1:=Hd hinv.own1;have HKJ:=Hd hKJ;have HJB:=Hd hJB;have HJC:=Hd hJC2;have HRD:=Hd hr;have HNQ:=Hd hn;have HOQ:=Hd hon;have HIN:=Hd hin;have HSTOP:=Hd hstop;have hwn:nb<wq.heap.size:=Za hn;have hlen2:lA.length+(S.size - j)≤128:=by simpa using HLEN.out
    have hlA:lA.length+1≤1000:=by omega
    have HAT:=Hd (fun w1 (h1:RefAt w1 rb S jx bx)=>U3 w1 rb S jx bx 124 124 h1 (by omega) rfl);clear hKJ hJB hJC2 hJC hXJ hr hn hon hin hstop hinv
    obtain⟨p124,hp124⟩:∃ p,Zg 124 (rest S jx)=p:=⟨_,rfl⟩
    have hat:=HAT.out;rw[hp124]at hat;have HAT2:=Hd hat;have H124:=Hd hp124;clear hat hp124 HAT
    go_wp2_with (first
     | (go_at_call 131
        (with_reducible refine HJC.out.mono ?_)
        rintro e w1 ⟨rfl,hb1⟩;have hs1:=hb1.size;have hO1:Only (fun k=>k=rb) wq w1:=Only.of_below hb1;have hO2:=hO1.alloc (.cells [.int .i64 k,.int .i64 mn,.int .i64 mx,.int .u64 s0,.int .u64 s1,.int .u64 s2,.int .u64 s3,.slice a l.length cap].toArray 141);have hinv2:=HI0.out.only hO2 (by intro j hj;omega);have hK2:=HKJ.out.only hO2 (by intro j hj;omega);have HI2:=Hd hinv2;have HK2:=Hd hK2;have HO2:=Hd hO2;have hr2:RefAt (w1.alloc (.cells [.int .i64 k,.int .i64 mn,.int .i64 mx,.int .u64 s0,.int .u64 s1,.int .u64 s2,.int .u64 s3,.slice a l.length cap].toArray 141)) rb S jx bx:=Zd ((hb1.block rb (by omega)).trans HRD.out) _;have hn2:(w1.alloc (.cells [.int .i64 k,.int .i64 mn,.int .i64 mx,.int .u64 s0,.int .u64 s1,.int .u64 s2,.int .u64 s3,.slice a l.length cap].toArray 141)).heap[nb]?=_:=Zd ((hb1.block nb hwn).trans HNQ.out) _;have HR2:=Hd hr2;have HN2:=Hd hn2
        clear hinv2 hK2 hr2 hn2 hO1 hO2 hb1)
     | (refine wpList_append_lies _ rfl (.tmp 62) (.tmp 65) 139 rfl (nb+1) 141 i0 _ 8 80 Tryz.underlying139 hi0 hz0 hz1 hz2 rfl (by decide) vl lA.length (Xb lA) rfl HI2.out.own1 ⟨w1.heap.size,0,none⟩ 1 1 [.int .i64 k,.int .i64 mn,.int .i64 mx,.int .u64 s0,.int .u64 s1,.int .u64 s2,.int .u64 s3,.slice a l.length cap] rfl rfl (Je w1 [.int .i64 k,.int .i64 mn,.int .i64 mx,.int .u64 s0,.int .u64 s1,.int .u64 s2,.int .u64 s3,.slice a l.length cap] 141) (by intro v hv;exact GH (RxA.node k mn mx s0 s1 s2 s3 a cap l) v hv) (by decide) (by unfold maxLen;omega) (by omega) (by simp;omega) _ rfl ?_
        intro g cap' w3 hown3 hgrow hgat hglt;have hpush:=(HI2.out.swap.push HK2.out.swap hown3 hgrow hgat).swap
        have hvl:∀ b,b<nb+1→some b≠vl.ownBlock:=fun b hb he=>by
         have:=(HOWN1.out.lt b he.symm).1;omega
        have h3:RefAt w3 rb S jx bx:=(hgrow.block rb (by simp;omega) (hvl rb (by omega))).trans HR2.out;have hn3:=(hgrow.block nb (by simp;omega) (hvl nb (by omega))).trans HN2.out;have hO3:Only (fun k=>k=rb) w w3:=(HOQ.out.then HO2.out).grown hgrow (fun b hb=>.inr (by have:=(HOWN1.out.lt b hb).1;have:=HSZ.out;omega));have HPU:=Hd hpush;have HR3:=Hd h3;have HN3:=Hd hn3;have HO3:=Hd hO3;have hnl3:=Za hn3
        clear hpush h3 hn3 hO3 hown3 hgrow hgat hvl)
     | (go_at_call 132
        (with_reducible refine(HAT2.out _ HR3.out).mono ?_)
        rintro e w4 ⟨rfl,h4,o4⟩;have HN4:=Hd ((o4.block nb hnl3 (by omega)).trans HN3.out);have HP4:=Hd (HPU.out.only o4 (by intro j hj;omega));have HO4:=Hd (HO3.out.then o4);have HR4:=Hd h4
        clear h4 o4)
     |fail)
    have hpos:=YG HRB0.out
    cases p124 with
    |true=>
     have h4:RefAt w4 rb S (jx+1) bx:=by simpa using HR4.out
     have hjs4:=ZO H124.out;refine⟨⟨lA++[(RxA.node k mn mx s0 s1 s2 s3 a cap l)],true,bx,jx+1,rfl,h4,HN4.out,HO4.out,?_,by omega,hjs4,?_,?_⟩,?_⟩
     ·exact HP4.out
     ·rw[List.length_append,List.length_singleton];simp;omega
     ·cases bx with
      |true=>
       rcases HIN.out with⟨-, h⟩|⟨h,-⟩
       ·exact .inl ⟨rfl,h⟩
       ·cases h
      |false=>
       obtain⟨f1,h1,h2,h3⟩:=HIN.out.stop (HSTOP.out rfl);refine .inr (.inl ⟨rfl,rfl,f1,?_,by omega,?_⟩)
       ·have e1:=ZP S jx;have e2:=ZP S (jx+1);omega
       ·rw[h3,H124.out,if_pos rfl,Zy,List.map_append,List.map_singleton,HJB.out]
     ·rw[YG h4,hpos];simp[Zc5];omega
    |false=>
     have h4:RefAt w4 rb S jx bx:=by simpa using HR4.out
     refine⟨⟨lA++[(RxA.node k mn mx s0 s1 s2 s3 a cap l)],false,bx,jx,rfl,h4,HN4.out,HO4.out,?_,by omega,hjxs,?_,?_⟩,?_⟩
     ·exact HP4.out
     ·rw[List.length_append,List.length_singleton];simp;omega
     ·cases bx with
      |true=>
       rcases HIN.out with⟨-, h⟩|⟨h,-⟩
       ·exact .inl ⟨rfl,h⟩
       ·cases h
      |false=>
       obtain⟨f1,h1,h2,h3⟩:=HIN.out.stop (HSTOP.out rfl);refine .inr (.inr ⟨rfl,rfl,?_⟩);rw[h3,H124.out,List.map_append,List.map_singleton,HJB.out];rfl
     ·rw[YG h4,hpos];simp[Zc5];omega
  ·have hfin:(bad=true∧O=none)∨(bad=false∧O=some (Rx.joined 2 (lA.map RxA.bare),rest S j)):=by
    rcases HOUT.out with h|⟨h1,h2,-⟩|⟨h1,-, h3⟩
    ·exact .inl h
    ·exact absurd ⟨h2,h1⟩ hgo
    ·exact .inr ⟨h1,h3⟩
   have HFIN:=Hd hfin;have hlen2:lA.length≤1000:=by have:=HLEN.out;split at this<;>omega
   obtain⟨ar,cr,rfl,hcr1,hcr2,-⟩:=Y9 HINV.out.own1;have hKJ:=HINV.out.swap.join 2 ⟨by omega,by omega⟩ hlen2;have hJB:=YA 2 ar cr lA;have hJC:=EK wr 2 (.slice ar lA.length cr) (nb+1) lA HINV.out.own1 hlen2
   obtain⟨X,hX⟩:∃ X,Xk 2 ar cr lA=X:=⟨_,rfl⟩
   rw[hX]at hKJ hJB
   have hJC2:Calls Tryz.prog 131 #[.int .i64 2,.slice ar lA.length cr] wr fun e w1=>e=.returned (.agg (Zh X))∧Below wr.heap.size wr w1:=by
    refine hJC.mono ?_;rintro e w1 ⟨a',c',he,hee,hb⟩;simp only[Value.slice.injEq,true_and]at he;obtain⟨rfl,rfl⟩:=he;rw[hX]at hee;exact⟨hee,hb⟩
   have HKJ:=Hd hKJ;have HJB:=Hd hJB;have HJC:=Hd hJC2
   have hns:¬ more=true∨bad=true:=by
    cases more<;>cases bad<;>simp_all
   clear hKJ hJB hJC2 hJC hX hfin hgo
   have hmm:more=false∨(more=true∧bad=true):=by
    cases more<;>cases bad<;>simp_all
   clear hns;rcases hmm with rfl|⟨rfl,rfl⟩
   all_goals
    go_wp2_with (first
     | (go_at_call 131
        (with_reducible refine HJC.out.mono ?_)
        rintro e w1 ⟨rfl,hb1⟩;have HB1:=Hd hb1;have HN1:=Hd ((hb1.block nb hnl).trans HN.out)
        clear hb1)
     |(refine wpList_store_row rfl 141 (.tmp 2) (.tmp 70) ?_ nb (Zh X) ?_ ?_ 141 Zn ?_ (Zj _) (by rw[Zi];rfl) (Zl _) ?_;(with_reducible rfl);rfl;rfl;exact HN1.out)
     |fail)
    refine bodyPost_ret (results_cell_row rfl _ _ nb 141 (Zh X) (0,0) _ rfl (setRow_heap _ _ _ _ _ _ HN1.out) Tryz.underlying141 rfl (Zj _)) rfl ?_;have hsz1:=HB1.out.size;refine XP HSZ.out hrb (HON.out.trans (Only.of_below HB1.out)) (HR.out.below HB1.out) (HKJ.out.lies.keep fun c hc=>⟨by have:=(HKJ.out.far c hc).2.1;omega,fun o=>World.cell?_of_block (w:=wr) (HB1.out.block c (HKJ.out.far c hc).2.1)⟩) (fun c hc=>⟨by have:=(HKJ.out.far c hc).1;omega,by have:=(HKJ.out.far c hc).2.1;omega⟩) hij hjs ?_;rcases HFIN.out with⟨h1,h2⟩|⟨h1,h2⟩
    ·first|exact .inr ⟨h1,h2⟩|exact .inr ⟨rfl,h2⟩
    ·first|exact .inl ⟨h1,by rw[h2,HJB.out]⟩|exact absurd h1 (by simp)
end Go.Proofs.YtbchkjfnakabkaaGreatDoor
namespace Go.Proofs.YtbchkjfnakabkaaGreatDoor
open Go.RowKit PX
theorem Zcl(rb:Nat)(S:ByteArray)(hs:S.size≤128):∀ (f:Nat) (w:World) (i:Nat),RefAt w rb S i false→i≤S.size→3*(rest S i).length≤f →
 Calls Tryz.prog 130 #[.pointer (some ⟨rb,0,none⟩)] w fun e w'=>XK rb S i w (XI f (rest S i)) e w':=by
 intro f
 induction f using Nat.strongRecOn with
 |_ f ih=>
  intro w i h hi hf
  match f,ih,hf with
  |0,_,hf=>
   have hr:rest S i=[]:=List.eq_nil_of_length_eq_zero (by omega)
   have hp:=Uz w rb S i h (by omega) none (fun w1 h1=>by
    have ha:=EN w1 rb S i h1 (by omega) hi (fun _=>none) (fun h40=>by rw[hr]at h40;cases h40);rw[hr,Ut]at ha
    exact ha)
   rw[hr];exact hp
  |1,_,hf=>
   have hr:rest S i=[]:=List.eq_nil_of_length_eq_zero (by omega)
   have hp:=Uz w rb S i h (by omega) none (fun w1 h1=>by
    have ha:=EN w1 rb S i h1 (by omega) hi (fun _=>none) (fun h40=>by rw[hr]at h40;cases h40);rw[hr,Ut]at ha
    exact ha)
   rw[hr];exact hp
  |f2+2,ih,hf=>
   have hA:Vm (f2+1) (rest S i)=Xx (altR f2 [] []) (rest S i):=by
    simp only[Vm,Xx];rfl
   have hP:XI (f2+2) (rest S i)=BD (Xx (altR f2 [] []) (rest S i)):=by
    rw[←hA];simp only[XI]
    cases Vm (f2+1) (rest S i) with
    |none=>rfl
    |some p=>rfl
   rw[hP];refine Uz w rb S i h (by omega) _ (fun w1 h1=>?_);refine EN w1 rb S i h1 (by omega) hi (altR f2 [] []) (fun h40 w2 h2=>?_);have hi1:=ZO h40;have e1:=ZP S i;have e2:=ZP S (i+1);exact BA f2 w2 rb S (i+1) (fun f'' hlt w3 i3 h3 hi3 hf3=>ih f'' (by omega) w3 i3 h3 hi3 hf3) h2 hs hi1 (by omega)
theorem ZeM(F:Nat)(w:World)(rb:Nat)(S:ByteArray)(i:Nat)(h:RefAt w rb S i false)(hs:S.size≤128)(hi:i≤S.size)(hF:3*(rest S i).length+1≤F) :
 Calls Tryz.prog 104 #[.pointer (some ⟨rb,0,none⟩)] w fun e w'=>XK rb S i w (altR F [] [] (rest S i)) e w':=
 BA F w rb S i (fun f' _=>Zcl rb S hs f') h hs hi hF
theorem JY{fn:Func}{p q:Tmp}{ty:TypeId}(h:fn.results=#[.cell p ty,.tmp q])(tmps:Array Value)(P:Program)(w:World)(g:Nat)(t:TypeId)(cs:Array Value)(fr:Nat × Nat)(fs:Array Field)
 (hp:tmps.getD p undef=.pointer (some ⟨g,0,none⟩)) (hg:w.heap[g]?=some (.cells cs t fr))
 (hu:P.underlying ty=some (.struct fs)) (hi:(P.info? ty).map (·.size)=some cs.size) :
 (results fn tmps).run P w=.ok (.tuple #[.agg cs,tmps.getD q undef]) w:=by
 have hp':tmps[p]?.getD undef=.pointer (some ⟨g,0,none⟩):=by simpa using hp
 simp[results,h,hp',asAddr,run_loadVar_row w g t ty cs fr (.struct fs) hg hu rfl hi]
theorem Dz(w:World)(S:ByteArray)(hl:128<S.size):Calls Tryz.prog 95 #[.string S] w fun e w'=>e=.returned (.tuple #[.agg (Zh (setA Q4.none)),.int .i64 51])∧Below w.heap.size w w':=by
 have hg:(128:Int)<S.size:=by omega
 go_enter Tryz.func95,Tryz.ntmps95
 go_wp2_with fail
 refine bodyPost_ret (JY rfl _ _ _ w.heap.size 141 (Zh (setA Q4.none)) (0,0) _ rfl (Ze _ _) Tryz.underlying141 (Zj _)) rfl ?_;exact⟨rfl,(Below.refl _ w).alloc (Nat.le_refl _) _⟩
theorem Q7(w:World)(S:ByteArray)(hl:S.size≤128):Calls Tryz.prog 95 #[.string S] w fun e w'=>Jf w S.data.toList e w':=by
 have hlen:S.data.toList.length=S.size:=by rw[Array.length_toList];rfl
 have hr0:rest S 0=S.data.toList:=by rw[Wa,List.drop_zero]
 have hpr:=V4 (l:=S.data.toList) (by omega)
 obtain⟨l,hl'⟩:∃ l,S.data.toList=l:=⟨_,rfl⟩
 rw[hl']at hlen hr0 hpr ⊢
 obtain⟨O,hO⟩:∃ O,altR (3*l.length+3) [] [] l=O:=⟨_,rfl⟩
 rw[hO]at hpr
 obtain⟨nb,hnb⟩:∃ nb,w.heap.size=nb:=⟨_,rfl⟩
 have hN0:((w.alloc (.cells Zn 141)).alloc (.cells #[.string S,.int .i64 0,.bool false] 150)).heap[nb]?=some (.cells Zn 141 (0,0)):=Zd (Zp _ _ _ hnb) _;have hR0:RefAt ((w.alloc (.cells Zn 141)).alloc (.cells #[.string S,.int .i64 0,.bool false] 150)) (nb+1) S 0 false:=Zp _ _ _ (by simp[hnb]);have hB0:Below nb w ((w.alloc (.cells Zn 141)).alloc (.cells #[.string S,.int .i64 0,.bool false] 150)):=by rw[←hnb];exact((Below.refl _ w).alloc (Nat.le_refl _) _).alloc (by simp) _
 have halt:=ZeM (3*l.length+3) _ (nb+1) S 0 hR0 hl (by omega) (by rw[hr0];omega);rw[hr0,hO]at halt;have HALT:=Hd (show Calls Tryz.prog 104 #[.pointer (some ⟨nb+1,0,none⟩)] ((w.alloc (.cells #[.int .i64 0,.int .i64 0,.int .i64 0,.int .u64 0,.int .u64 0,.int .u64 0,.int .u64 0,.slice none 0 0] 141)).alloc (.cells #[.string S,.int .i64 0,.bool false] 150)) _ from halt);have HN0:=Hd hN0;have HB0:=Hd hB0;have hl0:=Za hN0;have HSZ:=Hd hnb;have HPR:=Hd hpr;have HOO:=Hd hO;have hg:¬ (128:Int)<S.size:=by omega
 have HL':=Hd hl';clear halt hN0 hR0 hB0 hpr hO hr0 hlen hl'
 go_enter Tryz.func95,Tryz.ntmps95
 go_upto_region 5 with(first
  | (go_at_call 104
     refine HALT.out.mono ?_;rintro e w1 ⟨o1,X,j,b,rfl,hij,hjs,h1,hin,hbl,hor⟩;have HR1:=Hd h1;have HN1:=Hd ((o1.block nb hl0 (by omega)).trans HN0.out);have HB1:=Hd (HB0.out.trans (o1.below (B:=nb) (by omega) (by intro k hk;omega)));have hs1:=o1.size;have HIN:=Hd hin;have HBL:=Hd hbl;have HOR:=Hd hor
     clear h1 o1 hin hbl hor)
  |(refine wpList_store_row rfl 141 (.tmp 5) (.tmp 14) ?_ w1.heap.size (Zh X) ?_ ?_ 141 Zn ?_ (Zj _) (by rw[Zi];rfl) (Zl _) ?_;(with_reducible rfl);rfl;rfl;exact Ze _ _)
  |fail)
 obtain⟨eb,heb⟩:∃ eb,w1.heap.size=eb:=⟨_,rfl⟩
 obtain⟨W5,hW5⟩:∃ W5,(w1.alloc (.cells Zn 141)).setRow eb (Zh X)=W5:=⟨_,rfl⟩
 have hE5:W5.heap[eb]?=some (.cells (Zh X) 141 (0,0)):=by rw[←hW5];exact setRow_heap _ _ _ _ _ _ (Zp _ _ _ heb)
 have hold:∀ c o,c<eb→w1.heap[c]?=some o→W5.heap[c]?=some o:=fun c o hc h=>by rw[←hW5];exact(setRow_other _ _ _ _ (by omega)).trans (Zd h _)
 have hold2:∀ c,c<eb→W5.heap[c]?=w1.heap[c]?:=fun c hc=>by rw[←hW5];exact(setRow_other _ _ _ _ (by omega)).trans (Below.heap_alloc _ _ _ (by omega))
 have hsz5:W5.heap.size=eb+1:=by rw[←hW5,size_setRow];simp[heb]
 have hle5:eb+1≤W5.heap.size:=by omega
 have hrb5:=Za HR1.out;have hnb5:=Za HN1.out;have HR5:=Hd (show RefAt W5 (nb+1) S j b from hold _ _ (by omega) HR1.out);have HN5:=Hd (hold _ _ (by omega) HN1.out);have HE5:=Hd hE5;have HB5:=Hd (show Below nb w W5 by rw[←hW5];exact Xo (HB1.out.alloc (by omega) _) (by omega) _);have HIN5:=Hd (show X.In W5 W5.heap.size from HIN.out.keep fun c hc=>⟨by have:=(HBL.out c hc).2;omega,fun o=>World.cell?_of_block (w:=w1) (hold2 c (by have:=(HBL.out c hc).2;show c<eb;omega))⟩);rw[heb];rw[show(w1.alloc (.cells #[.int .i64 0,.int .i64 0,.int .i64 0,.int .u64 0,.int .u64 0,.int .u64 0,.int .u64 0,.slice none 0 0] 141)).setRow eb (Zh X)=W5 from hW5];have hxnb:∀ c∈X.blocks,nb<c:=fun c hc=>by have:=(HBL.out c hc).1;simp at this;omega
 have HXN:=Hd hxnb;have hw1e:w1.heap.size≤eb:=by omega
 clear hold hold2 hE5 hW5 heb hsz5 hxnb;obtain⟨c0,c1,c2,z1,z2⟩:=HR5.out.cells;have hnbe:nb<W5.heap.size:=Za HN5.out;by_cases hbad:b=true∨j<S.size
 ·have hno:Yn l=.inr 50:=by
   rw[HPR.out];rcases HOR.out with⟨rfl,rfl⟩|⟨rfl,rfl⟩
   ·have hj:j<S.size:=by rcases hbad with h|h;cases h;exact h
    obtain⟨c,r,hr⟩:=EL hj;rw[hr];rfl
   ·rfl
  have HNO:=Hd hno
  have hcase:b=true∨(b=false∧(j:Int)<(S.size:Int)):=by
   cases b
   ·right;rcases hbad with h|h;cases h;exact⟨rfl,by omega⟩
   ·exact .inl rfl
  clear hno hbad;rcases hcase with rfl|⟨rfl,hlt⟩
  all_goals
   go_wp2_with (first
    |(refine wpList_store_row rfl 141 (.tmp 2) (.tmp 28) ?_ nb (Zh (setA Q4.none)) ?_ ?_ 141 Zn ?_ (Zj _) (by rw[Zi];rfl) (Zl _) ?_;(with_reducible rfl);rfl;rfl;exact HN5.out)
    |fail)
   refine bodyPost_ret (JY rfl _ _ _ nb 141 (Zh (setA Q4.none)) (0,0) _ rfl (setRow_heap _ _ _ _ _ _ (HN5.out)) Tryz.underlying141 (Zj _)) rfl ?_;rw[←HSZ.out]at *;exact⟨Xo HB5.out (Nat.le_refl _) _,.inr ⟨50,HNO.out,rfl⟩⟩
 ·obtain⟨rfl,hj⟩:b=false∧¬ (j:Int)<(S.size:Int):=by
   cases b
   ·exact⟨rfl,fun h=>hbad (.inr (by omega))⟩
   ·exact absurd (.inl rfl) hbad
  have hsome:altR (3*l.length+3) [] [] l=some (X.bare,rest S j):=by
   rcases HOR.out with⟨-, h⟩|⟨h,-⟩
   ·rw[HOO.out,h]
   ·cases h
  have hfo:=(Zcw _).1 _ _ _ _ _ (fun y hy=>by cases hy) (fun y hy=>by cases hy) hsome;have hsz:=Zcj X W5 W5.heap.size (Nat.le_refl _) HIN5.out (UU _ hfo)
  obtain⟨n,hn⟩:∃ n,X.bare.sizeI=n:=⟨_,rfl⟩
  have hbd:=Qb X.bare
  have hpr2:Yn l=if 256<n then .inr 51 else .inl X.bare:=by
   rw[HPR.out,←HOO.out,hsome,Bw (by omega),←hn];rfl
  rw[hn,ZbD]at hsz;rw[hn]at hbd;obtain⟨hbd1,hbd2⟩:=hbd;have HS:=Hd hsz;have HP2:=Hd hpr2;clear hbad hsome hfo hsz hn hpr2;by_cases h256:256<n
  ·go_wp2_with (first
    |(refine wpList_load_row rfl 141 (.tmp 5) ?_ eb ?_ 141 (Zh X) (0,0) _ ?_ Tryz.underlying141 rfl (Zj _) ?_;(with_reducible rfl);rfl;exact HE5.out)
    |(go_at_call 105;(with_reducible refine HS.out.mono ?_);rintro e w2 ⟨rfl,hb2⟩;have HN2:=Hd ((hb2.block nb hnbe).trans HN5.out);have HB2:=Hd (HB5.out.trans (hb2.mono (by omega)));clear hb2)
    |(refine wpList_store_row rfl 141 (.tmp 2) (.tmp 32) ?_ nb (Zh (setA Q4.none)) ?_ ?_ 141 Zn ?_ (Zj _) (by rw[Zi];rfl) (Zl _) ?_;(with_reducible rfl);rfl;rfl;exact HN2.out)
    |fail)
   refine bodyPost_ret (JY rfl _ _ _ nb 141 (Zh (setA Q4.none)) (0,0) _ rfl (setRow_heap _ _ _ _ _ _ (HN2.out)) Tryz.underlying141 (Zj _)) rfl ?_;have hp2:=HP2.out;rw[if_pos h256]at hp2;rw[←HSZ.out]at *;exact⟨Xo HB2.out (Nat.le_refl _) _,.inr ⟨51,hp2,rfl⟩⟩
  ·go_wp2_with (first
    |(refine wpList_load_row rfl 141 (.tmp 5) ?_ eb ?_ 141 (Zh X) (0,0) _ ?_ Tryz.underlying141 rfl (Zj _) ?_;(with_reducible rfl);rfl;first|exact HE5.out|exact HE2.out)
    |(go_at_call 105;(with_reducible refine HS.out.mono ?_);rintro e w2 ⟨rfl,hb2⟩;have HN2:=Hd ((hb2.block nb hnbe).trans HN5.out);have HE2:=Hd ((hb2.block eb (by omega)).trans HE5.out);have HB2:=Hd (HB5.out.trans (hb2.mono (by omega)));have HI2:=Hd (HIN5.out.below hb2 (Nat.le_refl _));have hs2:=hb2.size;clear hb2)
    |(refine wpList_store_row rfl 141 (.tmp 2) (.tmp 33) ?_ nb (Zh X) ?_ ?_ 141 Zn ?_ (Zj _) (by rw[Zi];rfl) (Zl _) ?_;(with_reducible rfl);rfl;rfl;exact HN2.out)
    |fail)
   refine bodyPost_ret (JY rfl _ _ _ nb 141 (Zh X) (0,0) _ rfl (setRow_heap _ _ _ _ _ _ (HN2.out)) Tryz.underlying141 (Zj _)) rfl ?_;have hp2:=HP2.out;rw[if_neg (by omega)]at hp2;have hnb2:=Za HN2.out;refine⟨by rw[HSZ.out];exact Xo HB2.out (Nat.le_refl _) _,.inl ⟨X,hp2,rfl,?_⟩⟩
   refine HI2.out.keep fun c hc=>⟨?_,fun o=>World.cell?_of_block (w:=w2) (setRow_other _ _ _ _ (by have:=HXN.out c hc;show c≠nb;omega))⟩
   rw[size_setRow];have:=(HBL.out c hc).2;omega
theorem ZaM(w:World)(S:ByteArray):Calls Tryz.prog 95 #[.string S] w fun e w'=>Jf w S.data.toList e w':=by
 by_cases hl:128<S.size
 ·have hlen:S.data.toList.length=S.size:=by rw[Array.length_toList];rfl
  refine(Dz w S hl).mono ?_;rintro e w' ⟨he,hb⟩;exact⟨hb,.inr ⟨51,by unfold Yn;rw[if_pos (by omega)],he⟩⟩
 ·exact Q7 w S (by omega)
end Go.Proofs.YtbchkjfnakabkaaGreatDoor
