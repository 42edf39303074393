import Derived.Test.YtbchkjfnakabkaaGreatDoorQ11
import Derived.Test.YtbchkjfnakabkaaGreatDoorR4
set_option linter.unusedSimpArgs false
set_option linter.unusedVariables false
set_option maxHeartbeats 4000000
set_option maxRecDepth 100000
namespace Go.Proofs.YtbchkjfnakabkaaGreatDoor
open Go.RowKit PX
theorem UL(w:World)(rb:Nat)(S:ByteArray)(i:Nat)(h:RefAt w rb S i false)(hs:S.size<=1000)(A:Option (Rx × List UInt8))
 (hatom:∀ w1,RefAt w1 rb S i false->Calls Tryz.prog 154 #[.pointer (some ⟨rb,0,none⟩)] w1 λe w2=>XN rb S i w1 A e w2) :
 Calls Tryz.prog 130 #[.pointer (some ⟨rb,0,none⟩)] w λe w'=>XN rb S i w (B9 A) e w':=by
 cases A with
 |none=>exact Zbj w rb S i h hs (.node 0 0 0 0 0 0 0 []) [] (QZ _ _ hatom)
 |some p=>
  obtain⟨x,r⟩:=p;have ha:=Dy hatom;show Calls _ _ _ _ λe w'=>XN rb S i w (sign x r) e w'
  cases h42:Zg 42 r with
  |true=>exact DV w rb S i h hs x r ha h42
  |false=>
   cases h43:Zg 43 r with
   |true=>exact DW w rb S i h hs x r ha h42 h43
   |false=>
    cases h63:Zg 63 r with
    |true=>exact Zbi w rb S i h hs x r ha h42 h43 h63
    |false=>
     cases h123:Zg 123 r with
     |true=>exact Qy w rb S i h hs x r ha h42 h43 h63 h123
     |false=>exact DX w rb S i h hs x r ha h42 h43 h63 h123
def Zi9(O:Option (Rx × List UInt8))(F:Nat)(S:ByteArray)(lA:List RxA)(more bad:Bool)(j:Nat):Prop:=
 (bad=true/\O=none)\/(bad=false/\more=true/\∃ f,3*(rest S j).length+1<=f/\f<=F/\altR f (lA.map RxA.bare) [] (rest S j)=O)\/(bad=false/\more=false/\O=some (Rx.joined 2 (lA.map RxA.bare),rest S j))
def InnerO(O:Option (Rx × List UInt8))(F:Nat)(S:ByteArray)(lA rowA:List RxA)(bad:Bool)(j:Nat):Prop:=
 (bad=true/\O=none)\/(bad=false/\∃ f,3*(rest S j).length+1<=f/\f<=F/\altR f (lA.map RxA.bare) (rowA.map RxA.bare) (rest S j)=O)
def ZgG(F rb:Nat)(S:ByteArray):Prop:=∀ f',f'<F->∀ w i,RefAt w rb S i false->i<=S.size->3*(rest S i).length<=f'->Calls Tryz.prog 130 #[.pointer (some ⟨rb,0,none⟩)] w λe w'=>XN rb S i w (XL f' (rest S i)) e w'
def ZdM:Value->Nat
 |.bool true=>1
 |_=>0
theorem ZaE{w:World}{g base:Nat}(h:w.heap[g]?=some (.cells #[] 141 (0,0)))(hb:base<=g):w.ownsRow base 141 8 (.slice (some ⟨g,0,none⟩) 0 0) 0 []:=
 ⟨rfl,.inr ⟨g,0,#[],rfl,hb,h,Nat.le_refl _,by unfold maxLen;omega,rfl,rfl⟩⟩
theorem AltInv.empty{B:Nat}{w:World}{g:Nat}(h:w.heap[g]?=some (.cells #[] 141 (0,0)))(hb:B<=g):AltInv B w (.slice (some ⟨g,0,none⟩) 0 0) (.slice none 0 0) [] []:=
 ⟨ZaE h hb,⟨rfl,.inl ⟨rfl,rfl⟩⟩,(λg _ h=>by cases h),(λX hX=>by cases hX),(λX hX=>by cases hX)⟩
theorem AltInv.fresh{B:Nat}{w:World}{v1:Value}{l1:List RxA}(h:AltInv B w v1 (.slice none 0 0) l1 [])(hB:B<=w.heap.size):AltInv B (w.alloc (.cells #[] 141)) v1 (.slice (some ⟨w.heap.size,0,none⟩) 0 0) l1 []:=by
 have ho:Only (λ_=>False) w (w.alloc (.cells #[] 141)):=(Only.refl _ w).alloc _;refine⟨ho.ownsRow h.own1 (λk _ h=>h),ZaE (Zd w _) hB,λg h1 h2=>?_,λX hX=>?_,λX hX=>by cases hX⟩
 ·have:=(h.own1.lt g h1).2;simp only[Value.ownBlock,Option.some.injEq]at h2;omega
 ·refine(h.kept1 X hX).later ho.size λb hb hlt h1 h2=>⟨ho.block b hlt (λh=>h),h1,λhe=>?_⟩
  simp only[Value.ownBlock,Option.some.injEq]at he;omega
theorem InnerO.stop{O:Option (Rx × List UInt8)}{F:Nat}{S:ByteArray}{lA rowA:List RxA}{j:Nat}(h:InnerO O F S lA rowA false j)(L0:((rest S j).isEmpty || Zg 124 (rest S j) || Zg 41 (rest S j))=true) :
 ∃ f1,3*(rest S j).length<=f1/\f1+1<=F/\O=if Zg 124 (rest S j) then altR f1 (lA.map RxA.bare++[Rx.joined 1 (rowA.map RxA.bare)]) [] (rest S j).tail else some (Rx.joined 2 (lA.map RxA.bare++[Rx.joined 1 (rowA.map RxA.bare)]),rest S j):=by
 rcases h with⟨h,-⟩|⟨-, f,h1,h2,h3⟩
 ·cases h
 ·obtain⟨f1,rfl⟩:∃ f1,f=f1+1:=⟨f - 1,by omega⟩
  refine⟨f1,by omega,h2,?_⟩;rw[<-h3]
  cases y0:Zg 124 (rest S j) with
  |true=>rw[ZaL y0];rfl
  |false=>rw[GB L0 y0];rfl
theorem InnerO.go{O:Option (Rx × List UInt8)}{F:Nat}{S:ByteArray}{lA rowA:List RxA}{j:Nat}(h:InnerO O F S lA rowA false j)(L0:((rest S j).isEmpty || Zg 124 (rest S j) || Zg 41 (rest S j))=false) :
 ∃ f1,f1<F/\3*(rest S j).length<=f1/\O=match XL f1 (rest S j) with|none=>none|some (x,r)=>altR f1 (lA.map RxA.bare) (rowA.map RxA.bare++[x]) r:=by
 rcases h with⟨h,-⟩|⟨-, f,h1,h2,h3⟩
 ·cases h
 ·obtain⟨f1,rfl⟩:∃ f1,f=f1+1:=⟨f - 1,by omega⟩
  exact⟨f1,by omega,by omega,by rw[<-h3,ZeW L0];rfl⟩
theorem InnerO.next{O:Option (Rx × List UInt8)}{F f1:Nat}{S:ByteArray}{lA rowA:List RxA}{j j':Nat}{b:Bool}{X:RxA}(hf:f1<F)(hl:3*(rest S j).length<=f1)(hO:O=match XL f1 (rest S j) with|none=>none|some (x,r)=>altR f1 (lA.map RxA.bare) (rowA.map RxA.bare++[x]) r)
 (hor:(b=false/\XL f1 (rest S j)=some (X.bare,rest S j'))\/(b=true/\XL f1 (rest S j)=none)):InnerO O F S lA (rowA++[X]) b j'/\(b=false->j<j'):=by
 rcases hor with⟨rfl,h⟩|⟨rfl,h⟩
 ·have hr:=(D3 f1).2.1 _ _ _ h;have l1:=ZR S j;have l2:=ZR S j';rw[h]at hO;refine⟨.inr ⟨rfl,f1,by omega,by omega,?_⟩,λ_=>by omega⟩;rw[List.map_append,List.map_singleton];exact hO.symm
 ·rw[h]at hO;exact⟨.inl ⟨rfl,hO⟩,λh=>by cases h⟩
theorem B6(F:Nat)(w:World)(rb:Nat)(S:ByteArray)(i:Nat)(hp:ZgG F rb S)(h:RefAt w rb S i false)(hs:S.size<=128)(hi:i<=S.size)(hF:3*(rest S i).length+1<=F) :
 Calls Tryz.prog 104 #[.pointer (some ⟨rb,0,none⟩)] w λe w'=>XN rb S i w (altR F [] [] (rest S i)) e w':=by
 obtain⟨O,hO⟩:∃ O,altR F [] [] (rest S i)=O:=⟨_,rfl⟩
 rw[hO]
 obtain⟨nb,hnb⟩:∃ nb,w.heap.size=nb:=⟨_,rfl⟩
 have R2:=Zb h;rw[hnb]at R2;obtain⟨i0,hi0,hz0,hz1,hz2⟩:=info_parts Zas;have m0:=Hd hnb;have HW:=Hd h;have HP:=Hd hp;have g1:=Hd hO;have HF:=Hd hF;clear h hp hO hF
 go_enter Tryz.func104,Tryz.ntmps104
 go_wp2_with fail
 have I2:((w.alloc (.cells Zo 141)).alloc (.cells #[] 141)).heap[nb]?=some (.cells Zo 141 (0,0)):=Ze (Zr _ _ _ m0.out) _;have f3:((w.alloc (.cells Zo 141)).alloc (.cells #[] 141)).heap[nb+1]?=some (.cells #[] 141 (0,0)):=Zr _ _ _ (by have:=m0.out;simp;omega);have k3:RefAt ((w.alloc (.cells Zo 141)).alloc (.cells #[] 141)) rb S i false:=Ze (Ze HW.out _) _;have c3:Only (λk=>k=rb) w ((w.alloc (.cells Zo 141)).alloc (.cells #[] 141)):=((Only.refl _ w).alloc _).alloc _;have y2:=Hd (show _/\_/\_/\_ from⟨I2,AltInv.empty (B:=nb+1) f3 (Nat.le_refl _),k3,c3⟩);clear I2 f3 k3 c3
 go_loopw [3,4] (fun v3 v4 wr=>∃ (lA:List RxA) (more bad:Bool) (j:Nat),v4=.bool more∧RefAt wr rb S j bad∧wr.heap[nb]?=some (.cells Zo 141 (0,0))∧Only (fun k=>k=rb) w wr∧AltInv (nb+1) wr v3 (.slice none 0 0) lA [] ∧
  i<=j/\j<=S.size/\lA.length+(S.size - j)<=128+(if more then 0 else 1)/\Zi9 O F S lA more bad j) (λ_ v4 wr=>2*(S.size - Zbp rb wr)+ZdM v4)
 case atStart=>
  obtain⟨a1,a2,a3,a4⟩:=y2.out;exact⟨[],true,false,i,rfl,a3,a1,a4,a2,Nat.le_refl _,hi,by simp;omega,.inr (.inl ⟨rfl,rfl,F,HF.out,Nat.le_refl _,g1.out⟩)⟩
 case round=>
  obtain⟨lA,more,bad,j,rfl,hr,hn,hon,hinv,hij,hjs,e0,hout⟩:=hrel;clear y2 g1 HF HW
  obtain⟨vl,rfl⟩:∃ vl,vl=u3:=⟨_,rfl⟩
  obtain⟨c0,c1,c2,z1,z2⟩:=hr.cells;have HR:=Hd hr;have HN:=Hd hn;have W2:=Hd hon;have l0:=Hd hinv;have m1:=Hd hout;have H3:=Zb hn;have T0:=Hd e0;clear hr hn hon hinv hout e0;by_cases hgo:more=true/\bad=false
  ·obtain⟨rfl,rfl⟩:=hgo;have I1:=l0.out.fresh (by omega);have T1:RefAt (wr.alloc (.cells #[] 141)) rb S j false:=Ze HR.out _;have q2:(wr.alloc (.cells #[] 141)).heap[nb]?=some (.cells Zo 141 (0,0)):=Ze HN.out _;have N1:Only (λk=>k=rb) w (wr.alloc (.cells #[] 141)):=W2.out.alloc _
   have P0:InnerO O F S lA [] false j:=by
    rcases m1.out with⟨h,-⟩|⟨-, -, f,h1,h2,h3⟩|⟨-, h,-⟩
    ·cases h
    ·exact .inr ⟨rfl,f,h1,h2,h3⟩
    ·cases h
   obtain⟨W1,hW1⟩:∃ W1,wr.alloc (.cells #[] 141)=W1:=⟨_,rfl⟩
   obtain⟨gb,hgb⟩:∃ gb,wr.heap.size=gb:=⟨_,rfl⟩
   have R3:=Hd hW1;have r3:=Hd hgb;rw[hW1]at I1 T1 q2 N1;rw[hgb]at I1;have p3:=Hd I1;have K1:=Hd T1;have H0:=Hd q2;have A3:=Hd N1;have i2:=Hd P0;clear I1 T1 q2 N1 P0 hW1 hgb
   go_upto_block 2 with fail
   rw[R3.out,r3.out];clear c0 c1 c2 z1 z2
   obtain⟨wo,rfl⟩:∃ wo:World,wo=wr:=⟨_,rfl⟩
   have P1:=HR
   go_cut [5] from 16 to 61 (λv5 wx=>∃ (rowA:List RxA) (bx:Bool) (jx:Nat),RefAt wx rb S jx bx/\wx.heap[nb]?=some (.cells Zo 141 (0,0))/\Only (λk=>k=rb) w wx/\AltInv (nb+1) wx vl v5 lA rowA/\j<=jx/\jx<=S.size/\rowA.length+(S.size - jx)<=129/\InnerO O F S lA rowA bx jx/\(bx=false->((rest S jx).isEmpty || Zg 124 (rest S jx) || Zg 41 (rest S jx))=true))
   case first=>
    go_wp2_with fail
    go_loopw [5] (λv5 wx=>∃ (rowA:List RxA) (bx:Bool) (jx:Nat),RefAt wx rb S jx bx/\wx.heap[nb]?=some (.cells Zo 141 (0,0))/\Only (λk=>k=rb) w wx/\AltInv (nb+1) wx vl v5 lA rowA/\j<=jx/\jx<=S.size/\rowA.length+(S.size - jx)<=128+(if bx then 1 else 0)/\InnerO O F S lA rowA bx jx) (λ_ wx=>2*(S.size - Zbp rb wx)+ZgB rb wx)
    case atStart=>exact⟨[],false,j,K1.out,H0.out,A3.out,p3.out,Nat.le_refl _,hjs,by simp;omega,i2.out⟩
    case round=>
     obtain⟨rowA,bx,jx,hr,hn,hon,hinv,hjx,hjxs,hlx,hin⟩:=hrel
     obtain⟨vr,rfl⟩:∃ vr,vr=u5:=⟨_,rfl⟩
     obtain⟨c0,c1,c2,z1,z2⟩:=hr.cells;have C0:=Hd hr;have S0:=Hd hn;have R0:=Hd hon;have N0:=Hd hinv;have W0:=Hd hlx;have f0:=Hd hin;have hnlx:=Zb hn;clear hr hn hon hinv hlx hin
     cases bx with
     |true=>
      go_wp2_with fail
      go_quiet (fail)
      go_wp2_with fail
      go_meet
      case rel=>
       exact⟨rowA,true,jx,C0.out.drewN _,S0.out,R0.out.drewN _,N0.out.only ((Only.refl (λ_=>False) wr).drewN _) (λj hj=>hj.elim),hjx,hjxs,by have:=W0.out;simp at this;omega,f0.out,λh=>by cases h⟩
     |false=>
      have g0:(rest S jx=[])\/(∃u,rest S jx=124::u)\/(∃u,rest S jx=41::u)\/(∃c u,rest S jx=c::u/\c≠124/\c≠41):=by
       cases rest S jx with
       |nil=>exact .inl rfl
       |cons c u=>
        by_cases h1:c=124
        ·exact .inr (.inl ⟨u,by rw[h1]⟩)
        ·by_cases h2:c=41
         ·exact .inr (.inr (.inl ⟨u,by rw[h2]⟩))
         ·exact .inr (.inr (.inr ⟨c,u,rfl,h1,h2⟩))
      rcases g0 with hr|⟨u,hr⟩|⟨u,hr⟩|⟨c,u,hr,hc1,hc2⟩
      ·have a0:=Hd (show((rest S jx).isEmpty || Zg 124 (rest S jx) || Zg 41 (rest S jx))=true by rw[hr];rfl)
       have hd:decide (jx<S.size)=false:=by
        have h1:=ZR S jx;rw[hr]at h1;simp at h1 ⊢;omega
       clear hr
       go_wp2_with fail
       go_quiet (fail)
       go_wp2_with fail
       go_meet
       case rel=>
        exact⟨rowA,false,jx,C0.out.drewN _,S0.out,R0.out.drewN _,N0.out.only ((Only.refl (λ_=>False) wr).drewN _) (λj hj=>hj.elim),hjx,hjxs,by have:=W0.out;simp at this;omega,f0.out,λ_=>a0.out⟩
      ·have a0:=Hd (show((rest S jx).isEmpty || Zg 124 (rest S jx) || Zg 41 (rest S jx))=true by rw[hr];rfl);have hd:decide (jx<S.size)=true:=by have:=(ZL hr).1;simp;omega
       have hx:∀ w,(Instr.index 9 (.string S) (.int .i64 jx)).run Tryz.prog w=.ok (.int .u8 124) w:=Xe hr;clear hr
       go_wp2_with fail
       go_quiet (fail)
       go_wp2_with fail
       go_meet
       case rel=>
        exact⟨rowA,false,jx,C0.out.drewN _,S0.out,R0.out.drewN _,N0.out.only ((Only.refl (λ_=>False) wr).drewN _) (λj hj=>hj.elim),hjx,hjxs,by have:=W0.out;simp at this;omega,f0.out,λ_=>a0.out⟩
      ·have a0:=Hd (show((rest S jx).isEmpty || Zg 124 (rest S jx) || Zg 41 (rest S jx))=true by rw[hr];rfl);have hd:decide (jx<S.size)=true:=by have:=(ZL hr).1;simp;omega
       have hx:∀ w,(Instr.index 9 (.string S) (.int .i64 jx)).run Tryz.prog w=.ok (.int .u8 41) w:=Xe hr;clear hr
       go_wp2_with fail
       go_quiet (fail)
       go_wp2_with fail
       go_meet
       case rel=>
        exact⟨rowA,false,jx,C0.out.drewN _,S0.out,R0.out.drewN _,N0.out.only ((Only.refl (λ_=>False) wr).drewN _) (λj hj=>hj.elim),hjx,hjxs,by have:=W0.out;simp at this;omega,f0.out,λ_=>a0.out⟩
      ·have L0:((rest S jx).isEmpty || Zg 124 (rest S jx) || Zg 41 (rest S jx))=false:=by rw[hr];simp[Zg,hc1,hc2]
       obtain⟨f1,hf1,hf2,hO⟩:=f0.out.go L0;have hd:decide (jx<S.size)=true:=by have:=(ZL hr).1;simp;omega
       have hx:=Xe hr
       have y0:((c.toNat:Int) != 124)=true:=by
        rw[bne_iff_ne];intro h;exact hc1 (UInt8.toNat_inj.1 (by show c.toNat=124;omega))
       have h41:((c.toNat:Int) != 41)=true:=by
        rw[bne_iff_ne];intro h;exact hc2 (UInt8.toNat_inj.1 (by show c.toNat=41;omega))
       have n3:=Hd (λw1 (h1:RefAt w1 rb S jx false)=>HP.out f1 hf1 w1 jx h1 hjxs hf2);have HO:=Hd hO;have F3:=Hd hf1;have Z3:=Hd hf2;have hlr:rowA.length+(S.size - jx)<=128:=by have:=W0.out;simpa using this
       clear L0 hr hc1 hc2 hO hf1 hf2
       go_wp2_with fail
       go_quiet (fail)
       have g3:=Hd (C0.out.drewN nq);have t2:=Hd (show(wr.drewN nq).heap[nb]?=_ from S0.out);have r1:=Hd (R0.out.drewN nq);have n0:=Hd (N0.out.only ((Only.refl (λ_=>False) wr).drewN nq) (λj hj=>hj.elim))
       obtain⟨wq,hwq⟩:∃ wq,wr.drewN nq=wq:=⟨_,rfl⟩
       rw[hwq]at g3 t2 r1 n0;rw[hwq];have r2:=Zb t2.out;clear hwq c0 c1 c2 z1 z2
       go_wp2_with (first
        | (go_at_call 130
           (with_reducible refine(n3.out _ g3.out).mono ?_)
           rintro e w1 ⟨o1,X,jy,by',he,hij2,hjs2,h1,hXin,hXb,hor⟩;obtain⟨k,mn,mx,s0,s1,s2,s3,a,cap,l⟩:=X;obtain rfl:e=.returned (.agg #[.int .i64 k,.int .i64 mn,.int .i64 mx,.int .u64 s0,.int .u64 s1,.int .u64 s2,.int .u64 s3,.slice a l.length cap]):=he;have J2:=o1.size;have p0:=n0.out.only o1 (by intro j hj;omega)
           have hK:Kept w1 (nb+1) vl vr (RxA.node k mn mx s0 s1 s2 s3 a cap l):=⟨hXin,λb hb=>by
            have h3:=hXb b hb
            exact⟨by omega,h3.2,λhe=>by have:=(n0.out.own1.lt b he).2;omega,λhe=>by have:=(n0.out.own2.lt b he).2;omega⟩⟩
           have b0:=p0.only (Only.alloc (r:=λk=>k=rb) (Only.refl _ w1) (.cells [.int .i64 k,.int .i64 mn,.int .i64 mx,.int .u64 s0,.int .u64 s1,.int .u64 s2,.int .u64 s3,.slice a l.length cap].toArray 141)) (by intro j hj;omega);have q1:=hK.only (Only.alloc (r:=λk=>k=rb) (Only.refl _ w1) (.cells [.int .i64 k,.int .i64 mn,.int .i64 mx,.int .u64 s0,.int .u64 s1,.int .u64 s2,.int .u64 s3,.slice a l.length cap].toArray 141)) (by intro j hj;omega);have A0:=Hd b0;have R1:=Hd q1;have q3:=Hd h1;have M2:=Hd o1;have J1:=Hd hor;clear p0 hK b0 q1 hXin hXb h1 hor o1
           have hrl2:rowA.length+1<=1000:=(by omega))
        | (refine wpList_append_lies _ rfl (.tmp 57) (.tmp 60) 139 rfl (nb+1) 141 i0 _ 8 80 Tryz.underlying139 hi0 hz0 hz1 hz2 rfl (by decide) vr rowA.length (Xd rowA) rfl A0.out.own2 ⟨w1.heap.size,0,none⟩ 1 1 [.int .i64 k,.int .i64 mn,.int .i64 mx,.int .u64 s0,.int .u64 s1,.int .u64 s2,.int .u64 s3,.slice a l.length cap] rfl rfl (Js w1 [.int .i64 k,.int .i64 mn,.int .i64 mx,.int .u64 s0,.int .u64 s1,.int .u64 s2,.int .u64 s3,.slice a l.length cap] 141) (by intro v hv;exact GV (RxA.node k mn mx s0 s1 s2 s3 a cap l) v hv) (by decide) (by unfold maxLen;omega) (by omega) (by simp;omega) _ rfl ?_
           intro g cap' w3 hown3 hgrow hgat hglt)
        |fail)
       have d0:=A0.out.push R1.out hown3 hgrow hgat;have E1:Only (λk=>k=rb) w w3:=((r1.out.then M2.out).alloc _).grown hgrow (λb hb=>.inr (by have:=(n0.out.own2.lt b hb).1;have:=m0.out;omega));have F2:∀ b,b<nb+1->some b≠vr.ownBlock:=λb hb he=>by have:=(n0.out.own2.lt b he.symm).1;omega
       have h3:RefAt w3 rb S jy by':=(hgrow.block rb (by simp;omega) (F2 rb (by omega))).trans (Ze q3.out _)
       have i1:w3.heap[nb]?=some (.cells Zo 141 (0,0)):=(hgrow.block nb (by simp;omega) (F2 nb (by omega))).trans (Ze ((M2.out.block nb r2 (by omega)).trans t2.out) _);obtain⟨hin3,hjj3⟩:=InnerO.next F3.out Z3.out HO.out J1.out;refine⟨⟨rowA++[(RxA.node k mn mx s0 s1 s2 s3 a cap l)],by',jy,h3,i1,E1,?_,by omega,hjs2,?_,hin3⟩,?_⟩
       ·have e:rowA.length+1=(rowA++[(RxA.node k mn mx s0 s1 s2 s3 a cap l)]).length:=by simp
        exact d0
       ·rw[List.length_append,List.length_singleton]
        cases by' with
        |true=>simp;omega
        |false=>have:=hjj3 rfl;simp;omega
       ·rw[YM h3,EA h3,YM C0.out,EA C0.out]
        cases by' with
        |true=>simp;omega
        |false=>have:=hjj3 rfl;simp;omega
   case rest=>
    obtain⟨rowA,bx,jx,hr,hn,hon,hinv,hjx,hjxs,hlx,hin,hstop⟩:=hcut
    obtain⟨vr,rfl⟩:∃ vr,vr=u5:=⟨_,rfl⟩
    obtain⟨wq,rfl⟩:∃ wq:World,wq=wc:=⟨_,rfl⟩
    obtain⟨ar,cr,rfl,hcr1,hcr2,-⟩:=Jg hinv.own2;have v0:=hinv.join 1 ⟨by omega,by omega⟩ (by omega);have K0:=YH 1 ar cr rowA;have k1:=EV wq 1 (.slice ar rowA.length cr) (nb+1) rowA hinv.own2 (by omega)
    obtain⟨k,mn,mx,s0,s1,s2,s3,a,cap,l,hXJ⟩:∃ k mn mx s0 s1 s2 s3 a cap l,Xl 1 ar cr rowA=(RxA.node k mn mx s0 s1 s2 s3 a cap l):=by
     obtain⟨k,mn,mx,s0,s1,s2,s3,a,cap,l⟩:=Xl 1 ar cr rowA;exact⟨k,mn,mx,s0,s1,s2,s3,a,cap,l,rfl⟩
    have j0:Calls Tryz.prog 131 #[.int .i64 1,.slice ar rowA.length cr] wq λe w1=>e=.returned (.agg #[.int .i64 k,.int .i64 mn,.int .i64 mx,.int .u64 s0,.int .u64 s1,.int .u64 s2,.int .u64 s3,.slice a l.length cap])/\Below wq.heap.size wq w1:=by
     refine k1.mono ?_;rintro e w1 ⟨a',c',he,hee,hb⟩;simp only[Value.slice.injEq,true_and]at he;obtain⟨rfl,rfl⟩:=he;rw[hXJ]at hee;exact⟨hee,hb⟩
    rw[hXJ]at v0 K0;have n0:=Hd hinv.drop;have q0:=Hd hinv.own1;have z0:=Hd v0;have F1:=Hd K0;have p2:=Hd j0;have b4:=Hd hr;have l3:=Hd hn;have M3:=Hd hon;have f0:=Hd hin;have a0:=Hd hstop;have m3:nb<wq.heap.size:=Zb hn;have k0:lA.length+(S.size - j)<=128:=by simpa using T0.out
    have hlA:lA.length+1<=1000:=by omega
    have E2:=Hd (λw1 (h1:RefAt w1 rb S jx bx)=>Ei w1 rb S jx bx 124 124 h1 (by omega) rfl);clear v0 K0 j0 k1 hXJ hr hn hon hin hstop hinv
    obtain⟨p124,hp124⟩:∃ p,Zg 124 (rest S jx)=p:=⟨_,rfl⟩
    have O1:=E2.out;rw[hp124]at O1;have d2:=Hd O1;have F0:=Hd hp124;clear O1 hp124 E2
    go_wp2_with (first
     | (go_at_call 131
        (with_reducible refine p2.out.mono ?_)
        rintro e w1 ⟨rfl,hb1⟩;have J2:=hb1.size;have A2:Only (λk=>k=rb) wq w1:=Only.of_below hb1;have C1:=A2.alloc (.cells [.int .i64 k,.int .i64 mn,.int .i64 mx,.int .u64 s0,.int .u64 s1,.int .u64 s2,.int .u64 s3,.slice a l.length cap].toArray 141);have b0:=n0.out.only C1 (by intro j hj;omega);have q1:=z0.out.only C1 (by intro j hj;omega);have A0:=Hd b0;have R1:=Hd q1;have d4:=Hd C1;have O2:RefAt (w1.alloc (.cells [.int .i64 k,.int .i64 mn,.int .i64 mx,.int .u64 s0,.int .u64 s1,.int .u64 s2,.int .u64 s3,.slice a l.length cap].toArray 141)) rb S jx bx:=Ze ((hb1.block rb (by omega)).trans b4.out) _;have d3:(w1.alloc (.cells [.int .i64 k,.int .i64 mn,.int .i64 mx,.int .u64 s0,.int .u64 s1,.int .u64 s2,.int .u64 s3,.slice a l.length cap].toArray 141)).heap[nb]?=_:=Ze ((hb1.block nb m3).trans l3.out) _;have y3:=Hd O2;have o0:=Hd d3
        clear b0 q1 O2 d3 A2 C1 hb1)
     | (refine wpList_append_lies _ rfl (.tmp 62) (.tmp 65) 139 rfl (nb+1) 141 i0 _ 8 80 Tryz.underlying139 hi0 hz0 hz1 hz2 rfl (by decide) vl lA.length (Xd lA) rfl A0.out.own1 ⟨w1.heap.size,0,none⟩ 1 1 [.int .i64 k,.int .i64 mn,.int .i64 mx,.int .u64 s0,.int .u64 s1,.int .u64 s2,.int .u64 s3,.slice a l.length cap] rfl rfl (Js w1 [.int .i64 k,.int .i64 mn,.int .i64 mx,.int .u64 s0,.int .u64 s1,.int .u64 s2,.int .u64 s3,.slice a l.length cap] 141) (by intro v hv;exact GV (RxA.node k mn mx s0 s1 s2 s3 a cap l) v hv) (by decide) (by unfold maxLen;omega) (by omega) (by simp;omega) _ rfl ?_
        intro g cap' w3 hown3 hgrow hgat hglt;have d0:=(A0.out.swap.push R1.out.swap hown3 hgrow hgat).swap
        have Z1:∀ b,b<nb+1->some b≠vl.ownBlock:=λb hb he=>by
         have:=(q0.out.lt b he.symm).1;omega
        have h3:RefAt w3 rb S jx bx:=(hgrow.block rb (by simp;omega) (Z1 rb (by omega))).trans y3.out;have i1:=(hgrow.block nb (by simp;omega) (Z1 nb (by omega))).trans o0.out;have E1:Only (λk=>k=rb) w w3:=(M3.out.then d4.out).grown hgrow (λb hb=>.inr (by have:=(q0.out.lt b hb).1;have:=m0.out;omega));have z3:=Hd d0;have t3:=Hd h3;have e4:=Hd i1;have P3:=Hd E1;have M1:=Zb i1
        clear d0 h3 i1 E1 hown3 hgrow hgat Z1)
     | (go_at_call 132
        (with_reducible refine(d2.out _ t3.out).mono ?_)
        rintro e w4 ⟨rfl,h4,o4⟩;have H2:=Hd ((o4.block nb M1 (by omega)).trans e4.out);have K2:=Hd (z3.out.only o4 (by intro j hj;omega));have P2:=Hd (P3.out.then o4);have S2:=Hd h4
        clear h4 o4)
     |fail)
    have j1:=YM P1.out
    cases p124 with
    |true=>
     have h4:RefAt w4 rb S (jx+1) bx:=by simpa using S2.out
     have j2:=ZQ F0.out;refine⟨⟨lA++[(RxA.node k mn mx s0 s1 s2 s3 a cap l)],true,bx,jx+1,rfl,h4,H2.out,P2.out,?_,by omega,j2,?_,?_⟩,?_⟩
     ·exact K2.out
     ·rw[List.length_append,List.length_singleton];simp;omega
     ·cases bx with
      |true=>
       rcases f0.out with⟨-, h⟩|⟨h,-⟩
       ·exact .inl ⟨rfl,h⟩
       ·cases h
      |false=>
       obtain⟨f1,h1,h2,h3⟩:=f0.out.stop (a0.out rfl);refine .inr (.inl ⟨rfl,rfl,f1,?_,by omega,?_⟩)
       ·have e1:=ZR S jx;have e2:=ZR S (jx+1);omega
       ·rw[h3,F0.out,if_pos rfl,ZA,List.map_append,List.map_singleton,F1.out]
     ·rw[YM h4,j1];simp[ZdM];omega
    |false=>
     have h4:RefAt w4 rb S jx bx:=by simpa using S2.out
     refine⟨⟨lA++[(RxA.node k mn mx s0 s1 s2 s3 a cap l)],false,bx,jx,rfl,h4,H2.out,P2.out,?_,by omega,hjxs,?_,?_⟩,?_⟩
     ·exact K2.out
     ·rw[List.length_append,List.length_singleton];simp;omega
     ·cases bx with
      |true=>
       rcases f0.out with⟨-, h⟩|⟨h,-⟩
       ·exact .inl ⟨rfl,h⟩
       ·cases h
      |false=>
       obtain⟨f1,h1,h2,h3⟩:=f0.out.stop (a0.out rfl);refine .inr (.inr ⟨rfl,rfl,?_⟩);rw[h3,F0.out,List.map_append,List.map_singleton,F1.out];rfl
     ·rw[YM h4,j1];simp[ZdM];omega
  ·have b1:(bad=true/\O=none)\/(bad=false/\O=some (Rx.joined 2 (lA.map RxA.bare),rest S j)):=by
    rcases m1.out with h|⟨h1,h2,-⟩|⟨h1,-, h3⟩
    ·exact .inl h
    ·exact absurd ⟨h2,h1⟩ hgo
    ·exact .inr ⟨h1,h3⟩
   have v2:=Hd b1;have k0:lA.length<=1000:=by have:=T0.out;split at this<;>omega
   obtain⟨ar,cr,rfl,hcr1,hcr2,-⟩:=Jg l0.out.own1;have v0:=l0.out.swap.join 2 ⟨by omega,by omega⟩ k0;have K0:=YH 2 ar cr lA;have k1:=EV wr 2 (.slice ar lA.length cr) (nb+1) lA l0.out.own1 k0
   obtain⟨X,hX⟩:∃ X,Xl 2 ar cr lA=X:=⟨_,rfl⟩
   rw[hX]at v0 K0
   have j0:Calls Tryz.prog 131 #[.int .i64 2,.slice ar lA.length cr] wr λe w1=>e=.returned (.agg (Zh X))/\Below wr.heap.size wr w1:=by
    refine k1.mono ?_;rintro e w1 ⟨a',c',he,hee,hb⟩;simp only[Value.slice.injEq,true_and]at he;obtain⟨rfl,rfl⟩:=he;rw[hX]at hee;exact⟨hee,hb⟩
   have z0:=Hd v0;have F1:=Hd K0;have p2:=Hd j0
   have O3:¬ more=true\/bad=true:=by
    cases more<;>cases bad<;>simp_all
   clear v0 K0 j0 k1 hX b1 hgo
   have I3:more=false\/(more=true/\bad=true):=by
    cases more<;>cases bad<;>simp_all
   clear O3;rcases I3 with rfl|⟨rfl,rfl⟩
   all_goals
    go_wp2_with (first
     | (go_at_call 131
        (with_reducible refine p2.out.mono ?_)
        rintro e w1 ⟨rfl,hb1⟩;have M0:=Hd hb1;have H0:=Hd ((hb1.block nb H3).trans HN.out)
        clear hb1)
     |(refine wpList_store_row rfl 141 (.tmp 2) (.tmp 70) ?_ nb (Zh X) ?_ ?_ 141 Zo ?_ (Zj _) (by rw[Zi];rfl) (Zm _) ?_;(with_reducible rfl);rfl;rfl;exact H0.out)
     |fail)
    refine bodyPost_ret (results_cell_row rfl _ _ nb 141 (Zh X) (0,0) _ rfl (setRow_heap _ _ _ _ _ _ H0.out) Tryz.underlying141 rfl (Zj _)) rfl ?_;have hsz1:=M0.out.size;refine XU m0.out R2 (W2.out.trans (Only.of_below M0.out)) (HR.out.below M0.out) (z0.out.lies.keep λc hc=>⟨by have:=(z0.out.far c hc).2.1;omega,λo=>World.cell?_of_block (w:=wr) (M0.out.block c (z0.out.far c hc).2.1)⟩) (λc hc=>⟨by have:=(z0.out.far c hc).1;omega,by have:=(z0.out.far c hc).2.1;omega⟩) hij hjs ?_;rcases v2.out with⟨h1,h2⟩|⟨h1,h2⟩
    ·first|exact .inr ⟨h1,h2⟩|exact .inr ⟨rfl,h2⟩
    ·first|exact .inl ⟨h1,by rw[h2,F1.out]⟩|exact absurd h1 (by simp)
end Go.Proofs.YtbchkjfnakabkaaGreatDoor
namespace Go.Proofs.YtbchkjfnakabkaaGreatDoor
open Go.RowKit PX
theorem Zc4(rb:Nat)(S:ByteArray)(hs:S.size<=128):∀ (f:Nat) (w:World) (i:Nat),RefAt w rb S i false->i<=S.size->3*(rest S i).length<=f ->
 Calls Tryz.prog 130 #[.pointer (some ⟨rb,0,none⟩)] w λe w'=>XN rb S i w (XL f (rest S i)) e w':=by
 intro f
 induction f using Nat.strongRecOn with
 |_ f ih=>
  intro w i h hi hf
  match f,ih,hf with
  |0,_,hf=>
   have hr:rest S i=[]:=List.eq_nil_of_length_eq_zero (by omega)
   have hp:=UL w rb S i h (by omega) none (λw1 h1=>by
    have ha:=EY w1 rb S i h1 (by omega) hi (λ_=>none) (λh40=>by rw[hr]at h40;cases h40);rw[hr,UF]at ha
    exact ha)
   rw[hr];exact hp
  |1,_,hf=>
   have hr:rest S i=[]:=List.eq_nil_of_length_eq_zero (by omega)
   have hp:=UL w rb S i h (by omega) none (λw1 h1=>by
    have ha:=EY w1 rb S i h1 (by omega) hi (λ_=>none) (λh40=>by rw[hr]at h40;cases h40);rw[hr,UF]at ha
    exact ha)
   rw[hr];exact hp
  |f2+2,ih,hf=>
   have hA:VD (f2+1) (rest S i)=XB (altR f2 [] []) (rest S i):=by
    simp only[VD,XB];rfl
   have hP:XL (f2+2) (rest S i)=B9 (XB (altR f2 [] []) (rest S i)):=by
    rw[<-hA];simp only[XL]
    cases VD (f2+1) (rest S i) with
    |none=>rfl
    |some p=>rfl
   rw[hP];refine UL w rb S i h (by omega) _ (λw1 h1=>?_);refine EY w1 rb S i h1 (by omega) hi (altR f2 [] []) (λh40 w2 h2=>?_);have K3:=ZQ h40;have e1:=ZR S i;have e2:=ZR S (i+1);exact B6 f2 w2 rb S (i+1) (λf'' hlt w3 i3 h3 hi3 hf3=>ih f'' (by omega) w3 i3 h3 hi3 hf3) h2 hs K3 (by omega)
theorem Zfw(F:Nat)(w:World)(rb:Nat)(S:ByteArray)(i:Nat)(h:RefAt w rb S i false)(hs:S.size<=128)(hi:i<=S.size)(hF:3*(rest S i).length+1<=F) :
 Calls Tryz.prog 104 #[.pointer (some ⟨rb,0,none⟩)] w λe w'=>XN rb S i w (altR F [] [] (rest S i)) e w':=
 B6 F w rb S i (λf' _=>Zc4 rb S hs f') h hs hi hF
theorem Vo{fn:Func}{p q:Tmp}{ty:TypeId}(h:fn.results=#[.cell p ty,.tmp q])(tmps:Array Value)(P:Program)(w:World)(g:Nat)(t:TypeId)(cs:Array Value)(fr:Nat × Nat)(fs:Array Field)
 (hp:tmps.getD p undef=.pointer (some ⟨g,0,none⟩)) (hg:w.heap[g]?=some (.cells cs t fr))
 (hu:P.underlying ty=some (.struct fs)) (hi:(P.info? ty).map (·.size)=some cs.size) :
 (results fn tmps).run P w=.ok (.tuple #[.agg cs,tmps.getD q undef]) w:=by
 have c4:tmps[p]?.getD undef=.pointer (some ⟨g,0,none⟩):=by simpa using hp
 simp[results,h,c4,asAddr,run_loadVar_row w g t ty cs fr (.struct fs) hg hu rfl hi]
theorem DY(w:World)(S:ByteArray)(hl:128<S.size):Calls Tryz.prog 95 #[.string S] w λe w'=>e=.returned (.tuple #[.agg (Zh (setA Q4.none)),.int .i64 51])/\Below w.heap.size w w':=by
 have hg:(128:Int)<S.size:=by omega
 go_enter Tryz.func95,Tryz.ntmps95
 go_wp2_with fail
 refine bodyPost_ret (Vo rfl _ _ _ w.heap.size 141 (Zh (setA Q4.none)) (0,0) _ rfl (Zd _ _) Tryz.underlying141 (Zj _)) rfl ?_;exact⟨rfl,(Below.refl _ w).alloc (Nat.le_refl _) _⟩
theorem Wv(w:World)(S:ByteArray)(hl:S.size<=128):Calls Tryz.prog 95 #[.string S] w λe w'=>Jt w S.data.toList e w':=by
 have e0:S.data.toList.length=S.size:=by rw[Array.length_toList];rfl
 have A1:rest S 0=S.data.toList:=by rw[WB,List.drop_zero]
 have H1:=Uk (l:=S.data.toList) (by omega)
 obtain⟨l,hl'⟩:∃ l,S.data.toList=l:=⟨_,rfl⟩
 rw[hl']at e0 A1 H1 ⊢
 obtain⟨O,hO⟩:∃ O,altR (3*l.length+3) [] [] l=O:=⟨_,rfl⟩
 rw[hO]at H1
 obtain⟨nb,hnb⟩:∃ nb,w.heap.size=nb:=⟨_,rfl⟩
 have b2:((w.alloc (.cells Zo 141)).alloc (.cells #[.string S,.int .i64 0,.bool false] 150)).heap[nb]?=some (.cells Zo 141 (0,0)):=Ze (Zr _ _ _ hnb) _;have T2:RefAt ((w.alloc (.cells Zo 141)).alloc (.cells #[.string S,.int .i64 0,.bool false] 150)) (nb+1) S 0 false:=Zr _ _ _ (by simp[hnb]);have Z2:Below nb w ((w.alloc (.cells Zo 141)).alloc (.cells #[.string S,.int .i64 0,.bool false] 150)):=by rw[<-hnb];exact((Below.refl _ w).alloc (Nat.le_refl _) _).alloc (by simp) _
 have I0:=Zfw (3*l.length+3) _ (nb+1) S 0 T2 hl (by omega) (by rw[A1];omega);rw[A1,hO]at I0;have m2:=Hd (show Calls Tryz.prog 104 #[.pointer (some ⟨nb+1,0,none⟩)] ((w.alloc (.cells #[.int .i64 0,.int .i64 0,.int .i64 0,.int .u64 0,.int .u64 0,.int .u64 0,.int .u64 0,.slice none 0 0] 141)).alloc (.cells #[.string S,.int .i64 0,.bool false] 150)) _ from I0);have C3:=Hd b2;have N3:=Hd Z2;have L3:=Zb b2;have m0:=Hd hnb;have L2:=Hd H1;have g1:=Hd hO;have hg:¬ (128:Int)<S.size:=by omega
 have HL':=Hd hl';clear I0 b2 T2 Z2 H1 hO A1 e0 hl'
 go_enter Tryz.func95,Tryz.ntmps95
 go_upto_region 5 with(first
  | (go_at_call 104
     refine m2.out.mono ?_;rintro e w1 ⟨o1,X,j,b,rfl,hij,hjs,h1,hin,hbl,hor⟩;have K1:=Hd h1;have H0:=Hd ((o1.block nb L3 (by omega)).trans C3.out);have M0:=Hd (N3.out.trans (o1.below (B:=nb) (by omega) (by intro k hk;omega)));have J2:=o1.size;have f0:=Hd hin;have L1:=Hd hbl;have J1:=Hd hor
     clear h1 o1 hin hbl hor)
  |(refine wpList_store_row rfl 141 (.tmp 5) (.tmp 14) ?_ w1.heap.size (Zh X) ?_ ?_ 141 Zo ?_ (Zj _) (by rw[Zi];rfl) (Zm _) ?_;(with_reducible rfl);rfl;rfl;exact Zd _ _)
  |fail)
 obtain⟨eb,heb⟩:∃ eb,w1.heap.size=eb:=⟨_,rfl⟩
 obtain⟨W5,hW5⟩:∃ W5,(w1.alloc (.cells Zo 141)).setRow eb (Zh X)=W5:=⟨_,rfl⟩
 have C2:W5.heap[eb]?=some (.cells (Zh X) 141 (0,0)):=by rw[<-hW5];exact setRow_heap _ _ _ _ _ _ (Zr _ _ _ heb)
 have t0:∀ c o,c<eb->w1.heap[c]?=some o->W5.heap[c]?=some o:=λc o hc h=>by rw[<-hW5];exact(setRow_other _ _ _ _ (by omega)).trans (Ze h _)
 have r0:∀ c,c<eb->W5.heap[c]?=w1.heap[c]?:=λc hc=>by rw[<-hW5];exact(setRow_other _ _ _ _ (by omega)).trans (Below.heap_alloc _ _ _ (by omega))
 have S1:W5.heap.size=eb+1:=by rw[<-hW5,size_setRow];simp[heb]
 have hle5:eb+1<=W5.heap.size:=by omega
 have hrb5:=Zb K1.out;have hnb5:=Zb H0.out;have o3:=Hd (show RefAt W5 (nb+1) S j b from t0 _ _ (by omega) K1.out);have O0:=Hd (t0 _ _ (by omega) H0.out);have n2:=Hd C2;have g2:=Hd (show Below nb w W5 by rw[<-hW5];exact Xp (M0.out.alloc (by omega) _) (by omega) _);have d1:=Hd (show X.In W5 W5.heap.size from f0.out.keep λc hc=>⟨by have:=(L1.out c hc).2;omega,λo=>World.cell?_of_block (w:=w1) (r0 c (by have:=(L1.out c hc).2;show c<eb;omega))⟩);rw[heb];rw[show(w1.alloc (.cells #[.int .i64 0,.int .i64 0,.int .i64 0,.int .u64 0,.int .u64 0,.int .u64 0,.int .u64 0,.slice none 0 0] 141)).setRow eb (Zh X)=W5 from hW5];have t1:∀ c∈X.blocks,nb<c:=λc hc=>by have:=(L1.out c hc).1;simp at this;omega
 have J3:=Hd t1;have hw1e:w1.heap.size<=eb:=by omega
 clear t0 r0 C2 hW5 heb S1 t1;obtain⟨c0,c1,c2,z1,z2⟩:=o3.out.cells;have y1:nb<W5.heap.size:=Zb O0.out;by_cases hbad:b=true\/j<S.size
 ·have b3:Yr l=.inr 50:=by
   rw[L2.out];rcases J1.out with⟨rfl,rfl⟩|⟨rfl,rfl⟩
   ·have hj:j<S.size:=by rcases hbad with h|h;cases h;exact h
    obtain⟨c,r,hr⟩:=EW hj;rw[hr];rfl
   ·rfl
  have T3:=Hd b3
  have g0:b=true\/(b=false/\(j:Int)<(S.size:Int)):=by
   cases b
   ·right;rcases hbad with h|h;cases h;exact⟨rfl,by omega⟩
   ·exact .inl rfl
  clear b3 hbad;rcases g0 with rfl|⟨rfl,hlt⟩
  all_goals
   go_wp2_with (first
    |(refine wpList_store_row rfl 141 (.tmp 2) (.tmp 28) ?_ nb (Zh (setA Q4.none)) ?_ ?_ 141 Zo ?_ (Zj _) (by rw[Zi];rfl) (Zm _) ?_;(with_reducible rfl);rfl;rfl;exact O0.out)
    |fail)
   refine bodyPost_ret (Vo rfl _ _ _ nb 141 (Zh (setA Q4.none)) (0,0) _ rfl (setRow_heap _ _ _ _ _ _ (O0.out)) Tryz.underlying141 (Zj _)) rfl ?_;rw[<-m0.out]at *;exact⟨Xp g2.out (Nat.le_refl _) _,.inr ⟨50,T3.out,rfl⟩⟩
 ·obtain⟨rfl,hj⟩:b=false/\¬ (j:Int)<(S.size:Int):=by
   cases b
   ·exact⟨rfl,λh=>hbad (.inr (by omega))⟩
   ·exact absurd (.inl rfl) hbad
  have h0:altR (3*l.length+3) [] [] l=some (X.bare,rest S j):=by
   rcases J1.out with⟨-, h⟩|⟨h,-⟩
   ·rw[g1.out,h]
   ·cases h
  have N2:=(Zde _).1 _ _ _ _ _ (λy hy=>by cases hy) (λy hy=>by cases hy) h0;have k2:=Zc2 X W5 W5.heap.size (Nat.le_refl _) d1.out (U9 _ N2)
  obtain⟨n,hn⟩:∃ n,X.bare.sizeI=n:=⟨_,rfl⟩
  have e3:=Qv X.bare
  have n1:Yr l=if 256<n then .inr 51 else .inl X.bare:=by
   rw[L2.out,<-g1.out,h0,B3 (by omega),<-hn];rfl
  rw[hn,Zcg]at k2;rw[hn]at e3;obtain⟨hbd1,hbd2⟩:=e3;have HS:=Hd k2;have j3:=Hd n1;clear hbad h0 N2 k2 hn n1;by_cases h256:256<n
  ·go_wp2_with (first
    |(refine wpList_load_row rfl 141 (.tmp 5) ?_ eb ?_ 141 (Zh X) (0,0) _ ?_ Tryz.underlying141 rfl (Zj _) ?_;(with_reducible rfl);rfl;exact n2.out)
    |(go_at_call 105;(with_reducible refine HS.out.mono ?_);rintro e w2 ⟨rfl,hb2⟩;have o0:=Hd ((hb2.block nb y1).trans O0.out);have o2:=Hd (g2.out.trans (hb2.mono (by omega)));clear hb2)
    |(refine wpList_store_row rfl 141 (.tmp 2) (.tmp 32) ?_ nb (Zh (setA Q4.none)) ?_ ?_ 141 Zo ?_ (Zj _) (by rw[Zi];rfl) (Zm _) ?_;(with_reducible rfl);rfl;rfl;exact o0.out)
    |fail)
   refine bodyPost_ret (Vo rfl _ _ _ nb 141 (Zh (setA Q4.none)) (0,0) _ rfl (setRow_heap _ _ _ _ _ _ (o0.out)) Tryz.underlying141 (Zj _)) rfl ?_;have p1:=j3.out;rw[if_pos h256]at p1;rw[<-m0.out]at *;exact⟨Xp o2.out (Nat.le_refl _) _,.inr ⟨51,p1,rfl⟩⟩
  ·go_wp2_with (first
    |(refine wpList_load_row rfl 141 (.tmp 5) ?_ eb ?_ 141 (Zh X) (0,0) _ ?_ Tryz.underlying141 rfl (Zj _) ?_;(with_reducible rfl);rfl;first|exact n2.out|exact S3.out)
    |(go_at_call 105;(with_reducible refine HS.out.mono ?_);rintro e w2 ⟨rfl,hb2⟩;have o0:=Hd ((hb2.block nb y1).trans O0.out);have S3:=Hd ((hb2.block eb (by omega)).trans n2.out);have o2:=Hd (g2.out.trans (hb2.mono (by omega)));have A0:=Hd (d1.out.below hb2 (Nat.le_refl _));have hs2:=hb2.size;clear hb2)
    |(refine wpList_store_row rfl 141 (.tmp 2) (.tmp 33) ?_ nb (Zh X) ?_ ?_ 141 Zo ?_ (Zj _) (by rw[Zi];rfl) (Zm _) ?_;(with_reducible rfl);rfl;rfl;exact o0.out)
    |fail)
   refine bodyPost_ret (Vo rfl _ _ _ nb 141 (Zh X) (0,0) _ rfl (setRow_heap _ _ _ _ _ _ (o0.out)) Tryz.underlying141 (Zj _)) rfl ?_;have p1:=j3.out;rw[if_neg (by omega)]at p1;have hnb2:=Zb o0.out;refine⟨by rw[m0.out];exact Xp o2.out (Nat.le_refl _) _,.inl ⟨X,p1,rfl,?_⟩⟩
   refine A0.out.keep λc hc=>⟨?_,λo=>World.cell?_of_block (w:=w2) (setRow_other _ _ _ _ (by have:=J3.out c hc;show c≠nb;omega))⟩
   rw[size_setRow];have:=(L1.out c hc).2;omega
theorem Zbk(w:World)(S:ByteArray):Calls Tryz.prog 95 #[.string S] w λe w'=>Jt w S.data.toList e w':=by
 by_cases hl:128<S.size
 ·have e0:S.data.toList.length=S.size:=by rw[Array.length_toList];rfl
  refine(DY w S hl).mono ?_;rintro e w' ⟨he,hb⟩;exact⟨hb,.inr ⟨51,by unfold Yr;rw[if_pos (by omega)],he⟩⟩
 ·exact Wv w S (by omega)
