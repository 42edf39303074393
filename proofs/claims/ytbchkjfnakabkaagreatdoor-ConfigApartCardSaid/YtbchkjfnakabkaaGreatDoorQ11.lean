import Derived.Test.YtbchkjfnakabkaaGreatDoorQb
import Derived.Deep.CutBlock
set_option linter.unusedSimpArgs false
set_option linter.unusedVariables false
set_option maxHeartbeats 1000000
set_option maxRecDepth 100000
namespace Go.Proofs.YtbchkjfnakabkaaGreatDoor.PX
theorem UZ{s:List UInt8}(h:numX s=none):Z5 s=none:=by rw[Yx,h]
theorem Zh6{s r:List UInt8}{m:Nat}(h:numX s=some (m,r))(h44:Zg 44 r=true)(h125:Zg 125 r.tail=true):Z5 s=some ((m:Int),(-1:Int),r.tail.tail):=by
 rw[Yx,h];simp[h44,h125]
theorem BA{s r:List UInt8}{m:Nat}(h:numX s=some (m,r))(h44:Zg 44 r=true)(h125:Zg 125 r.tail=false)(h2:numX r.tail=none):Z5 s=none:=by
 rw[Yx,h];simp[h44,h125,h2]
theorem Zh5{s r r':List UInt8}{m n:Nat}(h:numX s=some (m,r))(h44:Zg 44 r=true)(h125:Zg 125 r.tail=false)(h2:numX r.tail=some (n,r'))(h3:m<=n)(h4:Zg 125 r'=true):Z5 s=some ((m:Int),(n:Int),r'.tail):=by
 rw[Yx,h];simp[h44,h125,h2,h3,h4]
theorem ZeE{s r r':List UInt8}{m n:Nat}(h:numX s=some (m,r))(h44:Zg 44 r=true)(h125:Zg 125 r.tail=false)(h2:numX r.tail=some (n,r'))(h3:n<m\/Zg 125 r'=false):Z5 s=none:=by
 rw[Yx,h];simp only[h44,h125,h2,if_true,Bool.false_eq_true,if_false];rw[if_neg];rintro⟨h5,h6⟩;rcases h3 with h3|h3
 ·omega
 ·rw[h3]at h6;cases h6
theorem Zh4{s r:List UInt8}{m:Nat}(h:numX s=some (m,r))(h44:Zg 44 r=false)(h125:Zg 125 r=true):Z5 s=some ((m:Int),(m:Int),r.tail):=by
 rw[Yx,h];simp[h44,h125]
theorem Zh3{s r:List UInt8}{m:Nat}(h:numX s=some (m,r))(h44:Zg 44 r=false)(h125:Zg 125 r=false):Z5 s=none:=by
 rw[Yx,h];simp[h44,h125]
end Go.Proofs.YtbchkjfnakabkaaGreatDoor.PX
namespace Go.Proofs.YtbchkjfnakabkaaGreatDoor
open Go.RowKit PX
def repO(x:Rx):Option (Int × Int × List UInt8)->Option (Rx × List UInt8)
 |none=>none
 |some (m,n,r)=>some (.rep m n x,r)
def NumO(o:Option (Nat × List UInt8))(S:ByteArray)(n i:Nat)(b0 b:Bool):Prop:=(b=b0/\o=some (n,rest S i))\/(b=true/\o=none)
theorem B0{rb:Nat}{S:ByteArray}{i0:Nat}{b0:Bool}{w:World}{e:Ending}{w':World}(h:ZeZ rb S i0 b0 w e w'):Only (λk=>k=rb) w w'/\∃ (n i:Nat) (b:Bool),e=.returned (.int .i64 n)/\n<=99/\i0<=i/\i<=S.size/\RefAt w' rb S i b/\NumO (numX (rest S i0)) S n i b0 b:=by
 obtain⟨ho,n,i,he,hn,h1,h2,⟨h3,h4⟩|⟨h3,h4⟩⟩:=h
 ·exact⟨ho,n,i,b0,he,hn,h1,h2,h4,.inl ⟨rfl,h3⟩⟩
 ·exact⟨ho,n,i,true,he,hn,h1,h2,h4,.inr ⟨rfl,h3⟩⟩
def CountO(s:List UInt8)(S:ByteArray)(m n:Int)(j:Nat)(b:Bool):Prop:=(b=false/\Z5 s=some (m,n,rest S j))\/(b=true/\Z5 s=none)
theorem CountO.wrong{s:List UInt8}{S:ByteArray}{m n:Int}{j:Nat}(h:Z5 s=none):CountO s S m n j true:=.inr ⟨rfl,h⟩
theorem Qy(w:World)(rb:Nat)(S:ByteArray)(i:Nat)(h:RefAt w rb S i false)(hs:S.size<=1000)(x:Rx)(r:List UInt8)(hatom:Yd rb S i false x r)(h42:Zg 42 r=false)(h43:Zg 43 r=false)(h63:Zg 63 r=false)(h123:Zg 123 r=true) :
 Calls Tryz.prog 130 #[.pointer (some ⟨rb,0,none⟩)] w λe w'=>XN rb S i w (sign x r) e w':=by
 obtain⟨nb,hnb⟩:∃ nb,w.heap.size=nb:=⟨_,rfl⟩
 have r1:=Zb h;rw[hnb]at r1;have g1:(w.alloc (.cells Zo 141)).heap[nb]?=some (.cells Zo 141 (0,0)):=Zr _ _ _ hnb;have v1:RefAt (w.alloc (.cells Zo 141)) rb S i false:=Ze h _;have H1:=Hd g1;have L1:=Hd ((Only.refl (λk=>k=rb) w).alloc (.cells Zo 141));have m1:nb<(w.alloc (.cells Zo 141)).heap.size:=Zb g1;have hl00:nb<(w.alloc (.cells #[.int .i64 0,.int .i64 0,.int .i64 0,.int .u64 0,.int .u64 0,.int .u64 0,.int .u64 0,.slice none 0 0] 141)).heap.size:=m1;have z0:=Hd (hatom (w.alloc (.cells #[.int .i64 0,.int .i64 0,.int .i64 0,.int .u64 0,.int .u64 0,.int .u64 0,.int .u64 0,.slice none 0 0] 141)) v1);have I1:=Hd hnb
 have hS:sign x r=repO x (Z5 r.tail):=by
  unfold sign;rw[h42,h43,h63,h123];simp only[Bool.false_eq_true,if_false,if_true];cases Z5 r.tail<;>rfl
 rw[hS];have y0:=Hd (λw1 j (h1:RefAt w1 rb S j false) (hj:rest S j=r)=>at_f w1 rb S j false 42 42 h1 hs rfl (by rw[hj];exact h42));have r0:=Hd (λw1 j (h1:RefAt w1 rb S j false) (hj:rest S j=r)=>at_f w1 rb S j false 43 43 h1 hs rfl (by rw[hj];exact h43));have v0:=Hd (λw1 j (h1:RefAt w1 rb S j false) (hj:rest S j=r)=>at_f w1 rb S j false 63 63 h1 hs rfl (by rw[hj];exact h63));have k0:=Hd (λw1 j (h1:RefAt w1 rb S j false) (hj:rest S j=r)=>at_t w1 rb S j false 123 123 h1 hs rfl (by rw[hj];exact h123));have K0:=Hd (λw1 j b (h1:RefAt w1 rb S j b) (hj:j<=S.size)=>D1 w1 rb S j b h1 hs hj);have N0:=Hd (λw1 j b (c:UInt8) (n:Int) (h1:RefAt w1 rb S j b) (hc:(c.toNat:Int)=n)=>Ei w1 rb S j b c n h1 hs hc);have e1:=Hd h123;clear g1 v1 h hatom hS h42 h43 h63 h123
 go_enter Tryz.func130,Tryz.ntmps130
 go_upto_block 0 with(first
  |(go_at_call 154;(with_reducible refine z0.out.mono ?_);rintro e w1 ⟨k,mn,mx,s0,s1,s2,s3,a,cap,l,j,hX,rfl,hij,hjs,h1,o1,hin,hbl⟩;have A1:=Hd (hX rfl).1;have HJ:=Hd (hX rfl).2;have E1:=Hd (L1.out.then o1);have M0:=(o1.block nb m1 (by omega)).trans H1.out;have hl1:=Zb M0;have M1:=Hd hin;have l1:=Hd hbl;have hs01:=o1.size;obtain⟨HR2,HN2,HE2,HO2,hl2,HK2⟩:=Qf h1 M0 E1 (.cells #[.int .i64 k,.int .i64 mn,.int .i64 mx,.int .u64 s0,.int .u64 s1,.int .u64 s2,.int .u64 s3,.slice a l.length cap] 141);obtain⟨c0,c1,c2,z1,z2⟩:=HR2.out.cells;clear hX h1 o1 M0 hin hbl)
  |fail)
 obtain⟨W2,hW2⟩:∃ W2,w1.alloc (.cells #[.int .i64 k,.int .i64 mn,.int .i64 mx,.int .u64 s0,.int .u64 s1,.int .u64 s2,.int .u64 s3,.slice a l.length cap] 141)=W2:=⟨_,rfl⟩
 rw[hW2]at HR2 HN2 HE2 HO2 HK2 hl2 c0 c1 c2 z1 z2;rw[hW2];clear hW2
 go_cut [4,5] from 9 to 53 (λu v wx=>∃ (n1 n2:Int) (j3:Nat) (b3:Bool),u=.int .i64 n1/\v=.int .i64 n2/\-1<=n1/\n1<=99/\-1<=n2/\n2<=99/\RefAt wx rb S j3 b3/\Only (λk=>k=rb) W2 wx/\j<=j3/\j3<=S.size/\CountO (rest S (j+1)) S n1 n2 j3 b3)
 case first=>
  have R0:=Hd (Only.refl (λk=>k=rb) W2);have J1:=Hd (show j+1<=S.size from ZQ (c:=123) (by rw[HJ.out];exact e1.out))
  go_upto_region 13 with(first
   |(go_at_call 132;(with_reducible refine(y0.out _ _ HR2.out HJ.out).mono ?_);rintro e w3 ⟨rfl,h1,o1⟩;have P1:=Hd h1;have a1:=Hd (R0.out.then o1);clear h1 o1)
   |(go_at_call 132;(with_reducible refine(r0.out _ _ P1.out HJ.out).mono ?_);rintro e w4 ⟨rfl,h1,o1⟩;have N1:=Hd h1;have f1:=Hd (a1.out.then o1);clear h1 o1)
   |(go_at_call 132;(with_reducible refine(v0.out _ _ N1.out HJ.out).mono ?_);rintro e w5 ⟨rfl,h1,o1⟩;have C1:=Hd h1;have W0:=Hd (f1.out.then o1);clear h1 o1)
   |(go_at_call 132;(with_reducible refine(k0.out _ _ C1.out HJ.out).mono ?_);rintro e w6 ⟨rfl,h1,o1⟩;have K1:=Hd h1;have O0:=Hd (W0.out.then o1);clear h1 o1)
   |(go_at_call 155;(with_reducible refine(K0.out _ _ _ K1.out J1.out).mono ?_);rintro e w7 hSS;obtain⟨o1,n1,i1,b1,rfl,M0,hi1,hi1s,h1,hnum⟩:=B0 hSS;have O1:=Hd h1;have I0:=Hd hnum;have k1:=Hd (O0.out.then o1);clear h1 hnum hSS o1)
   |fail)
  obtain⟨p44,hp44⟩:∃ p,Zg 44 (rest S i1)=p:=⟨_,rfl⟩
  have j0:=N0.out w7 i1 b1 44 44 O1.out rfl;rw[hp44]at j0;have t0:=Hd j0;have f0:=Hd hp44;clear j0 hp44;have T0:(0:Int)<=(n1:Int)/\(n1:Int)<=99:=by omega
  obtain⟨hn1a,hn1b⟩:=T0;clear c0 c1 c2 z1 z2
  go_upto_if 31 with(first
   |(go_at_call 132;(with_reducible refine t0.out.mono ?_);rintro e w8 ⟨rfl,h1,o1⟩;have q1:=Hd h1;have L0:=Hd (k1.out.then o1);clear h1 o1)
   |fail)
  clear HN2 HE2 HK2 HO2 z0 y0 r0 v0 k0 t0
  cases p44 with
  |false=>
   have C0:RefAt w8 rb S i1 b1:=by have h:=q1.out;simpa using h
   have g0:=N0.out w8 i1 b1 125 125 C0 rfl
   cases h125:Zg 125 (rest S i1) with
   |true=>
    rw[h125]at g0;have a0:=Hd g0;have e0:=Hd h125;clear g0 h125 C0
    go_wp2_with (first
     |(go_at_call 132;(with_reducible refine a0.out.mono ?_);rintro e w9 ⟨rfl,h1,o1⟩;have l0:=Hd h1;have m0:=Hd (L0.out.then o1);clear h1 o1)
     |fail)
    go_meet
    case rel=>
     refine⟨n1,n1,i1+1,b1,rfl,rfl,by omega,hn1b,by omega,hn1b,by have h:=l0.out;simpa using h,m0.out,by omega,ZQ e0.out,?_⟩;rcases I0.out with⟨rfl,h⟩|⟨rfl,h⟩
     ·exact .inl ⟨rfl,by rw[Zh4 h f0.out e0.out,ZA]⟩
     ·exact .inr ⟨rfl,UZ h⟩
   |false=>
    rw[h125]at g0;have a0:=Hd g0;have e0:=Hd h125;clear g0 h125 C0
    go_wp2_with (first
     |(go_at_call 132;(with_reducible refine a0.out.mono ?_);rintro e w9 ⟨rfl,h1,o1⟩;have l0:=Hd (show RefAt w9 rb S i1 b1 by simpa using h1);have m0:=Hd (L0.out.then o1);obtain⟨d0,d1,d2,y1,y2⟩:=l0.out.cells;clear h1 o1)
     |fail)
    go_meet
    case rel=>
     refine⟨n1,n1,i1,true,rfl,rfl,by omega,hn1b,by omega,hn1b,l0.out.wrong,m0.out.setCell (p:=⟨rb,2,none⟩) (.inl rfl) _,by omega,hi1s,.wrong ?_⟩;rcases I0.out with⟨rfl,h⟩|⟨rfl,h⟩
     ·exact Zh3 h f0.out e0.out
     ·exact UZ h
  |true=>
   have C0:RefAt w8 rb S (i1+1) b1:=by have h:=q1.out;simpa using h
   have P0:i1+1<=S.size:=ZQ f0.out;have g0:=N0.out w8 (i1+1) b1 125 125 C0 rfl
   cases h125:Zg 125 (rest S (i1+1)) with
   |true=>
    rw[h125]at g0;have a0:=Hd g0;have e0:=Hd h125;clear g0 h125 C0
    go_wp2_with (first
     |(go_at_call 132;(with_reducible refine a0.out.mono ?_);rintro e w9 ⟨rfl,h1,o1⟩;have l0:=Hd h1;have m0:=Hd (L0.out.then o1);clear h1 o1)
     |fail)
    go_meet
    case rel=>
     refine⟨n1,-1,i1+1+1,b1,rfl,rfl,by omega,hn1b,by omega,by omega,by have h:=l0.out;simpa using h,m0.out,by omega,ZQ e0.out,?_⟩;rcases I0.out with⟨rfl,h⟩|⟨rfl,h⟩
     ·exact .inl ⟨rfl,by rw[Zh6 h f0.out (by rw[<-ZA];exact e0.out),ZA,ZA]⟩
     ·exact .inr ⟨rfl,UZ h⟩
   |false=>
    rw[h125]at g0;have a0:=Hd g0;have e0:=Hd h125;clear g0 h125 C0
    go_upto_region 18 with(first
     |(go_at_call 132;(with_reducible refine a0.out.mono ?_);rintro e w9 ⟨rfl,h1,o1⟩;have l0:=Hd (show RefAt w9 rb S (i1+1) b1 by simpa using h1);have m0:=Hd (L0.out.then o1);clear h1 o1)
     |(go_at_call 155;(with_reducible refine(K0.out _ _ _ l0.out P0).mono ?_);rintro e w10 hSS;obtain⟨o1,n2,i2,b2,rfl,hn2,hi2,hi2t,h1,hnum⟩:=B0 hSS;have F0:=Hd h1;have p0:=Hd hnum;have A0:=Hd (m0.out.then o1);clear h1 hnum hSS o1)
     |fail)
    have S0:(0:Int)<=(n2:Int):=by omega
    have q0:(n2:Int)<=99:=by omega
    by_cases hlt:(n2:Int)<(n1:Int)
    ·obtain⟨d0,d1,d2,y1,y2⟩:=F0.out.cells
     go_wp2_with fail
     go_meet
     case rel=>
      refine⟨n1,n2,i2,true,rfl,rfl,by omega,hn1b,by omega,q0,F0.out.wrong,A0.out.setCell (p:=⟨rb,2,none⟩) (.inl rfl) _,by omega,hi2t,.wrong ?_⟩;rcases I0.out with⟨rfl,h⟩|⟨rfl,h⟩
      ·have h2:=p0.out;rw[ZA]at h2;rcases h2 with⟨-, h2⟩|⟨-, h2⟩
       ·exact ZeE h f0.out (by rw[<-ZA];exact e0.out) h2 (.inl (by omega))
       ·exact BA h f0.out (by rw[<-ZA];exact e0.out) h2
      ·exact UZ h
    ·have g0:=N0.out w10 i2 b2 125 125 F0.out rfl
     cases h126:Zg 125 (rest S i2) with
     |true=>
      rw[h126]at g0;have h0:=Hd g0;have n0:=Hd h126;clear g0 h126
      go_wp2_with (first
       |(go_at_call 132;(with_reducible refine h0.out.mono ?_);rintro e w11 ⟨rfl,h1,o1⟩;have o0:=Hd (show RefAt w11 rb S (i2+1) b2 by simpa using h1);have H0:=Hd (A0.out.then o1);clear h1 o1)
       |fail)
      go_meet
      case rel=>
       refine⟨n1,n2,i2+1,b2,rfl,rfl,by omega,hn1b,by omega,q0,o0.out,H0.out,by omega,ZQ n0.out,?_⟩;rcases I0.out with⟨rfl,h⟩|⟨rfl,h⟩
       ·have h2:=p0.out;rw[ZA]at h2;rcases h2 with⟨rfl,h2⟩|⟨rfl,h2⟩
        ·exact .inl ⟨rfl,by rw[Zh5 h f0.out (by rw[<-ZA];exact e0.out) h2 (by omega) n0.out,ZA]⟩
        ·exact .inr ⟨rfl,BA h f0.out (by rw[<-ZA];exact e0.out) h2⟩
       ·rcases p0.out with⟨rfl,-⟩|⟨rfl,-⟩<;>exact .inr ⟨rfl,UZ h⟩
     |false=>
      rw[h126]at g0;have h0:=Hd g0;have n0:=Hd h126;clear g0 h126
      go_wp2_with (first
       |(go_at_call 132;(with_reducible refine h0.out.mono ?_);rintro e w11 ⟨rfl,h1,o1⟩;have o0:=Hd (show RefAt w11 rb S i2 b2 by simpa using h1);have H0:=Hd (A0.out.then o1);obtain⟨d0,d1,d2,y1,y2⟩:=o0.out.cells;clear h1 o1)
       |fail)
      go_meet
      case rel=>
       refine⟨n1,n2,i2,true,rfl,rfl,by omega,hn1b,by omega,q0,o0.out.wrong,H0.out.setCell (p:=⟨rb,2,none⟩) (.inl rfl) _,by omega,hi2t,.wrong ?_⟩;rcases I0.out with⟨rfl,h⟩|⟨rfl,h⟩
       ·have h2:=p0.out;rw[ZA]at h2;rcases h2 with⟨-, h2⟩|⟨-, h2⟩
        ·exact ZeE h f0.out (by rw[<-ZA];exact e0.out) h2 (.inr n0.out)
        ·exact BA h f0.out (by rw[<-ZA];exact e0.out) h2
       ·exact UZ h
 case rest=>
  obtain⟨n1,n2,j3,b3,rfl,rfl,hn1a,hn1b,S0,q0,hr9,o1,hij3,hj3s,hcnt⟩:=hcut;have l0:=Hd hr9;have j1:=Hd hcnt
  obtain⟨w9,rfl⟩:∃ w9:World,w9=wc:=⟨_,rfl⟩
  clear hr9 hcnt c0 c1 c2 z1 z2;have m0:=Hd (HO2.out.then o1);have p1:=Hd ((o1.block nb (by omega) (by omega)).trans HN2.out);have t1:=Hd ((o1.block w1.heap.size (by omega) (by omega)).trans HE2.out);have F1:=Hd (λc (hr:rb<c) (hc:c<w1.heap.size)=>(o1.block c (by omega) (by omega)).trans (HK2.out c hc));have hl9:w1.heap.size<w9.heap.size:=Zb t1.out;clear o1
  go_wp2_with (first
   |(refine wpList_load_row rfl 141 (.tmp 3) ?_ w1.heap.size ?_ 141 #[.int .i64 k,.int .i64 mn,.int .i64 mx,.int .u64 s0,.int .u64 s1,.int .u64 s2,.int .u64 s3,.slice a l.length cap] (0,0) _ ?_ Tryz.underlying141 rfl ZH ?_;(with_reducible rfl);rfl;exact t1.out)
   |(refine wpList_store_row rfl 141 (.tmp 2) (.tmp 58) ?_ nb (Zh (repA n1 n2 w9.heap.size (RxA.node k mn mx s0 s1 s2 s3 a cap l))) ?_ ?_ 141 Zo ?_ (Zj _) (by rw[Zi];rfl) (Zm _) ?_;(with_reducible rfl);rfl;rfl;exact Ze p1.out _)
   |fail)
  refine bodyPost_ret (results_cell_row rfl _ _ nb 141 (Zh (repA n1 n2 w9.heap.size (RxA.node k mn mx s0 s1 s2 s3 a cap l))) (0,0) _ rfl (setRow_heap _ _ _ _ _ _ (Ze p1.out _)) Tryz.underlying141 rfl (Zj _)) rfl ?_;refine Vl (X:=(RxA.node k mn mx s0 s1 s2 s3 a cap l)) I1.out r1 m0.out l0.out M1.out (λc hc=>⟨by have:=(l1.out c hc).1;omega,(l1.out c hc).2⟩) (by omega) (λc hc1 hc2=>F1.out c (by omega) hc2) (by omega) (by omega) (by omega) hj3s (by omega) ?_;rcases j1.out with⟨rfl,h⟩|⟨rfl,h⟩
  ·left;rw[<-HJ.out,<-ZA,h,A1.out];exact⟨rfl,rfl⟩
  ·right;rw[<-HJ.out,<-ZA,h];exact⟨rfl,rfl⟩
