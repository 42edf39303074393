import Derived.Test.YtbchkjfnakabkaaGreatDoorQb
import Derived.Deep.CutRange
import Derived.Deep.CutBlock
set_option linter.unusedSimpArgs false
set_option linter.unusedVariables false
set_option maxHeartbeats 1000000
set_option maxRecDepth 100000
namespace Go.Proofs.YtbchkjfnakabkaaGreatDoor.PX
theorem UM{s:List UInt8}(h:numX s=none):Z5 s=none:=by rw[Yu,h]
theorem Zhl{s r:List UInt8}{m:Nat}(h:numX s=some (m,r))(h44:Zg 44 r=true)(h125:Zg 125 r.tail=true):Z5 s=some ((m:Int),(-1:Int),r.tail.tail):=by
 rw[Yu,h];simp[h44,h125]
theorem D4{s r:List UInt8}{m:Nat}(h:numX s=some (m,r))(h44:Zg 44 r=true)(h125:Zg 125 r.tail=false)(h2:numX r.tail=none):Z5 s=none:=by
 rw[Yu,h];simp[h44,h125,h2]
theorem Zhk{s r r':List UInt8}{m n:Nat}(h:numX s=some (m,r))(h44:Zg 44 r=true)(h125:Zg 125 r.tail=false)(h2:numX r.tail=some (n,r'))(h3:m≤n)(h4:Zg 125 r'=true):Z5 s=some ((m:Int),(n:Int),r'.tail):=by
 rw[Yu,h];simp[h44,h125,h2,h3,h4]
theorem ZdW{s r r':List UInt8}{m n:Nat}(h:numX s=some (m,r))(h44:Zg 44 r=true)(h125:Zg 125 r.tail=false)(h2:numX r.tail=some (n,r'))(h3:n<m∨Zg 125 r'=false):Z5 s=none:=by
 rw[Yu,h];simp only[h44,h125,h2,if_true,Bool.false_eq_true,if_false];rw[if_neg];rintro⟨h5,h6⟩;rcases h3 with h3|h3
 ·omega
 ·rw[h3]at h6;cases h6
theorem Zhj{s r:List UInt8}{m:Nat}(h:numX s=some (m,r))(h44:Zg 44 r=false)(h125:Zg 125 r=true):Z5 s=some ((m:Int),(m:Int),r.tail):=by
 rw[Yu,h];simp[h44,h125]
theorem Zhi{s r:List UInt8}{m:Nat}(h:numX s=some (m,r))(h44:Zg 44 r=false)(h125:Zg 125 r=false):Z5 s=none:=by
 rw[Yu,h];simp[h44,h125]
end Go.Proofs.YtbchkjfnakabkaaGreatDoor.PX
namespace Go.Proofs.YtbchkjfnakabkaaGreatDoor
open Go.RowKit PX
def repO(x:Rx):Option (Int × Int × List UInt8)→Option (Rx × List UInt8)
 |none=>none
 |some (m,n,r)=>some (.rep m n x,r)
def NumO(o:Option (Nat × List UInt8))(S:ByteArray)(n i:Nat)(b0 b:Bool):Prop:=(b=b0∧o=some (n,rest S i))∨(b=true∧o=none)
theorem Bt{rb:Nat}{S:ByteArray}{i0:Nat}{b0:Bool}{w:World}{e:Ending}{w':World}(h:Zeh rb S i0 b0 w e w'):Only (fun k=>k=rb) w w'∧∃ (n i:Nat) (b:Bool),e=.returned (.int .i64 n)∧n≤99∧i0≤i∧i≤S.size∧RefAt w' rb S i b∧NumO (numX (rest S i0)) S n i b0 b:=by
 obtain⟨ho,n,i,he,hn,h1,h2,⟨h3,h4⟩|⟨h3,h4⟩⟩:=h
 ·exact⟨ho,n,i,b0,he,hn,h1,h2,h4,.inl ⟨rfl,h3⟩⟩
 ·exact⟨ho,n,i,true,he,hn,h1,h2,h4,.inr ⟨rfl,h3⟩⟩
def CountO(s:List UInt8)(S:ByteArray)(m n:Int)(j:Nat)(b:Bool):Prop:=(b=false∧Z5 s=some (m,n,rest S j))∨(b=true∧Z5 s=none)
theorem CountO.wrong{s:List UInt8}{S:ByteArray}{m n:Int}{j:Nat}(h:Z5 s=none):CountO s S m n j true:=.inr ⟨rfl,h⟩
theorem Qe(w:World)(rb:Nat)(S:ByteArray)(i:Nat)(h:RefAt w rb S i false)(hs:S.size≤1000)(x:Rx)(r:List UInt8)(hatom:X8 rb S i false x r)(h42:Zg 42 r=false)(h43:Zg 43 r=false)(h63:Zg 63 r=false)(h123:Zg 123 r=true) :
 Calls Tryz.prog 130 #[.pointer (some ⟨rb,0,none⟩)] w fun e w'=>XK rb S i w (sign x r) e w':=by
 obtain⟨nb,hnb⟩:∃ nb,w.heap.size=nb:=⟨_,rfl⟩
 have hrb:=Za h;rw[hnb]at hrb;have hN0:(w.alloc (.cells Zn 141)).heap[nb]?=some (.cells Zn 141 (0,0)):=Zp _ _ _ hnb;have hR0:RefAt (w.alloc (.cells Zn 141)) rb S i false:=Zd h _;have HN0:=Hd hN0;have HO0:=Hd ((Only.refl (fun k=>k=rb) w).alloc (.cells Zn 141));have hl0:nb<(w.alloc (.cells Zn 141)).heap.size:=Za hN0;have hl00:nb<(w.alloc (.cells #[.int .i64 0,.int .i64 0,.int .i64 0,.int .u64 0,.int .u64 0,.int .u64 0,.int .u64 0,.slice none 0 0] 141)).heap.size:=hl0;have HATOM:=Hd (hatom (w.alloc (.cells #[.int .i64 0,.int .i64 0,.int .i64 0,.int .u64 0,.int .u64 0,.int .u64 0,.int .u64 0,.slice none 0 0] 141)) hR0);have HSZ:=Hd hnb
 have hS:sign x r=repO x (Z5 r.tail):=by
  unfold sign;rw[h42,h43,h63,h123];simp only[Bool.false_eq_true,if_false,if_true];cases Z5 r.tail<;>rfl
 rw[hS];have HAT42:=Hd (fun w1 j (h1:RefAt w1 rb S j false) (hj:rest S j=r)=>at_f w1 rb S j false 42 42 h1 hs rfl (by rw[hj];exact h42));have HAT43:=Hd (fun w1 j (h1:RefAt w1 rb S j false) (hj:rest S j=r)=>at_f w1 rb S j false 43 43 h1 hs rfl (by rw[hj];exact h43));have HAT63:=Hd (fun w1 j (h1:RefAt w1 rb S j false) (hj:rest S j=r)=>at_f w1 rb S j false 63 63 h1 hs rfl (by rw[hj];exact h63));have HAT123:=Hd (fun w1 j (h1:RefAt w1 rb S j false) (hj:rest S j=r)=>at_t w1 rb S j false 123 123 h1 hs rfl (by rw[hj];exact h123));have HNUM:=Hd (fun w1 j b (h1:RefAt w1 rb S j b) (hj:j≤S.size)=>DC w1 rb S j b h1 hs hj);have HAT:=Hd (fun w1 j b (c:UInt8) (n:Int) (h1:RefAt w1 rb S j b) (hc:(c.toNat:Int)=n)=>U3 w1 rb S j b c n h1 hs hc);have H123:=Hd h123;clear hN0 hR0 h hatom hS h42 h43 h63 h123
 go_enter Tryz.func130,Tryz.ntmps130
 go_upto_block 0 with(first
  |(go_at_call 154;(with_reducible refine HATOM.out.mono ?_);rintro e w1 ⟨k,mn,mx,s0,s1,s2,s3,a,cap,l,j,hX,rfl,hij,hjs,h1,o1,hin,hbl⟩;have HXB:=Hd (hX rfl).1;have HJ:=Hd (hX rfl).2;have HO1:=Hd (HO0.out.then o1);have hn1:=(o1.block nb hl0 (by omega)).trans HN0.out;have hl1:=Za hn1;have HIN:=Hd hin;have HBL:=Hd hbl;have hs01:=o1.size;have HR2:=Hd (show RefAt (w1.alloc (.cells #[.int .i64 k,.int .i64 mn,.int .i64 mx,.int .u64 s0,.int .u64 s1,.int .u64 s2,.int .u64 s3,.slice a l.length cap] 141)) rb S j false from Zd h1 _);have HN2:=Hd (Zd hn1 (.cells #[.int .i64 k,.int .i64 mn,.int .i64 mx,.int .u64 s0,.int .u64 s1,.int .u64 s2,.int .u64 s3,.slice a l.length cap] 141));have HE2:=Hd (Ze w1 (.cells #[.int .i64 k,.int .i64 mn,.int .i64 mx,.int .u64 s0,.int .u64 s1,.int .u64 s2,.int .u64 s3,.slice a l.length cap] 141));have HO2:=Hd (HO1.out.alloc (.cells #[.int .i64 k,.int .i64 mn,.int .i64 mx,.int .u64 s0,.int .u64 s1,.int .u64 s2,.int .u64 s3,.slice a l.length cap] 141));have hl2:w1.heap.size<(w1.alloc (.cells #[.int .i64 k,.int .i64 mn,.int .i64 mx,.int .u64 s0,.int .u64 s1,.int .u64 s2,.int .u64 s3,.slice a l.length cap] 141)).heap.size:=Za HE2.out;have HK2:=Hd (fun c (hc:c<w1.heap.size)=>Below.heap_alloc w1 (.cells #[.int .i64 k,.int .i64 mn,.int .i64 mx,.int .u64 s0,.int .u64 s1,.int .u64 s2,.int .u64 s3,.slice a l.length cap] 141) c hc);obtain⟨c0,c1,c2,z1,z2⟩:=HR2.out.cells;clear hX h1 o1 hn1 hin hbl)
  |fail)
 obtain⟨W2,hW2⟩:∃ W2,w1.alloc (.cells #[.int .i64 k,.int .i64 mn,.int .i64 mx,.int .u64 s0,.int .u64 s1,.int .u64 s2,.int .u64 s3,.slice a l.length cap] 141)=W2:=⟨_,rfl⟩
 rw[hW2]at HR2 HN2 HE2 HO2 HK2 hl2 c0 c1 c2 z1 z2;rw[hW2];clear hW2
 go_cut [4,5] from 9 to 53 (fun u v wx=>∃ (n1 n2:Int) (j3:Nat) (b3:Bool),u=.int .i64 n1∧v=.int .i64 n2∧-1≤n1∧n1≤99∧-1≤n2∧n2≤99∧RefAt wx rb S j3 b3∧Only (fun k=>k=rb) W2 wx∧j≤j3∧j3≤S.size∧CountO (rest S (j+1)) S n1 n2 j3 b3)
 case first=>
  have HOW2:=Hd (Only.refl (fun k=>k=rb) W2);have HJ6:=Hd (show j+1≤S.size from ZO (c:=123) (by rw[HJ.out];exact H123.out))
  go_upto_region 13 with(first
   |(go_at_call 132;(with_reducible refine(HAT42.out _ _ HR2.out HJ.out).mono ?_);rintro e w3 ⟨rfl,h1,o1⟩;have HR3:=Hd h1;have HOW3:=Hd (HOW2.out.then o1);clear h1 o1)
   |(go_at_call 132;(with_reducible refine(HAT43.out _ _ HR3.out HJ.out).mono ?_);rintro e w4 ⟨rfl,h1,o1⟩;have HR4:=Hd h1;have HOW4:=Hd (HOW3.out.then o1);clear h1 o1)
   |(go_at_call 132;(with_reducible refine(HAT63.out _ _ HR4.out HJ.out).mono ?_);rintro e w5 ⟨rfl,h1,o1⟩;have HR5:=Hd h1;have HOW5:=Hd (HOW4.out.then o1);clear h1 o1)
   |(go_at_call 132;(with_reducible refine(HAT123.out _ _ HR5.out HJ.out).mono ?_);rintro e w6 ⟨rfl,h1,o1⟩;have HR6:=Hd h1;have HOW6:=Hd (HOW5.out.then o1);clear h1 o1)
   |(go_at_call 155;(with_reducible refine(HNUM.out _ _ _ HR6.out HJ6.out).mono ?_);rintro e w7 hSS;obtain⟨o1,n1,i1,b1,rfl,hn1,hi1,hi1s,h1,hnum⟩:=Bt hSS;have HR7:=Hd h1;have HNU:=Hd hnum;have HOW7:=Hd (HOW6.out.then o1);clear h1 hnum hSS o1)
   |fail)
  obtain⟨p44,hp44⟩:∃ p,Zg 44 (rest S i1)=p:=⟨_,rfl⟩
  have hat44:=HAT.out w7 i1 b1 44 44 HR7.out rfl;rw[hp44]at hat44;have HAT44:=Hd hat44;have HP44:=Hd hp44;clear hat44 hp44;have hn1i:(0:Int)≤(n1:Int)∧(n1:Int)≤99:=by omega
  obtain⟨hn1a,hn1b⟩:=hn1i;clear c0 c1 c2 z1 z2
  go_upto_if 31 with(first
   |(go_at_call 132;(with_reducible refine HAT44.out.mono ?_);rintro e w8 ⟨rfl,h1,o1⟩;have HR8:=Hd h1;have HO8:=Hd (HOW7.out.then o1);clear h1 o1)
   |fail)
  clear HN2 HE2 HK2 HO2 HATOM HAT42 HAT43 HAT63 HAT123 HAT44
  cases p44 with
  |false=>
   have hr8:RefAt w8 rb S i1 b1:=by have h:=HR8.out;simpa using h
   have hat:=HAT.out w8 i1 b1 125 125 hr8 rfl
   cases h125:Zg 125 (rest S i1) with
   |true=>
    rw[h125]at hat;have HAT125:=Hd hat;have H125:=Hd h125;clear hat h125 hr8
    go_wp2_with (first
     |(go_at_call 132;(with_reducible refine HAT125.out.mono ?_);rintro e w9 ⟨rfl,h1,o1⟩;have HR9:=Hd h1;have HO9:=Hd (HO8.out.then o1);clear h1 o1)
     |fail)
    go_meet
    case rel=>
     refine⟨n1,n1,i1+1,b1,rfl,rfl,by omega,hn1b,by omega,hn1b,by have h:=HR9.out;simpa using h,HO9.out,by omega,ZO H125.out,?_⟩;rcases HNU.out with⟨rfl,h⟩|⟨rfl,h⟩
     ·exact .inl ⟨rfl,by rw[Zhj h HP44.out H125.out,Zy]⟩
     ·exact .inr ⟨rfl,UM h⟩
   |false=>
    rw[h125]at hat;have HAT125:=Hd hat;have H125:=Hd h125;clear hat h125 hr8
    go_wp2_with (first
     |(go_at_call 132;(with_reducible refine HAT125.out.mono ?_);rintro e w9 ⟨rfl,h1,o1⟩;have HR9:=Hd (show RefAt w9 rb S i1 b1 by simpa using h1);have HO9:=Hd (HO8.out.then o1);obtain⟨d0,d1,d2,y1,y2⟩:=HR9.out.cells;clear h1 o1)
     |fail)
    go_meet
    case rel=>
     refine⟨n1,n1,i1,true,rfl,rfl,by omega,hn1b,by omega,hn1b,HR9.out.wrong,HO9.out.setCell (p:=⟨rb,2,none⟩) (.inl rfl) _,by omega,hi1s,.wrong ?_⟩;rcases HNU.out with⟨rfl,h⟩|⟨rfl,h⟩
     ·exact Zhi h HP44.out H125.out
     ·exact UM h
  |true=>
   have hr8:RefAt w8 rb S (i1+1) b1:=by have h:=HR8.out;simpa using h
   have hi2s:i1+1≤S.size:=ZO HP44.out;have hat:=HAT.out w8 (i1+1) b1 125 125 hr8 rfl
   cases h125:Zg 125 (rest S (i1+1)) with
   |true=>
    rw[h125]at hat;have HAT125:=Hd hat;have H125:=Hd h125;clear hat h125 hr8
    go_wp2_with (first
     |(go_at_call 132;(with_reducible refine HAT125.out.mono ?_);rintro e w9 ⟨rfl,h1,o1⟩;have HR9:=Hd h1;have HO9:=Hd (HO8.out.then o1);clear h1 o1)
     |fail)
    go_meet
    case rel=>
     refine⟨n1,-1,i1+1+1,b1,rfl,rfl,by omega,hn1b,by omega,by omega,by have h:=HR9.out;simpa using h,HO9.out,by omega,ZO H125.out,?_⟩;rcases HNU.out with⟨rfl,h⟩|⟨rfl,h⟩
     ·exact .inl ⟨rfl,by rw[Zhl h HP44.out (by rw[←Zy];exact H125.out),Zy,Zy]⟩
     ·exact .inr ⟨rfl,UM h⟩
   |false=>
    rw[h125]at hat;have HAT125:=Hd hat;have H125:=Hd h125;clear hat h125 hr8
    go_upto_region 18 with(first
     |(go_at_call 132;(with_reducible refine HAT125.out.mono ?_);rintro e w9 ⟨rfl,h1,o1⟩;have HR9:=Hd (show RefAt w9 rb S (i1+1) b1 by simpa using h1);have HO9:=Hd (HO8.out.then o1);clear h1 o1)
     |(go_at_call 155;(with_reducible refine(HNUM.out _ _ _ HR9.out hi2s).mono ?_);rintro e w10 hSS;obtain⟨o1,n2,i2,b2,rfl,hn2,hi2,hi2t,h1,hnum⟩:=Bt hSS;have HR10:=Hd h1;have HNU2:=Hd hnum;have HO10:=Hd (HO9.out.then o1);clear h1 hnum hSS o1)
     |fail)
    have hn2a:(0:Int)≤(n2:Int):=by omega
    have hn2b:(n2:Int)≤99:=by omega
    by_cases hlt:(n2:Int)<(n1:Int)
    ·obtain⟨d0,d1,d2,y1,y2⟩:=HR10.out.cells
     go_wp2_with fail
     go_meet
     case rel=>
      refine⟨n1,n2,i2,true,rfl,rfl,by omega,hn1b,by omega,hn2b,HR10.out.wrong,HO10.out.setCell (p:=⟨rb,2,none⟩) (.inl rfl) _,by omega,hi2t,.wrong ?_⟩;rcases HNU.out with⟨rfl,h⟩|⟨rfl,h⟩
      ·have h2:=HNU2.out;rw[Zy]at h2;rcases h2 with⟨-, h2⟩|⟨-, h2⟩
       ·exact ZdW h HP44.out (by rw[←Zy];exact H125.out) h2 (.inl (by omega))
       ·exact D4 h HP44.out (by rw[←Zy];exact H125.out) h2
      ·exact UM h
    ·have hat:=HAT.out w10 i2 b2 125 125 HR10.out rfl
     cases h126:Zg 125 (rest S i2) with
     |true=>
      rw[h126]at hat;have HAT126:=Hd hat;have H126:=Hd h126;clear hat h126
      go_wp2_with (first
       |(go_at_call 132;(with_reducible refine HAT126.out.mono ?_);rintro e w11 ⟨rfl,h1,o1⟩;have HR11:=Hd (show RefAt w11 rb S (i2+1) b2 by simpa using h1);have HO11:=Hd (HO10.out.then o1);clear h1 o1)
       |fail)
      go_meet
      case rel=>
       refine⟨n1,n2,i2+1,b2,rfl,rfl,by omega,hn1b,by omega,hn2b,HR11.out,HO11.out,by omega,ZO H126.out,?_⟩;rcases HNU.out with⟨rfl,h⟩|⟨rfl,h⟩
       ·have h2:=HNU2.out;rw[Zy]at h2;rcases h2 with⟨rfl,h2⟩|⟨rfl,h2⟩
        ·exact .inl ⟨rfl,by rw[Zhk h HP44.out (by rw[←Zy];exact H125.out) h2 (by omega) H126.out,Zy]⟩
        ·exact .inr ⟨rfl,D4 h HP44.out (by rw[←Zy];exact H125.out) h2⟩
       ·rcases HNU2.out with⟨rfl,-⟩|⟨rfl,-⟩<;>exact .inr ⟨rfl,UM h⟩
     |false=>
      rw[h126]at hat;have HAT126:=Hd hat;have H126:=Hd h126;clear hat h126
      go_wp2_with (first
       |(go_at_call 132;(with_reducible refine HAT126.out.mono ?_);rintro e w11 ⟨rfl,h1,o1⟩;have HR11:=Hd (show RefAt w11 rb S i2 b2 by simpa using h1);have HO11:=Hd (HO10.out.then o1);obtain⟨d0,d1,d2,y1,y2⟩:=HR11.out.cells;clear h1 o1)
       |fail)
      go_meet
      case rel=>
       refine⟨n1,n2,i2,true,rfl,rfl,by omega,hn1b,by omega,hn2b,HR11.out.wrong,HO11.out.setCell (p:=⟨rb,2,none⟩) (.inl rfl) _,by omega,hi2t,.wrong ?_⟩;rcases HNU.out with⟨rfl,h⟩|⟨rfl,h⟩
       ·have h2:=HNU2.out;rw[Zy]at h2;rcases h2 with⟨-, h2⟩|⟨-, h2⟩
        ·exact ZdW h HP44.out (by rw[←Zy];exact H125.out) h2 (.inr H126.out)
        ·exact D4 h HP44.out (by rw[←Zy];exact H125.out) h2
       ·exact UM h
 case rest=>
  obtain⟨n1,n2,j3,b3,rfl,rfl,hn1a,hn1b,hn2a,hn2b,hr9,o1,hij3,hj3s,hcnt⟩:=hcut;have HR9:=Hd hr9;have HCNT:=Hd hcnt
  obtain⟨w9,rfl⟩:∃ w9:World,w9=wc:=⟨_,rfl⟩
  clear hr9 hcnt c0 c1 c2 z1 z2;have HO9:=Hd (HO2.out.then o1);have HN9:=Hd ((o1.block nb (by omega) (by omega)).trans HN2.out);have HE9:=Hd ((o1.block w1.heap.size (by omega) (by omega)).trans HE2.out);have HK9:=Hd (fun c (hr:rb<c) (hc:c<w1.heap.size)=>(o1.block c (by omega) (by omega)).trans (HK2.out c hc));have hl9:w1.heap.size<w9.heap.size:=Za HE9.out;clear o1
  go_wp2_with (first
   |(refine wpList_load_row rfl 141 (.tmp 3) ?_ w1.heap.size ?_ 141 #[.int .i64 k,.int .i64 mn,.int .i64 mx,.int .u64 s0,.int .u64 s1,.int .u64 s2,.int .u64 s3,.slice a l.length cap] (0,0) _ ?_ Tryz.underlying141 rfl ZF ?_;(with_reducible rfl);rfl;exact HE9.out)
   |(refine wpList_store_row rfl 141 (.tmp 2) (.tmp 58) ?_ nb (Zh (repA n1 n2 w9.heap.size (RxA.node k mn mx s0 s1 s2 s3 a cap l))) ?_ ?_ 141 Zn ?_ (Zj _) (by rw[Zi];rfl) (Zl _) ?_;(with_reducible rfl);rfl;rfl;exact Zd HN9.out _)
   |fail)
  refine bodyPost_ret (results_cell_row rfl _ _ nb 141 (Zh (repA n1 n2 w9.heap.size (RxA.node k mn mx s0 s1 s2 s3 a cap l))) (0,0) _ rfl (setRow_heap _ _ _ _ _ _ (Zd HN9.out _)) Tryz.underlying141 rfl (Zj _)) rfl ?_;refine JU (X:=(RxA.node k mn mx s0 s1 s2 s3 a cap l)) HSZ.out hrb HO9.out HR9.out HIN.out (fun c hc=>⟨by have:=(HBL.out c hc).1;omega,(HBL.out c hc).2⟩) (by omega) (fun c hc1 hc2=>HK9.out c (by omega) hc2) (by omega) (by omega) (by omega) hj3s (by omega) ?_;rcases HCNT.out with⟨rfl,h⟩|⟨rfl,h⟩
  ·left;rw[←HJ.out,←Zy,h,HXB.out];exact⟨rfl,rfl⟩
  ·right;rw[←HJ.out,←Zy,h];exact⟨rfl,rfl⟩
end Go.Proofs.YtbchkjfnakabkaaGreatDoor
