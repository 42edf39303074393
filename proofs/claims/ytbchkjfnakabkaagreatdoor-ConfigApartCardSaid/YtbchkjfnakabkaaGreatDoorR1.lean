import Derived.Test.YtbchkjfnakabkaaGreatDoorB2
import Derived.Test.YtbchkjfnakabkaaGreatDoorShelf
import Derived.Lib.ConvBytes
set_option linter.unusedSimpArgs false
set_option linter.unusedVariables false
set_option maxHeartbeats 2000000
set_option maxRecDepth 100000
namespace Go.Proofs.YtbchkjfnakabkaaGreatDoor.PX
theorem Zu{c:UInt8}:∀ {s:List UInt8},Zg c s=true->s=c::s.tail
 |[],h=>by cases h
 |d::r,h=>by simp only[Zg,beq_iff_eq]at h;subst h;rfl
theorem Xu(s:List UInt8):s.tail.length<=s.length:=by simp
theorem Z6{c:UInt8}{s:List UInt8}(h:Zg c s=true):s.tail.length+1=s.length:=by
 rw[Zu h];simp
theorem Vc{c:UInt8}{n:Nat}(h:hexv c=some n):n<16:=by
 unfold hexv at h;split at h
 ·cases h;omega
 ·split at h
  ·cases h;omega
  ·split at h
   ·cases h;omega
   ·cases h
theorem Ul{but:List UInt8}:∀ {s:List UInt8} {x:Nat} {r:List UInt8},one but s=some (x,r)->r.length<s.length/\x<256
 |[],x,r,h=>by simp[one]at h
 |c::t,x,r,h=>by
  simp only[one]at h;split at h
  ·cases t with
   |nil=>cases h
   |cons d t'=>
    simp only at h;split at h
    ·match t',h with
     |[],h=>cases h
     |[_],h=>cases h
     |a::b::t'',h=>
      simp only at h;split at h
      ·rename_i x' y' hx hy;cases h;have:=Vc hx;have:=Vc hy;exact⟨by simp<;>omega,by omega⟩
      ·cases h
    ·split at h
     ·cases h;exact⟨by simp<;>omega,UInt8.toNat_lt _⟩
     ·cases h
  ·split at h
   ·cases h
   ·cases h;exact⟨by simp,UInt8.toNat_lt _⟩
theorem GA{q:Q4}{s:List UInt8}{q':Q4}{r:List UInt8}(h:Xc q s=some (q',r)):r.length<s.length:=by
 unfold Xc at h;split at h
 ·cases h
 ·rename_i a t h1;have l1:=Ul h1;split at h
  ·rename_i hs;have l0:=Z6 hs;split at h
   ·cases h
   ·rename_i b t' h2;have l2:=Ul h2;split at h
    ·cases h;omega
    ·cases h
  ·cases h;omega
theorem Eh:∀ {f:Nat} {q:Q4} {s:List UInt8} {q':Q4} {r:List UInt8},ZU f q s=some (q',r)->r.length<s.length
 |0,_,_,_,_,h=>by cases h
 |f+1,q,s,q',r,h=>by
  simp only[ZU]at h;split at h
  ·cases h
  ·rename_i q1 r1 h1;have l1:=GA h1;split at h
   ·rename_i hs;have:=Z6 hs;cases h;omega
   ·have:=Eh h;omega
theorem ZeL{f:Nat}{s:List UInt8}{q:Q4}{r:List UInt8}(h:Yt f s=some (q,r)):r.length<s.length:=by
 unfold Yt at h;split at h
 ·cases h
 ·rename_i q1 r1 h1;have l1:=Eh h1
  have hr:r=r1:=by
   simp only at h;generalize (if Zg 94 s=true then q1.not else q1)=q2 at h;by_cases hq:q2.isNone=true
   ·rw[if_pos hq]at h;cases h
   ·rw[if_neg hq]at h;cases h;rfl
  subst hr;split at l1
  ·rename_i hs;have:=Z6 hs;omega
  ·omega
theorem Xw{s:List UInt8}{m:Nat}{r:List UInt8}(h:Z4 s=some (m,r)):r.length<s.length/\m<=15:=by
 match s,h with
 |[],h=>cases h
 |[a],h=>
  simp only[Z4]at h;by_cases hd:ZS a=true
  ·rw[if_pos hd]at h;simp only[ZS,decide_eq_true_eq]at hd;cases h;exact⟨by simp,by omega⟩
  ·rw[if_neg hd]at h;cases h
 |a::b::t,h=>
  simp only[Z4]at h;split at h
  ·rename_i ha;simp only[ZS,decide_eq_true_eq]at ha;split at h
   ·split at h
    ·cases h
    ·split at h
     ·split at h
      ·cases h
      ·split at h
       ·cases h;exact⟨by simp<;>omega,by omega⟩
       ·cases h
     ·split at h
      ·cases h;exact⟨by simp,by omega⟩
      ·cases h
   ·cases h;exact⟨by simp,by omega⟩
  ·cases h
theorem Gx{s:List UInt8}{m n:Int}{r:List UInt8}(h:Z5 s=some (m,n,r)):r.length<s.length/\(0<=m/\m<=15)/\(-1<=n/\n<=15):=by
 unfold Z5 at h;split at h
 ·cases h
 ·rename_i m' r1 h1;have l1:=Xw h1;split at h
  ·rename_i h44;have l44:=Z6 h44;split at h
   ·rename_i h125;have l125:=Z6 h125;cases h;exact⟨by omega,by omega,by omega⟩
   ·split at h
    ·cases h
    ·rename_i n' r2 h2;have l2:=Xw h2;split at h
     ·rename_i h3;have l3:=Z6 h3.2;cases h;exact⟨by omega,by omega,by omega⟩
     ·cases h
  ·split at h
   ·rename_i h125;have l125:=Z6 h125;cases h;exact⟨by omega,by omega,by omega⟩
   ·cases h
theorem Zhd{x:Rx}{s:List UInt8}{y:Rx}{r:List UInt8}(h:sign x s=some (y,r)):r.length<=s.length:=by
 unfold sign at h;have:=Xu s;split at h
 ·cases h;omega
 ·split at h
  ·cases h;omega
  ·split at h
   ·cases h;omega
   ·split at h
    ·split at h
     ·cases h
     ·rename_i m n r1 h1;have:=Gx h1;cases h;omega
    ·cases h;omega
theorem D3(f:Nat):(∀(l row:List Rx) (s:List UInt8) (x:Rx) (r:List UInt8),altR f l row s=some (x,r)->r.length<=s.length) /\
 (∀(s:List UInt8) (x:Rx) (r:List UInt8),XL f s=some (x,r)->r.length<s.length) /\
 (∀(s:List UInt8) (x:Rx) (r:List UInt8),VD f s=some (x,r)->r.length<s.length):=by
 induction f with
 |zero=>exact⟨λ_ _ _ _ _ h=>by simp[altR]at h,λ_ _ _ h=>by simp[XL]at h,λ_ _ _ h=>by simp[VD]at h⟩
 |succ f ih=>
  obtain⟨ia,ip,it⟩:=ih;refine⟨λl row s x r h=>?_,λs x r h=>?_,λs x r h=>?_⟩
  ·simp only[altR]at h;split at h
   ·split at h
    ·rename_i h1;have:=Z6 h1;have:=ia _ _ _ _ _ h;omega
    ·cases h;omega
   ·split at h
    ·cases h
    ·rename_i y t h1;have:=ip _ _ _ h1;have:=ia _ _ _ _ _ h;omega
  ·simp only[XL]at h;split at h
   ·cases h
   ·rename_i y t h1;have:=it _ _ _ h1;have:=Zhd h;omega
  ·simp only[VD]at h;split at h
   ·rename_i h1;have:=Z6 h1;cases h;omega
   ·split at h
    ·rename_i h1;have:=Z6 h1;split at h
     ·cases h
     ·rename_i q t h2;have:=ZeL h2;cases h;omega
    ·split at h
     ·rename_i h1;have:=Z6 h1;split at h
      ·cases h
      ·rename_i y t h2;have:=ia _ _ _ _ _ h2;split at h
       ·rename_i h3;have:=Z6 h3;cases h;omega
       ·cases h
     ·split at h
      ·cases h
      ·rename_i b t h2;have:=(Ul h2).1;cases h;omega
def Q4.Ok(q:Q4):Prop:=U64 q.a/\U64 q.b/\U64 q.c/\U64 q.d
theorem Es{w:Int}(h:U64 w){k:Nat}(hk:k<64):U64 (YD w k):=by
 unfold YD;obtain⟨h1,h2⟩:=h;have hw:w.toNat<2 ^ 64:=by omega
 have:=Nat.or_lt_two_pow hw (Nat.pow_lt_pow_right (by omega:1<2) hk);constructor<;>omega
theorem Q4.with_ok{q:Q4}(h:q.Ok){n:Nat}(hn:n<256):(q.with n).Ok:=by
 obtain⟨h1,h2,h3,h4⟩:=h
 unfold Q4.with
 split
 ·exact⟨Es h1 (by omega),h2,h3,h4⟩
 ·split
  ·exact⟨h1,Es h2 (by omega),h3,h4⟩
  ·split
   ·exact⟨h1,h2,Es h3 (by omega),h4⟩
   ·exact⟨h1,h2,h3,Es h4 (by omega)⟩
theorem Q4.withAll_ok:∀ {k:Nat} {q:Q4} (_:q.Ok) {n:Nat},n+k<=256->(q.withAll n k).Ok
 |0,_,h,_,_=>h
 |k+1,_,h,n,hn=>Q4.withAll_ok (Q4.with_ok h (by omega)) (by omega)
theorem Q4.none_ok:Q4.none.Ok:=by unfold Q4.none;refine⟨?_,?_,?_,?_⟩<;>constructor<;>simp
theorem Q4.all_ok:Q4.all.Ok:=by unfold Q4.all;refine⟨?_,?_,?_,?_⟩<;>constructor<;>simp
theorem Q4.not_ok{q:Q4}(h:q.Ok):q.not.Ok:=by
 obtain⟨⟨a,b⟩,⟨c,d⟩,⟨e,f⟩,⟨g,i⟩⟩:=h;unfold Q4.not;refine⟨?_,?_,?_,?_⟩<;>constructor<;>simp only<;>omega
theorem BF{q:Q4}(hq:q.Ok){s:List UInt8}{q':Q4}{r:List UInt8}(h:Xc q s=some (q',r)):q'.Ok:=by
 unfold Xc at h;split at h
 ·cases h
 ·rename_i a t h1;have l1:=Ul h1;split at h
  ·split at h
   ·cases h
   ·rename_i b t' h2;have l2:=Ul h2;split at h
    ·cases h;exact Q4.withAll_ok hq (by omega)
    ·cases h
  ·cases h;exact Q4.withAll_ok hq (by omega)
theorem Eg:∀ {f:Nat} {q:Q4} (_:q.Ok) {s:List UInt8} {q':Q4} {r:List UInt8},ZU f q s=some (q',r)->q'.Ok
 |0,_,_,_,_,_,h=>by cases h
 |f+1,q,hq,s,q',r,h=>by
  simp only[ZU]at h;split at h
  ·cases h
  ·rename_i q1 r1 h1;have l1:=BF hq h1;split at h
   ·cases h;exact l1
   ·exact Eg l1 h
theorem Dv{f:Nat}{s:List UInt8}{q:Q4}{r:List UInt8}(h:Yt f s=some (q,r)):q.Ok:=by
 unfold Yt at h;split at h
 ·cases h
 ·rename_i q1 r1 h1;have l1:=Eg Q4.none_ok h1
  have l2:(if Zg 94 s=true then q1.not else q1).Ok:=by
   split
   ·exact Q4.not_ok l1
   ·exact l1
  simp only at h;generalize (if Zg 94 s=true then q1.not else q1)=q2 at h l2;by_cases hq:q2.isNone=true
  ·rw[if_pos hq]at h;cases h
  ·rw[if_neg hq]at h;cases h;exact l2
end Go.Proofs.YtbchkjfnakabkaaGreatDoor.PX
namespace Go.Proofs.YtbchkjfnakabkaaGreatDoor
open Go.RowKit PX
def JO:List PanicEntry:=[{ v:=.iface 202 (.agg #[]),recovered:=false }]
theorem E8(w:World):Calls Tryz.prog 174 #[.bool true] w λe w'=>e=.returned (.tuple #[])/\w'=w:=by
 go_enter Tryz.func174,Tryz.ntmps174
 go_wp2_with fail
 go_end0
 exact⟨rfl,rfl⟩
theorem Vq(w:World):Calls Tryz.prog 174 #[.bool false] w λe w'=>e=.panicked JO/\w'=w:=by
 go_enter Tryz.func174,Tryz.ntmps174
 go_wp2_with fail
 exact⟨rfl,rfl,rfl⟩
def ReadAt(w:World)(rb:Nat)(l:List UInt8):Prop:=w.heap[rb]?=some (.cells #[.string ⟨l.toArray⟩] 206 (0,0))
theorem Uh(l:List UInt8)(c:UInt8):Lib.hasPrefix l [c]=Zg c l:=by
 cases l with
 |nil=>rfl
 |cons d r=>
  simp only[Lib.hasPrefix,Zg,List.isPrefixOf,Bool.and_true];by_cases h:c=d
  ·subst h;simp
  ·rw[beq_eq_false_iff_ne.2 h,beq_eq_false_iff_ne.2 (Ne.symm h)]
theorem DO(l:List UInt8)(c:UInt8):Lib.trimPrefix l [c]=if Zg c l then l.tail else l:=by
 rw[Lib.trimPrefix,Uh];simp
theorem Ug(w:World)(rb:Nat)(l:List UInt8)(c:UInt8)(h:ReadAt w rb l) :
 Calls Tryz.prog 188 #[.pointer (some ⟨rb,0,none⟩),.string ⟨#[c]⟩] w λe w'=>e=.returned (.bool (Zg c l))/\ReadAt w' rb (if Zg c l then l.tail else l)/\Only (λk=>k=rb) w w':=by
 unfold ReadAt at h ⊢;have hcut:=Tryz.strings_CutPrefix ⟨l.toArray⟩ ⟨#[c]⟩ w;simp only[]at hcut;rw[Uh,DO]at hcut
 obtain⟨S,HS⟩:∃ S:ByteArray,Hid ((⟨l.toArray⟩:ByteArray)=S):=⟨_,Hd rfl⟩
 obtain⟨C,HCC⟩:∃ C:ByteArray,Hid ((⟨#[c]⟩:ByteArray)=C):=⟨_,Hd rfl⟩
 obtain⟨R,HR⟩:∃ R:ByteArray,Hid ((⟨(if Zg c l then l.tail else l).toArray⟩:ByteArray)=R):=⟨_,Hd rfl⟩
 rw[HS.out]at h hcut;rw[HCC.out,HR.out]at hcut;have j0:w.cell? ⟨rb,0,none⟩=some (.string S):=by rw[Za h];rfl
 have z0:=Zc h 0;have HB:=Hd h;clear h;have a0:=Hd hcut;clear hcut;rw[HCC.out];cases hs:Zg c l
 ·rw[hs]at a0
  go_enter Tryz.func188,Tryz.ntmps188
  go_wp2_with (go_at_call 194;refine a0.out.mono ?_;rintro e w1 ⟨rfl,rfl⟩)
  go_ret
  refine⟨rfl,?_,Only.refl _ _⟩;rw[HB.out,<-HS.out]
 ·rw[hs]at a0
  go_enter Tryz.func188,Tryz.ntmps188
  go_wp2_with (go_at_call 194;refine a0.out.mono ?_;rintro e w1 ⟨rfl,rfl⟩)
  go_ret
  refine⟨rfl,?_,Only.setCell (Only.refl (λk=>k=rb) _) (p:=⟨rb,0,none⟩) (.inl rfl) _⟩;rw[Zf HB.out,<-HR.out,hs];simp
theorem QP(l:List UInt8)(c:UInt8):Lib.indexByte l c<0↔c∉l:=by
 have:=Lib.contains_iff_indexByte l c;rw[Bool.eq_iff_iff,decide_eq_true_iff,List.contains_iff_mem]at this;rw[this];omega
theorem Zih(c:UInt8)(r:List UInt8):(⟨(c::r).toArray⟩:ByteArray).extract 1 (r.length+1)=⟨r.toArray⟩:=by
 simp[ByteArray.extract_mk]
theorem ba_ne(c:UInt8)(r:List UInt8):¬ (⟨(c::r).toArray⟩:ByteArray).toList=[]:=by
 rw[Lib.toList_data];simp
theorem ZfO(w:World)(rb:Nat)(but:ByteArray)(h:ReadAt w rb []) :
 Calls Tryz.prog 201 #[.pointer (some ⟨rb,0,none⟩),.string but] w λe w'=>e=.panicked JO/\w'=w:=by
 unfold ReadAt at h;have j0:w.cell? ⟨rb,0,none⟩=some (.string ⟨#[]⟩):=by rw[Za h];rfl
 go_enter Tryz.func201,Tryz.ntmps201
 go_wp2_with (go_at_call 174;refine(Vq _).mono ?_;rintro e w1 ⟨rfl,rfl⟩)
 exact⟨rfl,rfl,rfl⟩
structure Full (S:ByteArray) (c:UInt8) (r:List UInt8):Prop where
 ne:¬ S.toList=[]
 em:S.toList.isEmpty=false
 size:S.size=r.length+1
 at0:∀ h:0<S.size,S[0]'h=c
 rest:S.extract 1 (r.length+1)=⟨r.toArray⟩
theorem full(c:UInt8)(r:List UInt8){S:ByteArray}(h:(⟨(c::r).toArray⟩:ByteArray)=S):Full S c r:=by
 subst h;have d0:=ba_ne c r;refine⟨d0,?_,rfl,λ_=>rfl,Zih c r⟩
 cases h:(⟨(c::r).toArray⟩:ByteArray).toList with
 |nil=>exact absurd h d0
 |cons _ _=>rfl
theorem Zcz(c:UInt8):wrap64 (c.toNat:Int)=c.toNat:=by
 have:=UInt8.toNat_lt c;unfold wrap64;omega
theorem US(but:ByteArray)(c:UInt8)(w:World):Calls Tryz.prog 204 #[.string but,.int .u8 c.toNat] w λe w'=>w'=w/\∃ n:Int,e=.returned (.int .i64 n)/\(n<0↔c∉but.data.toList):=by
 refine(Tryz.strings_IndexByte but c.toNat w).mono ?_;rintro e w' ⟨rfl,rfl⟩;refine⟨rfl,_,rfl,?_⟩;rw[QP];simp
theorem ZfP(w:World)(rb:Nat)(but:ByteArray)(c:UInt8)(r:List UInt8)(h:ReadAt w rb (c::r))(hb:c∈but.data.toList) :
 Calls Tryz.prog 201 #[.pointer (some ⟨rb,0,none⟩),.string but] w λe w'=>e=.panicked JO/\w'=w:=by
 unfold ReadAt at h
 obtain⟨S,HS⟩:∃ S:ByteArray,Hid ((⟨(c::r).toArray⟩:ByteArray)=S):=⟨_,Hd rfl⟩
 obtain⟨d0,q0,m0,hat,-⟩:=full c r HS.out;rw[HS.out]at h;have j0:w.cell? ⟨rb,0,none⟩=some (.string S):=by rw[Za h];rfl
 have b0:=Hd (US but c w)
 go_enter Tryz.func201,Tryz.ntmps201
 go_wp2_with (first
  |(go_at_call 204;refine b0.out.mono ?_;rintro e w1 ⟨rfl,n,rfl,hn⟩;have y0:¬ n<0:=λh0=>hn.1 h0 hb)
  |(go_at_call 174;refine(Vq _).mono ?_;rintro e w1 ⟨rfl,rfl⟩))
 exact⟨rfl,rfl,rfl⟩
theorem ZdI(w:World)(rb:Nat)(but:ByteArray)(c:UInt8)(r:List UInt8)(h:ReadAt w rb (c::r))(hb:c∉but.data.toList) :
 Calls Tryz.prog 201 #[.pointer (some ⟨rb,0,none⟩),.string but] w λe w'=>e=.returned (.int .i64 c.toNat)/\ReadAt w' rb r/\Only (λk=>k=rb) w w':=by
 unfold ReadAt at h ⊢
 obtain⟨S,HS⟩:∃ S:ByteArray,Hid ((⟨(c::r).toArray⟩:ByteArray)=S):=⟨_,Hd rfl⟩
 obtain⟨d0,q0,m0,hat,hrest⟩:=full c r HS.out
 obtain⟨R,HR⟩:∃ R:ByteArray,Hid ((⟨r.toArray⟩:ByteArray)=R):=⟨_,Hd rfl⟩
 rw[HR.out]at hrest;rw[HS.out]at h;have j0:w.cell? ⟨rb,0,none⟩=some (.string S):=by rw[Za h];rfl
 have z0:=Zc h 0;have HB:=Hd h;clear h;have b0:=Hd (US but c w)
 go_enter Tryz.func201,Tryz.ntmps201
 go_wp2_with (first
  |(go_at_call 204;refine b0.out.mono ?_;rintro e w1 ⟨rfl,n,rfl,hn⟩;have y0:n<0:=hn.2 hb)
  |(go_at_call 174;refine(E8 _).mono ?_;rintro e w1 ⟨rfl,rfl⟩))
 go_ret
 refine⟨ZT (Zcz c),?_,Only.setCell (Only.refl (λk=>k=rb) _) (p:=⟨rb,0,none⟩) (.inl rfl) _⟩;rw[Zf HB.out,HR.out];rfl
end Go.Proofs.YtbchkjfnakabkaaGreatDoor
namespace Go.Proofs.YtbchkjfnakabkaaGreatDoor
open Go.RowKit PX
theorem W9{c:UInt8}{v:Nat}(h:hexv c=some v):(48<=c.toNat/\c.toNat<=57/\c.toNat=v+48)\/(97<=c.toNat/\c.toNat<=102/\c.toNat=v+87)\/(65<=c.toNat/\c.toNat<=70/\c.toNat=v+55):=by
 unfold hexv at h;split at h
 ·cases h;omega
 ·split at h
  ·cases h;omega
  ·split at h
   ·cases h;omega
   ·cases h
theorem ZdR(z:Int)(w:World):Calls Tryz.prog 226 #[.int .u8 z] w λe w'=>e=.returned (.int .u8 (Go.bits .or .u8 z 32))/\w'=w:=by
 go_enter Tryz.func226,Tryz.ntmps226
 go_wp2_with fail
 go_ret
 exact⟨rfl,rfl⟩
theorem or32(n:Nat)(hn:n<256):Go.bits .or .u8 (n:Int) 32=(n ||| 32:Nat):=by
 have key:∀ n:Nat,n<256->Go.bits .or .u8 (n:Int) 32=(n ||| 32:Nat):=by decide +kernel
 exact key n hn
theorem ZfI(n:Nat)(h1:97<=n)(h2:n<=102):n ||| 32=n:=by
 have key:∀ n,n<103->97<=n->n ||| 32=n:=by decide
 exact key n (by omega) h1
theorem Zhr(n:Nat)(h1:65<=n)(h2:n<=70):n ||| 32=n+32:=by
 have key:∀ n,n<71->65<=n->n ||| 32=n+32:=by decide
 exact key n (by omega) h1
theorem Zf9(a b:UInt8)(x y:Nat)(ha:hexv a=some x)(hb:hexv b=some y)(w:World) :
 Calls Tryz.prog 215 #[.string ⟨#[a,b]⟩,.int .i64 16,.int .i64 8] w λe w'=>e=.returned (.tuple #[.int .u64 ((16*x+y:Nat):Int),.nilIface])/\Below w.heap.size w w':=by
 obtain⟨S,HS⟩:∃ S:ByteArray,Hid ((⟨#[a,b]⟩:ByteArray)=S):=⟨_,Hd rfl⟩
 have hx:=Vc ha;have hy:=Vc hb;have d0:¬ S.toList=[]:=by rw[<-HS.out,Lib.toList_data];simp
 have q0:S.toList.isEmpty=false:=by rw[<-HS.out,Lib.toList_data];rfl
 have m0:S.size=2:=by rw[<-HS.out];rfl
 have hconv:∀ W:World,(convert 9 145 (.string S)).run Tryz.prog W=.ok (.slice (some ⟨W.heap.size,0,none⟩) S.size (grownCap W S.size 0 5)) (Lib.bytesWorld W 5 S):=
  λW=>Lib.run_convert_string_bytes W _ _ _ S Tryz.underlying9 Tryz.underlying145 Tryz.underlying5
 have r0:∀ k,k<2->∃ (c:UInt8) (v:Nat),hexv c=some v/\(Lib.bytesWorld w 5 S).cell? ⟨w.heap.size,k,none⟩=some (.int .u8 c.toNat)/\(if k=0 then x else 16*x+y)=16*(if k=0 then 0 else x)+v:=by
  intro k hk;have h:=λj hj=>Lib.bytesWorld_cell w 5 S j hj
  have t0:k=0\/k=1:=by omega
  rcases t0 with rfl|rfl
  ·refine⟨a,x,ha,?_,by simp⟩;rw[h 0 (by omega),<-HS.out];rfl
  ·refine⟨b,y,hb,?_,by simp⟩;rw[h 1 (by omega),<-HS.out];rfl
 have s0:=Hd r0;clear r0
 have o0:Below w.heap.size w (Lib.bytesWorld w 5 S):=
  ⟨rfl,rfl,rfl,by rw[Lib.bytesWorld_size];omega,λk hk=>Lib.bytesWorld_at_old _ _ _ _ hk⟩
 have n0:=Hd o0;clear o0;rw[HS.out]
 go_enter Tryz.func215,Tryz.ntmps215
 go_wp2_with fail
 generalize hW:Lib.bytesWorld w 5 S=W at s0 n0 ⊢
 obtain⟨K,hKe⟩:∃ K:Int,K=1152921504606846976:=⟨_,rfl⟩
 have hK:1000<=K:=by omega
 rw[<-hKe];clear hKe
 go_loopw [12,13,101] (λu n i wr=>∃ k:Nat,k<=2/\i=.int .i64 k/\u=.bool false/\n=.int .u64 ((if k=0 then 0 else if k=1 then x else 16*x+y:Nat):Int)/\wr=W) (λ_ _ i _=>2 - (intOf i).toNat)
 case atStart=>exact⟨0,by omega,rfl,rfl,rfl,rfl⟩
 case round=>
  obtain⟨k,hk,rfl,rfl,rfl,rfl⟩:=hrel;by_cases hk2:k=2
  ·subst hk2
   go_wp2_with fail
   go_ret2
   exact⟨rfl,n0.out⟩
  ·obtain⟨c,v,hv,hcell,hnext⟩:=s0.out k (by omega);have hv16:=Vc hv
   obtain⟨z,hz⟩:∃ z:Nat,z=c.toNat:=⟨_,rfl⟩
   have i0:=W9 hv;rw[<-hz]at hcell i0;clear hz hv
   obtain⟨m,hm⟩:∃ m:Nat,m=(if k=0 then 0 else if k=1 then x else 16*x+y):=⟨_,rfl⟩
   have hm15:m<16:=by rw[hm];split<;>(try split)<;>omega
   have p0:(if k+1=0 then 0 else if k+1=1 then x else 16*x+y)=m*16+v:=by
    rw[hm];have:k=0\/k=1:=by omega
    rcases this with rfl|rfl
    ·simp at hnext ⊢;omega
    ·simp at hnext ⊢;omega
   have v0:=Hd p0;clear p0 hnext;rw[<-hm];clear hm;have hkk:(k:Int)<2:=by omega
   have g0:∀ d:Int,d=(m*16+v:Nat)→(∃k_1:Nat,k_1≤2∧Value.int IntKind.i64 ((k:Int)+1)=Value.int IntKind.i64 k_1∧Value.bool false=Value.bool false ∧
    Value.int IntKind.u64 d=Value.int IntKind.u64 ((if k_1=0 then 0 else if k_1=1 then x else 16*x+y:Nat):Int)/\True) /\
    2 - (intOf (Value.int IntKind.i64 ((k:Int)+1))).toNat<2 - (intOf (Value.int IntKind.i64 (k:Int))).toNat:=by
    rintro d rfl;refine⟨⟨k+1,by omega,by simp,rfl,?_,trivial⟩,by simp only[intOf];omega⟩;rw[v0.out]
   have f0:=Hd g0;clear g0;have e5:¬ K<=(m:Int):=by omega
   rcases i0 with⟨h1,h2,h3⟩|i0
   ·have e0:((z:Int)==95)=false:=by rw[beq_eq_false_iff_ne];omega
    have e1:(48:Int)<=z:=by omega
    have e2:(z:Int)<=57:=by omega
    go_wp2_with fail
    exact f0.out _ (by omega)
   ·obtain⟨l,hl,hl1⟩:∃ l:Nat,z ||| 32=l/\l=v+87:=by
     rcases i0 with⟨h1,h2,h3⟩|⟨h1,h2,h3⟩
     ·exact⟨_,ZfI z h1 h2,by omega⟩
     ·exact⟨_,Zhr z h1 h2,by omega⟩
    have c0:∀ w,Calls Tryz.prog 226 #[.int .u8 z] w λe w'=>e=.returned (.int .u8 l)/\w'=w:=by
     intro w;have h:=ZdR z w;rw[or32 z (by omega),hl]at h;exact h
    have k0:=Hd c0;clear c0;have e0:((z:Int)==95)=false:=by rw[beq_eq_false_iff_ne];omega
    have e1:(48:Int)<=z:=by omega
    have e2:¬ (z:Int)<=57:=by omega
    have e3:(97:Int)<=l:=by omega
    have e4:(l:Int)<=122:=by omega
    clear hl
    go_wp2_with (go_at_call 226;refine(k0.out _).mono ?_;rintro e w1 ⟨rfl,rfl⟩)
    obtain⟨⟨q,q1,q2,-, q3,-⟩,q5⟩:=f0.out ((m:Int)*16+((v:Int)+87 - 97+10)) (by omega);exact⟨⟨q,q1,q2,rfl,q3,trivial⟩,q5⟩
theorem ZhN(a b:UInt8)(x y:Nat)(ha:hexv a=some x)(hb:hexv b=some y)(w:World) :
 Calls Tryz.prog 203 #[.string ⟨#[a,b]⟩,.int .i64 16,.int .i64 8] w λe w'=>e=.returned (.tuple #[.int .u64 ((16*x+y:Nat):Int),.nilIface])/\Below w.heap.size w w':=by
 have HX:=Hd (Zf9 a b x y ha hb w)
 obtain⟨S,HS⟩:∃ S:ByteArray,Hid ((⟨#[a,b]⟩:ByteArray)=S):=⟨_,Hd rfl⟩
 obtain⟨n,hn⟩:∃ n:Int,((16*x+y:Nat):Int)=n:=⟨_,rfl⟩
 rw[HS.out,hn]at HX;rw[HS.out,hn]
 go_enter Tryz.func203,Tryz.ntmps203
 go_wp2_with (go_at_call 215;refine HX.out.mono ?_;rintro e w1 ⟨rfl,hb1⟩)
 go_ret2
 exact⟨rfl,hb1⟩
