import Derived.Test.YtbchkjfnakabkaaGreatDoorB2
import Derived.Test.YtbchkjfnakabkaaGreatDoorShelf
import Derived.Lib.ConvBytes
set_option linter.unusedSimpArgs false
set_option linter.unusedVariables false
set_option maxHeartbeats 2000000
set_option maxRecDepth 100000
namespace Go.Proofs.YtbchkjfnakabkaaGreatDoor.PX
theorem Zr{c:UInt8}:∀ {s:List UInt8},Zg c s=true→s=c::s.tail
 |[],h=>by cases h
 |d::r,h=>by simp only[Zg,beq_iff_eq]at h;subst h;rfl
theorem Xs(s:List UInt8):s.tail.length≤s.length:=by simp
theorem Z6{c:UInt8}{s:List UInt8}(h:Zg c s=true):s.tail.length+1=s.length:=by
 rw[Zr h];simp
theorem JN{c:UInt8}{n:Nat}(h:hexv c=some n):n<16:=by
 unfold hexv at h;split at h
 ·cases h;omega
 ·split at h
  ·cases h;omega
  ·split at h
   ·cases h;omega
   ·cases h
theorem V5{but:List UInt8}:∀ {s:List UInt8} {x:Nat} {r:List UInt8},one but s=some (x,r)→r.length<s.length∧x<256
 |[],x,r,h=>by simp[one]at h
 |c::t,x,r,h=>by
  simp only[one]at h;split at h
  ·cases t with
   |nil=>cases h
   |cons d t'=>
    simp only at h;split at h
    ·match t',h with
     |[],h=>cases h
     |[_],h=>cases h
     |a::b::t'',h=>
      simp only at h;split at h
      ·rename_i x' y' hx hy;cases h;have:=JN hx;have:=JN hy;exact⟨by simp<;>omega,by omega⟩
      ·cases h
    ·split at h
     ·cases h;exact⟨by simp<;>omega,UInt8.toNat_lt _⟩
     ·cases h
  ·split at h
   ·cases h
   ·cases h;exact⟨by simp,UInt8.toNat_lt _⟩
theorem Gl{q:Q4}{s:List UInt8}{q':Q4}{r:List UInt8}(h:Xa q s=some (q',r)):r.length<s.length:=by
 unfold Xa at h;split at h
 ·cases h
 ·rename_i a t h1;have l1:=V5 h1;split at h
  ·rename_i hs;have l0:=Z6 hs;split at h
   ·cases h
   ·rename_i b t' h2;have l2:=V5 h2;split at h
    ·cases h;omega
    ·cases h
  ·cases h;omega
theorem U2:∀ {f:Nat} {q:Q4} {s:List UInt8} {q':Q4} {r:List UInt8},ZS f q s=some (q',r)→r.length<s.length
 |0,_,_,_,_,h=>by cases h
 |f+1,q,s,q',r,h=>by
  simp only[ZS]at h;split at h
  ·cases h
  ·rename_i q1 r1 h1;have l1:=Gl h1;split at h
   ·rename_i hs;have:=Z6 hs;cases h;omega
   ·have:=U2 h;omega
theorem Zd4{f:Nat}{s:List UInt8}{q:Q4}{r:List UInt8}(h:Yp f s=some (q,r)):r.length<s.length:=by
 unfold Yp at h;split at h
 ·cases h
 ·rename_i q1 r1 h1;have l1:=U2 h1
  have hr:r=r1:=by
   simp only at h;generalize (if Zg 94 s=true then q1.not else q1)=q2 at h;by_cases hq:q2.isNone=true
   ·rw[if_pos hq]at h;cases h
   ·rw[if_neg hq]at h;cases h;rfl
  subst hr;split at l1
  ·rename_i hs;have:=Z6 hs;omega
  ·omega
theorem Xu{s:List UInt8}{m:Nat}{r:List UInt8}(h:Z0 s=some (m,r)):r.length<s.length∧m≤15:=by
 match s,h with
 |[],h=>cases h
 |[a],h=>
  simp only[Z0]at h;by_cases hd:ZQ a=true
  ·rw[if_pos hd]at h;simp only[ZQ,decide_eq_true_eq]at hd;cases h;exact⟨by simp,by omega⟩
  ·rw[if_neg hd]at h;cases h
 |a::b::t,h=>
  simp only[Z0]at h;split at h
  ·rename_i ha;simp only[ZQ,decide_eq_true_eq]at ha;split at h
   ·split at h
    ·cases h
    ·split at h
     ·split at h
      ·cases h
      ·split at h
       ·cases h;exact⟨by simp<;>omega,by omega⟩
       ·cases h
     ·split at h
      ·cases h;exact⟨by simp,by omega⟩
      ·cases h
   ·cases h;exact⟨by simp,by omega⟩
  ·cases h
theorem Gj{s:List UInt8}{m n:Int}{r:List UInt8}(h:Z5 s=some (m,n,r)):r.length<s.length∧(0≤m∧m≤15)∧(-1≤n∧n≤15):=by
 unfold Z5 at h;split at h
 ·cases h
 ·rename_i m' r1 h1;have l1:=Xu h1;split at h
  ·rename_i h44;have l44:=Z6 h44;split at h
   ·rename_i h125;have l125:=Z6 h125;cases h;exact⟨by omega,by omega,by omega⟩
   ·split at h
    ·cases h
    ·rename_i n' r2 h2;have l2:=Xu h2;split at h
     ·rename_i h3;have l3:=Z6 h3.2;cases h;exact⟨by omega,by omega,by omega⟩
     ·cases h
  ·split at h
   ·rename_i h125;have l125:=Z6 h125;cases h;exact⟨by omega,by omega,by omega⟩
   ·cases h
theorem Zgs{x:Rx}{s:List UInt8}{y:Rx}{r:List UInt8}(h:sign x s=some (y,r)):r.length≤s.length:=by
 unfold sign at h;have:=Xs s;split at h
 ·cases h;omega
 ·split at h
  ·cases h;omega
  ·split at h
   ·cases h;omega
   ·split at h
    ·split at h
     ·cases h
     ·rename_i m n r1 h1;have:=Gj h1;cases h;omega
    ·cases h;omega
theorem DE(f:Nat):(∀(l row:List Rx) (s:List UInt8) (x:Rx) (r:List UInt8),altR f l row s=some (x,r)→r.length≤s.length) ∧
 (∀(s:List UInt8) (x:Rx) (r:List UInt8),XI f s=some (x,r)→r.length<s.length) ∧
 (∀(s:List UInt8) (x:Rx) (r:List UInt8),Vm f s=some (x,r)→r.length<s.length):=by
 induction f with
 |zero=>exact⟨fun _ _ _ _ _ h=>by simp[altR]at h,fun _ _ _ h=>by simp[XI]at h,fun _ _ _ h=>by simp[Vm]at h⟩
 |succ f ih=>
  obtain⟨ia,ip,it⟩:=ih;refine⟨fun l row s x r h=>?_,fun s x r h=>?_,fun s x r h=>?_⟩
  ·simp only[altR]at h;split at h
   ·split at h
    ·rename_i h1;have:=Z6 h1;have:=ia _ _ _ _ _ h;omega
    ·cases h;omega
   ·split at h
    ·cases h
    ·rename_i y t h1;have:=ip _ _ _ h1;have:=ia _ _ _ _ _ h;omega
  ·simp only[XI]at h;split at h
   ·cases h
   ·rename_i y t h1;have:=it _ _ _ h1;have:=Zgs h;omega
  ·simp only[Vm]at h;split at h
   ·rename_i h1;have:=Z6 h1;cases h;omega
   ·split at h
    ·rename_i h1;have:=Z6 h1;split at h
     ·cases h
     ·rename_i q t h2;have:=Zd4 h2;cases h;omega
    ·split at h
     ·rename_i h1;have:=Z6 h1;split at h
      ·cases h
      ·rename_i y t h2;have:=ia _ _ _ _ _ h2;split at h
       ·rename_i h3;have:=Z6 h3;cases h;omega
       ·cases h
     ·split at h
      ·cases h
      ·rename_i b t h2;have:=(V5 h2).1;cases h;omega
def Q4.Ok(q:Q4):Prop:=U64 q.a∧U64 q.b∧U64 q.c∧U64 q.d
theorem Ee{w:Int}(h:U64 w){k:Nat}(hk:k<64):U64 (Yy w k):=by
 unfold Yy;obtain⟨h1,h2⟩:=h;have hw:w.toNat<2 ^ 64:=by omega
 have:=Nat.or_lt_two_pow hw (Nat.pow_lt_pow_right (by omega:1<2) hk);constructor<;>omega
theorem Q4.with_ok{q:Q4}(h:q.Ok){n:Nat}(hn:n<256):(q.with n).Ok:=by
 obtain⟨h1,h2,h3,h4⟩:=h
 unfold Q4.with
 split
 ·exact⟨Ee h1 (by omega),h2,h3,h4⟩
 ·split
  ·exact⟨h1,Ee h2 (by omega),h3,h4⟩
  ·split
   ·exact⟨h1,h2,Ee h3 (by omega),h4⟩
   ·exact⟨h1,h2,h3,Ee h4 (by omega)⟩
theorem Q4.withAll_ok:∀ {k:Nat} {q:Q4} (_:q.Ok) {n:Nat},n+k≤256→(q.withAll n k).Ok
 |0,_,h,_,_=>h
 |k+1,_,h,n,hn=>Q4.withAll_ok (Q4.with_ok h (by omega)) (by omega)
theorem Q4.none_ok:Q4.none.Ok:=by unfold Q4.none;refine⟨?_,?_,?_,?_⟩<;>constructor<;>simp
theorem Q4.all_ok:Q4.all.Ok:=by unfold Q4.all;refine⟨?_,?_,?_,?_⟩<;>constructor<;>simp
theorem Q4.not_ok{q:Q4}(h:q.Ok):q.not.Ok:=by
 obtain⟨⟨a,b⟩,⟨c,d⟩,⟨e,f⟩,⟨g,i⟩⟩:=h;unfold Q4.not;refine⟨?_,?_,?_,?_⟩<;>constructor<;>simp only<;>omega
theorem D9{q:Q4}(hq:q.Ok){s:List UInt8}{q':Q4}{r:List UInt8}(h:Xa q s=some (q',r)):q'.Ok:=by
 unfold Xa at h;split at h
 ·cases h
 ·rename_i a t h1;have l1:=V5 h1;split at h
  ·split at h
   ·cases h
   ·rename_i b t' h2;have l2:=V5 h2;split at h
    ·cases h;exact Q4.withAll_ok hq (by omega)
    ·cases h
  ·cases h;exact Q4.withAll_ok hq (by omega)
theorem U1:∀ {f:Nat} {q:Q4} (_:q.Ok) {s:List UInt8} {q':Q4} {r:List UInt8},ZS f q s=some (q',r)→q'.Ok
 |0,_,_,_,_,_,h=>by cases h
 |f+1,q,hq,s,q',r,h=>by
  simp only[ZS]at h;split at h
  ·cases h
  ·rename_i q1 r1 h1;have l1:=D9 hq h1;split at h
   ·cases h;exact l1
   ·exact U1 l1 h
theorem W4{f:Nat}{s:List UInt8}{q:Q4}{r:List UInt8}(h:Yp f s=some (q,r)):q.Ok:=by
 unfold Yp at h;split at h
 ·cases h
 ·rename_i q1 r1 h1;have l1:=U1 Q4.none_ok h1
  have l2:(if Zg 94 s=true then q1.not else q1).Ok:=by
   split
   ·exact Q4.not_ok l1
   ·exact l1
  simp only at h;generalize (if Zg 94 s=true then q1.not else q1)=q2 at h l2;by_cases hq:q2.isNone=true
  ·rw[if_pos hq]at h;cases h
  ·rw[if_neg hq]at h;cases h;exact l2
end Go.Proofs.YtbchkjfnakabkaaGreatDoor.PX
namespace Go.Proofs.YtbchkjfnakabkaaGreatDoor
open Go.RowKit PX
def Jy:List PanicEntry:=[{ v:=.iface 202 (.agg #[]),recovered:=false }]
theorem EV(w:World):Calls Tryz.prog 174 #[.bool true] w fun e w'=>e=.returned (.tuple #[])∧w'=w:=by
 go_enter Tryz.func174,Tryz.ntmps174
 go_wp2_with fail
 go_end0
 exact⟨rfl,rfl⟩
theorem J6(w:World):Calls Tryz.prog 174 #[.bool false] w fun e w'=>e=.panicked Jy∧w'=w:=by
 go_enter Tryz.func174,Tryz.ntmps174
 go_wp2_with fail
 exact⟨rfl,rfl,rfl⟩
def ReadAt(w:World)(rb:Nat)(l:List UInt8):Prop:=w.heap[rb]?=some (.cells #[.string ⟨l.toArray⟩] 206 (0,0))
theorem VZ(l:List UInt8)(c:UInt8):Lib.hasPrefix l [c]=Zg c l:=by
 cases l with
 |nil=>rfl
 |cons d r=>
  simp only[Lib.hasPrefix,Zg,List.isPrefixOf,Bool.and_true];by_cases h:c=d
  ·subst h;simp
  ·rw[beq_eq_false_iff_ne.2 h,beq_eq_false_iff_ne.2 (Ne.symm h)]
theorem Dq(l:List UInt8)(c:UInt8):Lib.trimPrefix l [c]=if Zg c l then l.tail else l:=by
 rw[Lib.trimPrefix,VZ];simp
theorem VX(w:World)(rb:Nat)(l:List UInt8)(c:UInt8)(h:ReadAt w rb l) :
 Calls Tryz.prog 188 #[.pointer (some ⟨rb,0,none⟩),.string ⟨#[c]⟩] w fun e w'=>e=.returned (.bool (Zg c l))∧ReadAt w' rb (if Zg c l then l.tail else l)∧Only (fun k=>k=rb) w w':=by
 unfold ReadAt at h ⊢;have hcut:=Tryz.strings_CutPrefix ⟨l.toArray⟩ ⟨#[c]⟩ w;simp only[]at hcut;rw[VZ,Dq]at hcut
 obtain⟨S,HS⟩:∃ S:ByteArray,Hid ((⟨l.toArray⟩:ByteArray)=S):=⟨_,Hd rfl⟩
 obtain⟨C,HCC⟩:∃ C:ByteArray,Hid ((⟨#[c]⟩:ByteArray)=C):=⟨_,Hd rfl⟩
 obtain⟨R,HR⟩:∃ R:ByteArray,Hid ((⟨(if Zg c l then l.tail else l).toArray⟩:ByteArray)=R):=⟨_,Hd rfl⟩
 rw[HS.out]at h hcut;rw[HCC.out,HR.out]at hcut;have hc0:w.cell? ⟨rb,0,none⟩=some (.string S):=by rw[Zb h];rfl
 have hf0:=Zc h 0;have HB:=Hd h;clear h;have HCUT:=Hd hcut;clear hcut;rw[HCC.out];cases hs:Zg c l
 ·rw[hs]at HCUT
  go_enter Tryz.func188,Tryz.ntmps188
  go_wp2_with (go_at_call 194;refine HCUT.out.mono ?_;rintro e w1 ⟨rfl,rfl⟩)
  go_ret
  refine⟨rfl,?_,Only.refl _ _⟩;rw[HB.out,←HS.out]
 ·rw[hs]at HCUT
  go_enter Tryz.func188,Tryz.ntmps188
  go_wp2_with (go_at_call 194;refine HCUT.out.mono ?_;rintro e w1 ⟨rfl,rfl⟩)
  go_ret
  refine⟨rfl,?_,Only.setCell (Only.refl (fun k=>k=rb) _) (p:=⟨rb,0,none⟩) (.inl rfl) _⟩;rw[Zf HB.out,←HR.out,hs];simp
theorem Qu(l:List UInt8)(c:UInt8):Lib.indexByte l c<0↔c∉l:=by
 have:=Lib.contains_iff_indexByte l c;rw[Bool.eq_iff_iff,decide_eq_true_iff,List.contains_iff_mem]at this;rw[this];omega
theorem Zhw(c:UInt8)(r:List UInt8):(⟨(c::r).toArray⟩:ByteArray).extract 1 (r.length+1)=⟨r.toArray⟩:=by
 simp[ByteArray.extract_mk]
theorem ba_ne(c:UInt8)(r:List UInt8):¬ (⟨(c::r).toArray⟩:ByteArray).toList=[]:=by
 rw[Lib.toList_data];simp
theorem Ze3(w:World)(rb:Nat)(but:ByteArray)(h:ReadAt w rb []) :
 Calls Tryz.prog 201 #[.pointer (some ⟨rb,0,none⟩),.string but] w fun e w'=>e=.panicked Jy∧w'=w:=by
 unfold ReadAt at h;have hc0:w.cell? ⟨rb,0,none⟩=some (.string ⟨#[]⟩):=by rw[Zb h];rfl
 go_enter Tryz.func201,Tryz.ntmps201
 go_wp2_with (go_at_call 174;refine(J6 _).mono ?_;rintro e w1 ⟨rfl,rfl⟩)
 exact⟨rfl,rfl,rfl⟩
structure Full (S:ByteArray) (c:UInt8) (r:List UInt8):Prop where
 ne:¬ S.toList=[]
 em:S.toList.isEmpty=false
 size:S.size=r.length+1
 at0:∀ h:0<S.size,S[0]'h=c
 rest:S.extract 1 (r.length+1)=⟨r.toArray⟩
theorem full(c:UInt8)(r:List UInt8){S:ByteArray}(h:(⟨(c::r).toArray⟩:ByteArray)=S):Full S c r:=by
 subst h;have hne:=ba_ne c r;refine⟨hne,?_,rfl,fun _=>rfl,Zhw c r⟩
 cases h:(⟨(c::r).toArray⟩:ByteArray).toList with
 |nil=>exact absurd h hne
 |cons _ _=>rfl
theorem ZbT(c:UInt8):wrap64 (c.toNat:Int)=c.toNat:=by
 have:=UInt8.toNat_lt c;unfold wrap64;omega
theorem UH(but:ByteArray)(c:UInt8)(w:World):Calls Tryz.prog 204 #[.string but,.int .u8 c.toNat] w fun e w'=>w'=w∧∃ n:Int,e=.returned (.int .i64 n)∧(n<0↔c∉but.data.toList):=by
 refine(Tryz.strings_IndexByte but c.toNat w).mono ?_;rintro e w' ⟨rfl,rfl⟩;refine⟨rfl,_,rfl,?_⟩;rw[Qu];simp
theorem Ze4(w:World)(rb:Nat)(but:ByteArray)(c:UInt8)(r:List UInt8)(h:ReadAt w rb (c::r))(hb:c∈but.data.toList) :
 Calls Tryz.prog 201 #[.pointer (some ⟨rb,0,none⟩),.string but] w fun e w'=>e=.panicked Jy∧w'=w:=by
 unfold ReadAt at h
 obtain⟨S,HS⟩:∃ S:ByteArray,Hid ((⟨(c::r).toArray⟩:ByteArray)=S):=⟨_,Hd rfl⟩
 obtain⟨hne,hem,hsz,hat,-⟩:=full c r HS.out;rw[HS.out]at h;have hc0:w.cell? ⟨rb,0,none⟩=some (.string S):=by rw[Zb h];rfl
 have HIDX:=Hd (UH but c w)
 go_enter Tryz.func201,Tryz.ntmps201
 go_wp2_with (first
  |(go_at_call 204;refine HIDX.out.mono ?_;rintro e w1 ⟨rfl,n,rfl,hn⟩;have hn0:¬ n<0:=fun h0=>hn.1 h0 hb)
  |(go_at_call 174;refine(J6 _).mono ?_;rintro e w1 ⟨rfl,rfl⟩))
 exact⟨rfl,rfl,rfl⟩
theorem Zc0(w:World)(rb:Nat)(but:ByteArray)(c:UInt8)(r:List UInt8)(h:ReadAt w rb (c::r))(hb:c∉but.data.toList) :
 Calls Tryz.prog 201 #[.pointer (some ⟨rb,0,none⟩),.string but] w fun e w'=>e=.returned (.int .i64 c.toNat)∧ReadAt w' rb r∧Only (fun k=>k=rb) w w':=by
 unfold ReadAt at h ⊢
 obtain⟨S,HS⟩:∃ S:ByteArray,Hid ((⟨(c::r).toArray⟩:ByteArray)=S):=⟨_,Hd rfl⟩
 obtain⟨hne,hem,hsz,hat,hrest⟩:=full c r HS.out
 obtain⟨R,HR⟩:∃ R:ByteArray,Hid ((⟨r.toArray⟩:ByteArray)=R):=⟨_,Hd rfl⟩
 rw[HR.out]at hrest;rw[HS.out]at h;have hc0:w.cell? ⟨rb,0,none⟩=some (.string S):=by rw[Zb h];rfl
 have hf0:=Zc h 0;have HB:=Hd h;clear h;have HIDX:=Hd (UH but c w)
 go_enter Tryz.func201,Tryz.ntmps201
 go_wp2_with (first
  |(go_at_call 204;refine HIDX.out.mono ?_;rintro e w1 ⟨rfl,n,rfl,hn⟩;have hn0:n<0:=hn.2 hb)
  |(go_at_call 174;refine(EV _).mono ?_;rintro e w1 ⟨rfl,rfl⟩))
 go_ret
 refine⟨ZT (ZbT c),?_,Only.setCell (Only.refl (fun k=>k=rb) _) (p:=⟨rb,0,none⟩) (.inl rfl) _⟩;rw[Zf HB.out,HR.out];rfl
end Go.Proofs.YtbchkjfnakabkaaGreatDoor
namespace Go.Proofs.YtbchkjfnakabkaaGreatDoor
open Go.RowKit PX
theorem WF{c:UInt8}{v:Nat}(h:hexv c=some v):(48≤c.toNat∧c.toNat≤57∧c.toNat=v+48)∨(97≤c.toNat∧c.toNat≤102∧c.toNat=v+87)∨(65≤c.toNat∧c.toNat≤70∧c.toNat=v+55):=by
 unfold hexv at h;split at h
 ·cases h;omega
 ·split at h
  ·cases h;omega
  ·split at h
   ·cases h;omega
   ·cases h
theorem Zdc(z:Int)(w:World):Calls Tryz.prog 226 #[.int .u8 z] w fun e w'=>e=.returned (.int .u8 (Go.bits .or .u8 z 32))∧w'=w:=by
 go_enter Tryz.func226,Tryz.ntmps226
 go_wp2_with fail
 go_ret
 exact⟨rfl,rfl⟩
theorem or32(n:Nat)(hn:n<256):Go.bits .or .u8 (n:Int) 32=(n ||| 32:Nat):=by
 have key:∀ n:Nat,n<256→Go.bits .or .u8 (n:Int) 32=(n ||| 32:Nat):=by decide +kernel
 exact key n hn
theorem ZeX(n:Nat)(h1:97≤n)(h2:n≤102):n ||| 32=n:=by
 have key:∀ n,n<103→97≤n→n ||| 32=n:=by decide
 exact key n (by omega) h1
theorem ZgH(n:Nat)(h1:65≤n)(h2:n≤70):n ||| 32=n+32:=by
 have key:∀ n,n<71→65≤n→n ||| 32=n+32:=by decide
 exact key n (by omega) h1
theorem Zfn(a b:UInt8)(x y:Nat)(ha:hexv a=some x)(hb:hexv b=some y)(w:World) :
 Calls Tryz.prog 215 #[.string ⟨#[a,b]⟩,.int .i64 16,.int .i64 8] w fun e w'=>e=.returned (.tuple #[.int .u64 ((16*x+y:Nat):Int),.nilIface])∧Below w.heap.size w w':=by
 obtain⟨S,HS⟩:∃ S:ByteArray,Hid ((⟨#[a,b]⟩:ByteArray)=S):=⟨_,Hd rfl⟩
 have hx:=JN ha;have hy:=JN hb;have hne:¬ S.toList=[]:=by rw[←HS.out,Lib.toList_data];simp
 have hem:S.toList.isEmpty=false:=by rw[←HS.out,Lib.toList_data];rfl
 have hsz:S.size=2:=by rw[←HS.out];rfl
 have hconv:∀ W:World,(convert 9 145 (.string S)).run Tryz.prog W=.ok (.slice (some ⟨W.heap.size,0,none⟩) S.size (grownCap W S.size 0 5)) (Lib.bytesWorld W 5 S):=
  fun W=>Lib.run_convert_string_bytes W _ _ _ S Tryz.underlying9 Tryz.underlying145 Tryz.underlying5
 have hby:∀ k,k<2→∃ (c:UInt8) (v:Nat),hexv c=some v∧(Lib.bytesWorld w 5 S).cell? ⟨w.heap.size,k,none⟩=some (.int .u8 c.toNat)∧(if k=0 then x else 16*x+y)=16*(if k=0 then 0 else x)+v:=by
  intro k hk;have h:=fun j hj=>Lib.bytesWorld_cell w 5 S j hj
  have hk':k=0∨k=1:=by omega
  rcases hk' with rfl|rfl
  ·refine⟨a,x,ha,?_,by simp⟩;rw[h 0 (by omega),←HS.out];rfl
  ·refine⟨b,y,hb,?_,by simp⟩;rw[h 1 (by omega),←HS.out];rfl
 have HBY:=Hd hby;clear hby
 have hbl:Below w.heap.size w (Lib.bytesWorld w 5 S):=
  ⟨rfl,rfl,rfl,by rw[Lib.bytesWorld_size];omega,fun k hk=>Lib.bytesWorld_at_old _ _ _ _ hk⟩
 have HBL:=Hd hbl;clear hbl;rw[HS.out]
 go_enter Tryz.func215,Tryz.ntmps215
 go_wp2_with fail
 generalize hW:Lib.bytesWorld w 5 S=W at HBY HBL ⊢
 obtain⟨K,hKe⟩:∃ K:Int,K=1152921504606846976:=⟨_,rfl⟩
 have hK:1000≤K:=by omega
 rw[←hKe];clear hKe
 go_loopw [12,13,101] (fun u n i wr=>∃ k:Nat,k≤2∧i=.int .i64 k∧u=.bool false∧n=.int .u64 ((if k=0 then 0 else if k=1 then x else 16*x+y:Nat):Int)∧wr=W) (fun _ _ i _=>2 - (intOf i).toNat)
 case atStart=>exact⟨0,by omega,rfl,rfl,rfl,rfl⟩
 case round=>
  obtain⟨k,hk,rfl,rfl,rfl,rfl⟩:=hrel;by_cases hk2:k=2
  ·subst hk2
   go_wp2_with fail
   go_ret2
   exact⟨rfl,HBL.out⟩
  ·obtain⟨c,v,hv,hcell,hnext⟩:=HBY.out k (by omega);have hv16:=JN hv
   obtain⟨z,hz⟩:∃ z:Nat,z=c.toNat:=⟨_,rfl⟩
   have hcs:=WF hv;rw[←hz]at hcell hcs;clear hz hv
   obtain⟨m,hm⟩:∃ m:Nat,m=(if k=0 then 0 else if k=1 then x else 16*x+y):=⟨_,rfl⟩
   have hm15:m<16:=by rw[hm];split<;>(try split)<;>omega
   have hnx:(if k+1=0 then 0 else if k+1=1 then x else 16*x+y)=m*16+v:=by
    rw[hm];have:k=0∨k=1:=by omega
    rcases this with rfl|rfl
    ·simp at hnext ⊢;omega
    ·simp at hnext ⊢;omega
   have HNX:=Hd hnx;clear hnx hnext;rw[←hm];clear hm;have hkk:(k:Int)<2:=by omega
   have hend:∀ d:Int,d=(m*16+v:Nat)→(∃k_1:Nat,k_1≤2∧Value.int IntKind.i64 ((k:Int)+1)=Value.int IntKind.i64 k_1∧Value.bool false=Value.bool false ∧
    Value.int IntKind.u64 d=Value.int IntKind.u64 ((if k_1=0 then 0 else if k_1=1 then x else 16*x+y:Nat):Int)∧True) ∧
    2 - (intOf (Value.int IntKind.i64 ((k:Int)+1))).toNat<2 - (intOf (Value.int IntKind.i64 (k:Int))).toNat:=by
    rintro d rfl;refine⟨⟨k+1,by omega,by simp,rfl,?_,trivial⟩,by simp only[intOf];omega⟩;rw[HNX.out]
   have HEND:=Hd hend;clear hend;have e5:¬ K≤(m:Int):=by omega
   rcases hcs with⟨h1,h2,h3⟩|hcs
   ·have e0:((z:Int)==95)=false:=by rw[beq_eq_false_iff_ne];omega
    have e1:(48:Int)≤z:=by omega
    have e2:(z:Int)≤57:=by omega
    go_wp2_with fail
    exact HEND.out _ (by omega)
   ·obtain⟨l,hl,hl1⟩:∃ l:Nat,z ||| 32=l∧l=v+87:=by
     rcases hcs with⟨h1,h2,h3⟩|⟨h1,h2,h3⟩
     ·exact⟨_,ZeX z h1 h2,by omega⟩
     ·exact⟨_,ZgH z h1 h2,by omega⟩
    have hlow:∀ w,Calls Tryz.prog 226 #[.int .u8 z] w fun e w'=>e=.returned (.int .u8 l)∧w'=w:=by
     intro w;have h:=Zdc z w;rw[or32 z (by omega),hl]at h;exact h
    have HLOW:=Hd hlow;clear hlow;have e0:((z:Int)==95)=false:=by rw[beq_eq_false_iff_ne];omega
    have e1:(48:Int)≤z:=by omega
    have e2:¬ (z:Int)≤57:=by omega
    have e3:(97:Int)≤l:=by omega
    have e4:(l:Int)≤122:=by omega
    clear hl
    go_wp2_with (go_at_call 226;refine(HLOW.out _).mono ?_;rintro e w1 ⟨rfl,rfl⟩)
    obtain⟨⟨q,q1,q2,-, q3,-⟩,q5⟩:=HEND.out ((m:Int)*16+((v:Int)+87 - 97+10)) (by omega);exact⟨⟨q,q1,q2,rfl,q3,trivial⟩,q5⟩
theorem Zg3(a b:UInt8)(x y:Nat)(ha:hexv a=some x)(hb:hexv b=some y)(w:World) :
 Calls Tryz.prog 203 #[.string ⟨#[a,b]⟩,.int .i64 16,.int .i64 8] w fun e w'=>e=.returned (.tuple #[.int .u64 ((16*x+y:Nat):Int),.nilIface])∧Below w.heap.size w w':=by
 have HX:=Hd (Zfn a b x y ha hb w)
 obtain⟨S,HS⟩:∃ S:ByteArray,Hid ((⟨#[a,b]⟩:ByteArray)=S):=⟨_,Hd rfl⟩
 obtain⟨n,hn⟩:∃ n:Int,((16*x+y:Nat):Int)=n:=⟨_,rfl⟩
 rw[HS.out,hn]at HX;rw[HS.out,hn]
 go_enter Tryz.func203,Tryz.ntmps203
 go_wp2_with (go_at_call 215;refine HX.out.mono ?_;rintro e w1 ⟨rfl,hb1⟩)
 go_ret2
 exact⟨rfl,hb1⟩
end Go.Proofs.YtbchkjfnakabkaaGreatDoor
