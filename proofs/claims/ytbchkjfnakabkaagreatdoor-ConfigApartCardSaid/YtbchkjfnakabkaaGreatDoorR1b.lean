import Derived.Test.YtbchkjfnakabkaaGreatDoorR1
import Derived.Shelf.Strings.SlTrimAscii
import Derived.Deep.RegionWith
import Derived.BigRegion
import Derived.Deep.CutRange
set_option linter.unusedSimpArgs false
set_option linter.unusedVariables false
set_option maxHeartbeats 2000000
set_option maxRecDepth 100000
namespace Go.Proofs.YtbchkjfnakabkaaGreatDoor
open Go.RowKit PX
def Reads{α:Type}(rb:Nat)(w:World)(o:Option (α × List UInt8))(V:α->Value)(e:Ending)(w':World):Prop:=
 Only (λk=>k=rb) w w'/\((o=none/\e=.panicked JO)\/∃ x r,o=some (x,r)/\e=.returned (V x)/\ReadAt w' rb r)
theorem Reads.none{α:Type}{rb:Nat}{w:World}{V:α->Value}{e:Ending}{w':World}{o:Option (α × List UInt8)}(h:Reads rb w o V e w')(ho:o=none):e=.panicked JO/\Only (λk=>k=rb) w w':=by
 subst ho
 rcases h with⟨h1,⟨-, h2⟩|⟨_,_,h2,-⟩⟩
 ·exact⟨h2,h1⟩
 ·cases h2
theorem Reads.some{α:Type}{rb:Nat}{w:World}{V:α->Value}{e:Ending}{w':World}{o:Option (α × List UInt8)}{x:α}{r:List UInt8}(h:Reads rb w o V e w')(ho:o=some (x,r)):e=.returned (V x)/\ReadAt w' rb r/\Only (λk=>k=rb) w w':=by
 subst ho
 rcases h with⟨h1,⟨h2,-⟩|⟨x',r',h2,h3,h4⟩⟩
 ·cases h2
 ·cases h2;exact⟨h3,h4,h1⟩
theorem Only.then{rb:Nat}{a b c:World}(h:Only (λk=>k=rb) a b)(h':Only (λk=>k=rb) b c):Only (λk=>k=rb) a c:=
 h.trans (h'.mono λ_ _ hk=>.inl hk)
theorem ReadAt.below{w w':World}{rb:Nat}{l:List UInt8}(h:ReadAt w rb l)(hb:Below w.heap.size w w'):ReadAt w' rb l:=by
 unfold ReadAt at h ⊢;rw[hb.block rb (Zb h)];exact h
theorem Xs{b:Bool}(hb:b=true)(w:World):Calls Tryz.prog 174 #[.bool b] w λe w'=>e=.returned (.tuple #[])/\w'=w:=by subst hb;exact E8 w
theorem XW{b:Bool}(hb:b=false)(w:World):Calls Tryz.prog 174 #[.bool b] w λe w'=>e=.panicked JO/\w'=w:=by subst hb;exact Vq w
theorem ZK(w:World)(rb:Nat)(c:UInt8)(r:List UInt8)(h:ReadAt w rb (c::r)) :
 Calls Tryz.prog 188 #[.pointer (some ⟨rb,0,none⟩),.string ⟨#[c]⟩] w λe w'=>e=.returned (.bool true)/\ReadAt w' rb r/\Only (λk=>k=rb) w w':=by
 have h1:=Ug w rb (c::r) c h;have e:Zg c (c::r)=true:=by simp[Zg]
 rw[e]at h1;exact h1
theorem Zx(w:World)(rb:Nat)(c:UInt8)(l:List UInt8)(h:ReadAt w rb l)(hs:Zg c l=false) :
 Calls Tryz.prog 188 #[.pointer (some ⟨rb,0,none⟩),.string ⟨#[c]⟩] w λe w'=>e=.returned (.bool false)/\ReadAt w' rb l/\Only (λk=>k=rb) w w':=by
 have h1:=Ug w rb l c h;rw[hs]at h1;exact h1
theorem ZM{w:World}{rb:Nat}{S:ByteArray}(h:w.heap[rb]?=some (.cells #[.string S] 206 (0,0))):w.cell? ⟨rb,0,none⟩=some (.string S):=Za h 0
theorem ZbH(w:World)(rb:Nat)(but:ByteArray)(l:List UInt8)(h:ReadAt w rb l)(h92:Zg 92 l=false) :
 Calls Tryz.prog 201 #[.pointer (some ⟨rb,0,none⟩),.string but] w λe w'=>Reads rb w (one but.data.toList l) (λn=>.int .i64 (n:Nat)) e w':=by
 cases l with
 |nil=>
  refine(ZfO w rb but h).mono ?_;rintro e w' ⟨rfl,rfl⟩;exact⟨Only.refl _ _,.inl ⟨rfl,rfl⟩⟩
 |cons c r=>
  simp only[Zg,beq_eq_false_iff_ne,ne_eq]at h92;by_cases hb:c∈but.data.toList
  ·refine(ZfP w rb but c r h hb).mono ?_;rintro e w' ⟨rfl,rfl⟩;exact⟨Only.refl _ _,.inl ⟨by simp[one,h92,hb],rfl⟩⟩
  ·refine(ZdI w rb but c r h hb).mono ?_;rintro e w' ⟨rfl,h1,h2⟩;exact⟨h2,.inr ⟨c.toNat,r,by simp[one,h92,hb],rfl,h1⟩⟩
def Vd:List UInt8:=[48,49,50,51,52,53,54,55,56,57,97,98,99,100,101,102,65,66,67,68,69,70]
theorem Zej(c:UInt8):Vd.contains c=(hexv c).isSome:=by
 have key:∀ n:Nat,n<256->Vd.contains (UInt8.ofNat n)=(hexv (UInt8.ofNat n)).isSome:=by decide +kernel
 have:=key c.toNat (UInt8.toNat_lt _)
 rwa [UInt8.ofNat_toNat]at this
theorem Zfa(a b:UInt8)(w:World):Calls Tryz.prog 202 #[.string ⟨#[a,b]⟩,.string ⟨Vd.toArray⟩] w λe w'=>∃ t:ByteArray,e=.returned (.string t)/\t.toList.isEmpty=((hexv a).isSome&&(hexv b).isSome)/\Below w.heap.size w w':=by
 refine(Any.strings_Trim_laid Tryz.lays160 (by kernel_rfl) ⟨#[a,b]⟩ ⟨Vd.toArray⟩ w (by show(2:Nat)<=9223372036854775807;omega) (by decide) (ascii_of_all (by decide))).mono ?_;rintro e w' ⟨rfl,hb⟩;refine⟨_,rfl,?_,hb⟩;rw[Lib.toList_data,<-Zej,<-Zej]
 have key:∀ p:UInt8->Bool,((([a,b].reverse.dropWhile p).reverse).dropWhile p).isEmpty=(p a&&p b):=by
  intro p;cases ha:p a<;>cases hb:p b<;>simp[List.dropWhile,ha,hb]
 exact key (Vd.contains ·)
theorem Zg7(a b:UInt8)(r:List UInt8):(⟨(a::b::r).toArray⟩:ByteArray).extract 0 2=⟨#[a,b]⟩:=by
 simp[ByteArray.extract_mk]
theorem Ze9(a b:UInt8)(r:List UInt8):(⟨(a::b::r).toArray⟩:ByteArray).extract 2 (r.length+2)=⟨r.toArray⟩:=by
 simp[ByteArray.extract_mk]
theorem ZdE(w:World)(rb:Nat)(but:ByteArray)(l:List UInt8)(h:ReadAt w rb l)(h92:Zg 92 l=false) :
 Calls Tryz.prog 197 #[.pointer (some ⟨rb,0,none⟩),.string but] w λe w'=>Reads rb w (one but.data.toList l) (λn=>.int .i64 (n:Nat)) e w':=by
 have HT:=Hd (Zx w rb 92 l h h92);have HN:=Hd (λw1 (h1:ReadAt w1 rb l)=>ZbH w1 rb but l h1 h92);clear h
 go_enter Tryz.func197,Tryz.ntmps197
 go_wp2_with (first
  |(go_at_call 188;(with_reducible refine HT.out.mono ?_);rintro e w1 ⟨rfl,h1,o1⟩)
  |(go_at_call 201;refine(HN.out _ h1).mono ?_;rintro e w2 ⟨o2,⟨hn,rfl⟩|⟨n,r,hn,rfl,h2⟩⟩))
 ·exact⟨rfl,o1.then o2,.inl ⟨hn,rfl⟩⟩
 ·go_ret
  exact⟨o1.then o2,.inr ⟨n,r,hn,rfl,h2⟩⟩
def Zfe:List UInt8->Option (Nat × List UInt8)
 |[]=>none
 |d::r=>if d∈Yl then some (d.toNat,r) else none
def Zah:ByteArray:=⟨#[92,46,91,93,40,41,124,42,43,63,123,125,94,45]⟩
theorem ZfK(w:World)(rb:Nat)(but:ByteArray)(l:List UInt8)(h:ReadAt w rb (92::l))(h120:Zg 120 l=false) :
 Calls Tryz.prog 197 #[.pointer (some ⟨rb,0,none⟩),.string but] w λe w'=>Reads rb w (one but.data.toList (92::l)) (λn=>.int .i64 (n:Nat)) e w':=by
 have HT:=Hd (ZK w rb 92 l h);have k0:=Hd (λw1 (h1:ReadAt w1 rb l)=>Zx w1 rb 120 l h1 h120)
 have b0:one but.data.toList (92::l)=Zfe l:=by
  cases l with
  |nil=>rfl
  |cons d r=>
   simp only[Zg,beq_eq_false_iff_ne,ne_eq]at h120;simp[one,Zfe,h120]
 rw[b0];clear h b0
 cases l with
 |nil=>
  go_enter Tryz.func197,Tryz.ntmps197
  go_wp2_with (first
   |(go_at_call 188;(with_reducible refine HT.out.mono ?_);rintro e w1 ⟨rfl,h1,o1⟩)
   |(go_at_call 188;(with_reducible refine(k0.out _ h1).mono ?_);rintro e w2 ⟨rfl,h2,o2⟩;unfold ReadAt at h2;have g0:w2.cell? ⟨rb,0,none⟩=some (.string ⟨#[]⟩):=by rw[Za h2];rfl)
   |(go_at_call 174;refine(Vq _).mono ?_;rintro e w3 ⟨rfl,rfl⟩))
  exact⟨rfl,o1.then o2,.inl ⟨rfl,rfl⟩⟩
 |cons d r=>
  obtain⟨S,HS⟩:∃ S:ByteArray,Hid ((⟨(d::r).toArray⟩:ByteArray)=S):=⟨_,Hd rfl⟩
  obtain⟨hne,hem,p0,e0,-⟩:=full d r HS.out;have j0:=Hd (λw=>US Zah d w);unfold Zah at j0;by_cases hm:d∈Yl
  ·have F0:=Hd (λw1 (h1:ReadAt w1 rb (d::r))=>ZdI w1 rb ⟨#[]⟩ d r h1 (by simp));have HM:=Hd hm;have l0:Zfe (d::r)=some (d.toNat,r):=if_pos hm;clear hm;rw[l0];clear l0
   go_enter Tryz.func197,Tryz.ntmps197
   go_wp2_with (first
    |(go_at_call 188;(with_reducible refine HT.out.mono ?_);rintro e w1 ⟨rfl,h1,o1⟩)
    |(go_at_call 188;(with_reducible refine(k0.out _ h1).mono ?_);rintro e w2 ⟨rfl,h2,o2⟩;have H0:=Hd h2;unfold ReadAt at h2;rw[HS.out]at h2;have g0:w2.cell? ⟨rb,0,none⟩=some (.string S):=by rw[Za h2];rfl)
    |(go_at_call 204;refine(j0.out _).mono ?_;rintro e w3 ⟨rfl,n,rfl,hn⟩;have L0:0<=n:=by(have:=hn.1;rcases Int.lt_or_le n 0 with h|h;exact absurd HM.out (this h);exact h))
    |(go_at_call 174;refine(E8 _).mono ?_;rintro e w3 ⟨rfl,rfl⟩)
    |(go_at_call 201;refine(F0.out _ H0.out).mono ?_;rintro e w4 ⟨rfl,h4,o4⟩))
   go_ret
   exact⟨(o1.then o2).then o4,.inr ⟨d.toNat,r,rfl,rfl,h4⟩⟩
  ·have HM:=Hd hm;have l0:Zfe (d::r)=none:=if_neg hm;clear hm;rw[l0];clear l0
   go_enter Tryz.func197,Tryz.ntmps197
   go_wp2_with (first
    |(go_at_call 188;(with_reducible refine HT.out.mono ?_);rintro e w1 ⟨rfl,h1,o1⟩)
    |(go_at_call 188;(with_reducible refine(k0.out _ h1).mono ?_);rintro e w2 ⟨rfl,h2,o2⟩;unfold ReadAt at h2;rw[HS.out]at h2;have g0:w2.cell? ⟨rb,0,none⟩=some (.string S):=by rw[Za h2];rfl)
    |(go_at_call 204;refine(j0.out _).mono ?_;rintro e w3 ⟨rfl,n,rfl,hn⟩;have L0:¬ 0<=n:=by(have:=hn.2 HM.out;omega))
    |(go_at_call 174;refine(XW (b:=decide (0<=n)) (decide_eq_false (by omega)) _).mono ?_;rintro e w3 ⟨rfl,rfl⟩))
   exact⟨rfl,o1.then o2,.inl ⟨rfl,rfl⟩⟩
theorem Zht(w:World)(rb:Nat)(but:ByteArray)(l:List UInt8)(h:ReadAt w rb (92::120::l))(hl:l.length<=1000) :
 Calls Tryz.prog 197 #[.pointer (some ⟨rb,0,none⟩),.string but] w λe w'=>Reads rb w (one but.data.toList (92::120::l)) (λn=>.int .i64 (n:Nat)) e w':=by
 have HT:=Hd (ZK w rb 92 (120::l) h);have k0:=Hd (λw1 (h1:ReadAt w1 rb (120::l))=>ZK w1 rb 120 l h1);clear h
 obtain⟨S,HS⟩:∃ S:ByteArray,Hid ((⟨l.toArray⟩:ByteArray)=S):=⟨_,Hd rfl⟩
 by_cases h2:l.length<2
 ·have b0:one but.data.toList (92::120::l)=none:=by
   match l,h2 with
   |[],_=>rfl
   |[_],_=>rfl
  rw[b0];clear b0;have p0:S.size=l.length:=by rw[<-HS.out];simp[ByteArray.size]
  go_enter Tryz.func197,Tryz.ntmps197
  go_wp2_with (first
   |(go_at_call 188;(with_reducible refine HT.out.mono ?_);rintro e w1 ⟨rfl,h1,o1⟩)
   |(go_at_call 188;(with_reducible refine(k0.out _ h1).mono ?_);rintro e w2 ⟨rfl,h2',o2⟩;unfold ReadAt at h2';rw[HS.out]at h2';have g0:=ZM h2')
   |(go_at_call 174;refine(XW rfl _).mono ?_;rintro e w3 ⟨rfl,rfl⟩))
  exact⟨rfl,o1.then o2,.inl ⟨rfl,rfl⟩⟩
 ·obtain⟨a,b,r,rfl⟩:∃ a b r,l=a::b::r:=by
   match l,h2 with
   |[],h2=>exact absurd (by simp) h2
   |[_],h2=>exact absurd (by simp) h2
   |a::b::r,_=>exact⟨a,b,r,rfl⟩
  have p0:S.size=r.length+2:=by rw[<-HS.out];simp[ByteArray.size]
  have hcut:S.extract 0 2=⟨#[a,b]⟩:=by rw[<-HS.out];exact Zg7 a b r
  have d0:S.extract 2 (r.length+2)=⟨r.toArray⟩:=by rw[<-HS.out];exact Ze9 a b r
  obtain⟨T,HTT⟩:∃ T:ByteArray,Hid ((⟨#[a,b]⟩:ByteArray)=T):=⟨_,Hd rfl⟩
  obtain⟨R,HR⟩:∃ R:ByteArray,Hid ((⟨r.toArray⟩:ByteArray)=R):=⟨_,Hd rfl⟩
  rw[HTT.out]at hcut;rw[HR.out]at d0;have s0:=λw=>Zfa a b w
  rw[HTT.out]at s0;have r0:=Hd s0;clear s0;have I0:(2:Int)<=(r.length:Int)+2:=by omega
  clear h2
  cases hv:((hexv a).isSome&&(hexv b).isSome) with
  |false=>
   have b0:one but.data.toList (92::120::a::b::r)=none:=by
    cases hx:hexv a<;>cases hy:hexv b<;>simp[hx,hy]at hv<;>simp[one,hx,hy]
   rw[b0];rw[hv]at r0;clear b0 hv
   go_enter Tryz.func197,Tryz.ntmps197
   go_wp2_with (first
    |(go_at_call 188;(with_reducible refine HT.out.mono ?_);rintro e w1 ⟨rfl,h1,o1⟩)
    |(go_at_call 188;(with_reducible refine(k0.out _ h1).mono ?_);rintro e w2 ⟨rfl,h2',o2⟩;unfold ReadAt at h2';rw[HS.out]at h2';have g0:=ZM h2')
    |(go_at_call 202;refine(r0.out _).mono ?_;rintro e w3 ⟨t,rfl,hte,hb3⟩)
    |(go_at_call 174;refine(XW rfl _).mono ?_;rintro e w4 ⟨rfl,rfl⟩))
   exact⟨rfl,(o1.then o2).then (Only.of_below hb3),.inl ⟨rfl,rfl⟩⟩
  |true=>
   obtain⟨x,hx⟩:∃ x,hexv a=some x:=Option.isSome_iff_exists.1 (by cases h:hexv a<;>simp[h]at hv ⊢);obtain⟨y,hy⟩:∃ y,hexv b=some y:=Option.isSome_iff_exists.1 (by cases h:hexv b<;>simp[h]at hv ⊢);have b0:one but.data.toList (92::120::a::b::r)=some (16*x+y,r):=by simp[one,hx,hy]
   have m0:16*x+y<256:=by have:=Vc hx;have:=Vc hy;omega
   rw[b0];clear b0;have o0:=λw=>ZhN a b x y hx hy w
   rw[HTT.out]at o0;rw[hv]at r0
   obtain⟨n,hn⟩:∃ n:Nat,n=16*x+y:=⟨_,rfl⟩
   rw[<-hn]at o0 m0 ⊢;have M0:=Hd o0;clear o0;clear hx hy hv hn
   go_enter Tryz.func197,Tryz.ntmps197
   go_wp2_with (first
    |(go_at_call 188;(with_reducible refine HT.out.mono ?_);rintro e w1 ⟨rfl,h1,o1⟩)
    |(go_at_call 188;(with_reducible refine(k0.out _ h1).mono ?_);rintro e w2 ⟨rfl,h2',o2⟩;unfold ReadAt at h2';rw[HS.out]at h2';have g0:=ZM h2')
    |(go_at_call 202;refine(r0.out _).mono ?_;rintro e w3 ⟨t,rfl,hte,hb3⟩;have h3:w3.heap[rb]?=some (.cells #[.string S] 206 (0,0)):=(hb3.block rb (Zb h2')).trans h2';have hc3:=ZM h3)
    |(go_at_call 174;refine(Xs rfl _).mono ?_;rintro e w4 ⟨rfl,rfl⟩)
    |(go_at_call 203;refine(M0.out _).mono ?_;rintro e w4 ⟨rfl,hb4⟩;have h4:w4.heap[rb]?=some (.cells #[.string S] 206 (0,0)):=(hb4.block rb (Zb h3)).trans h3;have v0:=ZM h4;have A0:=Zc h4 0))
   go_ret
   refine⟨Only.setCell (((o1.then o2).then (Only.of_below hb3)).then (Only.of_below hb4)) (p:=⟨rb,0,none⟩) (.inl rfl) _,.inr ⟨n,r,rfl,rfl,?_⟩⟩;unfold ReadAt;rw[Zf h4,HR.out];rfl
theorem QG(w:World)(rb:Nat)(but:ByteArray)(l:List UInt8)(h:ReadAt w rb l)(hl:l.length<=1000) :
 Calls Tryz.prog 197 #[.pointer (some ⟨rb,0,none⟩),.string but] w λe w'=>Reads rb w (one but.data.toList l) (λn=>.int .i64 (n:Nat)) e w':=by
 cases h92:Zg 92 l with
 |false=>exact ZdE w rb but l h h92
 |true=>
  have e:=Zu h92;rw[e]at h ⊢
  cases h120:Zg 120 l.tail with
  |false=>exact ZfK w rb but l.tail h h120
  |true=>
   have e2:=Zu h120;rw[e2]at h ⊢;exact Zht w rb but l.tail.tail h (by have:=Xu l;have:=Xu l.tail;omega)
end Go.Proofs.YtbchkjfnakabkaaGreatDoor
namespace Go.Proofs.YtbchkjfnakabkaaGreatDoor
open Go.RowKit PX
def Gv:List UInt8:=[48,49,50,51,52,53,54,55,56,57]
theorem Zez(c:UInt8):Gv.contains c=ZS c:=by
 have key:∀ n:Nat,n<256->Gv.contains (UInt8.ofNat n)=ZS (UInt8.ofNat n):=by decide +kernel
 have:=key c.toNat (UInt8.toNat_lt _)
 rwa [UInt8.ofNat_toNat]at this
def nd(l:List UInt8):Nat:=(l.takeWhile ZS).length
theorem ZdK(l:List UInt8):(l.dropWhile ZS).length+nd l=l.length:=by
 have:=congrArg List.length (List.takeWhile_append_dropWhile (p:=ZS) (l:=l));rw[List.length_append]at this;unfold nd;omega
theorem nd_le(l:List UInt8):nd l<=l.length:=by have:=ZdK l;omega
theorem DP(S:ByteArray)(l:List UInt8)(hS:S.data.toList=l)(w:World):Calls Tryz.prog 198 #[.string S,.string ⟨#[48,49,50,51,52,53,54,55,56,57]⟩] w λe w'=>∃ T:ByteArray,e=.returned (.string T)/\T.size+nd l=l.length/\Below w.heap.size w w':=by
 refine(Any.strings_TrimLeft_laid Tryz.lays161 (by kernel_rfl) S ⟨Gv.toArray⟩ w (by decide) (ascii_of_all (by decide))).mono ?_;rintro e w' ⟨rfl,hb⟩;refine⟨_,rfl,?_,hb⟩;rw[<-ZdK l];simp only[Lib.trimLeftS,hS];have e:(λc=>Gv.contains c)=ZS:=funext Zez;show(List.dropWhile (Gv.contains ·) l).toArray.size+nd l=_;rw[e];simp
theorem num0{l:List UInt8}(h:nd l≠1)(h2:nd l≠2):Z4 l=none:=by
 match l,h,h2 with
 |[],_,_=>rfl
 |[a],h,_=>
  cases ha:ZS a
  ·simp[Z4,ha]
  ·simp[nd,List.takeWhile,ha]at h
 |a::b::r,h,h2=>
  cases ha:ZS a
  ·simp[Z4,ha]
  ·cases hb:ZS b
   ·simp[nd,List.takeWhile,ha,hb]at h
   ·match r,h2 with
    |[],h2=>simp[nd,List.takeWhile,ha,hb]at h2
    |c::r,h2=>
     cases hc:ZS c
     ·simp[nd,List.takeWhile,ha,hb,hc]at h2
     ·simp[Z4,ha,hb,hc]
theorem num1{l:List UInt8}(h:nd l=1):∃ a r,l=a::r/\ZS a=true/\Z4 l=some (a.toNat - 48,r):=by
 match l,h with
 |[a],h=>
  cases ha:ZS a
  ·simp[nd,List.takeWhile,ha]at h
  ·exact⟨a,[],rfl,ha,by simp[Z4,ha]⟩
 |a::b::r,h=>
  cases ha:ZS a
  ·simp[nd,List.takeWhile,ha]at h
  ·cases hb:ZS b
   ·exact⟨a,b::r,rfl,ha,by simp[Z4,ha,hb]⟩
   ·simp[nd,List.takeWhile,ha,hb]at h
theorem num2{l:List UInt8}(h:nd l=2):∃ a b r,l=a::b::r/\ZS a=true/\ZS b=true /\
 Z4 l=if a=48 then none else if 10*(a.toNat - 48)+(b.toNat - 48)<=15 then some (10*(a.toNat - 48)+(b.toNat - 48),r) else none:=by
 match l,h with
 |[a],h=>
  cases ha:ZS a<;>simp[nd,List.takeWhile,ha]at h
 |a::b::r,h=>
  cases ha:ZS a
  ·simp[nd,List.takeWhile,ha]at h
  ·cases hb:ZS b
   ·simp[nd,List.takeWhile,ha,hb]at h
   ·refine⟨a,b,r,rfl,ha,hb,?_⟩;have hst:Zg 48 (a::b::r)=decide (a=48):=by simp only[Zg];exact Bool.eq_iff_iff.2 (by simp)
    match r,h with
    |[],h=>simp[Z4,ha,hb,Zg]
    |c::r,h=>
     cases hc:ZS c
     ·simp[Z4,ha,hb,hc,Zg]
     ·simp[nd,List.takeWhile,ha,hb,hc]at h
theorem atoi1(a:UInt8)(ha:ZS a=true):Lib.atoiAll [a]=.ok ((a.toNat - 48:Nat):Int):=by
 have key:∀ n:Nat,n<256->ZS (UInt8.ofNat n)=true->Lib.atoiAll [UInt8.ofNat n]=.ok (((UInt8.ofNat n).toNat - 48:Nat):Int):=by
  intro n hn h
  have h1:∀ k,k<10->Lib.atoiAll [UInt8.ofNat (48+k)]=.ok (((UInt8.ofNat (48+k)).toNat - 48:Nat):Int):=by
   intro k hk;have:k=0\/k=1\/k=2\/k=3\/k=4\/k=5\/k=6\/k=7\/k=8\/k=9:=by omega
   rcases this with rfl|rfl|rfl|rfl|rfl|rfl|rfl|rfl|rfl|rfl<;>rfl
  simp only[ZS,decide_eq_true_eq,UInt8.toNat_ofNat']at h;have e:48+(n - 48)=n:=by omega
  have:=h1 (n - 48) (by omega)
  rwa [e]at this
 have:=key a.toNat (UInt8.toNat_lt _);rw[UInt8.ofNat_toNat]at this;exact this ha
theorem atoi2(a b:UInt8)(ha:ZS a=true)(hb:ZS b=true):Lib.atoiAll [a,b]=.ok ((10*(a.toNat - 48)+(b.toNat - 48):Nat):Int):=by
 have h1:∀ k j,k<10->j<10->Lib.atoiAll [UInt8.ofNat (48+k),UInt8.ofNat (48+j)]=.ok ((10*((UInt8.ofNat (48+k)).toNat - 48)+((UInt8.ofNat (48+j)).toNat - 48):Nat):Int):=by
  intro k j hk hj;have h1:k=0\/k=1\/k=2\/k=3\/k=4\/k=5\/k=6\/k=7\/k=8\/k=9:=by omega
  have h2:j=0\/j=1\/j=2\/j=3\/j=4\/j=5\/j=6\/j=7\/j=8\/j=9:=by omega
  rcases h1 with rfl|rfl|rfl|rfl|rfl|rfl|rfl|rfl|rfl|rfl<;>rcases h2 with rfl|rfl|rfl|rfl|rfl|rfl|rfl|rfl|rfl|rfl<;>rfl
 simp only[ZS,decide_eq_true_eq]at ha hb;have h:=h1 (a.toNat - 48) (b.toNat - 48) (by omega) (by omega);rw[show 48+(a.toNat - 48)=a.toNat by omega,show 48+(b.toNat - 48)=b.toNat by omega,UInt8.ofNat_toNat,UInt8.ofNat_toNat]at h;exact h
theorem Dz(l:List UInt8)(v:Int)(h:Lib.atoiAll l=.ok v)(hl:l.length<=1000)(w:World):Calls Tryz.prog 199 #[.string ⟨l.toArray⟩] w λe w'=>e=.returned (.tuple #[.int .i64 v,.nilIface])/\Below w.heap.size w w':=by
 refine(Tryz.strconv_Atoi_ok ⟨l.toArray⟩ (by show l.toArray.size<=_;simp;omega) v h w).mono ?_;rintro e w' ⟨rfl,rfl|⟨t,rfl⟩⟩
 ·exact⟨rfl,Below.refl _ _⟩
 ·exact⟨rfl,⟨rfl,rfl,rfl,by rw[Lib.bytesWorld_size];omega,λk hk=>Lib.bytesWorld_at_old _ _ _ _ hk⟩⟩
theorem Dn(a b:List UInt8):(⟨(a++b).toArray⟩:ByteArray).extract 0 a.length=⟨a.toArray⟩:=by
 simp[ByteArray.extract_mk]
theorem ZaF(a b:List UInt8)(n:Nat)(hn:n=a.length+b.length):(⟨(a++b).toArray⟩:ByteArray).extract a.length n=⟨b.toArray⟩:=by
 subst hn;simp[ByteArray.extract_mk]
theorem UC{B:Nat}{a b:World}(h:Below B a.drew b):Below B a b:=⟨h.os,h.tape,h.output,h.size,h.block⟩
theorem Zhu{w w1:World}{rb:Nat}{S:ByteArray}(h:Below w.drew.heap.size w.drew w1)(hB:w.heap[rb]?=some (.cells #[.string S] 206 (0,0))):w1.heap[rb]?=some (.cells #[.string S] 206 (0,0)):=
 (h.block rb (Zb hB)).trans hB
theorem Xi(w:World)(rb:Nat)(l:List UInt8)(h:ReadAt w rb l)(hl:l.length<=1000) :
 Calls Tryz.prog 193 #[.pointer (some ⟨rb,0,none⟩)] w λe w'=>Reads rb w (Z4 l) (λn=>.int .i64 (n:Nat)) e w':=by
 obtain⟨S,HS⟩:∃ S:ByteArray,Hid ((⟨l.toArray⟩:ByteArray)=S):=⟨_,Hd rfl⟩
 unfold ReadAt at h;rw[HS.out]at h;have p0:S.size=l.length:=by rw[<-HS.out];simp[ByteArray.size]
 have i0:S.data.toList=l:=by rw[<-HS.out]
 have HT:=Hd (DP S l i0);clear i0;have g0:=ZM h;have y0:=nd_le l
 obtain⟨k,hk⟩:∃ k,nd l=k:=⟨_,rfl⟩
 obtain⟨m,hm⟩:∃ m,l.length=m:=⟨_,rfl⟩
 rw[hk]at HT y0;rw[hm]at HT p0 hl y0;have z0:IntKind.i64.wrap (k:Int)=k:=by rw[IntKind.wrap_i64];omega
 have HB:=Hd h;clear h;have HK:=Hd hk;clear hk;have HM:=Hd hm;clear hm
 go_enter Tryz.func193,Tryz.ntmps193
 go_wp2_with fail
 go_cut [3] from 6 to 17 (λv wr=>v=.int .i64 k/\Below w.heap.size w wr)
 case first=>
  go_region_with (go_at_call 198;refine(HT.out _).mono ?_;rintro e w1 ⟨T,rfl,hT,hb1⟩;have hT':(m:Int) - (T.size:Int)=k:=(by omega);have hc1:=ZM (Zhu hb1 HB.out);have I0:=UC hb1)
  all_goals
   go_wp2_with fail
   go_meet
   case rel=>exact⟨rfl,by assumption⟩
 case rest=>
  obtain⟨rfl,hbc⟩:=hcut;clear HT g0;have hB:=(hbc.block rb (Zb HB.out)).trans HB.out;have g0:=ZM hB;have hf0:=Zc hB 0;have n0:=Hd hB;clear hB;have HO:=Hd (Only.of_below (r:=λk=>k=rb) hbc);clear hbc;have HUN:=Hd z0;clear z0;by_cases h1:k=1
  ·subst h1;obtain⟨a,r,hl1,ha,a0⟩:=num1 HK.out;have e0:=λw=>Dz [a] _ (atoi1 a ha) (by simp) w
   have hv:((a.toNat - 48:Nat):Int)<=15:=by simp only[ZS,decide_eq_true_eq]at ha;omega
   obtain⟨v,hv'⟩:∃ v:Nat,a.toNat - 48=v:=⟨_,rfl⟩
   rw[hv']at e0 hv a0;have hcut:S.extract 0 1=⟨[a].toArray⟩:=by rw[<-HS.out,hl1];exact Dn [a] r
   have d0:S.extract 1 m=⟨r.toArray⟩:=by rw[<-HS.out,hl1];exact ZaF [a] r m (by rw[<-HM.out,hl1];simp;omega)
   obtain⟨T,HTT⟩:∃ T:ByteArray,Hid ((⟨[a].toArray⟩:ByteArray)=T):=⟨_,Hd rfl⟩
   obtain⟨R,HR⟩:∃ R:ByteArray,Hid ((⟨r.toArray⟩:ByteArray)=R):=⟨_,Hd rfl⟩
   rw[HTT.out]at e0 hcut;rw[HR.out]at d0;have q0:=Hd e0;clear e0;have c0:=Hd a0;clear a0 ha hl1 hv';have K0:(1:Int)<=m:=by omega
   go_wp2_with (first
    |(go_at_call 174;refine(Xs rfl _).mono ?_;rintro e w4 ⟨rfl,rfl⟩)
    |(go_at_call 174;refine(Xs (decide_eq_true hv) _).mono ?_;rintro e w4 ⟨rfl,rfl⟩)
    |(go_at_call 199;refine(q0.out _).mono ?_;rintro e w4 ⟨rfl,hb4⟩;have f0:=(hb4.block rb (Zb n0.out)).trans n0.out;have v0:=ZM f0;have A0:=Zc f0 0;have t0:=Hd f0;clear f0))
   go_ret
   refine⟨Only.setCell (HO.out.then (Only.of_below hb4)) (p:=⟨rb,0,none⟩) (.inl rfl) _,.inr ⟨v,r,c0.out,rfl,?_⟩⟩;unfold ReadAt;rw[Zf t0.out,HR.out];rfl
  ·by_cases h2:k=2
   ·subst h2;obtain⟨a,b,r,hl1,ha,hb,a0⟩:=num2 HK.out;have e0:=λw=>Dz [a,b] _ (atoi2 a b ha hb) (by simp) w
    obtain⟨v,hv'⟩:∃ v:Nat,10*(a.toNat - 48)+(b.toNat - 48)=v:=⟨_,rfl⟩
    have hvb:v<=99:=by simp only[ZS,decide_eq_true_eq]at ha hb;omega
    rw[hv']at e0 a0;have hcut:S.extract 0 2=⟨[a,b].toArray⟩:=by rw[<-HS.out,hl1];exact Dn [a,b] r
    have d0:S.extract 2 m=⟨r.toArray⟩:=by rw[<-HS.out,hl1];exact ZaF [a,b] r m (by rw[<-HM.out,hl1];simp;omega)
    obtain⟨T,HTT⟩:∃ T:ByteArray,Hid ((⟨[a,b].toArray⟩:ByteArray)=T):=⟨_,Hd rfl⟩
    obtain⟨R,HR⟩:∃ R:ByteArray,Hid ((⟨r.toArray⟩:ByteArray)=R):=⟨_,Hd rfl⟩
    have hat0:∀ h:0<S.size,S[0]'h=a:=(full a (b::r) (by rw[<-HS.out,hl1])).at0;rw[HTT.out]at e0 hcut;rw[HR.out]at d0;have q0:=Hd e0;clear e0;have K0:(2:Int)<=m:=by omega
    by_cases h48:a=48
    ·have h0:Z4 l=none:=by rw[a0,if_pos h48]
     have hz:((a.toNat:Int) != 48)=false:=by rw[h48];rfl
     clear a0 ha hb hl1 hv';have c0:=Hd h0;clear h0 h48
     go_wp2_with (go_at_call 174;refine(XW rfl _).mono ?_;rintro e w4 ⟨rfl,rfl⟩)
     exact⟨rfl,HO.out,.inl ⟨c0.out,rfl⟩⟩
    ·rw[if_neg h48]at a0
     have hz:((a.toNat:Int) != 48)=true:=by
      rw[bne_iff_ne];intro h;exact h48 (UInt8.toNat_inj.1 (by show a.toNat=48;omega))
     clear ha hb hl1 hv' h48;by_cases hv:v<=15
     ·rw[if_pos hv]at a0;have c0:=Hd a0;clear a0;have C0:(v:Int)<=15:=by omega
      clear hv
      go_wp2_with (first
       |(go_at_call 174;refine(Xs rfl _).mono ?_;rintro e w4 ⟨rfl,rfl⟩)
       |(go_at_call 174;refine(Xs (decide_eq_true C0) _).mono ?_;rintro e w4 ⟨rfl,rfl⟩)
       |(go_at_call 199;refine(q0.out _).mono ?_;rintro e w4 ⟨rfl,hb4⟩;have f0:=(hb4.block rb (Zb n0.out)).trans n0.out;have v0:=ZM f0;have A0:=Zc f0 0;have t0:=Hd f0;clear f0))
      go_ret
      refine⟨Only.setCell (HO.out.then (Only.of_below hb4)) (p:=⟨rb,0,none⟩) (.inl rfl) _,.inr ⟨v,r,c0.out,rfl,?_⟩⟩;unfold ReadAt;rw[Zf t0.out,HR.out];rfl
     ·rw[if_neg hv]at a0;have c0:=Hd a0;clear a0;have C0:¬ (v:Int)<=15:=by omega
      clear hv
      go_wp2_with (first
       |(go_at_call 174;refine(Xs rfl _).mono ?_;rintro e w4 ⟨rfl,rfl⟩)
       |(go_at_call 174;refine(XW (b:=decide ((v:Int)<=15)) (decide_eq_false (by omega)) _).mono ?_;rintro e w5 ⟨rfl,rfl⟩)
       |(go_at_call 174;refine(XW rfl _).mono ?_;rintro e w5 ⟨rfl,rfl⟩)
       |(go_at_call 199;refine(q0.out _).mono ?_;rintro e w4 ⟨rfl,hb4⟩))
      exact⟨rfl,HO.out.then (Only.of_below hb4),.inl ⟨c0.out,rfl⟩⟩
   ·have a0:=num0 (by rw[HK.out];exact h1) (by rw[HK.out];exact h2);have c0:=Hd a0;clear a0;have e1:((k:Int)==1)=false:=by rw[beq_eq_false_iff_ne];omega
    have e2:((k:Int)==2)=false:=by rw[beq_eq_false_iff_ne];omega
    go_wp2_with (go_at_call 174;refine(XW rfl _).mono ?_;rintro e w4 ⟨rfl,rfl⟩)
    exact⟨rfl,HO.out,.inl ⟨c0.out,rfl⟩⟩
