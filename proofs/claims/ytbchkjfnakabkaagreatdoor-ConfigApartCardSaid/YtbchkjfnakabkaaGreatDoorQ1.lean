import Derived.Test.YtbchkjfnakabkaaGreatDoorR1
set_option linter.unusedSimpArgs false
set_option linter.unusedVariables false
namespace Go.Proofs.YtbchkjfnakabkaaGreatDoor.PX
def numX:List UInt8->Option (Nat × List UInt8)
 |[]=>none
 |a::t=>
  if ZS a then
   match t with
   |[]=>some (a.toNat - 48,[])
   |b::r=>
    if ZS b then
     (if 10*(a.toNat - 48)+(b.toNat - 48)<10∨15<10*(a.toNat - 48)+(b.toNat - 48) then none
      else some (10*(a.toNat - 48)+(b.toNat - 48),r))
    else some (a.toNat - 48,b::r)
  else none
theorem X2(c:UInt8):ZS c=true↔48<=c.toNat/\c.toNat<=57:=by simp[ZS]
theorem JT{c d:UInt8}{r:List UInt8}(hd:ZS c=true)(h:d.toNat<48\/57<d.toNat):Zg d (c::r)=false:=by
 rw[X2]at hd;simp only[Zg,beq_eq_false_iff_ne,ne_eq];rintro rfl;omega
theorem ZgP(s:List UInt8):Z4 s=numX s\/(Z4 s=none/\∃ n c r,numX s=some (n,c::r)/\ZS c=true):=by
 match s with
 |[]=>exact .inl rfl
 |[a]=>left;simp[Z4,numX]
 |a::b::r=>
  simp only[Z4,numX];by_cases ha:ZS a=true
  ·rw[if_pos ha,if_pos ha];by_cases hb:ZS b=true
   ·rw[if_pos hb,if_pos hb];have ha':=(X2 a).1 ha;have hb':=(X2 b).1 hb;by_cases h0:Zg 48 (a::b::r)=true
    ·left;rw[if_pos h0];simp only[Zg,beq_iff_eq]at h0;subst h0;rw[if_pos (Or.inl (by simp;omega))]
    ·have ha0:a.toNat≠48:=by
      intro h;apply h0;simp only[Zg,beq_iff_eq];exact UInt8.toNat_inj.1 (by simpa using h)
     rw[if_neg h0];by_cases h15:10*(a.toNat - 48)+(b.toNat - 48)<=15
     ·rw[if_neg (by omega:¬ (10*(a.toNat - 48)+(b.toNat - 48)<10\/15<10*(a.toNat - 48)+(b.toNat - 48)))]
      cases r with
      |nil=>left;simp[h15]
      |cons c r=>
       by_cases hc:ZS c=true
       ·right;exact⟨by simp[hc],_,c,r,rfl,hc⟩
       ·left;simp[hc,h15]
     ·left;rw[if_pos (Or.inr (by omega))]
      cases r with
      |nil=>simp[h15]
      |cons c r=>simp[h15]
   ·left;rw[if_neg hb,if_neg hb]
  ·left;rw[if_neg ha,if_neg ha]
theorem Yx(s:List UInt8):Z5 s=match numX s with
 |none=>none
 |some (m,r)=>
  if Zg 44 r then
   (if Zg 125 r.tail then some (m,-1,r.tail.tail)
    else match numX r.tail with
     |none=>none
     |some (n,r')=>if m<=n/\Zg 125 r'=true then some (m,n,r'.tail) else none)
  else if Zg 125 r then some (m,m,r.tail) else none:=by
 unfold Z5;rcases ZgP s with h|⟨h,n,c,r,hx,hd⟩
 ·rw[h]
  cases numX s with
  |none=>rfl
  |some p=>
   obtain⟨m,r⟩:=p;dsimp only;by_cases h44:Zg 44 r=true
   ·rw[if_pos h44,if_pos h44];by_cases h125:Zg 125 r.tail=true
    ·rw[if_pos h125,if_pos h125]
    ·rw[if_neg h125,if_neg h125];rcases ZgP r.tail with h'|⟨h',n,c,r',hx,hd⟩
     ·rw[h'];cases numX r.tail<;>rfl
     ·rw[h',hx];dsimp only;rw[if_neg];rintro⟨-, h2⟩;rw[JT hd (by decide)]at h2;cases h2
   ·rw[if_neg h44,if_neg h44]
 ·rw[h,hx];dsimp only;rw[if_neg (by rw[JT hd (by decide)];decide),if_neg (by rw[JT hd (by decide)];decide)]
theorem Et(w:Int)(k:Nat):YD w k≠0:=by
 unfold YD;intro h;have h0:w.toNat ||| 2 ^ k=0:=by exact_mod_cast h
 have:=(Nat.or_eq_zero_iff.1 h0).2;exact absurd this (by have:=Nat.two_pow_pos k;omega)
theorem ZcA(q:Q4)(n:Nat):(q.with n).isNone=false:=by
 unfold Q4.with Q4.isNone;rw[decide_eq_false_iff_not];rintro⟨h1,h2,h3,h4⟩;split at h1<;>rename_i hn
 ·exact Et _ _ h1
 ·rw[if_neg hn]at h2 h3 h4;split at h2<;>rename_i hn2
  ·exact Et _ _ h2
  ·rw[if_neg hn2]at h3 h4;split at h3<;>rename_i hn3
   ·exact Et _ _ h3
   ·rw[if_neg hn3]at h4;exact Et _ _ h4
theorem Qw{q:Q4}(h:q.isNone=false):(Rx.set q).formB=true:=by
 unfold Rx.set;rw[Gn];unfold Q4.isNone at h;rw[decide_eq_false_iff_not]at h;exact⟨.inl ⟨rfl,rfl,h,rfl,rfl⟩,rfl⟩
theorem formAll_iff:∀ l:List Rx,XH l=true↔∀ y∈l,y.formB=true
 |[]=>by simp[XH]
 |x::xs=>by simp[XH,formAll_iff xs]
theorem Gg{kind:Int}(hk:kind=1\/kind=2){l:List Rx}(h:∀ y∈l,y.formB=true)(h2:kind=2->l≠[]):(Rx.joined kind l).formB=true:=by
 match l,h,h2 with
 |[],_,h2=>
  rcases hk with rfl|rfl
  ·rfl
  ·exact absurd rfl (h2 rfl)
 |[x],h,_=>exact h x (by simp)
 |x::y::l,h,_=>
  show(Rx.node kind 0 0 0 0 0 0 (x::y::l)).formB=true;rw[Gn];refine⟨?_,(formAll_iff _).2 h⟩;rcases hk with rfl|rfl
  ·exact .inr (.inl ⟨rfl,⟨rfl,rfl,rfl,rfl⟩,by simp,rfl,rfl⟩)
  ·exact .inr (.inr (.inl ⟨rfl,⟨rfl,rfl,rfl,rfl⟩,by simp,rfl,rfl⟩))
theorem Ui{m n:Int}{x:Rx}(h:x.formB=true)(hm:0<=m/\m<=15)(hn:n<=15/\(n=-1\/m<=n)):(Rx.rep m n x).formB=true:=by
 unfold Rx.rep;rw[Gn];exact⟨.inr (.inr (.inr ⟨rfl,⟨rfl,rfl,rfl,rfl⟩,rfl,hm.1,hm.2,hn.1,hn.2⟩)),by simp[XH,h]⟩
theorem ZeD{s:List UInt8}{m n:Int}{r:List UInt8}(h:Z5 s=some (m,n,r)):(0<=m/\m<=15)/\n<=15/\(n=-1\/m<=n):=by
 have hl:=Gx h;refine⟨hl.2.1,hl.2.2.2,?_⟩;unfold Z5 at h;split at h
 ·cases h
 ·split at h
  ·split at h
   ·cases h;exact .inl rfl
   ·split at h
    ·cases h
    ·split at h
     ·rename_i h3;cases h;right;exact_mod_cast h3.1
     ·cases h
  ·split at h
   ·cases h;exact .inr (Int.le_refl _)
   ·cases h
theorem ZcW{x:Rx}{s:List UInt8}{y:Rx}{r:List UInt8}(h:sign x s=some (y,r))(hx:x.formB=true):y.formB=true:=by
 unfold sign at h;split at h
 ·cases h;exact Ui hx (by omega) (by omega)
 ·split at h
  ·cases h;exact Ui hx (by omega) (by omega)
  ·split at h
   ·cases h;exact Ui hx (by omega) (by omega)
   ·split at h
    ·split at h
     ·cases h
     ·rename_i m n r1 h1;have:=ZeD h1;cases h;exact Ui hx this.1 this.2
    ·cases h;exact hx
theorem BE{f:Nat}{s:List UInt8}{q:Q4}{r:List UInt8}(h:Yt f s=some (q,r)):q.isNone=false:=by
 unfold Yt at h;split at h
 ·cases h
 ·rename_i q1 r1 h1;simp only at h;generalize (if Zg 94 s=true then q1.not else q1)=q2 at h;by_cases hq:q2.isNone=true
  ·rw[if_pos hq]at h;cases h
  ·rw[if_neg hq]at h;cases h;exact eq_false_of_ne_true hq
theorem Zde(f:Nat):(∀(l row:List Rx) (s:List UInt8) (x:Rx) (r:List UInt8),(∀y∈l,y.formB=true)->(∀y∈row,y.formB=true)->altR f l row s=some (x,r)->x.formB=true) /\
 (∀(s:List UInt8) (x:Rx) (r:List UInt8),XL f s=some (x,r)->x.formB=true) /\
 (∀(s:List UInt8) (x:Rx) (r:List UInt8),VD f s=some (x,r)->x.formB=true):=by
 induction f with
 |zero=>exact⟨λ_ _ _ _ _ _ _ h=>by simp[altR]at h,λ_ _ _ h=>by simp[XL]at h,λ_ _ _ h=>by simp[VD]at h⟩
 |succ f ih=>
  obtain⟨ia,ip,it⟩:=ih;refine⟨λl row s x r hl hrow h=>?_,λs x r h=>?_,λs x r h=>?_⟩
  ·have hj:∀ y∈l++[Rx.joined 1 row],y.formB=true:=by
    intro y hy;rcases List.mem_append.1 hy with hy|hy
    ·exact hl y hy
    ·obtain rfl:=List.mem_singleton.1 hy;exact Gg (.inl rfl) hrow (λh=>by omega)
   simp only[altR]at h;split at h
   ·split at h
    ·exact ia _ _ _ _ _ hj (λy hy=>by cases hy) h
    ·cases h;exact Gg (.inr rfl) hj (λ_=>by simp)
   ·split at h
    ·cases h
    ·rename_i y t h1;refine ia _ _ _ _ _ hl (λz hz=>?_) h;rcases List.mem_append.1 hz with hz|hz
     ·exact hrow z hz
     ·obtain rfl:=List.mem_singleton.1 hz;exact ip _ _ _ h1
  ·simp only[XL]at h;split at h
   ·cases h
   ·rename_i y t h1;exact ZcW h (it _ _ _ h1)
  ·simp only[VD]at h;split at h
   ·cases h;exact Qw (by decide)
   ·split at h
    ·split at h
     ·cases h
     ·rename_i q t h2;cases h;exact Qw (BE h2)
    ·split at h
     ·split at h
      ·cases h
      ·rename_i y t h2;split at h
       ·cases h;exact ia _ _ _ _ _ (λy hy=>by cases hy) (λy hy=>by cases hy) h2
       ·cases h
     ·split at h
      ·cases h
      ·rename_i b t h2;cases h;exact Qw (ZcA _ _)
