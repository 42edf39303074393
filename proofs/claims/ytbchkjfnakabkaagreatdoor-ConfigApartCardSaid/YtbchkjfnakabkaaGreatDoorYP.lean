import Derived.Test.YtbchkjfnakabkaaGreatDoorQ1
set_option linter.unusedSimpArgs false
set_option linter.unusedVariables false
namespace Go.Proofs.YtbchkjfnakabkaaGreatDoor.PX
def Ys(s:List UInt8):Bool:=match Yr s with|.inl _=>true|.inr _=>false
open Classical in
open Classical in
theorem G6{s:List UInt8}:Ys s=true↔∃ x,Yr s=.inl x:=by
 unfold Ys;cases Yr s<;>simp
theorem Ed{s:List UInt8}:Ys s=false↔∃ n,Yr s=.inr n:=by
 unfold Ys;cases Yr s<;>simp
end Go.Proofs.YtbchkjfnakabkaaGreatDoor.PX
namespace Go.Proofs.YtbchkjfnakabkaaGreatDoor.PC
open PX
structure Prt where
 level:Int
 pages:Int
structure Win where
 kind:Int
 index:Int
 ticks:Int
structure Por where
 kind:Int
 fr:Int
 tu:Int
 size:Int
 depth:Int
structure Vol where
 level:Int
 first:Int
 count:Int
 journal:Int
structure Ru where
 fr:Int
 tu:Int
 act:Int
 pat:ByteArray
 wth:ByteArray
structure Cfg where
 levels:Int
 flows:List (Int × Int)
 parts:List Prt
 windows:List Win
 ports:List Por
 volumes:List Vol
 audit:Vol
 boot:Int
 sectors:Int
 rules:List Ru
 keys:List ByteArray
 login:ByteArray
 recovery:Int
 bound:Int
def putI(n:Int):Nat->List UInt8
 |0=>[]
 |k+1=>UInt8.ofNat (n/256 ^ k%256).toNat::putI n k
theorem XK(n:Int):∀ k,(putI n k).length=k
 |0=>rfl
 |k+1=>by simp[putI,XK n k]
def Yq(w:Nat)(n:Int):Bool:=decide (0<=n/\n<256 ^ w)
def Z0(w:Nat):List Int->List UInt8
 |[]=>[]
 |n::l=>putI n w++Z0 w l
def Zt(w:Nat):List Int->Bool
 |[]=>true
 |n::l=>Yq w n&&Zt w l
def Yf(s:ByteArray):List UInt8:=if s.size<=1024 then putI s.size 2++s.data.toList else[]
def XC(s:ByteArray):Bool:=decide (s.size<=1024)
structure Lays (α:Type) where
 b:α->List UInt8
 ok:α->Bool
def XI:Lays (Int × Int):=⟨λx=>Z0 1 [x.1,x.2],λx=>Zt 1 [x.1,x.2]⟩
def XG:Lays Prt:=⟨λx=>Z0 1 [x.level,x.pages],λx=>Zt 1 [x.level,x.pages]⟩
def winP:Lays Win:=⟨λx=>Z0 1 [x.kind,x.index,x.ticks],λx=>Zt 1 [x.kind,x.index,x.ticks]⟩
def porP:Lays Por:=⟨λx=>Z0 1 [x.kind,x.fr,x.tu,x.size,x.depth],λx=>Zt 1 [x.kind,x.fr,x.tu,x.size,x.depth]⟩
def volP:Lays Vol:=⟨λx=>Z0 1 [x.level]++Z0 2 [x.first,x.count,x.journal],λx=>Zt 1 [x.level]&&Zt 2 [x.first,x.count,x.journal]⟩
def ruP:Lays Ru:=⟨λx=>Z0 1 [x.fr,x.tu,x.act]++(Yf x.pat++Yf x.wth),λx=>Zt 1 [x.fr,x.tu,x.act]&&(XC x.pat&&XC x.wth)⟩
def keyP:Lays ByteArray:=⟨Yf,XC⟩
def ZF{α:Type}(p:Lays α):List α->List UInt8
 |[]=>[]
 |x::l=>p.b x++ZF p l
def ZD{α:Type}(p:Lays α):List α->Bool
 |[]=>true
 |x::l=>p.ok x&&ZD p l
def ZY{α:Type}(p:Lays α)(l:List α):List UInt8:=Z0 1 [(l.length:Int)]++ZF p l
def ZO{α:Type}(p:Lays α)(l:List α):Bool:=Zt 1 [(l.length:Int)]&&ZD p l
def WQ:List UInt8:=[67,83,84,49]
def Cfg.bytes(c:Cfg):List UInt8:=
 WQ++(Z0 1 [c.levels]++(ZY XI c.flows++(ZY XG c.parts++(ZY winP c.windows++(ZY porP c.ports++(ZY volP c.volumes ++
  (Z0 2 [c.audit.first,c.audit.count,c.audit.journal,c.boot,c.sectors]++(ZY ruP c.rules++(ZY keyP c.keys++(Yf c.login++Z0 2 [c.recovery,c.bound]))))))))))
def Cfg.laid(c:Cfg):Bool:=
 Zt 1 [c.levels]&&ZO XI c.flows&&ZO XG c.parts&&ZO winP c.windows&&ZO porP c.ports&&ZO volP c.volumes &&
  Zt 2 [c.audit.first,c.audit.count,c.audit.journal,c.boot,c.sectors]&&ZO ruP c.rules&&ZO keyP c.keys&&XC c.login&&Zt 2 [c.recovery,c.bound]&&decide (c.audit.level=0)
def numU:List UInt8->Nat->Nat
 |[],n=>n
 |b::l,n=>numU l (n*256+b.toNat)
abbrev RSt:=Option (List UInt8)
def getN(w:Nat):RSt->Int × RSt
 |none=>(0,none)
 |some r=>if r.length<w then(0,none) else((numU (r.take w) 0:Nat),some (r.drop w))
def bytesOf(l:List UInt8):ByteArray:=⟨l.toArray⟩
def getT:RSt->ByteArray × RSt
 |none=>(⟨#[]⟩,none)
 | some r=>if r.length<2 then (⟨#[]⟩,none) else
  if 1024<numU (r.take 2) 0\/r.length - 2<numU (r.take 2) 0 then(⟨#[]⟩,none) else(bytesOf ((r.drop 2).take (numU (r.take 2) 0)),some ((r.drop 2).drop (numU (r.take 2) 0)))
def many{α:Type}(one:RSt->α × RSt):Nat->RSt->List α × RSt
 |0,s=>([],s)
 |n+1,s=>((one s).1::(many one n (one s).2).1,(many one n (one s).2).2)
def getL{α:Type}(one:RSt->α × RSt)(s:RSt):List α × RSt:=many one (getN 1 s).1.toNat (getN 1 s).2
def YJ(s:RSt):(Int × Int) × RSt:=
 let a:=getN 1 s
 let b:=getN 1 a.2
 ((a.1,b.1),b.2)
def YI(s:RSt):Prt × RSt:=
 let a:=getN 1 s
 let b:=getN 1 a.2
 (⟨a.1,b.1⟩,b.2)
def winG(s:RSt):Win × RSt:=
 let a:=getN 1 s
 let b:=getN 1 a.2
 let c:=getN 1 b.2
 (⟨a.1,b.1,c.1⟩,c.2)
def porG(s:RSt):Por × RSt:=
 let a:=getN 1 s
 let b:=getN 1 a.2
 let c:=getN 1 b.2
 let d:=getN 1 c.2
 let e:=getN 1 d.2
 (⟨a.1,b.1,c.1,d.1,e.1⟩,e.2)
def volG(s:RSt):Vol × RSt:=
 let a:=getN 1 s
 let b:=getN 2 a.2
 let c:=getN 2 b.2
 let d:=getN 2 c.2
 (⟨a.1,b.1,c.1,d.1⟩,d.2)
def ruG(s:RSt):Ru × RSt:=
 let a:=getN 1 s
 let b:=getN 1 a.2
 let c:=getN 1 b.2
 let d:=getT c.2
 let e:=getT d.2
 (⟨a.1,b.1,c.1,d.1,e.1⟩,e.2)
def cfgG(s:RSt):Cfg × RSt:=
 let a:=getN 1 s
 let f:=getL YJ a.2
 let p:=getL YI f.2
 let w:=getL winG p.2
 let o:=getL porG w.2
 let v:=getL volG o.2
 let x:=getN 2 v.2
 let y:=getN 2 x.2
 let z:=getN 2 y.2
 let b:=getN 2 z.2
 let t:=getN 2 b.2
 let r:=getL ruG t.2
 let k:=getL getT r.2
 let l:=getT k.2
 let m:=getN 2 l.2
 let n:=getN 2 m.2
 (⟨a.1,f.1,p.1,w.1,o.1,v.1,⟨0,x.1,y.1,z.1⟩,b.1,t.1,r.1,k.1,l.1,m.1,n.1⟩,n.2)
def Yj(s:List UInt8):Option Cfg:=
 if s.take 4=WQ then(if (cfgG (some (s.drop 4))).2=some [] then some (cfgG (some (s.drop 4))).1 else none) else none
inductive Rch (l:List (Int × Int)):Int->Int->Prop
 |refl (a:Int):Rch l a a
 |step {a b c:Int}:Rch l a b->(b,c)∈l->Rch l a c
def lev(n a:Int):Prop:=0<=a/\a<n
structure Lat (n:Int) (l:List (Int × Int)):Prop where
 lo:1<=n
 hi:n<=8
 few:l.length<=64
 pairs:∀ p∈l,lev n p.1/\lev n p.2
 loop:∀ a b,lev n a->lev n b->Rch l a b->Rch l b a->a=b
 join:∀ a b,lev n a->lev n b->∃ c,lev n c/\Rch l a c/\Rch l b c/\∀ d,lev n d->Rch l a d->Rch l b d->Rch l c d
 meet:∀ a b,lev n a->lev n b->∃ c,lev n c/\Rch l c a/\Rch l c b/\∀ d,lev n d->Rch l d a->Rch l d b->Rch l d c
open Classical in
noncomputable def latB(n:Int)(l:List (Int × Int)):Bool:=decide (Lat n l)
theorem YA{n:Int}{l:List (Int × Int)}:latB n l=true↔Lat n l:=by
 unfold latB;exact @decide_eq_true_iff _ (Classical.propDecidable _)
open Classical in
noncomputable def rchB(l:List (Int × Int))(a b:Int):Bool:=decide (Rch l a b)
theorem Er{l:List (Int × Int)}{a b:Int}:rchB l a b=true↔Rch l a b:=by
 unfold rchB;exact @decide_eq_true_iff _ (Classical.propDecidable _)
def inB(n lo hi:Int):Bool:=decide (lo<=n)&&decide (n<=hi)
theorem ZI{n lo hi:Int}:inB n lo hi=true↔lo<=n/\n<=hi:=by simp[inB]
def sumT:List Win->Int->Int->Int
 |[],_,_=>0
 |w::l,k,i=>(if w.kind=k/\w.index=i then w.ticks else 0)+sumT l k i
def Cfg.tk(c:Cfg)(k i:Int):Int:=sumT c.windows k i
def Cfg.lvl(c:Cfg)(n:Int):Bool:=inB n 0 (c.levels - 1)
def Cfg.prt(c:Cfg)(n:Int):Bool:=inB n 0 ((c.parts.length:Int) - 1)
def YU(c:Cfg)(p:Prt):Bool:=inB p.pages 1 16&&c.lvl p.level
def Cfg.partsB(c:Cfg):Bool:=inB c.parts.length 1 8&&c.parts.all (YU c)
def ZcC(c:Cfg)(k i:Int):Bool:=if k=0\/k=4 then decide (i=0) else if k=1 then c.prt i else if k=2\/k=3 then c.lvl i else false
def JQ(c:Cfg)(w:Win):Bool:=ZcC c w.kind w.index&&inB w.ticks 1 255
def hasT(W:List Win)(k i:Int):Bool:=decide (0<sumT W k i)
def Z7(W:List Win):Nat->List Prt->Bool
 |_,[]=>true
 |i,p::l=>(hasT W 1 i&&(hasT W 2 p.level&&hasT W 3 p.level))&&Z7 W (i+1) l
def Cfg.windowsB(c:Cfg):Bool:=(inB c.windows.length 1 64&&c.windows.all (JQ c))&&(Z7 c.windows 0 c.parts&&(c.rules.isEmpty || hasT c.windows 4 0))
def Cfg.levelOf(c:Cfg)(i:Int):Int:=((c.parts[i.toNat]?).map Prt.level).getD 0
noncomputable def JZ(c:Cfg)(p:Por):Bool:=
 inB p.kind 0 1&&(((c.prt p.fr&&c.prt p.tu)&&decide (p.fr≠p.tu))&&((inB p.size 1 255&&(inB p.depth 1 8&&(decide (p.kind=1) || decide (p.depth=1))))&&rchB c.flows (c.levelOf p.fr) (c.levelOf p.tu)))
noncomputable def Cfg.portsB(c:Cfg):Bool:=decide (c.ports.length<=16)&&c.ports.all (JZ c)
def X1(c:Cfg)(v:Vol):Bool:=decide (0<=v.first/\1<=v.count/\v.first<=c.sectors/\v.count<=c.sectors - v.first)&&inB v.journal 4 (v.count - 1)
def JR(c:Cfg)(v:Vol):Bool:=c.lvl v.level&&(decide (v.count - v.journal<=40)&&decide (v.count - v.journal<=v.journal - 3))
def apart(a b:Vol):Prop:=a.first+a.count<=b.first\/b.first+b.count<=a.first
def Cfg.exts(c:Cfg):List Vol:=c.volumes++[c.audit,⟨0,c.boot,2,0⟩]
def X4(a b:Vol):Bool:=decide (a.first+a.count<=b.first) || decide (b.first+b.count<=a.first)
def Z8{α:Type}(r:α->α->Bool):List α->Bool
 |[]=>true
 |x::l=>l.all (r x)&&Z8 r l
def Cfg.diskB(c:Cfg):Bool:=
 (inB c.sectors 1 4096&&decide (c.volumes.length≤8))&&(((c.volumes++[c.audit]).all (X1 c)&&c.volumes.all (JR c))&&((decide (c.audit.level=0)&&inB c.boot 0 (c.sectors - 2)) &&
  (Z8 (λa b=>decide (a.level≠b.level)) c.volumes&&Z8 X4 c.exts)))
noncomputable def ruOK(c:Cfg)(r:Ru):Bool:=
 ((c.lvl r.fr&&c.lvl r.tu)&&!rchB c.flows r.fr r.tu)&&(inB r.act 0 2&&(Ys r.pat.data.toList&&(if r.act=2 then Ys r.wth.data.toList else r.wth.data.toList.isEmpty)))
noncomputable def Cfg.rulesB(c:Cfg):Bool:=decide (c.rules.length<=32)&&c.rules.all (ruOK c)
def oddB(s:ByteArray):Bool:=s.data.toList.any λb=>decide (b.toNat<33) || decide (126<b.toNat)
def Cfg.textsB(c:Cfg):Bool:=decide ((c.keys.length:Int)=c.levels)&&(c.keys.all (λk=>inB k.size 1 64)&&(inB c.login.size 1 16&&!oddB c.login))
noncomputable def Cfg.fine(c:Cfg):Bool:=latB c.levels c.flows&&(c.partsB&&(c.windowsB&&(c.portsB&&(c.diskB&&(c.rulesB&&c.textsB)))))
def upI(a b:Int):Int:=(a+b - 1)/b
def cntL(l:List Prt)(n:Int):Nat:=(l.filter λp=>decide (p.level=n)).length
def WM:List Int->Int
 |[]=>0
 |n::l=>max n (WM l)
def Cfg.mostP(c:Cfg):Int:=WM (c.parts.map λp=>upI (cntL c.parts p.level) (c.tk 2 p.level))
def Yk(l:List Ru):Nat:=((List.range 64).filter λk=>l.any λr=>decide (r.fr=((k/8:Nat):Int))&&decide (r.tu=((k%8:Nat):Int))).length
def Cfg.mostR(c:Cfg):Int:=if c.rules.isEmpty then 0 else upI (4*(Yk c.rules:Int)) (c.tk 4 0)
def Cfg.need(c:Cfg):Int:=2+max c.mostP c.mostR
noncomputable def Cfg.checkB(c:Cfg):Bool:=c.fine&&(inB c.recovery 1 65535&&inB c.bound c.need 65535)
noncomputable def Cfg.needB(c:Cfg):Int:=if c.fine then c.need else 0
end Go.Proofs.YtbchkjfnakabkaaGreatDoor.PC
namespace Go.Proofs.YtbchkjfnakabkaaGreatDoor.PC
open PX
theorem Zi1(m:Int)(h0:0<=m)(h1:m<256):((UInt8.ofNat m.toNat).toNat:Int)=m:=by
 rw[UInt8.toNat_ofNat'];have:m.toNat%2 ^ 8=m.toNat:=Nat.mod_eq_of_lt (by omega);rw[this];omega
theorem Bd(a b:List UInt8):∀ n,numU (a++b) n=numU b (numU a n):=by
 induction a with
 |nil=>intro n;rfl
 |cons x l ih=>intro n;simp only[List.cons_append,numU];exact ih _
theorem QI(l:List UInt8):∀ n,numU l n=n*256 ^ l.length+numU l 0:=by
 induction l with
 |nil=>intro n;simp[numU]
 |cons x l ih=>
  intro n;simp only[numU,List.length_cons];rw[ih (n*256+x.toNat),ih (0*256+x.toNat),Nat.pow_succ]
  have:(n*256+x.toNat)*256 ^ l.length=n*(256 ^ l.length*256)+x.toNat*256 ^ l.length:=by
   rw[Nat.add_mul,Nat.mul_assoc,Nat.mul_comm 256]
  rw[this];simp;omega
theorem Zb7(n p:Int)(hp:0<p):n%(p*256)=(n/p%256)*p+n%p:=by
 have h1:=Int.mul_ediv_add_emod n p;have h2:=Int.mul_ediv_add_emod (n/p) 256;have h3:=Int.emod_nonneg n (show p≠0 by omega);have h4:=Int.emod_lt_of_pos n hp;have h5:=Int.emod_nonneg (n/p) (show(256:Int)≠0 by decide);have h6:=Int.emod_lt_of_pos (n/p) (show(0:Int)<256 by decide)
 obtain⟨a,ha⟩:∃ a,n/p%256=a:=⟨_,rfl⟩
 obtain⟨b,hb⟩:∃ b,n/p/256=b:=⟨_,rfl⟩
 obtain⟨c,hc⟩:∃ c,n%p=c:=⟨_,rfl⟩
 rw[ha]at h2 h5 h6 ⊢;rw[hc]at h1 h3 h4 ⊢;rw[hb]at h2
 have e:n=(a*p+c)+(p*256)*b:=by
  rw[<-h1,<-h2,Int.mul_add,Int.mul_comm p a,Int.mul_assoc];omega
 rw[e,Int.add_mul_emod_self_left];have h7:a*p<=255*p:=Int.mul_le_mul_of_nonneg_right (by omega) (by omega);have h8:0<=a*p:=Int.mul_nonneg h5 (by omega);exact Int.emod_eq_of_lt (by omega) (by omega)
theorem E7(n:Int):∀ k,((numU (putI n k) 0:Nat):Int)=n%256 ^ k
 |0=>by simp[putI,numU,Int.emod_one]
 |k+1=>by
  simp only[putI,numU];rw[QI,XK,Int.natCast_add,E7 n k,Int.natCast_mul];have hp:(0:Int)<256 ^ k:=Int.pow_pos (by decide);have h0:=Int.emod_nonneg (n/256 ^ k) (show(256:Int)≠0 by decide);have h1:=Int.emod_lt_of_pos (n/256 ^ k) (show(0:Int)<256 by decide)
  have hb:((0*256+(UInt8.ofNat (n/256 ^ k%256).toNat).toNat:Nat):Int)=n/256 ^ k%256:=by
   rw[Nat.zero_mul,Nat.zero_add];exact Zi1 _ h0 h1
  rw[hb,Int.natCast_pow,Int.pow_succ,Zb7 _ _ hp];rfl
theorem Uu{w:Nat}{n:Int}:Yq w n=true↔0<=n/\n<256 ^ w:=by simp[Yq]
theorem ZP{w:Nat}{n:Int}(h:Yq w n=true)(r:List UInt8):getN w (some (putI n w++r))=(n,some r):=by
 obtain⟨h0,h1⟩:=Uu.1 h;simp only[getN];rw[if_neg (by rw[List.length_append,XK];omega),List.take_left' (XK n w),List.drop_left' (XK n w),E7,Int.emod_eq_of_lt h0 h1]
theorem QH(l:List UInt8):numU l 0<256 ^ l.length:=by
 induction l with
 |nil=>simp[numU]
 |cons x l ih=>
  simp only[numU,List.length_cons];rw[QI,Nat.pow_succ];have hx:=x.toNat_lt;have:(0*256+x.toNat)*256 ^ l.length<=255*256 ^ l.length:=Nat.mul_le_mul_right _ (by omega);omega
theorem Zdk:∀ (l:List UInt8) (m:Nat),putI ((m*256 ^ l.length+numU l 0:Nat):Int) l.length=l
 |[],_=>rfl
 |x::l,m=>by
  have e0:=QH l;have hx:=x.toNat_lt;have f0:0<256 ^ l.length:=Nat.pow_pos (by decide)
  have e1:m*256 ^ (x::l).length+numU (x::l) 0=(m*256+x.toNat)*256 ^ l.length+numU l 0:=by
   simp only[numU,List.length_cons];rw[QI l (0*256+x.toNat),Nat.pow_succ,Nat.zero_mul,Nat.zero_add,Nat.add_mul (m*256),Nat.mul_assoc m 256,Nat.mul_comm 256 (256 ^ l.length)];omega
  rw[e1,List.length_cons,putI,Zdk l (m*256+x.toNat)]
  congr 1
  have e2:((((m*256+x.toNat)*256 ^ l.length+numU l 0:Nat):Int)/256 ^ l.length%256).toNat=x.toNat:=by
   have e3:(256:Int) ^ l.length=((256 ^ l.length:Nat):Int):=by rw[Int.natCast_pow];rfl
   rw[e3,<-Int.natCast_ediv,Nat.mul_comm,Nat.mul_add_div f0,Nat.div_eq_of_lt e0,Nat.add_zero];omega
  rw[e2];exact UInt8.ofNat_toNat
theorem B7(l:List UInt8):putI ((numU l 0:Nat):Int) l.length=l:=by
 have:=Zdk l 0
 rwa [Nat.zero_mul,Nat.zero_add]at this
theorem ZB{w:Nat}{s:RSt}{r':List UInt8}(h:(getN w s).2=some r'):s=some (putI (getN w s).1 w++r')/\Yq w (getN w s).1=true:=by
 cases s with
 |none=>cases h
 |some r=>
  simp only[getN]at h ⊢;by_cases hl:r.length<w
  ·rw[if_pos hl]at h;cases h
  ·rw[if_neg hl]at h ⊢;have hr:=Option.some.inj h;have ht:(r.take w).length=w:=by rw[List.length_take];omega
   have e:=B7 (r.take w);rw[ht]at e;refine⟨?_,?_⟩
   ·show some r=some (putI _ w++r');rw[e,<-hr,List.take_append_drop]
   ·have e0:=QH (r.take w);rw[ht]at e0;refine Uu.2 ⟨by omega,?_⟩;have e3:(256:Int) ^ w=((256 ^ w:Nat):Int):=by rw[Int.natCast_pow];rfl
    rw[e3];omega
theorem Ey{s:ByteArray}(h:XC s=true)(r:List UInt8):getT (some (Yf s++r))=(s,some r):=by
 have hs:s.size<=1024:=by simpa [XC] using h
 have hl:s.data.toList.length=s.size:=by rw[Array.length_toList];rfl
 have e:Yf s++r=putI (s.size:Int) 2++(s.data.toList++r):=by simp[Yf,if_pos hs]
 have hn:numU ((putI (s.size:Int) 2++(s.data.toList++r)).take 2) 0=s.size:=by
  rw[List.take_left' (XK _ 2)];have:=E7 (s.size:Int) 2;rw[Int.emod_eq_of_lt (by omega) (by have:(256:Int) ^ 2=65536:=rfl;omega)]at this;omega
 rw[e];simp only[getT]
 rw[if_neg (by rw[List.length_append,XK];omega),hn,if_neg (by rw[List.length_append,List.length_append,XK];omega),List.drop_left' (XK _ 2),
  List.take_left' hl,List.drop_left' hl]
 rfl
theorem Us{s:RSt}{r':List UInt8}(h:(getT s).2=some r'):s=some (Yf (getT s).1++r')/\XC (getT s).1=true:=by
 cases s with
 |none=>cases h
 |some r=>
  simp only[getT]at h ⊢;by_cases hl:r.length<2
  ·rw[if_pos hl]at h;cases h
  ·rw[if_neg hl]at h ⊢;by_cases hn:1024<numU (r.take 2) 0\/r.length - 2<numU (r.take 2) 0
   ·rw[if_pos hn]at h;cases h
   ·rw[if_neg hn]at h ⊢
    obtain⟨n,en⟩:∃ n,numU (r.take 2) 0=n:=⟨_,rfl⟩
    have e:=B7 (r.take 2);have ht:(r.take 2).length=2:=by rw[List.length_take];omega
    rw[ht]at e;rw[en]at h hn e ⊢;have hr:=Option.some.inj h
    have j0:(bytesOf ((r.drop 2).take n)).size=n:=by
     show((r.drop 2).take n).toArray.size=n;rw[List.size_toArray,List.length_take,List.length_drop];omega
    have i0:n<=1024:=by omega
    refine⟨?_,?_⟩
    ·show some r=some (Yf (bytesOf ((r.drop 2).take n))++r');rw[Yf,j0,if_pos i0,e,<-hr,List.append_assoc];show some r=some (r.take 2++((r.drop 2).take n++(r.drop 2).drop n));rw[List.take_append_drop,List.take_append_drop]
    ·show decide _=true;rw[j0];exact decide_eq_true i0
structure Fit {α:Type} (p:Lays α) (g:RSt->α × RSt):Prop where
 put:∀ x,p.ok x=true->∀ r,g (some (p.b x++r))=(x,some r)
 back:∀ s r',(g s).2=some r'->s=some (p.b (g s).1++r')/\p.ok (g s).1=true
theorem Zes:Fit keyP getT:=⟨λx h r=>Ey h r,λs r' h=>Us h⟩
theorem Xh{w:Nat}{n:Int}{l:List Int}{r:List UInt8}:Z0 w (n::l)++r=putI n w++(Z0 w l++r):=by simp[Z0]
theorem Jy{w:Nat}{r:List UInt8}:Z0 w []++r=r:=rfl
theorem ZV{w:Nat}{n:Int}{l:List Int}:Zt w (n::l)=true↔Yq w n=true/\Zt w l=true:=by simp[Zt]
theorem Y1{w:Nat}:Zt w []=true:=rfl
theorem Zay:Fit XI YJ:=by
 refine⟨λ⟨a,b⟩ h r=>?_,λs r' h=>?_⟩
 ·obtain⟨h1,h2,-⟩:Yq 1 a=true/\Yq 1 b=true/\True:=by have:=h;simp only[XI,ZV]at this;exact⟨this.1,this.2.1,trivial⟩
  show YJ (some (Z0 1 [a,b]++r))=_;rw[Xh,Xh,Jy];simp only[YJ,ZP h1,ZP h2]
 ·simp only[YJ]at h ⊢;obtain⟨e2,k2⟩:=ZB h;obtain⟨e1,k1⟩:=ZB e2;refine⟨?_,?_⟩
  ·show s=some (Z0 1 [_,_]++r');rw[Xh,Xh,Jy];exact e1
  ·show Zt 1 [_,_]=true;exact ZV.2 ⟨k1,ZV.2 ⟨k2,Y1⟩⟩
theorem Zax:Fit XG YI:=by
 refine⟨λ⟨a,b⟩ h r=>?_,λs r' h=>?_⟩
 ·obtain⟨h1,h2,-⟩:Yq 1 a=true/\Yq 1 b=true/\True:=by have:=h;simp only[XG,ZV]at this;exact⟨this.1,this.2.1,trivial⟩
  show YI (some (Z0 1 [a,b]++r))=_;rw[Xh,Xh,Jy];simp only[YI,ZP h1,ZP h2]
 ·simp only[YI]at h ⊢;obtain⟨e2,k2⟩:=ZB h;obtain⟨e1,k1⟩:=ZB e2;refine⟨?_,?_⟩
  ·show s=some (Z0 1 [_,_]++r');rw[Xh,Xh,Jy];exact e1
  ·show Zt 1 [_,_]=true;exact ZV.2 ⟨k1,ZV.2 ⟨k2,Y1⟩⟩
theorem Zep:Fit winP winG:=by
 refine⟨λ⟨a,b,c⟩ h r=>?_,λs r' h=>?_⟩
 ·obtain⟨h1,h2,h3,-⟩:Yq 1 a=true/\Yq 1 b=true/\Yq 1 c=true/\True:=by have:=h;simp only[winP,ZV]at this;exact⟨this.1,this.2.1,this.2.2.1,trivial⟩
  show winG (some (Z0 1 [a,b,c]++r))=_;rw[Xh,Xh,Xh,Jy];simp only[winG,ZP h1,ZP h2,ZP h3]
 ·simp only[winG]at h ⊢;obtain⟨e3,k3⟩:=ZB h;obtain⟨e2,k2⟩:=ZB e3;obtain⟨e1,k1⟩:=ZB e2;refine⟨?_,?_⟩
  ·show s=some (Z0 1 [_,_,_]++r');rw[Xh,Xh,Xh,Jy];exact e1
  ·show Zt 1 [_,_,_]=true;exact ZV.2 ⟨k1,ZV.2 ⟨k2,ZV.2 ⟨k3,Y1⟩⟩⟩
theorem Zer:Fit porP porG:=by
 refine⟨λ⟨a,b,c,d,e⟩ h r=>?_,λs r' h=>?_⟩
 ·obtain⟨h1,h2,h3,h4,h5⟩:Yq 1 a=true/\Yq 1 b=true/\Yq 1 c=true/\Yq 1 d=true/\Yq 1 e=true:=by have:=h;simp only[porP,ZV]at this;exact⟨this.1,this.2.1,this.2.2.1,this.2.2.2.1,this.2.2.2.2.1⟩
  show porG (some (Z0 1 [a,b,c,d,e]++r))=_;rw[Xh,Xh,Xh,Xh,Xh,Jy];simp only[porG,ZP h1,ZP h2,ZP h3,ZP h4,ZP h5]
 ·simp only[porG]at h ⊢;obtain⟨e5,k5⟩:=ZB h;obtain⟨e4,k4⟩:=ZB e5;obtain⟨e3,k3⟩:=ZB e4;obtain⟨e2,k2⟩:=ZB e3;obtain⟨e1,k1⟩:=ZB e2;refine⟨?_,?_⟩
  ·show s=some (Z0 1 [_,_,_,_,_]++r');rw[Xh,Xh,Xh,Xh,Xh,Jy];exact e1
  ·show Zt 1 [_,_,_,_,_]=true;exact ZV.2 ⟨k1,ZV.2 ⟨k2,ZV.2 ⟨k3,ZV.2 ⟨k4,ZV.2 ⟨k5,Y1⟩⟩⟩⟩⟩
theorem Zeq:Fit volP volG:=by
 refine⟨λ⟨a,b,c,d⟩ h r=>?_,λs r' h=>?_⟩
 ·obtain⟨h1,h2,h3,h4⟩:Yq 1 a=true/\Yq 2 b=true/\Yq 2 c=true/\Yq 2 d=true:=by have:=h;simp only[volP,Bool.and_eq_true,ZV]at this;exact⟨this.1.1,this.2.1,this.2.2.1,this.2.2.2.1⟩
  show volG (some ((Z0 1 [a]++Z0 2 [b,c,d])++r))=_;rw[List.append_assoc,Xh,Jy,Xh,Xh,Xh,Jy];simp only[volG,ZP h1,ZP h2,ZP h3,ZP h4]
 ·simp only[volG]at h ⊢;obtain⟨e4,k4⟩:=ZB h;obtain⟨e3,k3⟩:=ZB e4;obtain⟨e2,k2⟩:=ZB e3;obtain⟨e1,k1⟩:=ZB e2;refine⟨?_,?_⟩
  ·show s=some ((Z0 1 [_]++Z0 2 [_,_,_])++r');rw[List.append_assoc,Xh,Jy,Xh,Xh,Xh,Jy];exact e1
  ·show(Zt 1 [_]&&Zt 2 [_,_,_])=true;rw[Bool.and_eq_true];exact⟨ZV.2 ⟨k1,Y1⟩,ZV.2 ⟨k2,ZV.2 ⟨k3,ZV.2 ⟨k4,Y1⟩⟩⟩⟩
theorem ZgV:Fit ruP ruG:=by
 refine⟨λ⟨a,b,c,d,e⟩ h r=>?_,λs r' h=>?_⟩
 ·obtain⟨h1,h2,h3,h4,h5⟩:Yq 1 a=true/\Yq 1 b=true/\Yq 1 c=true/\XC d=true/\XC e=true:=by have:=h;simp only[ruP,Bool.and_eq_true,ZV]at this;exact⟨this.1.1,this.1.2.1,this.1.2.2.1,this.2.1,this.2.2⟩
  show ruG (some ((Z0 1 [a,b,c]++(Yf d++Yf e))++r))=_;rw[List.append_assoc,Xh,Xh,Xh,Jy,List.append_assoc];simp only[ruG,ZP h1,ZP h2,ZP h3,Ey h4,Ey h5]
 ·simp only[ruG]at h ⊢;obtain⟨e5,k5⟩:=Us h;obtain⟨e4,k4⟩:=Us e5;obtain⟨e3,k3⟩:=ZB e4;obtain⟨e2,k2⟩:=ZB e3;obtain⟨e1,k1⟩:=ZB e2;refine⟨?_,?_⟩
  ·show s=some ((Z0 1 [_,_,_]++(Yf _++Yf _))++r');rw[List.append_assoc,Xh,Xh,Xh,Jy,List.append_assoc];exact e1
  ·show(Zt 1 [_,_,_]&&(XC _&&XC _))=true;rw[Bool.and_eq_true,Bool.and_eq_true];exact⟨ZV.2 ⟨k1,ZV.2 ⟨k2,ZV.2 ⟨k3,Y1⟩⟩⟩,k4,k5⟩
theorem Zaj{α:Type}{p:Lays α}{g:RSt->α × RSt}(F:Fit p g):∀ (l:List α),ZD p l=true->∀ r,many g l.length (some (ZF p l++r))=(l,some r)
 |[],_,_=>rfl
 |x::l,h,r=>by
  have h':p.ok x=true/\ZD p l=true:=by simpa [ZD] using h
  simp only[ZF,many,List.length_cons,List.append_assoc,F.put x h'.1,Zaj F l h'.2]
theorem WN{α:Type}{p:Lays α}{g:RSt->α × RSt}(F:Fit p g):∀ (n:Nat) (s:RSt) (r':List UInt8),(many g n s).2=some r'->s=some (ZF p (many g n s).1++r')/\ZD p (many g n s).1=true/\(many g n s).1.length=n
 |0,s,r',h=>⟨h,rfl,rfl⟩
 |n+1,s,r',h=>by
  simp only[many]at h ⊢;obtain⟨e2,k2,l2⟩:=WN F n _ _ h;obtain⟨e1,k1⟩:=F.back _ _ e2;refine⟨?_,?_,?_⟩
  ·simp only[ZF,List.append_assoc];exact e1
  ·simp only[ZD,k1,k2,Bool.and_self]
  ·simp[l2]
theorem JA{α:Type}{p:Lays α}{g:RSt->α × RSt}(F:Fit p g){l:List α}(h:ZO p l=true)(r:List UInt8):getL g (some (ZY p l++r))=(l,some r):=by
 obtain⟨h1,h2⟩:Yq 1 (l.length:Int)=true/\ZD p l=true:=by have:=h;simp only[ZO,Bool.and_eq_true,ZV]at this;exact⟨this.1.1,this.2⟩
 simp only[getL,ZY,List.append_assoc];rw[Xh,Jy,ZP h1];simp only[Int.toNat_natCast];exact Zaj F l h2 r
theorem YW{α:Type}{p:Lays α}{g:RSt->α × RSt}(F:Fit p g){s:RSt}{r':List UInt8}(h:(getL g s).2=some r'):s=some (ZY p (getL g s).1++r')/\ZO p (getL g s).1=true:=by
 simp only[getL]at h ⊢;obtain⟨e2,k2,l2⟩:=WN F _ _ _ h;obtain⟨e1,k1⟩:=ZB e2;have h0:=(Uu.1 k1).1
 obtain⟨n,en⟩:∃ n,(getN 1 s).1=n:=⟨_,rfl⟩
 obtain⟨L,eL⟩:∃ L,many g (getN 1 s).1.toNat (getN 1 s).2=L:=⟨_,rfl⟩
 rw[eL]at e2 k2 l2 e1 ⊢;rw[en]at k1 h0 l2 e1;have el:(L.1.length:Int)=n:=by omega
 refine⟨?_,?_⟩
 ·simp only[ZY,List.append_assoc];rw[Xh,Jy,el];exact e1
 ·simp only[ZO,Bool.and_eq_true];rw[el];exact⟨ZV.2 ⟨k1,Y1⟩,k2⟩
theorem vol0(v:Vol)(h:v.level=0):(⟨0,v.first,v.count,v.journal⟩:Vol)=v:=by cases v;cases h;rfl
theorem D6(c:Cfg)(h:c.laid=true):Yj c.bytes=some c:=by
 simp only[Cfg.laid,Bool.and_eq_true,ZV,decide_eq_true_eq]at h;obtain⟨⟨⟨⟨⟨⟨⟨⟨⟨⟨⟨⟨h1,-⟩,h2⟩,h3⟩,h4⟩,h5⟩,h6⟩,⟨a1,a2,a3,a4,a5,-⟩⟩,h7⟩,h8⟩,h9⟩,⟨b1,b2,-⟩⟩,h10⟩:=h;have ht:c.bytes.take 4=WQ:=rfl
 have hd:c.bytes.drop 4=Z0 1 [c.levels]++(ZY XI c.flows++(ZY XG c.parts++(ZY winP c.windows++(ZY porP c.ports++(ZY volP c.volumes ++
  (Z0 2 [c.audit.first,c.audit.count,c.audit.journal,c.boot,c.sectors]++(ZY ruP c.rules++(ZY keyP c.keys++(Yf c.login++(Z0 2 [c.recovery,c.bound]++[])))))))))):=by rw[List.append_nil];rfl
 have hg:cfgG (some (c.bytes.drop 4))=(c,some []):=by
  rw[hd,Xh,Jy,Xh,Xh,Xh,Xh,Xh,Jy,Xh,Xh,Jy]
  simp only[cfgG,ZP h1,JA Zay h2,JA Zax h3,JA Zep h4,JA Zer h5,JA Zeq h6,ZP a1,ZP a2,ZP a3,ZP a4,ZP a5,
   JA ZgV h7,JA Zes h8,Ey h9,ZP b1,ZP b2]
  rw[vol0 _ h10]
 rw[Yj,if_pos ht,hg,if_pos rfl]
theorem BI{s:List UInt8}{c:Cfg}(h:Yj s=some c):c.laid=true/\c.bytes=s:=by
 unfold Yj at h;by_cases hm:s.take 4=WQ
 ·rw[if_pos hm]at h;by_cases hr:(cfgG (some (s.drop 4))).2=some []
  ·rw[if_pos hr]at h;have hc:=Option.some.inj h
   obtain⟨t,et⟩:∃ t,s.drop 4=t:=⟨_,rfl⟩
   rw[et]at hr hc;have hs:s=WQ++t:=by rw[<-hm,<-et,List.take_append_drop]
   clear h hm et;simp only[cfgG]at hr hc;obtain⟨q16,k16⟩:=ZB hr;obtain⟨q15,k15⟩:=ZB q16;obtain⟨q14,k14⟩:=Us q15;obtain⟨q13,k13⟩:=YW Zes q14;obtain⟨q12,k12⟩:=YW ZgV q13;obtain⟨q11,k11⟩:=ZB q12;obtain⟨q10,k10⟩:=ZB q11;obtain⟨q9,k9⟩:=ZB q10;obtain⟨q8,k8⟩:=ZB q9;obtain⟨q7,k7⟩:=ZB q8;obtain⟨q6,k6⟩:=YW Zeq q7;obtain⟨q5,k5⟩:=YW Zer q6;obtain⟨q4,k4⟩:=YW Zep q5;obtain⟨q3,k3⟩:=YW Zax q4;obtain⟨q2,k2⟩:=YW Zay q3;obtain⟨q1,k1⟩:=ZB q2;rw[<-hc];refine⟨?_,?_⟩
   ·simp only[Cfg.laid,Bool.and_eq_true,ZV,decide_eq_true_eq];exact⟨⟨⟨⟨⟨⟨⟨⟨⟨⟨⟨⟨k1,Y1⟩,k2⟩,k3⟩,k4⟩,k5⟩,k6⟩,⟨k7,k8,k9,k10,k11,Y1⟩⟩,k12⟩,k13⟩,k14⟩,⟨k15,k16,Y1⟩⟩,trivial⟩
   ·rw[hs];simp only[Cfg.bytes];refine congrArg (WQ++·) ?_;refine Eq.trans ?_ (Option.some.inj q1).symm;simp only[Z0,List.append_assoc,List.append_nil,List.nil_append]
  ·rw[if_neg hr]at h;cases h
 ·rw[if_neg hm]at h;cases h
end Go.Proofs.YtbchkjfnakabkaaGreatDoor.PC
namespace Go.Proofs.YtbchkjfnakabkaaGreatDoor.PC
open PX
def bitR(r:List Int)(a b:Nat):Bool:=((r[a]?.getD 0).toNat).testBit b
structure Rows8 (r:List Int):Prop where
 len:r.length=8
 u8:∀ x∈r,0<=x/\x<256
def orI(x y:Int):Int:=((x.toNat ||| y.toNat:Nat):Int)
def andI(x y:Int):Int:=((x.toNat &&& y.toNat:Nat):Int)
theorem ZdC{x y:Int}(hx:0<=x/\x<256)(hy:0<=y/\y<256):0<=orI x y/\orI x y<256:=by
 unfold orI;have h1:x.toNat<2 ^ 8:=by omega
 have h2:y.toNat<2 ^ 8:=by omega
 have:=Nat.or_lt_two_pow h1 h2;omega
theorem Q1{x y:Int}(hx:0<=x/\x<256)(hy:0<=y/\y<256):0<=andI x y/\andI x y<256:=by
 unfold andI;have h1:x.toNat<2 ^ 8:=by omega
 have:=Nat.and_le_left (n:=x.toNat) (m:=y.toNat);omega
theorem ZiH{x y:Int}(hx:0<=x):x<=orI x y:=by
 unfold orI;have h:x.toNat<=x.toNat ||| y.toNat:=Nat.left_le_or;omega
theorem ZeP(x y:Int)(j:Nat):(orI x y).toNat.testBit j=(x.toNat.testBit j || y.toNat.testBit j):=by
 unfold orI;rw[Int.toNat_natCast,Nat.testBit_or]
theorem Vy(x y:Int)(j:Nat):(andI x y).toNat.testBit j=(x.toNat.testBit j&&y.toNat.testBit j):=by
 unfold andI;rw[Int.toNat_natCast,Nat.testBit_and]
theorem Rows8.get{r:List Int}(h:Rows8 r)(a:Nat):0<=r[a]?.getD 0/\r[a]?.getD 0<256:=by
 by_cases hl:a<r.length
 ·rw[List.getElem?_eq_getElem hl];exact h.u8 _ (List.getElem_mem hl)
 ·rw[List.getElem?_eq_none (by omega)];simp
theorem Rows8.set{r:List Int}(h:Rows8 r)(a:Nat){x:Int}(hx:0<=x/\x<256):Rows8 (r.set a x):=by
 refine⟨by rw[List.length_set];exact h.len,λy hy=>?_⟩;rcases List.mem_or_eq_of_mem_set hy with hy|rfl
 ·exact h.u8 y hy
 ·exact hx
theorem ZeQ{r:List Int}(h:Rows8 r){a b:Nat}(hb:bitR r a b=true):a<8/\b<8:=by
 unfold bitR at hb;have hg:=h.get a;refine⟨?_,?_⟩
 ·by_cases hl:a<8
  ·exact hl
  ·rw[List.getElem?_eq_none (by have:=h.len;omega)]at hb;simp at hb
 ·by_cases hl:b<8
  ·exact hl
  ·have h2:(r[a]?.getD 0).toNat<2 ^ b:=Nat.lt_of_lt_of_le (show(r[a]?.getD 0).toNat<2 ^ 8 by omega) (Nat.pow_le_pow_right (by omega) (by omega));rw[Nat.testBit_lt_two_pow h2]at hb;cases hb
theorem QV{r:List Int}(h:Rows8 r){a:Nat}(ha:a<8)(x:Int)(i j:Nat):bitR (r.set a x) i j=if i=a then x.toNat.testBit j else bitR r i j:=by
 unfold bitR;by_cases hi:i=a
 ·subst hi;rw[if_pos rfl,List.getElem?_set_self (by rw[h.len];exact ha)];rfl
 ·rw[if_neg hi,List.getElem?_set_ne (λe=>hi e.symm)]
def VS(r:List Int)(a b:Nat):List Int:=if bitR r a b then r.set a (orI (r[a]?.getD 0) (r[b]?.getD 0)) else r
def UO(r:List Int)(a:Nat):Nat->List Int
 |0=>r
 |k+1=>VS (UO r a k) a k
def Jm(r:List Int):Nat->List Int
 |0=>r
 |k+1=>UO (Jm r k) k 8
theorem Zbb{r:List Int}(h:Rows8 r)(a b:Nat):Rows8 (VS r a b):=by
 unfold VS;split
 ·exact h.set a (ZdC (h.get a) (h.get b))
 ·exact h
theorem Yv{r:List Int}(h:Rows8 r)(a:Nat):∀ k,Rows8 (UO r a k)
 |0=>h
 |k+1=>Zbb (Yv h a k) a k
theorem XD{r:List Int}(h:Rows8 r):∀ k,Rows8 (Jm r k)
 |0=>h
 |k+1=>Yv (XD h k) k 8
theorem EK{r:List Int}(h:Rows8 r){a:Nat}(ha:a<8)(b i j:Nat):bitR (VS r a b) i j=(bitR r i j || (decide (i=a)&&(bitR r a b&&bitR r b j))):=by
 unfold VS;by_cases hb:bitR r a b=true
 ·rw[if_pos hb,QV h ha,hb];by_cases hi:i=a
  ·subst hi;rw[if_pos rfl,ZeP];simp[bitR]
  ·rw[if_neg hi];simp[hi]
 ·rw[if_neg hb];simp[hb]
def leR:List Int->List Int->Prop
 |[],[]=>True
 |x::l,y::m=>x<=y/\leR l m
 |_,_=>False
theorem Up:∀ l,leR l l
 |[]=>trivial
 |x::l=>⟨Int.le_refl x,Up l⟩
theorem Gd:∀ {l m n:List Int},leR l m->leR m n->leR l n
 |[],[],[],_,_=>trivial
 |x::l,y::m,z::n,h1,h2=>⟨Int.le_trans h1.1 h2.1,Gd h1.2 h2.2⟩
 |[],_::_,_,h,_=>h.elim
 |_::_,[],_,h,_=>h.elim
 |[],[],_::_,_,h=>h.elim
 |_::_,_::_,[],_,h=>h.elim
theorem Zd2:∀ (l:List Int) (a:Nat) (v:Int),l[a]?.getD 0<=v->leR l (l.set a v)
 |[],_,_,_=>trivial
 |x::l,0,v,h=>⟨h,Up l⟩
 |x::l,a+1,v,h=>⟨Int.le_refl x,Zd2 l a v (by simpa using h)⟩
theorem Zd1:∀ {l m:List Int},leR l m->l.sum<=m.sum/\(l.sum=m.sum->l=m)
 |[],[],_=>⟨Int.le_refl _,λ_=>rfl⟩
 |x::l,y::m,h=>by
  obtain⟨h1,h2⟩:=Zd1 h.2;have h3:=h.1;simp only[List.sum_cons];refine⟨by omega,λe=>?_⟩;have e1:x=y:=by omega
  rw[e1,h2 (by omega)]
 |[],_::_,h=>h.elim
 |_::_,[],h=>h.elim
theorem ZfV{r:List Int}(h:Rows8 r)(a b:Nat):leR r (VS r a b):=by
 unfold VS;split
 ·exact Zd2 r a _ (ZiH (h.get a).1)
 ·exact Up r
theorem WV{r:List Int}(h:Rows8 r)(a:Nat):∀ k,leR r (UO r a k)
 |0=>Up r
 |k+1=>Gd (WV h a k) (ZfV (Yv h a k) a k)
theorem WW{r:List Int}(h:Rows8 r):∀ k,leR r (Jm r k)
 |0=>Up r
 |k+1=>Gd (WW h k) (WV (XD h k) k 8)
theorem ZgM:∀ (l:List Int),(∀x∈l,0<=x/\x<256)->0<=l.sum/\l.sum<=255*l.length
 |[],_=>by simp
 |x::l,h=>by
  have h1:=ZgM l λy hy=>h y (List.mem_cons_of_mem x hy)
  have h2:=h x List.mem_cons_self;simp only[List.sum_cons,List.length_cons];omega
def ZdZ(r:List Int):Nat:=(2040 - r.sum).toNat
theorem ZdY{r:List Int}(h:Rows8 r)(hne:Jm r 8≠r):ZdZ (Jm r 8)<ZdZ r:=by
 have h1:=Zd1 (WW h 8);have h2:=ZgM _ (XD h 8).u8;rw[(XD h 8).len]at h2;have h3:r.sum≠(Jm r 8).sum:=λe=>hne (h1.2 e).symm
 unfold ZdZ;omega
def subR(r s:List Int):Prop:=∀ i j,bitR r i j=true->bitR s i j=true
theorem ZcS{r:List Int}(h:Rows8 r){a:Nat}(ha:a<8)(b:Nat):subR r (VS r a b):=λi j hb=>by rw[EK h ha,hb];rfl
theorem UI{r:List Int}(h:Rows8 r){a:Nat}(ha:a<8):∀ k k',k<=k'->subR (UO r a k) (UO r a k'):=by
 intro k k' hk
 induction hk with
 |refl=>exact λi j hb=>hb
 |step hk ih=>exact λi j hb=>ZcS (Yv h a _) ha _ i j (ih i j hb)
theorem UJ{r:List Int}(h:Rows8 r):∀ k k',k<=k'->k'<=8->subR (Jm r k) (Jm r k'):=by
 intro k k' hk
 induction hk with
 |refl=>exact λ_ i j hb=>hb
 |step hk ih=>exact λhk' i j hb=>UI (XD h _) (by omega) 0 8 (by omega) i j (ih (by omega) i j hb)
theorem Dt{r:List Int}(h:Rows8 r)(he:Jm r 8=r){a b c:Nat}(hab:bitR r a b=true)(hbc:bitR r b c=true):bitR r a c=true:=by
 have ha:=(ZeQ h hab).1;have hb:=(ZeQ h hab).2
 have h1:∀ i j,bitR r i j=true->bitR (UO (Jm r a) a b) i j=true:=λi j d0=>
  UI (XD h a) ha 0 b (by omega) i j (UJ h 0 a (by omega) (by omega) i j d0)
 have h2:bitR (UO (Jm r a) a (b+1)) a c=true:=by
  show bitR (VS _ a b) a c=true;rw[EK (Yv (XD h a) a b) ha,h1 a b hab,h1 b c hbc];simp
 have h3:bitR (Jm r (a+1)) a c=true:=UI (XD h a) ha (b+1) 8 (by omega) a c h2;have h4:=UJ h (a+1) 8 (by omega) (by omega) a c h3
 rwa [he]at h4
def Ja(n:Int)(l:List (Int × Int))(r:List Int):Prop:=∀ i j:Nat,bitR r i j=true->lev n i/\lev n j/\Rch l i j
theorem Jl{l:List (Int × Int)}{a b c:Int}(h1:Rch l a b)(h2:Rch l b c):Rch l a c:=by
 induction h2 with
 |refl=>exact h1
 |step _ he ih=>exact .step ih he
theorem Zbc{n:Int}{l:List (Int × Int)}{r:List Int}(h:Rows8 r)(hs:Ja n l r){a:Nat}(ha:a<8)(b:Nat):Ja n l (VS r a b):=by
 intro i j hb;rw[EK h ha,Bool.or_eq_true]at hb;rcases hb with hb|hb
 ·exact hs i j hb
 ·simp only[Bool.and_eq_true,decide_eq_true_eq]at hb;obtain⟨rfl,h1,h2⟩:=hb;obtain⟨p1,p2,p3⟩:=hs _ _ h1;obtain⟨q1,q2,q3⟩:=hs _ _ h2;exact⟨p1,q2,Jl p3 q3⟩
theorem EM{n:Int}{l:List (Int × Int)}{r:List Int}(h:Rows8 r)(hs:Ja n l r){a:Nat}(ha:a<8):∀ k,Ja n l (UO r a k)
 |0=>hs
 |k+1=>Zbc (Yv h a k) (EM h hs ha k) ha k
theorem EN{n:Int}{l:List (Int × Int)}{r:List Int}(h:Rows8 r)(hs:Ja n l r):∀ k,k<=8->Ja n l (Jm r k)
 |0,_=>hs
 |k+1,hk=>EM (XD h k) (EN h hs k (by omega)) (by omega) 8
def Zco(n:Int)(l:List (Int × Int))(r:List Int):Prop:=(∀i:Nat,lev n i->bitR r i i=true)/\∀ p∈l,bitR r p.1.toNat p.2.toNat=true
theorem ZgA{n:Int}{l:List (Int × Int)}{r s:List Int}(h:Zco n l r)(hs:subR r s):Zco n l s:=⟨λi hi=>hs _ _ (h.1 i hi),λp hp=>hs _ _ (h.2 p hp)⟩
theorem Qh{n:Int}{l:List (Int × Int)}{r:List Int}(h:Rows8 r)(he:Jm r 8=r)(hs:Ja n l r)(hb:Zco n l r)(hl:∀ p∈l,lev n p.1/\lev n p.2){a b:Nat}(ha:lev n a):bitR r a b=true↔Rch l a b:=by
 refine⟨λh=>(hs _ _ h).2.2,?_⟩
 have key:∀ x y:Int,Rch l x y->x=a->bitR r a y.toNat=true:=by
  intro x y hr
  induction hr with
  |refl=>intro e;subst e;exact hb.1 a ha
  |step h1 he' ih=>
   intro e;obtain⟨q1,q2⟩:=hl _ he';exact Dt h he (ih e) (hb.2 _ he')
 intro hr;have:=key _ _ hr rfl
 simpa using this
theorem Zhl{n:Int}{l:List (Int × Int)}(hl:∀ p∈l,lev n p.1/\lev n p.2){a b:Int}(h:Rch l a b)(ha:lev n a):lev n b:=by
 cases h with
 |refl=>exact ha
 |step _ he=>exact(hl _ he).2
def addR(r:List Int)(a b:Nat):List Int:=r.set a (orI (r[a]?.getD 0) (2 ^ b))
theorem GR{b:Nat}(hb:b<8):0<=(2:Int) ^ b/\(2:Int) ^ b<256:=by
 have:b=0\/b=1\/b=2\/b=3\/b=4\/b=5\/b=6\/b=7:=by omega
 rcases this with rfl|rfl|rfl|rfl|rfl|rfl|rfl|rfl<;>decide
theorem Ue(b:Nat):((2:Int) ^ b).toNat=2 ^ b:=by
 have:(2:Int) ^ b=((2 ^ b:Nat):Int):=by simp
 rw[this,Int.toNat_natCast]
theorem GD{r:List Int}(h:Rows8 r)(a:Nat){b:Nat}(hb:b<8):Rows8 (addR r a b):=h.set a (ZdC (h.get a) (GR hb))
theorem ZaM{r:List Int}(h:Rows8 r){a:Nat}(ha:a<8)(b i j:Nat):bitR (addR r a b) i j=(bitR r i j || (decide (i=a)&&decide (b=j))):=by
 unfold addR;rw[QV h ha];by_cases hi:i=a
 ·subst hi;rw[if_pos rfl,ZeP,Ue,Nat.testBit_two_pow];simp[bitR]
 ·rw[if_neg hi];simp[hi]
def YK:List Int:=[0,0,0,0,0,0,0,0]
theorem GM:Rows8 YK:=⟨rfl,by intro x hx;simp[YK]at hx;omega⟩
theorem Zcr(a:Nat):YK[a]?.getD 0=0:=by
 unfold YK;rcases a with _|_|_|_|_|_|_|_|a<;>rfl
theorem Q7(a b:Nat):bitR YK a b=false:=by
 unfold bitR;rw[Zcr];simp
def Vg:Nat->List Int
 |0=>YK
 |k+1=>(Vg k).set k (2 ^ k)
theorem Yc:∀ k,k<=8->Rows8 (Vg k)
 |0,_=>GM
 |k+1,h=>(Yc k (by omega)).set k (GR (by omega))
theorem Gw:∀ k,k<=8->∀ i j,bitR (Vg k) i j=(decide (i<k)&&decide (i=j))
 |0,_,i,j=>by rw[Vg,Q7];simp
 |k+1,h,i,j=>by
  rw[Vg,QV (Yc k (by omega)) (by omega)];by_cases hi:i=k
  ·subst hi;rw[if_pos rfl,Ue,Nat.testBit_two_pow];simp
  ·rw[if_neg hi,Gw k (by omega)];have:decide (i<k+1)=decide (i<k):=by rw[decide_eq_decide];omega
   rw[this]
def YV(r:List Int):List (Int × Int)->List Int
 |[]=>r
 |p::l=>YV (addR r p.1.toNat p.2.toNat) l
theorem D7(r:List Int)(l:List (Int × Int))(p:Int × Int):YV r (l++[p])=addR (YV r l) p.1.toNat p.2.toNat:=by
 induction l generalizing r with
 |nil=>rfl
 |cons q l ih=>exact ih _
theorem VY{n:Int}(hn:n<=8):∀ (l:List (Int × Int)) (r:List Int),Rows8 r->(∀p∈l,lev n p.1/\lev n p.2)->Rows8 (YV r l)
 |[],r,h,_=>h
 |p::l,r,h,hl=>by
  have h1:=(hl p List.mem_cons_self).2;unfold lev at h1;exact VY hn l _ (GD h _ (by omega)) λq hq=>hl q (List.mem_cons_of_mem p hq)
theorem Vp{n:Int}(hn:n<=8):∀ (l:List (Int × Int)) (r:List Int),Rows8 r->(∀p∈l,lev n p.1/\lev n p.2)->∀ i j,bitR (YV r l) i j=true↔(bitR r i j=true\/∃ p∈l,i=p.1.toNat/\j=p.2.toNat)
 |[],r,h,_,i,j=>by simp[YV]
 |p::l,r,h,hl,i,j=>by
  have h1:=hl p List.mem_cons_self;unfold lev at h1;rw[YV,Vp hn l _ (GD h _ (by omega)) (λq hq=>hl q (List.mem_cons_of_mem p hq)),ZaM h (by omega)];simp only[Bool.or_eq_true,Bool.and_eq_true,decide_eq_true_eq,List.mem_cons,exists_eq_or_imp];constructor
  ·rintro((h|h)|h)
   ·exact .inl h
   ·exact .inr (.inl ⟨h.1,h.2.symm⟩)
   ·exact .inr (.inr h)
  ·rintro(h|h|h)
   ·exact .inl (.inl h)
   ·exact .inl (.inr ⟨h.1,h.2.symm⟩)
   ·exact .inr h
theorem EL{n:Nat}(hn:n<=8){l:List (Int × Int)}(hl:∀ p∈l,lev n p.1/\lev n p.2):Ja n l (YV (Vg n) l):=by
 intro i j hb;rcases(Vp (n:=n) (by omega) l _ (Yc n hn) hl i j).1 hb with h|⟨p,hp,rfl,rfl⟩
 ·rw[Gw n hn]at h;simp only[Bool.and_eq_true,decide_eq_true_eq]at h;obtain⟨h1,rfl⟩:=h;have:lev (n:Int) (i:Int):=by unfold lev;omega
  exact⟨this,this,.refl _⟩
 ·obtain⟨h1,h2⟩:=hl p hp;have e1:((p.1.toNat:Nat):Int)=p.1:=by unfold lev at h1;omega
  have e2:((p.2.toNat:Nat):Int)=p.2:=by unfold lev at h2;omega
  rw[e1,e2];exact⟨h1,h2,.step (.refl _) hp⟩
theorem GT{n:Nat}(hn:n<=8){l:List (Int × Int)}(hl:∀ p∈l,lev n p.1/\lev n p.2):Zco n l (YV (Vg n) l):=by
 refine⟨λi hi=>(Vp (n:=n) (by omega) l _ (Yc n hn) hl i i).2 (.inl ?_),λp hp=>(Vp (n:=n) (by omega) l _ (Yc n hn) hl _ _).2 (.inr ⟨p,hp,rfl,rfl⟩)⟩;rw[Gw n hn];unfold lev at hi;simp;omega
def UD(U r:List Int)(a:Nat):Nat->List Int
 |0=>r
 |k+1=>if bitR U a k then addR (UD U r a k) k a else UD U r a k
def Ek(U:List Int)(n:Nat):Nat->List Int
 |0=>YK
 |k+1=>UD U (Ek U n k) k n
theorem U0{U r:List Int}(h:Rows8 r){a:Nat}(ha:a<8):∀ k,k<=8->Rows8 (UD U r a k)/\∀ i j,bitR (UD U r a k) i j=(bitR r i j || (decide (i<k)&&(decide (j=a)&&bitR U a i)))
 |0,_=>⟨h,λi j=>by simp[UD]⟩
 |k+1,hk=>by
  obtain⟨h1,h2⟩:=U0 (U:=U) h ha k (by omega);unfold UD;by_cases hb:bitR U a k=true
  ·rw[if_pos hb];refine⟨GD h1 _ ha,λi j=>?_⟩;rw[ZaM h1 (by omega),h2];by_cases hi:i=k
   ·subst hi;have e1:decide (i<i)=false:=by simp
    have e2:decide (i<i+1)=true:=by simp
    have e3:decide (a=j)=decide (j=a):=by rw[decide_eq_decide];exact eq_comm
    rw[hb,e1,e2,e3];simp
   ·have:decide (i<k+1)=decide (i<k):=by rw[decide_eq_decide];omega
    rw[this];simp[hi]
  ·rw[if_neg hb];refine⟨h1,λi j=>?_⟩;rw[h2];by_cases hi:i=k
   ·subst hi;simp[hb]
   ·have:decide (i<k+1)=decide (i<k):=by rw[decide_eq_decide];omega
    rw[this]
theorem VA{U:List Int}{n:Nat}(hn:n<=8):∀ k,k<=8->Rows8 (Ek U n k)/\∀ i j,bitR (Ek U n k) i j=(decide (j<k)&&(decide (i<n)&&bitR U j i))
 |0,_=>⟨GM,λi j=>by rw[Ek,Q7];simp⟩
 |k+1,hk=>by
  obtain⟨h1,h2⟩:=VA (U:=U) hn k (by omega);obtain⟨h3,h4⟩:=U0 (U:=U) h1 (show k<8 by omega) n hn;refine⟨h3,λi j=>?_⟩;rw[Ek,h4,h2];by_cases hj:j=k
  ·subst hj;simp
  ·have:decide (j<k+1)=decide (j<k):=by rw[decide_eq_decide];omega
   rw[this];simp[hj]
structure LatR (n:Nat) (l:List (Int × Int)) (U D:List Int):Prop where
 up:Rows8 U
 down:Rows8 D
 lo:1<=n
 hi:n<=8
 pairs:∀ p∈l,lev n p.1/\lev n p.2
 ubit:∀ a b:Nat,a<n->(bitR U a b=true↔Rch l a b)
 dbit:∀ a b:Nat,a<n->(bitR D a b=true↔(b<n/\Rch l b a))
theorem W6{n:Nat}{l:List (Int × Int)}{U:List Int}(h1:1<=n)(h8:n<=8)(hl:∀ p∈l,lev n p.1/\lev n p.2)(h:Rows8 U)(he:Jm U 8=U)(hs:Ja n l U)(hb:Zco n l U):LatR n l U (Ek U n n):=by
 refine⟨h,(VA h8 n h8).1,h1,h8,hl,λa b ha=>Qh h he hs hb hl (by unfold lev;omega),λa b ha=>?_⟩;rw[(VA h8 n h8).2];simp only[Bool.and_eq_true,decide_eq_true_eq];refine⟨λ⟨q1,q2,q3⟩=>⟨q1,(hs _ _ q3).2.2⟩,λ⟨q1,q2⟩=>⟨q1,ha,(Qh h he hs hb hl (by unfold lev;omega)).2 q2⟩⟩
theorem Zal{n:Nat}{l:List (Int × Int)}{U D:List Int}(h:LatR n l U D):(∀a,a<n->andI (U[a]?.getD 0) (D[a]?.getD 0)=2 ^ a)↔∀ a b,lev n a->lev n b->Rch l a b->Rch l b a->a=b:=by
 constructor
 ·intro hh a b ha hb h1 h2;unfold lev at ha hb;obtain⟨x,rfl⟩:=Int.eq_ofNat_of_zero_le ha.1;obtain⟨y,rfl⟩:=Int.eq_ofNat_of_zero_le hb.1;have e:=congrArg (λz:Int=>z.toNat.testBit y) (hh x (by omega));simp only[Vy,Ue,Nat.testBit_two_pow]at e;have u:bitR U x y=true:=(h.ubit x y (by omega)).2 h1;have d:bitR D x y=true:=(h.dbit x y (by omega)).2 ⟨by omega,h2⟩;unfold bitR at u d;rw[u,d]at e;have:x=y:=by simpa using e
  rw[this]
 ·intro hh a ha;have hk:=Q1 (h.up.get a) (h.down.get a)
  have:(andI (U[a]?.getD 0) (D[a]?.getD 0)).toNat=2 ^ a:=by
   refine Nat.eq_of_testBit_eq λj=>?_
   rw[Vy,Nat.testBit_two_pow];rw[Bool.eq_iff_iff,Bool.and_eq_true,decide_eq_true_eq];have u:=h.ubit a j ha;have d:=h.dbit a j ha;unfold bitR at u d;rw[u,d];constructor
   ·rintro⟨q1,q2,q3⟩;have:=hh a j (by unfold lev;omega) (by unfold lev;omega) q1 q3;omega
   ·rintro rfl;exact⟨.refl _,ha,.refl _⟩
  have e2:=Ue a;have e3:(0:Int)<=2 ^ a:=Int.pow_nonneg (by decide);omega
def VM(R:List Int)(n:Nat)(x:Int):Prop:=∃ c,c<n/\R[c]?.getD 0=x
theorem Zar{n:Nat}{l:List (Int × Int)}{U D:List Int}(h:LatR n l U D){a b:Nat}(ha:a<n)(hb:b<n) :
 VM U n (andI (U[a]?.getD 0) (U[b]?.getD 0))↔∃ c,lev n c/\Rch l a c/\Rch l b c/\∀ d,lev n d->Rch l a d->Rch l b d->Rch l c d:=by
 constructor
 ·rintro⟨c,hc,e⟩
  have key:∀ j,bitR U c j=(bitR U a j&&bitR U b j):=λj=>by
   unfold bitR;rw[e,Vy]
  have c0:bitR U c c=true:=(h.ubit c c hc).2 (.refl _);rw[key,Bool.and_eq_true]at c0;refine⟨c,by unfold lev;omega,(h.ubit a c ha).1 c0.1,(h.ubit b c hb).1 c0.2,λd hd h1 h2=>?_⟩;unfold lev at hd;obtain⟨y,rfl⟩:=Int.eq_ofNat_of_zero_le hd.1;refine(h.ubit c y hc).1 ?_;have u1:bitR U a y=true:=(h.ubit a y ha).2 h1;have u2:bitR U b y=true:=(h.ubit b y hb).2 h2;rw[key,u1,u2];rfl
 ·rintro⟨c,hc,h1,h2,h3⟩;unfold lev at hc;obtain⟨z,rfl⟩:=Int.eq_ofNat_of_zero_le hc.1;refine⟨z,by omega,?_⟩;have g1:=h.up.get z;have g2:=Q1 (h.up.get a) (h.up.get b)
  have:(U[z]?.getD 0).toNat=(andI (U[a]?.getD 0) (U[b]?.getD 0)).toNat:=by
   refine Nat.eq_of_testBit_eq λj=>?_
   rw[Vy,Bool.eq_iff_iff,Bool.and_eq_true];have u1:=h.ubit z j (by omega);have u2:=h.ubit a j ha;have u3:=h.ubit b j hb;unfold bitR at u1 u2 u3;rw[u1,u2,u3];constructor
   ·exact λq=>⟨Jl h1 q,Jl h2 q⟩
   ·rintro⟨q1,q2⟩;exact h3 j (Zhl h.pairs q1 (by unfold lev;omega)) q1 q2
  omega
theorem Zag{n:Nat}{l:List (Int × Int)}{U D:List Int}(h:LatR n l U D){a b:Nat}(ha:a<n)(hb:b<n) :
 VM D n (andI (D[a]?.getD 0) (D[b]?.getD 0))↔∃ c,lev n c/\Rch l c a/\Rch l c b/\∀ d,lev n d->Rch l d a->Rch l d b->Rch l d c:=by
 constructor
 ·rintro⟨c,hc,e⟩
  have key:∀ j,bitR D c j=(bitR D a j&&bitR D b j):=λj=>by
   unfold bitR;rw[e,Vy]
  have c0:bitR D c c=true:=(h.dbit c c hc).2 ⟨hc,.refl _⟩;rw[key,Bool.and_eq_true]at c0;refine⟨c,by unfold lev;omega,((h.dbit a c ha).1 c0.1).2,((h.dbit b c hb).1 c0.2).2,λd hd h1 h2=>?_⟩;unfold lev at hd;obtain⟨y,rfl⟩:=Int.eq_ofNat_of_zero_le hd.1;refine((h.dbit c y hc).1 ?_).2;have u1:bitR D a y=true:=(h.dbit a y ha).2 ⟨by omega,h1⟩;have u2:bitR D b y=true:=(h.dbit b y hb).2 ⟨by omega,h2⟩;rw[key,u1,u2];rfl
 ·rintro⟨c,hc,h1,h2,h3⟩;unfold lev at hc;obtain⟨z,rfl⟩:=Int.eq_ofNat_of_zero_le hc.1;refine⟨z,by omega,?_⟩;have g1:=h.down.get z;have g2:=Q1 (h.down.get a) (h.down.get b)
  have:(D[z]?.getD 0).toNat=(andI (D[a]?.getD 0) (D[b]?.getD 0)).toNat:=by
   refine Nat.eq_of_testBit_eq λj=>?_
   rw[Vy,Bool.eq_iff_iff,Bool.and_eq_true];have u1:=h.dbit z j (by omega);have u2:=h.dbit a j ha;have u3:=h.dbit b j hb;unfold bitR at u1 u2 u3;rw[u1,u2,u3];constructor
   ·exact λ⟨q0,q⟩=>⟨⟨q0,Jl q h1⟩,q0,Jl q h2⟩
   ·rintro⟨⟨q0,q1⟩,-, q2⟩;exact⟨q0,h3 j (by unfold lev;omega) q1 q2⟩
  omega
def okR(n:Nat)(U D:List Int):Prop:=(∀a,a<n->andI (U[a]?.getD 0) (D[a]?.getD 0)=2 ^ a)/\∀ a,a<n->∀ b,b<n->VM U n (andI (U[a]?.getD 0) (U[b]?.getD 0))/\VM D n (andI (D[a]?.getD 0) (D[b]?.getD 0))
theorem ZdF{n:Nat}{l:List (Int × Int)}{U D:List Int}(h:LatR n l U D)(hf:l.length<=64):okR n U D↔Lat n l:=by
 constructor
 ·rintro⟨h1,h2⟩
  refine⟨by have:=h.lo;omega,by have:=h.hi;omega,hf,h.pairs,(Zal h).1 h1,fun a b ha hb=>?_,fun a b ha hb=>?_⟩<;>
   (unfold lev at ha hb
    obtain⟨x,rfl⟩:=Int.eq_ofNat_of_zero_le ha.1
    obtain⟨y,rfl⟩:=Int.eq_ofNat_of_zero_le hb.1)
  ·exact(Zar h (by omega) (by omega)).1 (h2 x (by omega) y (by omega)).1
  ·exact(Zag h (by omega) (by omega)).1 (h2 x (by omega) y (by omega)).2
 ·intro hL;refine⟨(Zal h).2 hL.loop,λa ha b hb=>⟨(Zar h ha hb).2 (hL.join a b ?_ ?_),(Zag h ha hb).2 (hL.meet a b ?_ ?_)⟩⟩<;>(unfold lev;omega)
end Go.Proofs.YtbchkjfnakabkaaGreatDoor.PC
namespace Go.Proofs.YtbchkjfnakabkaaGreatDoor.PC
open PX
theorem J6{α:Type}{r:α->α->Bool}:∀ {l:List α},Z8 r l=true↔l.Pairwise (λa b=>r a b=true)
 |[]=>by simp[Z8]
 |x::l=>by rw[Z8,Bool.and_eq_true,List.all_eq_true,J6,List.pairwise_cons]
theorem ZbF{α:Type}{r:α->α->Bool}(S:∀ {a b},r a b=true->r b a=true){l l':List α}(h:l.Perm l'):Z8 r l=Z8 r l':=by
 rw[Bool.eq_iff_iff,J6,J6];exact h.pairwise_iff (λ{a b}=>S)
theorem BL{a b:Vol}(h:X4 a b=true):X4 b a=true:=by
 unfold X4 at h ⊢;rw[Bool.or_comm];exact h
theorem ZdA{α:Type}{r:α->α->Bool}{l l':List α}(h:l'.Sublist l)(k:Z8 r l=true):Z8 r l'=true:=
 J6.2 ((J6.1 k).sublist h)
theorem Jq{c:Cfg}(h:c.fine=true):latB c.levels c.flows=true/\c.partsB=true/\c.windowsB=true/\c.portsB=true/\c.diskB=true/\c.rulesB=true/\c.textsB=true:=by
 simpa only[Cfg.fine,Bool.and_eq_true] using h
theorem ZhP{c:Cfg}(h1:latB c.levels c.flows=true)(h2:c.partsB=true)(h3:c.windowsB=true)(h4:c.portsB=true)(h5:c.diskB=true)(h6:c.rulesB=true)(h7:c.textsB=true):c.fine=true:=by
 simp only[Cfg.fine,Bool.and_eq_true];exact⟨h1,h2,h3,h4,h5,h6,h7⟩
theorem Ze7{a a' b b':Int}(h0:0<=a)(ha:a<=a')(hb:b'<=b)(d0:0<b'):upI a b<=upI a' b':=by
 unfold upI;rw[Int.le_ediv_iff_mul_le d0];have h1:(a+b - 1)/b*b<=a+b - 1:=Int.ediv_mul_le _ (by omega);have h2:0<=(a+b - 1)/b:=Int.ediv_nonneg (by omega) (by omega)
 obtain⟨q,hq⟩:∃ q,(a+b - 1)/b=q:=⟨_,rfl⟩
 rw[hq]at h1 h2 ⊢;rcases(by omega:q=0\/1<=q) with rfl|h3
 ·omega
 ·obtain⟨r,rfl⟩:∃ r,q=r+1:=⟨q - 1,by omega⟩
  have e1:(r+1)*b=r*b+b:=by rw[Int.add_mul,Int.one_mul]
  have e2:(r+1)*b'=r*b'+b':=by rw[Int.add_mul,Int.one_mul]
  have h4:r*b'<=r*b:=Int.mul_le_mul_of_nonneg_left hb (by omega);omega
theorem GQ{a b:Int}(ha:0<=a)(hb:0<b):0<=upI a b:=by
 unfold upI;exact Int.ediv_nonneg (by omega) (by omega)
theorem DU{c:Cfg}(h:c.windowsB=true)(hr:c.rules≠[]):0<c.tk 4 0:=by
 simp only[Cfg.windowsB,Bool.and_eq_true,Bool.or_eq_true]at h;obtain⟨-, -, h|h⟩:=h
 ·exact absurd (List.isEmpty_iff.1 h) hr
 ·exact of_decide_eq_true h
end Go.Proofs.YtbchkjfnakabkaaGreatDoor.PC
namespace Go.Proofs.YtbchkjfnakabkaaGreatDoor.PC
open PX
def XM:List Vol->Bool
 |[]=>true
 |[_]=>true
 |x::y::l=>decide (x.first+x.count<=y.first)&&XM (y::l)
theorem ZeM:∀ {l:List Vol} {x:Vol},(x::l).Pairwise (λa b=>a.first<=b.first)->(∀v∈x::l,1<=v.count)->XM (x::l)=true->∀ z∈l,x.first+x.count<=z.first
 |[],x,_,_,_=>λz hz=>by cases hz
 |y::l,x,hs,hc,h=>by
  simp only[XM,Bool.and_eq_true,decide_eq_true_eq]at h;intro z hz;rcases List.mem_cons.1 hz with rfl|hz
  ·exact h.1
  ·have:=(List.pairwise_cons.1 (List.pairwise_cons.1 hs).2).1 z hz;omega
theorem Qj:∀ {l:List Vol},l.Pairwise (λa b=>a.first<=b.first)->(∀v∈l,1<=v.count)->XM l=Z8 X4 l
 |[],_,_=>rfl
 |[x],_,_=>rfl
 |x::y::l,hs,hc=>by
  have ih:=Qj (List.pairwise_cons.1 hs).2 (λv hv=>hc v (List.mem_cons_of_mem x hv));rw[XM,Z8,ih,Bool.eq_iff_iff,Bool.and_eq_true,Bool.and_eq_true,decide_eq_true_eq];constructor
  ·rintro⟨h1,h2⟩;refine⟨List.all_eq_true.2 λz hz=>?_,h2⟩;have:=ZeM hs hc (by rw[XM,ih,h2,decide_eq_true h1];rfl) z hz;unfold X4;rw[decide_eq_true this];rfl
  ·rintro⟨h1,h2⟩;refine⟨?_,h2⟩;have h3:=List.all_eq_true.1 h1 y List.mem_cons_self;have h4:=(List.pairwise_cons.1 hs).1 y List.mem_cons_self;have h5:=hc y (by simp);unfold X4 at h3;simp only[Bool.or_eq_true,decide_eq_true_eq]at h3;omega
def fst(l:List Vol)(i:Nat):Int:=((l[i]?).map Vol.first).getD 0
def Zil(l:List Vol)(i:Nat):Prop:=∀ a b,a<b->b<i->fst l a<=fst l b
theorem GG{l:List Vol}(h:Zil l l.length):l.Pairwise (λa b=>a.first<=b.first):=by
 rw[List.pairwise_iff_getElem];intro i j hi hj hij;have:=h i j hij hj;unfold fst at this;rw[List.getElem?_eq_getElem hi,List.getElem?_eq_getElem hj]at this;exact this
theorem ZaI{l m:List Vol}(hp:m.Perm l)(hs:Zil m m.length)(hc:∀ v∈l,1<=v.count):XM m=Z8 X4 l:=by
 rw[Qj (GG hs) (λv hv=>hc v (hp.mem_iff.1 hv)),ZbF BL hp]
theorem Qi:∀ (l:List Vol) (k:Nat),k+1<l.length->XM (l.take (k+2))=(XM (l.take (k+1))&&decide ((l[k]?.map λv=>v.first+v.count).getD 0<=fst l (k+1)))
 |[],k,h=>by simp at h
 |[x],k,h=>by simp at h
 |x::y::l,0,_=>by simp[XM,fst]
 |x::y::l,k+1,h=>by
  have ih:=Qi (y::l) k (by simpa using h);have e1:(x::y::l).take (k+1+2)=x::y::l.take (k+1):=rfl;have e2:(x::y::l).take (k+1+1)=x::y::l.take k:=rfl;have e3:(y::l).take (k+2)=y::l.take (k+1):=rfl;have e4:(y::l).take (k+1)=y::l.take k:=rfl;rw[e3,e4]at ih;rw[e1,e2,XM,XM,ih,Bool.and_assoc];rfl
end Go.Proofs.YtbchkjfnakabkaaGreatDoor.PC
namespace Go.Proofs.YtbchkjfnakabkaaGreatDoor.PC
open PX
def ZJ:Cfg:=⟨2,[(0,1)],[⟨0,1⟩,⟨1,1⟩],[⟨1,0,4⟩,⟨1,1,4⟩,⟨2,0,1⟩,⟨2,1,1⟩,⟨3,0,1⟩,⟨3,1,1⟩],[],[⟨0,0,12,8⟩,⟨1,12,12,8⟩],⟨0,24,12,8⟩,36,38,[],[⟨#[97]⟩,⟨#[98]⟩],⟨#[112,119]⟩,3,3⟩
theorem JD:ZJ.laid=true:=by decide +kernel
theorem ZhV:ZJ.bytes.take 12=[67,83,84,49,2,1,0,1,2,0,1,1]:=by decide +kernel
theorem ZhS:(Yj (ZJ.bytes++[120])).isNone=true:=by decide +kernel
theorem ZiV:Lat 2 [(0,1)]:=by
 have hl:∀ p∈[((0:Int),(1:Int))],lev (2:Nat) p.1/\lev (2:Nat) p.2:=by
  intro p hp;simp only[List.mem_singleton]at hp;subst hp;unfold lev;omega
 have hr:=VY (n:=2) (by omega) [((0:Int),(1:Int))] (Vg 2) (Yc 2 (by omega)) hl;have hL:=W6 (n:=2) (U:=YV (Vg 2) [(0,1)]) (by omega) (by omega) hl hr (by decide +kernel) (EL (by omega) hl) (GT (by omega) hl);refine(ZdF hL (by simp)).1 ⟨?_,?_⟩
 ·intro a ha;have:a=0\/a=1:=by omega
  rcases this with rfl|rfl<;>decide +kernel
 ·intro a ha b hb;have h1:a=0\/a=1:=by omega
  have h2:b=0\/b=1:=by omega
  rcases h1 with rfl|rfl<;>rcases h2 with rfl|rfl
  ·exact⟨⟨0,by omega,by decide +kernel⟩,⟨0,by omega,by decide +kernel⟩⟩
  ·exact⟨⟨1,by omega,by decide +kernel⟩,⟨0,by omega,by decide +kernel⟩⟩
  ·exact⟨⟨1,by omega,by decide +kernel⟩,⟨0,by omega,by decide +kernel⟩⟩
  ·exact⟨⟨1,by omega,by decide +kernel⟩,⟨1,by omega,by decide +kernel⟩⟩
theorem Zew:ZJ.fine=true:=by
 have h1:latB ZJ.levels ZJ.flows=true:=YA.2 ZiV;have h2:ZJ.partsB=true:=by decide +kernel
 have h3:ZJ.windowsB=true:=by decide +kernel
 have h4:ZJ.portsB=true:=by simp[Cfg.portsB,ZJ]
 have h5:ZJ.diskB=true:=by decide +kernel
 have h6:ZJ.rulesB=true:=by simp[Cfg.rulesB,ZJ]
 have h7:ZJ.textsB=true:=by decide +kernel
 unfold Cfg.fine;rw[h1,h2,h3,h4,h5,h6,h7];rfl
theorem Zev:ZJ.need=3:=by decide +kernel
theorem Zgk:ZJ.checkB=true:=by
 unfold Cfg.checkB;rw[Zew,Zev];decide
theorem Zgj:ZJ.needB=3:=by
 unfold Cfg.needB;rw[Zew,Zev];rfl
theorem ZhT:({ ZJ with bound:=2 }:Cfg).checkB=false:=by
 have:({ ZJ with bound:=2 }:Cfg).need=3:=by decide +kernel
 unfold Cfg.checkB;rw[this];have:inB ({ ZJ with bound:=2 }:Cfg).bound 3 65535=false:=by decide
 rw[this];simp
theorem ZhW:({ ZJ with boot:=35 }:Cfg).checkB=false:=by
 have:({ ZJ with boot:=35 }:Cfg).diskB=false:=by decide +kernel
 unfold Cfg.checkB Cfg.fine;rw[this];simp
def Vu:Cfg:=⟨0,[],[],[],[],[],⟨0,0,0,0⟩,0,0,[],[],⟨#[]⟩,0,0⟩
theorem Qd:Vu.fine=false:=by
 have:latB Vu.levels Vu.flows=false:=by
  rw[Bool.eq_false_iff];intro h;have:=(YA.1 h).lo;simp[Vu]at this
 unfold Cfg.fine;rw[this];rfl
theorem Bv:Vu.checkB=false:=by unfold Cfg.checkB;rw[Qd];rfl
theorem Zb6:Vu.needB=0:=by unfold Cfg.needB;rw[Qd];rfl
end Go.Proofs.YtbchkjfnakabkaaGreatDoor.PC
namespace Go.Proofs.YtbchkjfnakabkaaGreatDoor.PC
open PX
theorem Ev{l:List Int}{m:Int}(h0:0<=m)(h:∀ x∈l,x<=m):WM l<=m:=by
 induction l with
 |nil=>exact h0
 |cons x l ih=>
  simp only[WM];exact Int.max_le.2 ⟨h x (List.mem_cons_self ..),ih λy hy=>h y (List.mem_cons_of_mem _ hy)⟩
theorem Uo{l:List Int}{x:Int}(h:x∈l):x<=WM l:=by
 induction l with
 |nil=>cases h
 |cons y l ih=>
  simp only[WM];rcases List.mem_cons.1 h with rfl|h
  ·exact Int.le_max_left ..
  ·exact Int.le_trans (ih h) (Int.le_max_right ..)
theorem YE:∀ (l:List Int),0<=WM l
 |[]=>Int.le_refl _
 |x::l=>Int.le_trans (YE l) (Int.le_max_right ..)
def J7(W:List Win)(l:List Prt):Int:=WM (l.map λp=>upI (cntL l p.level) (sumT W 2 p.level))
theorem ZbJ(c:Cfg):J7 c.windows c.parts=c.mostP:=rfl
theorem Vi(l:List Prt)(p:Prt)(n:Int):cntL (l++[p]) n=cntL l n+(if p.level=n then 1 else 0):=by
 unfold cntL;rw[List.filter_append,List.length_append];by_cases h:p.level=n
 ·rw[if_pos h];simp[h]
 ·rw[if_neg h];simp[h]
theorem ZeH(l:List Prt)(p:Prt)(n:Int):cntL l n<=cntL (l++[p]) n:=by rw[Vi];omega
theorem Gz(l:List Prt)(n:Int):cntL l n<=l.length:=by unfold cntL;exact List.length_filter_le ..
theorem Bf(W:List Win)(l:List Prt)(p:Prt)(h:∀ q∈l++[p],0<sumT W 2 q.level) :
 J7 W (l++[p])=max (J7 W l) (upI (cntL (l++[p]) p.level) (sumT W 2 p.level)):=by
 have hp:=h p (by simp);apply Int.le_antisymm
 ·refine Ev ?_ ?_
  ·exact Int.le_trans (YE _) (Int.le_max_left ..)
  ·intro x hx;obtain⟨q,hq,rfl⟩:=List.mem_map.1 hx;rcases List.mem_append.1 hq with hq'|hq'
   ·by_cases e:p.level=q.level
    ·rw[<-e];exact Int.le_max_right ..
    ·refine Int.le_trans ?_ (Int.le_max_left ..);rw[Vi,if_neg e,Nat.add_zero];exact Uo (List.mem_map.2 ⟨q,hq',rfl⟩)
   ·rw[List.mem_singleton.1 hq'];exact Int.le_max_right ..
 ·refine Int.max_le.2 ⟨Ev (YE _) ?_,Uo (List.mem_map.2 ⟨p,by simp,rfl⟩)⟩;intro x hx;obtain⟨q,hq,rfl⟩:=List.mem_map.1 hx;refine Int.le_trans ?_ (Uo (List.mem_map.2 ⟨q,List.mem_append_left _ hq,rfl⟩));refine Ze7 (by omega) ?_ (Int.le_refl _) (h q (List.mem_append_left _ hq));have:=ZeH l p q.level;omega
theorem pairB_snoc{α:Type}(r:α->α->Bool):∀ (l:List α) (x:α),Z8 r (l++[x])=(Z8 r l&&l.all λy=>r y x)
 |[],x=>by simp[Z8]
 |y::l,x=>by
  simp only[List.cons_append,Z8,pairB_snoc r l x,List.all_append,List.all_cons,List.all_nil,Bool.and_true];cases l.all (r y)<;>cases r y x<;>cases Z8 r l<;>simp
theorem QE{α:Type}{r:α->α->Bool}{l:List α}(j:Nat)(h:Z8 r (l.take j)=false):Z8 r l=false:=by
 rw[Bool.eq_false_iff]at h ⊢;exact λk=>h (ZdA (List.take_sublist j l) k)
theorem Zs{α:Type}{l:List α}{j:Nat}(h:j<l.length):l.take (j+1)=l.take j++[l[j]]:=by
 rw[List.take_succ_eq_append_getElem h]
theorem UT(W:List Win):∀ (l m:List Prt) (i:Nat),Z7 W i (l++m)=(Z7 W i l&&Z7 W (i+l.length) m)
 |[],m,i=>by simp[Z7]
 |p::l,m,i=>by
  simp only[List.cons_append,Z7,UT W l m (i+1),List.length_cons];rw[show i+1+l.length=i+(l.length+1) by omega];simp only[Bool.and_assoc]
def Zel(W:List Win)(i:Nat)(p:Prt):Bool:=hasT W 1 i&&(hasT W 2 p.level&&hasT W 3 p.level)
theorem Bn(W:List Win)(l:List Prt)(p:Prt):Z7 W 0 (l++[p])=(Z7 W 0 l&&Zel W l.length p):=by
 rw[UT];simp[Z7,Zel]
theorem Jd{W:List Win}{l:List Prt}{j:Nat}(h:Z7 W 0 (l.take j)=false):Z7 W 0 l=false:=by
 have e:l=l.take j++l.drop j:=(List.take_append_drop j l).symm;rw[e,UT,h,Bool.false_and]
theorem Ee{W:List Win}:∀ {l:List Prt} {i:Nat},Z7 W i l=true->∀ q∈l,0<sumT W 2 q.level
 |[],_,_,q,hq=>by cases hq
 |p::l,i,h,q,hq=>by
  simp only[Z7,Bool.and_eq_true]at h;rcases List.mem_cons.1 hq with rfl|hq
  ·exact of_decide_eq_true h.1.2.1
  ·exact Ee h.2 q hq
theorem ZdH{α β:Type}{f:α->β}{l:List α}(hf:∀ a∈l,∀b∈l,f a=f b->a=b)(h:l.Nodup):(l.map f).Nodup:=
 List.pairwise_map.2 (h.imp_of_mem λha hb hne e=>hne (hf _ ha _ hb e))
def Vh(k:Nat):Int × Int:=(((k/8:Nat):Int),((k%8:Nat):Int))
theorem E5{β:Type}(l:List Ru)(K:List β)(f:Int × Int->β)(hn:K.Nodup)(hl:∀ r∈l,lev 8 r.fr/\lev 8 r.tu)
 (hf:∀ a b:Int × Int,lev 8 a.1->lev 8 a.2->lev 8 b.1->lev 8 b.2->f a=f b->a=b) (hm:∀ y,y∈K↔∃ r∈l,f (r.fr,r.tu)=y):K.length=Yk l:=by
 unfold Yk;rw[<-List.length_map (f:=λk=>f (Vh k))];refine List.Perm.length_eq ((List.perm_ext_iff_of_nodup hn ?_).2 ?_)
 ·refine ZdH ?_ (List.Pairwise.filter _ List.nodup_range);intro a ha b hb e;have ha':a<64:=by simpa using (List.mem_filter.1 ha).1
  have d0:b<64:=by simpa using (List.mem_filter.1 hb).1
  have:=hf (Vh a) (Vh b) (by unfold Vh lev;constructor<;>simp<;>omega) (by unfold Vh lev;constructor<;>simp<;>omega) (by unfold Vh lev;constructor<;>simp<;>omega) (by unfold Vh lev;constructor<;>simp<;>omega) e;unfold Vh at this;have e1:=(Prod.mk.inj this).1;have e2:=(Prod.mk.inj this).2;omega
 ·intro y;rw[hm,List.mem_map];constructor
  ·rintro⟨r,hr,rfl⟩;obtain⟨⟨a0,a1⟩,b0,b1⟩:=hl r hr;refine⟨r.fr.toNat*8+r.tu.toNat,List.mem_filter.2 ⟨by simp;omega,?_⟩,?_⟩
   ·rw[List.any_eq_true];refine⟨r,hr,?_⟩;rw[Bool.and_eq_true,decide_eq_true_eq,decide_eq_true_eq];constructor<;>omega
   ·have:Vh (r.fr.toNat*8+r.tu.toNat)=(r.fr,r.tu):=by
     unfold Vh;refine Prod.ext ?_ ?_<;>simp<;>omega
    rw[this]
  ·rintro⟨k,hk,rfl⟩;have g0:=(List.mem_filter.1 hk).2;rw[List.any_eq_true]at g0;obtain⟨r,hr,h⟩:=g0;rw[Bool.and_eq_true,decide_eq_true_eq,decide_eq_true_eq]at h;refine⟨r,hr,?_⟩;unfold Vh;rw[h.1,h.2]
end Go.Proofs.YtbchkjfnakabkaaGreatDoor.PC
namespace Go.Proofs.YtbchkjfnakabkaaGreatDoor.PC
open PX
theorem E3{c:Cfg}(h:c.windowsB=true):∀ q∈c.parts,0<sumT c.windows 2 q.level:=by
 simp only[Cfg.windowsB,Bool.and_eq_true]at h;exact Ee h.2.1
theorem Zb4{c:Cfg}(h:c.windowsB=true):∀ w∈c.windows,1<=w.ticks/\w.ticks<=255:=by
 simp only[Cfg.windowsB,Bool.and_eq_true]at h;intro w hw;have:=List.all_eq_true.1 h.1.2 w hw;unfold JQ at this;rw[Bool.and_eq_true,ZI]at this;exact this.2
end Go.Proofs.YtbchkjfnakabkaaGreatDoor.PC
namespace Go.Proofs.YtbchkjfnakabkaaGreatDoor.PC
open PX
