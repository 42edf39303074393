import Derived.Test.YtbchkjfnakabkaaGreatDoorQ1
import Derived.Test.YtbchkjfnakabkaaGreatDoorR1
set_option linter.unusedSimpArgs false
set_option linter.unusedVariables false
namespace Go.Proofs.YtbchkjfnakabkaaGreatDoor.PX
def Yx(s:List UInt8):Bool:=match Yw s with|.inl _=>true|.inr _=>false
open Classical in
open Classical in
theorem Qd{s:List UInt8}:Yx s=true↔∃ x,Yw s=.inl x:=by
 unfold Yx;cases Yw s<;>simp
theorem Eg{s:List UInt8}:Yx s=false↔∃ n,Yw s=.inr n:=by
 unfold Yx;cases Yw s<;>simp
end Go.Proofs.YtbchkjfnakabkaaGreatDoor.PX
namespace Go.Proofs.YtbchkjfnakabkaaGreatDoor.PC
open PX
structure Prt where
 level:Int
 pages:Int
structure Win where
 kind:Int
 index:Int
 ticks:Int
structure Por where
 kind:Int
 fr:Int
 tu:Int
 size:Int
 depth:Int
structure Vol where
 level:Int
 first:Int
 count:Int
 journal:Int
structure Ru where
 fr:Int
 tu:Int
 act:Int
 pat:ByteArray
 wth:ByteArray
structure Cfg where
 levels:Int
 flows:List (Int × Int)
 parts:List Prt
 windows:List Win
 ports:List Por
 volumes:List Vol
 audit:Vol
 boot:Int
 sectors:Int
 rules:List Ru
 keys:List ByteArray
 login:ByteArray
 recovery:Int
 bound:Int
def putI(n:Int):Nat->List UInt8
 |0=>[]
 |k+1=>UInt8.ofNat (n/256 ^ k%256).toNat::putI n k
theorem XN(n:Int):∀ k,(putI n k).length=k
 |0=>rfl
 |k+1=>by simp[putI,XN n k]
def Yv(w:Nat)(n:Int):Bool:=decide (0<=n/\n<256 ^ w)
def Z4(w:Nat):List Int->List UInt8
 |[]=>[]
 |n::l=>putI n w++Z4 w l
def Zs(w:Nat):List Int->Bool
 |[]=>true
 |n::l=>Yv w n&&Zs w l
def Yl(s:ByteArray):List UInt8:=if s.size<=1024 then putI s.size 2++s.data.toList else[]
def XF(s:ByteArray):Bool:=decide (s.size<=1024)
structure Lays (α:Type) where
 b:α->List UInt8
 ok:α->Bool
def XL:Lays (Int × Int):=⟨λx=>Z4 1 [x.1,x.2],λx=>Zs 1 [x.1,x.2]⟩
def XJ:Lays Prt:=⟨λx=>Z4 1 [x.level,x.pages],λx=>Zs 1 [x.level,x.pages]⟩
def winP:Lays Win:=⟨λx=>Z4 1 [x.kind,x.index,x.ticks],λx=>Zs 1 [x.kind,x.index,x.ticks]⟩
def porP:Lays Por:=⟨λx=>Z4 1 [x.kind,x.fr,x.tu,x.size,x.depth],λx=>Zs 1 [x.kind,x.fr,x.tu,x.size,x.depth]⟩
def volP:Lays Vol:=⟨λx=>Z4 1 [x.level]++Z4 2 [x.first,x.count,x.journal],λx=>Zs 1 [x.level]&&Zs 2 [x.first,x.count,x.journal]⟩
def ruP:Lays Ru:=⟨λx=>Z4 1 [x.fr,x.tu,x.act]++(Yl x.pat++Yl x.wth),λx=>Zs 1 [x.fr,x.tu,x.act]&&(XF x.pat&&XF x.wth)⟩
def keyP:Lays ByteArray:=⟨Yl,XF⟩
def ZF{α:Type}(p:Lays α):List α->List UInt8
 |[]=>[]
 |x::l=>p.b x++ZF p l
def ZD{α:Type}(p:Lays α):List α->Bool
 |[]=>true
 |x::l=>p.ok x&&ZD p l
def ZZ{α:Type}(p:Lays α)(l:List α):List UInt8:=Z4 1 [(l.length:Int)]++ZF p l
def ZO{α:Type}(p:Lays α)(l:List α):Bool:=Zs 1 [(l.length:Int)]&&ZD p l
def W4:List UInt8:=[67,83,84,49]
def Cfg.bytes(c:Cfg):List UInt8:=
 W4++(Z4 1 [c.levels]++(ZZ XL c.flows++(ZZ XJ c.parts++(ZZ winP c.windows++(ZZ porP c.ports++(ZZ volP c.volumes ++
  (Z4 2 [c.audit.first,c.audit.count,c.audit.journal,c.boot,c.sectors]++(ZZ ruP c.rules++(ZZ keyP c.keys++(Yl c.login++Z4 2 [c.recovery,c.bound]))))))))))
def Cfg.laid(c:Cfg):Bool:=
 Zs 1 [c.levels]&&ZO XL c.flows&&ZO XJ c.parts&&ZO winP c.windows&&ZO porP c.ports&&ZO volP c.volumes &&
  Zs 2 [c.audit.first,c.audit.count,c.audit.journal,c.boot,c.sectors]&&ZO ruP c.rules&&ZO keyP c.keys&&XF c.login&&Zs 2 [c.recovery,c.bound]&&decide (c.audit.level=0)
def numU:List UInt8->Nat->Nat
 |[],n=>n
 |b::l,n=>numU l (n*256+b.toNat)
abbrev RSt:=Option (List UInt8)
def getN(w:Nat):RSt->Int × RSt
 |none=>(0,none)
 |some r=>if r.length<w then(0,none) else((numU (r.take w) 0:Nat),some (r.drop w))
def bytesOf(l:List UInt8):ByteArray:=⟨l.toArray⟩
def getT:RSt->ByteArray × RSt
 |none=>(⟨#[]⟩,none)
 | some r=>if r.length<2 then (⟨#[]⟩,none) else
  if 1024<numU (r.take 2) 0\/r.length - 2<numU (r.take 2) 0 then(⟨#[]⟩,none) else(bytesOf ((r.drop 2).take (numU (r.take 2) 0)),some ((r.drop 2).drop (numU (r.take 2) 0)))
def many{α:Type}(one:RSt->α × RSt):Nat->RSt->List α × RSt
 |0,s=>([],s)
 |n+1,s=>((one s).1::(many one n (one s).2).1,(many one n (one s).2).2)
def getL{α:Type}(one:RSt->α × RSt)(s:RSt):List α × RSt:=many one (getN 1 s).1.toNat (getN 1 s).2
def YN(s:RSt):(Int × Int) × RSt:=
 let a:=getN 1 s
 let b:=getN 1 a.2
 ((a.1,b.1),b.2)
def YM(s:RSt):Prt × RSt:=
 let a:=getN 1 s
 let b:=getN 1 a.2
 (⟨a.1,b.1⟩,b.2)
def winG(s:RSt):Win × RSt:=
 let a:=getN 1 s
 let b:=getN 1 a.2
 let c:=getN 1 b.2
 (⟨a.1,b.1,c.1⟩,c.2)
def porG(s:RSt):Por × RSt:=
 let a:=getN 1 s
 let b:=getN 1 a.2
 let c:=getN 1 b.2
 let d:=getN 1 c.2
 let e:=getN 1 d.2
 (⟨a.1,b.1,c.1,d.1,e.1⟩,e.2)
def volG(s:RSt):Vol × RSt:=
 let a:=getN 1 s
 let b:=getN 2 a.2
 let c:=getN 2 b.2
 let d:=getN 2 c.2
 (⟨a.1,b.1,c.1,d.1⟩,d.2)
def ruG(s:RSt):Ru × RSt:=
 let a:=getN 1 s
 let b:=getN 1 a.2
 let c:=getN 1 b.2
 let d:=getT c.2
 let e:=getT d.2
 (⟨a.1,b.1,c.1,d.1,e.1⟩,e.2)
def cfgG(s:RSt):Cfg × RSt:=
 let a:=getN 1 s
 let f:=getL YN a.2
 let p:=getL YM f.2
 let w:=getL winG p.2
 let o:=getL porG w.2
 let v:=getL volG o.2
 let x:=getN 2 v.2
 let y:=getN 2 x.2
 let z:=getN 2 y.2
 let b:=getN 2 z.2
 let t:=getN 2 b.2
 let r:=getL ruG t.2
 let k:=getL getT r.2
 let l:=getT k.2
 let m:=getN 2 l.2
 let n:=getN 2 m.2
 (⟨a.1,f.1,p.1,w.1,o.1,v.1,⟨0,x.1,y.1,z.1⟩,b.1,t.1,r.1,k.1,l.1,m.1,n.1⟩,n.2)
def Yp(s:List UInt8):Option Cfg:=
 if s.take 4=W4 then(if (cfgG (some (s.drop 4))).2=some [] then some (cfgG (some (s.drop 4))).1 else none) else none
inductive Rch (l:List (Int × Int)):Int->Int->Prop
 |refl (a:Int):Rch l a a
 |step {a b c:Int}:Rch l a b->(b,c)∈l->Rch l a c
def lev(n a:Int):Prop:=0<=a/\a<n
structure Lat (n:Int) (l:List (Int × Int)):Prop where
 lo:1<=n
 hi:n<=8
 few:l.length<=64
 pairs:∀ p∈l,lev n p.1/\lev n p.2
 loop:∀ a b,lev n a->lev n b->Rch l a b->Rch l b a->a=b
 join:∀ a b,lev n a->lev n b->∃ c,lev n c/\Rch l a c/\Rch l b c/\∀ d,lev n d->Rch l a d->Rch l b d->Rch l c d
 meet:∀ a b,lev n a->lev n b->∃ c,lev n c/\Rch l c a/\Rch l c b/\∀ d,lev n d->Rch l d a->Rch l d b->Rch l d c
open Classical in
noncomputable def latB(n:Int)(l:List (Int × Int)):Bool:=decide (Lat n l)
theorem YE{n:Int}{l:List (Int × Int)}:latB n l=true↔Lat n l:=by
 unfold latB;exact @decide_eq_true_iff _ (Classical.propDecidable _)
open Classical in
noncomputable def rchB(l:List (Int × Int))(a b:Int):Bool:=decide (Rch l a b)
theorem Eu{l:List (Int × Int)}{a b:Int}:rchB l a b=true↔Rch l a b:=by
 unfold rchB;exact @decide_eq_true_iff _ (Classical.propDecidable _)
def inB(n lo hi:Int):Bool:=decide (lo<=n)&&decide (n<=hi)
theorem ZI{n lo hi:Int}:inB n lo hi=true↔lo<=n/\n<=hi:=by simp[inB]
def sumT:List Win->Int->Int->Int
 |[],_,_=>0
 |w::l,k,i=>(if w.kind=k/\w.index=i then w.ticks else 0)+sumT l k i
def Cfg.tk(c:Cfg)(k i:Int):Int:=sumT c.windows k i
def Cfg.lvl(c:Cfg)(n:Int):Bool:=inB n 0 (c.levels - 1)
def Cfg.prt(c:Cfg)(n:Int):Bool:=inB n 0 ((c.parts.length:Int) - 1)
def YZ(c:Cfg)(p:Prt):Bool:=inB p.pages 1 16&&c.lvl p.level
def Cfg.partsB(c:Cfg):Bool:=inB c.parts.length 1 8&&c.parts.all (YZ c)
def ZcK(c:Cfg)(k i:Int):Bool:=if k=0\/k=4 then decide (i=0) else if k=1 then c.prt i else if k=2\/k=3 then c.lvl i else false
def JQ(c:Cfg)(w:Win):Bool:=ZcK c w.kind w.index&&inB w.ticks 1 255
def hasT(W:List Win)(k i:Int):Bool:=decide (0<sumT W k i)
def Z9(W:List Win):Nat->List Prt->Bool
 |_,[]=>true
 |i,p::l=>(hasT W 1 i&&(hasT W 2 p.level&&hasT W 3 p.level))&&Z9 W (i+1) l
def Cfg.windowsB(c:Cfg):Bool:=(inB c.windows.length 1 64&&c.windows.all (JQ c))&&(Z9 c.windows 0 c.parts&&(c.rules.isEmpty || hasT c.windows 4 0))
def Cfg.levelOf(c:Cfg)(i:Int):Int:=((c.parts[i.toNat]?).map Prt.level).getD 0
noncomputable def JZ(c:Cfg)(p:Por):Bool:=
 inB p.kind 0 1&&(((c.prt p.fr&&c.prt p.tu)&&decide (p.fr≠p.tu))&&((inB p.size 1 255&&(inB p.depth 1 8&&(decide (p.kind=1) || decide (p.depth=1))))&&rchB c.flows (c.levelOf p.fr) (c.levelOf p.tu)))
noncomputable def Cfg.portsB(c:Cfg):Bool:=decide (c.ports.length<=16)&&c.ports.all (JZ c)
def X5(c:Cfg)(v:Vol):Bool:=decide (0<=v.first/\1<=v.count/\v.first<=c.sectors/\v.count<=c.sectors - v.first)&&inB v.journal 4 (v.count - 1)
def JR(c:Cfg)(v:Vol):Bool:=c.lvl v.level&&(decide (v.count - v.journal<=40)&&decide (v.count - v.journal<=v.journal - 3))
def apart(a b:Vol):Prop:=a.first+a.count<=b.first\/b.first+b.count<=a.first
def Cfg.exts(c:Cfg):List Vol:=c.volumes++[c.audit,⟨0,c.boot,2,0⟩]
def X8(a b:Vol):Bool:=decide (a.first+a.count<=b.first) || decide (b.first+b.count<=a.first)
def Xa{α:Type}(r:α->α->Bool):List α->Bool
 |[]=>true
 |x::l=>l.all (r x)&&Xa r l
def Cfg.diskB(c:Cfg):Bool:=
 (inB c.sectors 1 4096&&decide (c.volumes.length≤8))&&(((c.volumes++[c.audit]).all (X5 c)&&c.volumes.all (JR c))&&((decide (c.audit.level=0)&&inB c.boot 0 (c.sectors - 2)) &&
  (Xa (λa b=>decide (a.level≠b.level)) c.volumes&&Xa X8 c.exts)))
noncomputable def ruOK(c:Cfg)(r:Ru):Bool:=
 ((c.lvl r.fr&&c.lvl r.tu)&&!rchB c.flows r.fr r.tu)&&(inB r.act 0 2&&(Yx r.pat.data.toList&&(if r.act=2 then Yx r.wth.data.toList else r.wth.data.toList.isEmpty)))
noncomputable def Cfg.rulesB(c:Cfg):Bool:=decide (c.rules.length<=32)&&c.rules.all (ruOK c)
def oddB(s:ByteArray):Bool:=s.data.toList.any λb=>decide (b.toNat<33) || decide (126<b.toNat)
def Cfg.textsB(c:Cfg):Bool:=decide ((c.keys.length:Int)=c.levels)&&(c.keys.all (λk=>inB k.size 1 64)&&(inB c.login.size 1 16&&!oddB c.login))
noncomputable def Cfg.fine(c:Cfg):Bool:=latB c.levels c.flows&&(c.partsB&&(c.windowsB&&(c.portsB&&(c.diskB&&(c.rulesB&&c.textsB)))))
def upI(a b:Int):Int:=(a+b - 1)/b
def cntL(l:List Prt)(n:Int):Nat:=(l.filter λp=>decide (p.level=n)).length
def WW:List Int->Int
 |[]=>0
 |n::l=>max n (WW l)
def Cfg.mostP(c:Cfg):Int:=WW (c.parts.map λp=>upI (cntL c.parts p.level) (c.tk 2 p.level))
def XZ(l:List Ru):Nat:=((List.range 64).filter λk=>l.any λr=>decide (r.fr=((k/8:Nat):Int))&&decide (r.tu=((k%8:Nat):Int))).length
def Cfg.mostR(c:Cfg):Int:=if c.rules.isEmpty then 0 else upI (4*(XZ c.rules:Int)) (c.tk 4 0)
def Cfg.need(c:Cfg):Int:=2+max c.mostP c.mostR
noncomputable def Cfg.checkB(c:Cfg):Bool:=c.fine&&(inB c.recovery 1 65535&&inB c.bound c.need 65535)
noncomputable def Cfg.needB(c:Cfg):Int:=if c.fine then c.need else 0
end Go.Proofs.YtbchkjfnakabkaaGreatDoor.PC
namespace Go.Proofs.YtbchkjfnakabkaaGreatDoor.PC
open PX
theorem Zi9(m:Int)(h0:0<=m)(h1:m<256):((UInt8.ofNat m.toNat).toNat:Int)=m:=by
 rw[UInt8.toNat_ofNat'];have:m.toNat%2 ^ 8=m.toNat:=Nat.mod_eq_of_lt (by omega);rw[this];omega
theorem Bn(a b:List UInt8):∀ n,numU (a++b) n=numU b (numU a n):=by
 induction a with
 |nil=>intro n;rfl
 |cons x l ih=>intro n;simp only[List.cons_append,numU];exact ih _
theorem QP(l:List UInt8):∀ n,numU l n=n*256 ^ l.length+numU l 0:=by
 induction l with
 |nil=>intro n;simp[numU]
 |cons x l ih=>
  intro n;simp only[numU,List.length_cons];rw[ih (n*256+x.toNat),ih (0*256+x.toNat),Nat.pow_succ]
  have:(n*256+x.toNat)*256 ^ l.length=n*(256 ^ l.length*256)+x.toNat*256 ^ l.length:=by
   rw[Nat.add_mul,Nat.mul_assoc,Nat.mul_comm 256]
  rw[this];simp;omega
theorem Zci(n p:Int)(hp:0<p):n%(p*256)=(n/p%256)*p+n%p:=by
 have h1:=Int.mul_ediv_add_emod n p;have h2:=Int.mul_ediv_add_emod (n/p) 256;have h3:=Int.emod_nonneg n (show p≠0 by omega);have h4:=Int.emod_lt_of_pos n hp;have h5:=Int.emod_nonneg (n/p) (show(256:Int)≠0 by decide);have h6:=Int.emod_lt_of_pos (n/p) (show(0:Int)<256 by decide)
 obtain⟨a,ha⟩:∃ a,n/p%256=a:=⟨_,rfl⟩
 obtain⟨b,hb⟩:∃ b,n/p/256=b:=⟨_,rfl⟩
 obtain⟨c,hc⟩:∃ c,n%p=c:=⟨_,rfl⟩
 rw[ha]at h2 h5 h6 ⊢;rw[hc]at h1 h3 h4 ⊢;rw[hb]at h2
 have e:n=(a*p+c)+(p*256)*b:=by
  rw[<-h1,<-h2,Int.mul_add,Int.mul_comm p a,Int.mul_assoc];omega
 rw[e,Int.add_mul_emod_self_left];have h7:a*p<=255*p:=Int.mul_le_mul_of_nonneg_right (by omega) (by omega);have h8:0<=a*p:=Int.mul_nonneg h5 (by omega);exact Int.emod_eq_of_lt (by omega) (by omega)
theorem Gc(n:Int):∀ k,((numU (putI n k) 0:Nat):Int)=n%256 ^ k
 |0=>by simp[putI,numU,Int.emod_one]
 |k+1=>by
  simp only[putI,numU];rw[QP,XN,Int.natCast_add,Gc n k,Int.natCast_mul];have hp:(0:Int)<256 ^ k:=Int.pow_pos (by decide);have h0:=Int.emod_nonneg (n/256 ^ k) (show(256:Int)≠0 by decide);have h1:=Int.emod_lt_of_pos (n/256 ^ k) (show(0:Int)<256 by decide)
  have hb:((0*256+(UInt8.ofNat (n/256 ^ k%256).toNat).toNat:Nat):Int)=n/256 ^ k%256:=by
   rw[Nat.zero_mul,Nat.zero_add];exact Zi9 _ h0 h1
  rw[hb,Int.natCast_pow,Int.pow_succ,Zci _ _ hp];rfl
theorem Uw{w:Nat}{n:Int}:Yv w n=true↔0<=n/\n<256 ^ w:=by simp[Yv]
theorem ZP{w:Nat}{n:Int}(h:Yv w n=true)(r:List UInt8):getN w (some (putI n w++r))=(n,some r):=by
 obtain⟨h0,h1⟩:=Uw.1 h;simp only[getN];rw[if_neg (by rw[List.length_append,XN];omega),List.take_left' (XN n w),List.drop_left' (XN n w),Gc,Int.emod_eq_of_lt h0 h1]
theorem QO(l:List UInt8):numU l 0<256 ^ l.length:=by
 induction l with
 |nil=>simp[numU]
 |cons x l ih=>
  simp only[numU,List.length_cons];rw[QP,Nat.pow_succ];have hx:=x.toNat_lt;have:(0*256+x.toNat)*256 ^ l.length<=255*256 ^ l.length:=Nat.mul_le_mul_right _ (by omega);omega
theorem Zdr:∀ (l:List UInt8) (m:Nat),putI ((m*256 ^ l.length+numU l 0:Nat):Int) l.length=l
 |[],_=>rfl
 |x::l,m=>by
  have f0:=QO l;have hx:=x.toNat_lt;have g0:0<256 ^ l.length:=Nat.pow_pos (by decide)
  have e1:m*256 ^ (x::l).length+numU (x::l) 0=(m*256+x.toNat)*256 ^ l.length+numU l 0:=by
   simp only[numU,List.length_cons];rw[QP l (0*256+x.toNat),Nat.pow_succ,Nat.zero_mul,Nat.zero_add,Nat.add_mul (m*256),Nat.mul_assoc m 256,Nat.mul_comm 256 (256 ^ l.length)];omega
  rw[e1,List.length_cons,putI,Zdr l (m*256+x.toNat)]
  congr 1
  have e2:((((m*256+x.toNat)*256 ^ l.length+numU l 0:Nat):Int)/256 ^ l.length%256).toNat=x.toNat:=by
   have e3:(256:Int) ^ l.length=((256 ^ l.length:Nat):Int):=by rw[Int.natCast_pow];rfl
   rw[e3,<-Int.natCast_ediv,Nat.mul_comm,Nat.mul_add_div g0,Nat.div_eq_of_lt f0,Nat.add_zero];omega
  rw[e2];exact UInt8.ofNat_toNat
theorem Zag(l:List UInt8):putI ((numU l 0:Nat):Int) l.length=l:=by
 have:=Zdr l 0
 rwa [Nat.zero_mul,Nat.zero_add]at this
theorem ZB{w:Nat}{s:RSt}{r':List UInt8}(h:(getN w s).2=some r'):s=some (putI (getN w s).1 w++r')/\Yv w (getN w s).1=true:=by
 cases s with
 |none=>cases h
 |some r=>
  simp only[getN]at h ⊢;by_cases hl:r.length<w
  ·rw[if_pos hl]at h;cases h
  ·rw[if_neg hl]at h ⊢;have hr:=Option.some.inj h;have ht:(r.take w).length=w:=by rw[List.length_take];omega
   have e:=Zag (r.take w);rw[ht]at e;refine⟨?_,?_⟩
   ·show some r=some (putI _ w++r');rw[e,<-hr,List.take_append_drop]
   ·have f0:=QO (r.take w);rw[ht]at f0;refine Uw.2 ⟨by omega,?_⟩;have e3:(256:Int) ^ w=((256 ^ w:Nat):Int):=by rw[Int.natCast_pow];rfl
    rw[e3];omega
theorem EB{s:ByteArray}(h:XF s=true)(r:List UInt8):getT (some (Yl s++r))=(s,some r):=by
 have hs:s.size<=1024:=by simpa [XF] using h
 have hl:s.data.toList.length=s.size:=by rw[Array.length_toList];rfl
 have e:Yl s++r=putI (s.size:Int) 2++(s.data.toList++r):=by simp[Yl,if_pos hs]
 have hn:numU ((putI (s.size:Int) 2++(s.data.toList++r)).take 2) 0=s.size:=by
  rw[List.take_left' (XN _ 2)];have:=Gc (s.size:Int) 2;rw[Int.emod_eq_of_lt (by omega) (by have:(256:Int) ^ 2=65536:=rfl;omega)]at this;omega
 rw[e];simp only[getT]
 rw[if_neg (by rw[List.length_append,XN];omega),hn,if_neg (by rw[List.length_append,List.length_append,XN];omega),List.drop_left' (XN _ 2),
  List.take_left' hl,List.drop_left' hl]
 rfl
theorem Uu{s:RSt}{r':List UInt8}(h:(getT s).2=some r'):s=some (Yl (getT s).1++r')/\XF (getT s).1=true:=by
 cases s with
 |none=>cases h
 |some r=>
  simp only[getT]at h ⊢;by_cases hl:r.length<2
  ·rw[if_pos hl]at h;cases h
  ·rw[if_neg hl]at h ⊢;by_cases hn:1024<numU (r.take 2) 0\/r.length - 2<numU (r.take 2) 0
   ·rw[if_pos hn]at h;cases h
   ·rw[if_neg hn]at h ⊢
    obtain⟨n,en⟩:∃ n,numU (r.take 2) 0=n:=⟨_,rfl⟩
    have e:=Zag (r.take 2);have ht:(r.take 2).length=2:=by rw[List.length_take];omega
    rw[ht]at e;rw[en]at h hn e ⊢;have hr:=Option.some.inj h
    have k0:(bytesOf ((r.drop 2).take n)).size=n:=by
     show((r.drop 2).take n).toArray.size=n;rw[List.size_toArray,List.length_take,List.length_drop];omega
    have j0:n<=1024:=by omega
    refine⟨?_,?_⟩
    ·show some r=some (Yl (bytesOf ((r.drop 2).take n))++r');rw[Yl,k0,if_pos j0,e,<-hr,List.append_assoc];show some r=some (r.take 2++((r.drop 2).take n++(r.drop 2).drop n));rw[List.take_append_drop,List.take_append_drop]
    ·show decide _=true;rw[k0];exact decide_eq_true j0
structure Fit {α:Type} (p:Lays α) (g:RSt->α × RSt):Prop where
 put:∀ x,p.ok x=true->∀ r,g (some (p.b x++r))=(x,some r)
 back:∀ s r',(g s).2=some r'->s=some (p.b (g s).1++r')/\p.ok (g s).1=true
theorem Zex:Fit keyP getT:=⟨λx h r=>EB h r,λs r' h=>Uu h⟩
theorem Xj{w:Nat}{n:Int}{l:List Int}{r:List UInt8}:Z4 w (n::l)++r=putI n w++(Z4 w l++r):=by simp[Z4]
theorem Jz{w:Nat}{r:List UInt8}:Z4 w []++r=r:=rfl
theorem ZW{w:Nat}{n:Int}{l:List Int}:Zs w (n::l)=true↔Yv w n=true/\Zs w l=true:=by simp[Zs]
theorem Y6{w:Nat}:Zs w []=true:=rfl
theorem ZaH:Fit XL YN:=by
 refine⟨λ⟨a,b⟩ h r=>?_,λs r' h=>?_⟩
 ·obtain⟨h1,h2,-⟩:Yv 1 a=true/\Yv 1 b=true/\True:=by have:=h;simp only[XL,ZW]at this;exact⟨this.1,this.2.1,trivial⟩
  show YN (some (Z4 1 [a,b]++r))=_;rw[Xj,Xj,Jz];simp only[YN,ZP h1,ZP h2]
 ·simp only[YN]at h ⊢;obtain⟨e2,k2⟩:=ZB h;obtain⟨e1,k1⟩:=ZB e2;refine⟨?_,?_⟩
  ·show s=some (Z4 1 [_,_]++r');rw[Xj,Xj,Jz];exact e1
  ·show Zs 1 [_,_]=true;exact ZW.2 ⟨k1,ZW.2 ⟨k2,Y6⟩⟩
theorem ZaG:Fit XJ YM:=by
 refine⟨λ⟨a,b⟩ h r=>?_,λs r' h=>?_⟩
 ·obtain⟨h1,h2,-⟩:Yv 1 a=true/\Yv 1 b=true/\True:=by have:=h;simp only[XJ,ZW]at this;exact⟨this.1,this.2.1,trivial⟩
  show YM (some (Z4 1 [a,b]++r))=_;rw[Xj,Xj,Jz];simp only[YM,ZP h1,ZP h2]
 ·simp only[YM]at h ⊢;obtain⟨e2,k2⟩:=ZB h;obtain⟨e1,k1⟩:=ZB e2;refine⟨?_,?_⟩
  ·show s=some (Z4 1 [_,_]++r');rw[Xj,Xj,Jz];exact e1
  ·show Zs 1 [_,_]=true;exact ZW.2 ⟨k1,ZW.2 ⟨k2,Y6⟩⟩
theorem Zeu:Fit winP winG:=by
 refine⟨λ⟨a,b,c⟩ h r=>?_,λs r' h=>?_⟩
 ·obtain⟨h1,h2,h3,-⟩:Yv 1 a=true/\Yv 1 b=true/\Yv 1 c=true/\True:=by have:=h;simp only[winP,ZW]at this;exact⟨this.1,this.2.1,this.2.2.1,trivial⟩
  show winG (some (Z4 1 [a,b,c]++r))=_;rw[Xj,Xj,Xj,Jz];simp only[winG,ZP h1,ZP h2,ZP h3]
 ·simp only[winG]at h ⊢;obtain⟨e3,k3⟩:=ZB h;obtain⟨e2,k2⟩:=ZB e3;obtain⟨e1,k1⟩:=ZB e2;refine⟨?_,?_⟩
  ·show s=some (Z4 1 [_,_,_]++r');rw[Xj,Xj,Xj,Jz];exact e1
  ·show Zs 1 [_,_,_]=true;exact ZW.2 ⟨k1,ZW.2 ⟨k2,ZW.2 ⟨k3,Y6⟩⟩⟩
theorem Zew:Fit porP porG:=by
 refine⟨λ⟨a,b,c,d,e⟩ h r=>?_,λs r' h=>?_⟩
 ·obtain⟨h1,h2,h3,h4,h5⟩:Yv 1 a=true/\Yv 1 b=true/\Yv 1 c=true/\Yv 1 d=true/\Yv 1 e=true:=by have:=h;simp only[porP,ZW]at this;exact⟨this.1,this.2.1,this.2.2.1,this.2.2.2.1,this.2.2.2.2.1⟩
  show porG (some (Z4 1 [a,b,c,d,e]++r))=_;rw[Xj,Xj,Xj,Xj,Xj,Jz];simp only[porG,ZP h1,ZP h2,ZP h3,ZP h4,ZP h5]
 ·simp only[porG]at h ⊢;obtain⟨e5,k5⟩:=ZB h;obtain⟨e4,k4⟩:=ZB e5;obtain⟨e3,k3⟩:=ZB e4;obtain⟨e2,k2⟩:=ZB e3;obtain⟨e1,k1⟩:=ZB e2;refine⟨?_,?_⟩
  ·show s=some (Z4 1 [_,_,_,_,_]++r');rw[Xj,Xj,Xj,Xj,Xj,Jz];exact e1
  ·show Zs 1 [_,_,_,_,_]=true;exact ZW.2 ⟨k1,ZW.2 ⟨k2,ZW.2 ⟨k3,ZW.2 ⟨k4,ZW.2 ⟨k5,Y6⟩⟩⟩⟩⟩
theorem Zev:Fit volP volG:=by
 refine⟨λ⟨a,b,c,d⟩ h r=>?_,λs r' h=>?_⟩
 ·obtain⟨h1,h2,h3,h4⟩:Yv 1 a=true/\Yv 2 b=true/\Yv 2 c=true/\Yv 2 d=true:=by have:=h;simp only[volP,Bool.and_eq_true,ZW]at this;exact⟨this.1.1,this.2.1,this.2.2.1,this.2.2.2.1⟩
  show volG (some ((Z4 1 [a]++Z4 2 [b,c,d])++r))=_;rw[List.append_assoc,Xj,Jz,Xj,Xj,Xj,Jz];simp only[volG,ZP h1,ZP h2,ZP h3,ZP h4]
 ·simp only[volG]at h ⊢;obtain⟨e4,k4⟩:=ZB h;obtain⟨e3,k3⟩:=ZB e4;obtain⟨e2,k2⟩:=ZB e3;obtain⟨e1,k1⟩:=ZB e2;refine⟨?_,?_⟩
  ·show s=some ((Z4 1 [_]++Z4 2 [_,_,_])++r');rw[List.append_assoc,Xj,Jz,Xj,Xj,Xj,Jz];exact e1
  ·show(Zs 1 [_]&&Zs 2 [_,_,_])=true;rw[Bool.and_eq_true];exact⟨ZW.2 ⟨k1,Y6⟩,ZW.2 ⟨k2,ZW.2 ⟨k3,ZW.2 ⟨k4,Y6⟩⟩⟩⟩
theorem Zg2:Fit ruP ruG:=by
 refine⟨λ⟨a,b,c,d,e⟩ h r=>?_,λs r' h=>?_⟩
 ·obtain⟨h1,h2,h3,h4,h5⟩:Yv 1 a=true/\Yv 1 b=true/\Yv 1 c=true/\XF d=true/\XF e=true:=by have:=h;simp only[ruP,Bool.and_eq_true,ZW]at this;exact⟨this.1.1,this.1.2.1,this.1.2.2.1,this.2.1,this.2.2⟩
  show ruG (some ((Z4 1 [a,b,c]++(Yl d++Yl e))++r))=_;rw[List.append_assoc,Xj,Xj,Xj,Jz,List.append_assoc];simp only[ruG,ZP h1,ZP h2,ZP h3,EB h4,EB h5]
 ·simp only[ruG]at h ⊢;obtain⟨e5,k5⟩:=Uu h;obtain⟨e4,k4⟩:=Uu e5;obtain⟨e3,k3⟩:=ZB e4;obtain⟨e2,k2⟩:=ZB e3;obtain⟨e1,k1⟩:=ZB e2;refine⟨?_,?_⟩
  ·show s=some ((Z4 1 [_,_,_]++(Yl _++Yl _))++r');rw[List.append_assoc,Xj,Xj,Xj,Jz,List.append_assoc];exact e1
  ·show(Zs 1 [_,_,_]&&(XF _&&XF _))=true;rw[Bool.and_eq_true,Bool.and_eq_true];exact⟨ZW.2 ⟨k1,ZW.2 ⟨k2,ZW.2 ⟨k3,Y6⟩⟩⟩,k4,k5⟩
theorem Zas{α:Type}{p:Lays α}{g:RSt->α × RSt}(F:Fit p g):∀ (l:List α),ZD p l=true->∀ r,many g l.length (some (ZF p l++r))=(l,some r)
 |[],_,_=>rfl
 |x::l,h,r=>by
  have h':p.ok x=true/\ZD p l=true:=by simpa [ZD] using h
  simp only[ZF,many,List.length_cons,List.append_assoc,F.put x h'.1,Zas F l h'.2]
theorem WX{α:Type}{p:Lays α}{g:RSt->α × RSt}(F:Fit p g):∀ (n:Nat) (s:RSt) (r':List UInt8),(many g n s).2=some r'->s=some (ZF p (many g n s).1++r')/\ZD p (many g n s).1=true/\(many g n s).1.length=n
 |0,s,r',h=>⟨h,rfl,rfl⟩
 |n+1,s,r',h=>by
  simp only[many]at h ⊢;obtain⟨e2,k2,l2⟩:=WX F n _ _ h;obtain⟨e1,k1⟩:=F.back _ _ e2;refine⟨?_,?_,?_⟩
  ·simp only[ZF,List.append_assoc];exact e1
  ·simp only[ZD,k1,k2,Bool.and_self]
  ·simp[l2]
theorem JB{α:Type}{p:Lays α}{g:RSt->α × RSt}(F:Fit p g){l:List α}(h:ZO p l=true)(r:List UInt8):getL g (some (ZZ p l++r))=(l,some r):=by
 obtain⟨h1,h2⟩:Yv 1 (l.length:Int)=true/\ZD p l=true:=by have:=h;simp only[ZO,Bool.and_eq_true,ZW]at this;exact⟨this.1.1,this.2⟩
 simp only[getL,ZZ,List.append_assoc];rw[Xj,Jz,ZP h1];simp only[Int.toNat_natCast];exact Zas F l h2 r
theorem Y1{α:Type}{p:Lays α}{g:RSt->α × RSt}(F:Fit p g){s:RSt}{r':List UInt8}(h:(getL g s).2=some r'):s=some (ZZ p (getL g s).1++r')/\ZO p (getL g s).1=true:=by
 simp only[getL]at h ⊢;obtain⟨e2,k2,l2⟩:=WX F _ _ _ h;obtain⟨e1,k1⟩:=ZB e2;have h0:=(Uw.1 k1).1
 obtain⟨n,en⟩:∃ n,(getN 1 s).1=n:=⟨_,rfl⟩
 obtain⟨L,eL⟩:∃ L,many g (getN 1 s).1.toNat (getN 1 s).2=L:=⟨_,rfl⟩
 rw[eL]at e2 k2 l2 e1 ⊢;rw[en]at k1 h0 l2 e1;have el:(L.1.length:Int)=n:=by omega
 refine⟨?_,?_⟩
 ·simp only[ZZ,List.append_assoc];rw[Xj,Jz,el];exact e1
 ·simp only[ZO,Bool.and_eq_true];rw[el];exact⟨ZW.2 ⟨k1,Y6⟩,k2⟩
theorem vol0(v:Vol)(h:v.level=0):(⟨0,v.first,v.count,v.journal⟩:Vol)=v:=by cases v;cases h;rfl
theorem Bf(c:Cfg)(h:c.laid=true):Yp c.bytes=some c:=by
 simp only[Cfg.laid,Bool.and_eq_true,ZW,decide_eq_true_eq]at h;obtain⟨⟨⟨⟨⟨⟨⟨⟨⟨⟨⟨⟨h1,-⟩,h2⟩,h3⟩,h4⟩,h5⟩,h6⟩,⟨a1,a2,a3,a4,a5,-⟩⟩,h7⟩,h8⟩,h9⟩,⟨b1,b2,-⟩⟩,h10⟩:=h;have ht:c.bytes.take 4=W4:=rfl
 have hd:c.bytes.drop 4=Z4 1 [c.levels]++(ZZ XL c.flows++(ZZ XJ c.parts++(ZZ winP c.windows++(ZZ porP c.ports++(ZZ volP c.volumes ++
  (Z4 2 [c.audit.first,c.audit.count,c.audit.journal,c.boot,c.sectors]++(ZZ ruP c.rules++(ZZ keyP c.keys++(Yl c.login++(Z4 2 [c.recovery,c.bound]++[])))))))))):=by rw[List.append_nil];rfl
 have hg:cfgG (some (c.bytes.drop 4))=(c,some []):=by
  rw[hd,Xj,Jz,Xj,Xj,Xj,Xj,Xj,Jz,Xj,Xj,Jz]
  simp only[cfgG,ZP h1,JB ZaH h2,JB ZaG h3,JB Zeu h4,JB Zew h5,JB Zev h6,ZP a1,ZP a2,ZP a3,ZP a4,ZP a5,
   JB Zg2 h7,JB Zex h8,EB h9,ZP b1,ZP b2]
  rw[vol0 _ h10]
 rw[Yp,if_pos ht,hg,if_pos rfl]
theorem BQ{s:List UInt8}{c:Cfg}(h:Yp s=some c):c.laid=true/\c.bytes=s:=by
 unfold Yp at h;by_cases hm:s.take 4=W4
 ·rw[if_pos hm]at h;by_cases hr:(cfgG (some (s.drop 4))).2=some []
  ·rw[if_pos hr]at h;have hc:=Option.some.inj h
   obtain⟨t,et⟩:∃ t,s.drop 4=t:=⟨_,rfl⟩
   rw[et]at hr hc;have hs:s=W4++t:=by rw[<-hm,<-et,List.take_append_drop]
   clear h hm et;simp only[cfgG]at hr hc;obtain⟨q16,k16⟩:=ZB hr;obtain⟨q15,k15⟩:=ZB q16;obtain⟨q14,k14⟩:=Uu q15;obtain⟨q13,k13⟩:=Y1 Zex q14;obtain⟨q12,k12⟩:=Y1 Zg2 q13;obtain⟨q11,k11⟩:=ZB q12;obtain⟨q10,k10⟩:=ZB q11;obtain⟨q9,k9⟩:=ZB q10;obtain⟨q8,k8⟩:=ZB q9;obtain⟨q7,k7⟩:=ZB q8;obtain⟨q6,k6⟩:=Y1 Zev q7;obtain⟨q5,k5⟩:=Y1 Zew q6;obtain⟨q4,k4⟩:=Y1 Zeu q5;obtain⟨q3,k3⟩:=Y1 ZaG q4;obtain⟨q2,k2⟩:=Y1 ZaH q3;obtain⟨q1,k1⟩:=ZB q2;rw[<-hc];refine⟨?_,?_⟩
   ·simp only[Cfg.laid,Bool.and_eq_true,ZW,decide_eq_true_eq];exact⟨⟨⟨⟨⟨⟨⟨⟨⟨⟨⟨⟨k1,Y6⟩,k2⟩,k3⟩,k4⟩,k5⟩,k6⟩,⟨k7,k8,k9,k10,k11,Y6⟩⟩,k12⟩,k13⟩,k14⟩,⟨k15,k16,Y6⟩⟩,trivial⟩
   ·rw[hs];simp only[Cfg.bytes];refine congrArg (W4++·) ?_;refine Eq.trans ?_ (Option.some.inj q1).symm;simp only[Z4,List.append_assoc,List.append_nil,List.nil_append]
  ·rw[if_neg hr]at h;cases h
 ·rw[if_neg hm]at h;cases h
end Go.Proofs.YtbchkjfnakabkaaGreatDoor.PC
namespace Go.Proofs.YtbchkjfnakabkaaGreatDoor.PC
open PX
def bitR(r:List Int)(a b:Nat):Bool:=((r[a]?.getD 0).toNat).testBit b
structure Rows8 (r:List Int):Prop where
 len:r.length=8
 u8:∀ x∈r,0<=x/\x<256
def orI(x y:Int):Int:=((x.toNat ||| y.toNat:Nat):Int)
def andI(x y:Int):Int:=((x.toNat &&& y.toNat:Nat):Int)
theorem ZdI{x y:Int}(hx:0<=x/\x<256)(hy:0<=y/\y<256):0<=orI x y/\orI x y<256:=by
 unfold orI;have h1:x.toNat<2 ^ 8:=by omega
 have h2:y.toNat<2 ^ 8:=by omega
 have:=Nat.or_lt_two_pow h1 h2;omega
theorem Wa{x y:Int}(hx:0<=x/\x<256)(hy:0<=y/\y<256):0<=andI x y/\andI x y<256:=by
 unfold andI;have h1:x.toNat<2 ^ 8:=by omega
 have:=Nat.and_le_left (n:=x.toNat) (m:=y.toNat);omega
theorem ZiO{x y:Int}(hx:0<=x):x<=orI x y:=by
 unfold orI;have h:x.toNat<=x.toNat ||| y.toNat:=Nat.left_le_or;omega
theorem ZeX(x y:Int)(j:Nat):(orI x y).toNat.testBit j=(x.toNat.testBit j || y.toNat.testBit j):=by
 unfold orI;rw[Int.toNat_natCast,Nat.testBit_or]
theorem Vy(x y:Int)(j:Nat):(andI x y).toNat.testBit j=(x.toNat.testBit j&&y.toNat.testBit j):=by
 unfold andI;rw[Int.toNat_natCast,Nat.testBit_and]
theorem Rows8.get{r:List Int}(h:Rows8 r)(a:Nat):0<=r[a]?.getD 0/\r[a]?.getD 0<256:=by
 by_cases hl:a<r.length
 ·rw[List.getElem?_eq_getElem hl];exact h.u8 _ (List.getElem_mem hl)
 ·rw[List.getElem?_eq_none (by omega)];simp
theorem Rows8.set{r:List Int}(h:Rows8 r)(a:Nat){x:Int}(hx:0<=x/\x<256):Rows8 (r.set a x):=by
 refine⟨by rw[List.length_set];exact h.len,λy hy=>?_⟩;rcases List.mem_or_eq_of_mem_set hy with hy|rfl
 ·exact h.u8 y hy
 ·exact hx
theorem ZeY{r:List Int}(h:Rows8 r){a b:Nat}(hb:bitR r a b=true):a<8/\b<8:=by
 unfold bitR at hb;have hg:=h.get a;refine⟨?_,?_⟩
 ·by_cases hl:a<8
  ·exact hl
  ·rw[List.getElem?_eq_none (by have:=h.len;omega)]at hb;simp at hb
 ·by_cases hl:b<8
  ·exact hl
  ·have h2:(r[a]?.getD 0).toNat<2 ^ b:=Nat.lt_of_lt_of_le (show(r[a]?.getD 0).toNat<2 ^ 8 by omega) (Nat.pow_le_pow_right (by omega) (by omega));rw[Nat.testBit_lt_two_pow h2]at hb;cases hb
theorem Q5{r:List Int}(h:Rows8 r){a:Nat}(ha:a<8)(x:Int)(i j:Nat):bitR (r.set a x) i j=if i=a then x.toNat.testBit j else bitR r i j:=by
 unfold bitR;by_cases hi:i=a
 ·subst hi;rw[if_pos rfl,List.getElem?_set_self (by rw[h.len];exact ha)];rfl
 ·rw[if_neg hi,List.getElem?_set_ne (λe=>hi e.symm)]
def VS(r:List Int)(a b:Nat):List Int:=if bitR r a b then r.set a (orI (r[a]?.getD 0) (r[b]?.getD 0)) else r
def UQ(r:List Int)(a:Nat):Nat->List Int
 |0=>r
 |k+1=>VS (UQ r a k) a k
def Jp(r:List Int):Nat->List Int
 |0=>r
 |k+1=>UQ (Jp r k) k 8
theorem Zbk{r:List Int}(h:Rows8 r)(a b:Nat):Rows8 (VS r a b):=by
 unfold VS;split
 ·exact h.set a (ZdI (h.get a) (h.get b))
 ·exact h
theorem YA{r:List Int}(h:Rows8 r)(a:Nat):∀ k,Rows8 (UQ r a k)
 |0=>h
 |k+1=>Zbk (YA h a k) a k
theorem XG{r:List Int}(h:Rows8 r):∀ k,Rows8 (Jp r k)
 |0=>h
 |k+1=>YA (XG h k) k 8
theorem EN{r:List Int}(h:Rows8 r){a:Nat}(ha:a<8)(b i j:Nat):bitR (VS r a b) i j=(bitR r i j || (decide (i=a)&&(bitR r a b&&bitR r b j))):=by
 unfold VS;by_cases hb:bitR r a b=true
 ·rw[if_pos hb,Q5 h ha,hb];by_cases hi:i=a
  ·subst hi;rw[if_pos rfl,ZeX];simp[bitR]
  ·rw[if_neg hi];simp[hi]
 ·rw[if_neg hb];simp[hb]
def leR:List Int->List Int->Prop
 |[],[]=>True
 |x::l,y::m=>x<=y/\leR l m
 |_,_=>False
theorem Ur:∀ l,leR l l
 |[]=>trivial
 |x::l=>⟨Int.le_refl x,Ur l⟩
theorem Gi:∀ {l m n:List Int},leR l m->leR m n->leR l n
 |[],[],[],_,_=>trivial
 |x::l,y::m,z::n,h1,h2=>⟨Int.le_trans h1.1 h2.1,Gi h1.2 h2.2⟩
 |[],_::_,_,h,_=>h.elim
 |_::_,[],_,h,_=>h.elim
 |[],[],_::_,_,h=>h.elim
 |_::_,_::_,[],_,h=>h.elim
theorem Zd8:∀ (l:List Int) (a:Nat) (v:Int),l[a]?.getD 0<=v->leR l (l.set a v)
 |[],_,_,_=>trivial
 |x::l,0,v,h=>⟨h,Ur l⟩
 |x::l,a+1,v,h=>⟨Int.le_refl x,Zd8 l a v (by simpa using h)⟩
theorem Zd7:∀ {l m:List Int},leR l m->l.sum<=m.sum/\(l.sum=m.sum->l=m)
 |[],[],_=>⟨Int.le_refl _,λ_=>rfl⟩
 |x::l,y::m,h=>by
  obtain⟨h1,h2⟩:=Zd7 h.2;have h3:=h.1;simp only[List.sum_cons];refine⟨by omega,λe=>?_⟩;have e1:x=y:=by omega
  rw[e1,h2 (by omega)]
 |[],_::_,h=>h.elim
 |_::_,[],h=>h.elim
theorem Zf2{r:List Int}(h:Rows8 r)(a b:Nat):leR r (VS r a b):=by
 unfold VS;split
 ·exact Zd8 r a _ (ZiO (h.get a).1)
 ·exact Ur r
theorem Db{r:List Int}(h:Rows8 r)(a:Nat):∀ k,leR r (UQ r a k)
 |0=>Ur r
 |k+1=>Gi (Db h a k) (Zf2 (YA h a k) a k)
theorem Dc{r:List Int}(h:Rows8 r):∀ k,leR r (Jp r k)
 |0=>Ur r
 |k+1=>Gi (Dc h k) (Db (XG h k) k 8)
theorem ZgT:∀ (l:List Int),(∀x∈l,0<=x/\x<256)->0<=l.sum/\l.sum<=255*l.length
 |[],_=>by simp
 |x::l,h=>by
  have h1:=ZgT l λy hy=>h y (List.mem_cons_of_mem x hy)
  have h2:=h x List.mem_cons_self;simp only[List.sum_cons,List.length_cons];omega
def Zd5(r:List Int):Nat:=(2040 - r.sum).toNat
theorem Zd4{r:List Int}(h:Rows8 r)(c0:Jp r 8≠r):Zd5 (Jp r 8)<Zd5 r:=by
 have h1:=Zd7 (Dc h 8);have h2:=ZgT _ (XG h 8).u8;rw[(XG h 8).len]at h2;have h3:r.sum≠(Jp r 8).sum:=λe=>c0 (h1.2 e).symm
 unfold Zd5;omega
def subR(r s:List Int):Prop:=∀ i j,bitR r i j=true->bitR s i j=true
theorem ZcZ{r:List Int}(h:Rows8 r){a:Nat}(ha:a<8)(b:Nat):subR r (VS r a b):=λi j hb=>by rw[EN h ha,hb];rfl
theorem UK{r:List Int}(h:Rows8 r){a:Nat}(ha:a<8):∀ k k',k<=k'->subR (UQ r a k) (UQ r a k'):=by
 intro k k' hk
 induction hk with
 |refl=>exact λi j hb=>hb
 |step hk ih=>exact λi j hb=>ZcZ (YA h a _) ha _ i j (ih i j hb)
theorem UL{r:List Int}(h:Rows8 r):∀ k k',k<=k'->k'<=8->subR (Jp r k) (Jp r k'):=by
 intro k k' hk
 induction hk with
 |refl=>exact λ_ i j hb=>hb
 |step hk ih=>exact λhk' i j hb=>UK (XG h _) (by omega) 0 8 (by omega) i j (ih (by omega) i j hb)
theorem DD{r:List Int}(h:Rows8 r)(he:Jp r 8=r){a b c:Nat}(hab:bitR r a b=true)(hbc:bitR r b c=true):bitR r a c=true:=by
 have ha:=(ZeY h hab).1;have hb:=(ZeY h hab).2
 have h1:∀ i j,bitR r i j=true->bitR (UQ (Jp r a) a b) i j=true:=λi j e0=>
  UK (XG h a) ha 0 b (by omega) i j (UL h 0 a (by omega) (by omega) i j e0)
 have h2:bitR (UQ (Jp r a) a (b+1)) a c=true:=by
  show bitR (VS _ a b) a c=true;rw[EN (YA (XG h a) a b) ha,h1 a b hab,h1 b c hbc];simp
 have h3:bitR (Jp r (a+1)) a c=true:=UK (XG h a) ha (b+1) 8 (by omega) a c h2;have h4:=UL h (a+1) 8 (by omega) (by omega) a c h3
 rwa [he]at h4
def Je(n:Int)(l:List (Int × Int))(r:List Int):Prop:=∀ i j:Nat,bitR r i j=true->lev n i/\lev n j/\Rch l i j
theorem Jo{l:List (Int × Int)}{a b c:Int}(h1:Rch l a b)(h2:Rch l b c):Rch l a c:=by
 induction h2 with
 |refl=>exact h1
 |step _ he ih=>exact .step ih he
theorem Zbl{n:Int}{l:List (Int × Int)}{r:List Int}(h:Rows8 r)(hs:Je n l r){a:Nat}(ha:a<8)(b:Nat):Je n l (VS r a b):=by
 intro i j hb;rw[EN h ha,Bool.or_eq_true]at hb;rcases hb with hb|hb
 ·exact hs i j hb
 ·simp only[Bool.and_eq_true,decide_eq_true_eq]at hb;obtain⟨rfl,h1,h2⟩:=hb;obtain⟨p1,p2,p3⟩:=hs _ _ h1;obtain⟨q1,q2,q3⟩:=hs _ _ h2;exact⟨p1,q2,Jo p3 q3⟩
theorem EP{n:Int}{l:List (Int × Int)}{r:List Int}(h:Rows8 r)(hs:Je n l r){a:Nat}(ha:a<8):∀ k,Je n l (UQ r a k)
 |0=>hs
 |k+1=>Zbl (YA h a k) (EP h hs ha k) ha k
theorem EQ{n:Int}{l:List (Int × Int)}{r:List Int}(h:Rows8 r)(hs:Je n l r):∀ k,k<=8->Je n l (Jp r k)
 |0,_=>hs
 |k+1,hk=>EP (XG h k) (EQ h hs k (by omega)) (by omega) 8
def Zcw(n:Int)(l:List (Int × Int))(r:List Int):Prop:=(∀i:Nat,lev n i->bitR r i i=true)/\∀ p∈l,bitR r p.1.toNat p.2.toNat=true
theorem ZgH{n:Int}{l:List (Int × Int)}{r s:List Int}(h:Zcw n l r)(hs:subR r s):Zcw n l s:=⟨λi hi=>hs _ _ (h.1 i hi),λp hp=>hs _ _ (h.2 p hp)⟩
theorem Qn{n:Int}{l:List (Int × Int)}{r:List Int}(h:Rows8 r)(he:Jp r 8=r)(hs:Je n l r)(hb:Zcw n l r)(hl:∀ p∈l,lev n p.1/\lev n p.2){a b:Nat}(ha:lev n a):bitR r a b=true↔Rch l a b:=by
 refine⟨λh=>(hs _ _ h).2.2,?_⟩
 have key:∀ x y:Int,Rch l x y->x=a->bitR r a y.toNat=true:=by
  intro x y hr
  induction hr with
  |refl=>intro e;subst e;exact hb.1 a ha
  |step h1 he' ih=>
   intro e;obtain⟨q1,q2⟩:=hl _ he';exact DD h he (ih e) (hb.2 _ he')
 intro hr;have:=key _ _ hr rfl
 simpa using this
theorem Zht{n:Int}{l:List (Int × Int)}(hl:∀ p∈l,lev n p.1/\lev n p.2){a b:Int}(h:Rch l a b)(ha:lev n a):lev n b:=by
 cases h with
 |refl=>exact ha
 |step _ he=>exact(hl _ he).2
def addR(r:List Int)(a b:Nat):List Int:=r.set a (orI (r[a]?.getD 0) (2 ^ b))
theorem GW{b:Nat}(hb:b<8):0<=(2:Int) ^ b/\(2:Int) ^ b<256:=by
 have:b=0\/b=1\/b=2\/b=3\/b=4\/b=5\/b=6\/b=7:=by omega
 rcases this with rfl|rfl|rfl|rfl|rfl|rfl|rfl|rfl<;>decide
theorem Ug(b:Nat):((2:Int) ^ b).toNat=2 ^ b:=by
 have:(2:Int) ^ b=((2 ^ b:Nat):Int):=by simp
 rw[this,Int.toNat_natCast]
theorem GJ{r:List Int}(h:Rows8 r)(a:Nat){b:Nat}(hb:b<8):Rows8 (addR r a b):=h.set a (ZdI (h.get a) (GW hb))
theorem ZaV{r:List Int}(h:Rows8 r){a:Nat}(ha:a<8)(b i j:Nat):bitR (addR r a b) i j=(bitR r i j || (decide (i=a)&&decide (b=j))):=by
 unfold addR;rw[Q5 h ha];by_cases hi:i=a
 ·subst hi;rw[if_pos rfl,ZeX,Ug,Nat.testBit_two_pow];simp[bitR]
 ·rw[if_neg hi];simp[hi]
def YO:List Int:=[0,0,0,0,0,0,0,0]
theorem GS:Rows8 YO:=⟨rfl,by intro x hx;simp[YO]at hx;omega⟩
theorem Zcz(a:Nat):YO[a]?.getD 0=0:=by
 unfold YO;rcases a with _|_|_|_|_|_|_|_|a<;>rfl
theorem Wg(a b:Nat):bitR YO a b=false:=by
 unfold bitR;rw[Zcz];simp
def Vf:Nat->List Int
 |0=>YO
 |k+1=>(Vf k).set k (2 ^ k)
theorem Yi:∀ k,k<=8->Rows8 (Vf k)
 |0,_=>GS
 |k+1,h=>(Yi k (by omega)).set k (GW (by omega))
theorem GC:∀ k,k<=8->∀ i j,bitR (Vf k) i j=(decide (i<k)&&decide (i=j))
 |0,_,i,j=>by rw[Vf,Wg];simp
 |k+1,h,i,j=>by
  rw[Vf,Q5 (Yi k (by omega)) (by omega)];by_cases hi:i=k
  ·subst hi;rw[if_pos rfl,Ug,Nat.testBit_two_pow];simp
  ·rw[if_neg hi,GC k (by omega)];have:decide (i<k+1)=decide (i<k):=by rw[decide_eq_decide];omega
   rw[this]
def Y0(r:List Int):List (Int × Int)->List Int
 |[]=>r
 |p::l=>Y0 (addR r p.1.toNat p.2.toNat) l
theorem Bg(r:List Int)(l:List (Int × Int))(p:Int × Int):Y0 r (l++[p])=addR (Y0 r l) p.1.toNat p.2.toNat:=by
 induction l generalizing r with
 |nil=>rfl
 |cons q l ih=>exact ih _
theorem VZ{n:Int}(hn:n<=8):∀ (l:List (Int × Int)) (r:List Int),Rows8 r->(∀p∈l,lev n p.1/\lev n p.2)->Rows8 (Y0 r l)
 |[],r,h,_=>h
 |p::l,r,h,hl=>by
  have h1:=(hl p List.mem_cons_self).2;unfold lev at h1;exact VZ hn l _ (GJ h _ (by omega)) λq hq=>hl q (List.mem_cons_of_mem p hq)
theorem Vp{n:Int}(hn:n<=8):∀ (l:List (Int × Int)) (r:List Int),Rows8 r->(∀p∈l,lev n p.1/\lev n p.2)->∀ i j,bitR (Y0 r l) i j=true↔(bitR r i j=true\/∃ p∈l,i=p.1.toNat/\j=p.2.toNat)
 |[],r,h,_,i,j=>by simp[Y0]
 |p::l,r,h,hl,i,j=>by
  have h1:=hl p List.mem_cons_self;unfold lev at h1;rw[Y0,Vp hn l _ (GJ h _ (by omega)) (λq hq=>hl q (List.mem_cons_of_mem p hq)),ZaV h (by omega)];simp only[Bool.or_eq_true,Bool.and_eq_true,decide_eq_true_eq,List.mem_cons,exists_eq_or_imp];constructor
  ·rintro((h|h)|h)
   ·exact .inl h
   ·exact .inr (.inl ⟨h.1,h.2.symm⟩)
   ·exact .inr (.inr h)
  ·rintro(h|h|h)
   ·exact .inl (.inl h)
   ·exact .inl (.inr ⟨h.1,h.2.symm⟩)
   ·exact .inr h
theorem EO{n:Nat}(hn:n<=8){l:List (Int × Int)}(hl:∀ p∈l,lev n p.1/\lev n p.2):Je n l (Y0 (Vf n) l):=by
 intro i j hb;rcases(Vp (n:=n) (by omega) l _ (Yi n hn) hl i j).1 hb with h|⟨p,hp,rfl,rfl⟩
 ·rw[GC n hn]at h;simp only[Bool.and_eq_true,decide_eq_true_eq]at h;obtain⟨h1,rfl⟩:=h;have:lev (n:Int) (i:Int):=by unfold lev;omega
  exact⟨this,this,.refl _⟩
 ·obtain⟨h1,h2⟩:=hl p hp;have e1:((p.1.toNat:Nat):Int)=p.1:=by unfold lev at h1;omega
  have e2:((p.2.toNat:Nat):Int)=p.2:=by unfold lev at h2;omega
  rw[e1,e2];exact⟨h1,h2,.step (.refl _) hp⟩
theorem GY{n:Nat}(hn:n<=8){l:List (Int × Int)}(hl:∀ p∈l,lev n p.1/\lev n p.2):Zcw n l (Y0 (Vf n) l):=by
 refine⟨λi hi=>(Vp (n:=n) (by omega) l _ (Yi n hn) hl i i).2 (.inl ?_),λp hp=>(Vp (n:=n) (by omega) l _ (Yi n hn) hl _ _).2 (.inr ⟨p,hp,rfl,rfl⟩)⟩;rw[GC n hn];unfold lev at hi;simp;omega
def UE(U r:List Int)(a:Nat):Nat->List Int
 |0=>r
 |k+1=>if bitR U a k then addR (UE U r a k) k a else UE U r a k
def En(U:List Int)(n:Nat):Nat->List Int
 |0=>YO
 |k+1=>UE U (En U n k) k n
theorem U3{U r:List Int}(h:Rows8 r){a:Nat}(ha:a<8):∀ k,k<=8->Rows8 (UE U r a k)/\∀ i j,bitR (UE U r a k) i j=(bitR r i j || (decide (i<k)&&(decide (j=a)&&bitR U a i)))
 |0,_=>⟨h,λi j=>by simp[UE]⟩
 |k+1,hk=>by
  obtain⟨h1,h2⟩:=U3 (U:=U) h ha k (by omega);unfold UE;by_cases hb:bitR U a k=true
  ·rw[if_pos hb];refine⟨GJ h1 _ ha,λi j=>?_⟩;rw[ZaV h1 (by omega),h2];by_cases hi:i=k
   ·subst hi;have e1:decide (i<i)=false:=by simp
    have e2:decide (i<i+1)=true:=by simp
    have e3:decide (a=j)=decide (j=a):=by rw[decide_eq_decide];exact eq_comm
    rw[hb,e1,e2,e3];simp
   ·have:decide (i<k+1)=decide (i<k):=by rw[decide_eq_decide];omega
    rw[this];simp[hi]
  ·rw[if_neg hb];refine⟨h1,λi j=>?_⟩;rw[h2];by_cases hi:i=k
   ·subst hi;simp[hb]
   ·have:decide (i<k+1)=decide (i<k):=by rw[decide_eq_decide];omega
    rw[this]
theorem VA{U:List Int}{n:Nat}(hn:n<=8):∀ k,k<=8->Rows8 (En U n k)/\∀ i j,bitR (En U n k) i j=(decide (j<k)&&(decide (i<n)&&bitR U j i))
 |0,_=>⟨GS,λi j=>by rw[En,Wg];simp⟩
 |k+1,hk=>by
  obtain⟨h1,h2⟩:=VA (U:=U) hn k (by omega);obtain⟨h3,h4⟩:=U3 (U:=U) h1 (show k<8 by omega) n hn;refine⟨h3,λi j=>?_⟩;rw[En,h4,h2];by_cases hj:j=k
  ·subst hj;simp
  ·have:decide (j<k+1)=decide (j<k):=by rw[decide_eq_decide];omega
   rw[this];simp[hj]
structure LatR (n:Nat) (l:List (Int × Int)) (U D:List Int):Prop where
 up:Rows8 U
 down:Rows8 D
 lo:1<=n
 hi:n<=8
 pairs:∀ p∈l,lev n p.1/\lev n p.2
 ubit:∀ a b:Nat,a<n->(bitR U a b=true↔Rch l a b)
 dbit:∀ a b:Nat,a<n->(bitR D a b=true↔(b<n/\Rch l b a))
theorem Dh{n:Nat}{l:List (Int × Int)}{U:List Int}(h1:1<=n)(h8:n<=8)(hl:∀ p∈l,lev n p.1/\lev n p.2)(h:Rows8 U)(he:Jp U 8=U)(hs:Je n l U)(hb:Zcw n l U):LatR n l U (En U n n):=by
 refine⟨h,(VA h8 n h8).1,h1,h8,hl,λa b ha=>Qn h he hs hb hl (by unfold lev;omega),λa b ha=>?_⟩;rw[(VA h8 n h8).2];simp only[Bool.and_eq_true,decide_eq_true_eq];refine⟨λ⟨q1,q2,q3⟩=>⟨q1,(hs _ _ q3).2.2⟩,λ⟨q1,q2⟩=>⟨q1,ha,(Qn h he hs hb hl (by unfold lev;omega)).2 q2⟩⟩
theorem Zau{n:Nat}{l:List (Int × Int)}{U D:List Int}(h:LatR n l U D):(∀a,a<n->andI (U[a]?.getD 0) (D[a]?.getD 0)=2 ^ a)↔∀ a b,lev n a->lev n b->Rch l a b->Rch l b a->a=b:=by
 constructor
 ·intro hh a b ha hb h1 h2;unfold lev at ha hb;obtain⟨x,rfl⟩:=Int.eq_ofNat_of_zero_le ha.1;obtain⟨y,rfl⟩:=Int.eq_ofNat_of_zero_le hb.1;have e:=congrArg (λz:Int=>z.toNat.testBit y) (hh x (by omega));simp only[Vy,Ug,Nat.testBit_two_pow]at e;have u:bitR U x y=true:=(h.ubit x y (by omega)).2 h1;have d:bitR D x y=true:=(h.dbit x y (by omega)).2 ⟨by omega,h2⟩;unfold bitR at u d;rw[u,d]at e;have:x=y:=by simpa using e
  rw[this]
 ·intro hh a ha;have hk:=Wa (h.up.get a) (h.down.get a)
  have:(andI (U[a]?.getD 0) (D[a]?.getD 0)).toNat=2 ^ a:=by
   refine Nat.eq_of_testBit_eq λj=>?_
   rw[Vy,Nat.testBit_two_pow];rw[Bool.eq_iff_iff,Bool.and_eq_true,decide_eq_true_eq];have u:=h.ubit a j ha;have d:=h.dbit a j ha;unfold bitR at u d;rw[u,d];constructor
   ·rintro⟨q1,q2,q3⟩;have:=hh a j (by unfold lev;omega) (by unfold lev;omega) q1 q3;omega
   ·rintro rfl;exact⟨.refl _,ha,.refl _⟩
  have e2:=Ug a;have e3:(0:Int)<=2 ^ a:=Int.pow_nonneg (by decide);omega
def VN(R:List Int)(n:Nat)(x:Int):Prop:=∃ c,c<n/\R[c]?.getD 0=x
theorem ZaA{n:Nat}{l:List (Int × Int)}{U D:List Int}(h:LatR n l U D){a b:Nat}(ha:a<n)(hb:b<n) :
 VN U n (andI (U[a]?.getD 0) (U[b]?.getD 0))↔∃ c,lev n c/\Rch l a c/\Rch l b c/\∀ d,lev n d->Rch l a d->Rch l b d->Rch l c d:=by
 constructor
 ·rintro⟨c,hc,e⟩
  have key:∀ j,bitR U c j=(bitR U a j&&bitR U b j):=λj=>by
   unfold bitR;rw[e,Vy]
  have d0:bitR U c c=true:=(h.ubit c c hc).2 (.refl _);rw[key,Bool.and_eq_true]at d0;refine⟨c,by unfold lev;omega,(h.ubit a c ha).1 d0.1,(h.ubit b c hb).1 d0.2,λd hd h1 h2=>?_⟩;unfold lev at hd;obtain⟨y,rfl⟩:=Int.eq_ofNat_of_zero_le hd.1;refine(h.ubit c y hc).1 ?_;have u1:bitR U a y=true:=(h.ubit a y ha).2 h1;have u2:bitR U b y=true:=(h.ubit b y hb).2 h2;rw[key,u1,u2];rfl
 ·rintro⟨c,hc,h1,h2,h3⟩;unfold lev at hc;obtain⟨z,rfl⟩:=Int.eq_ofNat_of_zero_le hc.1;refine⟨z,by omega,?_⟩;have g1:=h.up.get z;have g2:=Wa (h.up.get a) (h.up.get b)
  have:(U[z]?.getD 0).toNat=(andI (U[a]?.getD 0) (U[b]?.getD 0)).toNat:=by
   refine Nat.eq_of_testBit_eq λj=>?_
   rw[Vy,Bool.eq_iff_iff,Bool.and_eq_true];have u1:=h.ubit z j (by omega);have u2:=h.ubit a j ha;have u3:=h.ubit b j hb;unfold bitR at u1 u2 u3;rw[u1,u2,u3];constructor
   ·exact λq=>⟨Jo h1 q,Jo h2 q⟩
   ·rintro⟨q1,q2⟩;exact h3 j (Zht h.pairs q1 (by unfold lev;omega)) q1 q2
  omega
theorem Zap{n:Nat}{l:List (Int × Int)}{U D:List Int}(h:LatR n l U D){a b:Nat}(ha:a<n)(hb:b<n) :
 VN D n (andI (D[a]?.getD 0) (D[b]?.getD 0))↔∃ c,lev n c/\Rch l c a/\Rch l c b/\∀ d,lev n d->Rch l d a->Rch l d b->Rch l d c:=by
 constructor
 ·rintro⟨c,hc,e⟩
  have key:∀ j,bitR D c j=(bitR D a j&&bitR D b j):=λj=>by
   unfold bitR;rw[e,Vy]
  have d0:bitR D c c=true:=(h.dbit c c hc).2 ⟨hc,.refl _⟩;rw[key,Bool.and_eq_true]at d0;refine⟨c,by unfold lev;omega,((h.dbit a c ha).1 d0.1).2,((h.dbit b c hb).1 d0.2).2,λd hd h1 h2=>?_⟩;unfold lev at hd;obtain⟨y,rfl⟩:=Int.eq_ofNat_of_zero_le hd.1;refine((h.dbit c y hc).1 ?_).2;have u1:bitR D a y=true:=(h.dbit a y ha).2 ⟨by omega,h1⟩;have u2:bitR D b y=true:=(h.dbit b y hb).2 ⟨by omega,h2⟩;rw[key,u1,u2];rfl
 ·rintro⟨c,hc,h1,h2,h3⟩;unfold lev at hc;obtain⟨z,rfl⟩:=Int.eq_ofNat_of_zero_le hc.1;refine⟨z,by omega,?_⟩;have g1:=h.down.get z;have g2:=Wa (h.down.get a) (h.down.get b)
  have:(D[z]?.getD 0).toNat=(andI (D[a]?.getD 0) (D[b]?.getD 0)).toNat:=by
   refine Nat.eq_of_testBit_eq λj=>?_
   rw[Vy,Bool.eq_iff_iff,Bool.and_eq_true];have u1:=h.dbit z j (by omega);have u2:=h.dbit a j ha;have u3:=h.dbit b j hb;unfold bitR at u1 u2 u3;rw[u1,u2,u3];constructor
   ·exact λ⟨q0,q⟩=>⟨⟨q0,Jo q h1⟩,q0,Jo q h2⟩
   ·rintro⟨⟨q0,q1⟩,-, q2⟩;exact⟨q0,h3 j (by unfold lev;omega) q1 q2⟩
  omega
def okR(n:Nat)(U D:List Int):Prop:=(∀a,a<n->andI (U[a]?.getD 0) (D[a]?.getD 0)=2 ^ a)/\∀ a,a<n->∀ b,b<n->VN U n (andI (U[a]?.getD 0) (U[b]?.getD 0))/\VN D n (andI (D[a]?.getD 0) (D[b]?.getD 0))
theorem ZdL{n:Nat}{l:List (Int × Int)}{U D:List Int}(h:LatR n l U D)(hf:l.length<=64):okR n U D↔Lat n l:=by
 constructor
 ·rintro⟨h1,h2⟩
  refine⟨by have:=h.lo;omega,by have:=h.hi;omega,hf,h.pairs,(Zau h).1 h1,fun a b ha hb=>?_,fun a b ha hb=>?_⟩<;>
   (unfold lev at ha hb
    obtain⟨x,rfl⟩:=Int.eq_ofNat_of_zero_le ha.1
    obtain⟨y,rfl⟩:=Int.eq_ofNat_of_zero_le hb.1)
  ·exact(ZaA h (by omega) (by omega)).1 (h2 x (by omega) y (by omega)).1
  ·exact(Zap h (by omega) (by omega)).1 (h2 x (by omega) y (by omega)).2
 ·intro hL;refine⟨(Zau h).2 hL.loop,λa ha b hb=>⟨(ZaA h ha hb).2 (hL.join a b ?_ ?_),(Zap h ha hb).2 (hL.meet a b ?_ ?_)⟩⟩<;>(unfold lev;omega)
end Go.Proofs.YtbchkjfnakabkaaGreatDoor.PC
namespace Go.Proofs.YtbchkjfnakabkaaGreatDoor.PC
open PX
theorem J6{α:Type}{r:α->α->Bool}:∀ {l:List α},Xa r l=true↔l.Pairwise (λa b=>r a b=true)
 |[]=>by simp[Xa]
 |x::l=>by rw[Xa,Bool.and_eq_true,List.all_eq_true,J6,List.pairwise_cons]
theorem ZbQ{α:Type}{r:α->α->Bool}(S:∀ {a b},r a b=true->r b a=true){l l':List α}(h:l.Perm l'):Xa r l=Xa r l':=by
 rw[Bool.eq_iff_iff,J6,J6];exact h.pairwise_iff (λ{a b}=>S)
theorem BT{a b:Vol}(h:X8 a b=true):X8 b a=true:=by
 unfold X8 at h ⊢;rw[Bool.or_comm];exact h
theorem Wc{α:Type}{l l':List α}(h:l'.Sublist l){f:α->Bool}(k:l.all f=true):l'.all f=true:=by
 rw[List.all_eq_true]at k ⊢;exact λx hx=>k x (h.subset hx)
theorem Ga{α:Type}{r:α->α->Bool}{l l':List α}(h:l'.Sublist l)(k:Xa r l=true):Xa r l'=true:=
 J6.2 ((J6.1 k).sublist h)
theorem XY{c:Cfg}(h:c.fine=true):latB c.levels c.flows=true/\c.partsB=true/\c.windowsB=true/\c.portsB=true/\c.diskB=true/\c.rulesB=true/\c.textsB=true:=by
 simpa only[Cfg.fine,Bool.and_eq_true] using h
theorem Q0{c:Cfg}(h1:latB c.levels c.flows=true)(h2:c.partsB=true)(h3:c.windowsB=true)(h4:c.portsB=true)(h5:c.diskB=true)(h6:c.rulesB=true)(h7:c.textsB=true):c.fine=true:=by
 simp only[Cfg.fine,Bool.and_eq_true];exact⟨h1,h2,h3,h4,h5,h6,h7⟩
theorem Eb{c:Cfg}{l:List Vol}(hl:l.Sublist c.volumes)(h:c.checkB=true):({ c with volumes:=l }:Cfg).checkB=true:=by
 simp only[Cfg.checkB,Bool.and_eq_true]at h;obtain⟨hf,hr,hb⟩:=h;obtain⟨h1,h2,h3,h4,h5,h6,h7⟩:=XY hf
 have hd:({ c with volumes:=l }:Cfg).diskB=true:=by
  simp only[Cfg.diskB,Bool.and_eq_true,decide_eq_true_eq]at h5 ⊢;obtain⟨⟨a1,a2⟩,⟨a3,a4⟩,⟨a5,a6⟩,a7,a8⟩:=h5;exact⟨⟨a1,Nat.le_trans hl.length_le a2⟩,⟨Wc (hl.append_right [c.audit]) a3,Wc hl a4⟩,⟨a5,a6⟩,Ga hl a7,Ga (hl.append_right _) a8⟩
 simp only[Cfg.checkB,Bool.and_eq_true];exact⟨Q0 h1 h2 h3 h4 hd h6 h7,hr,hb⟩
theorem G6{c:Cfg}{l:List Por}(hl:l.Sublist c.ports)(h:c.checkB=true):({ c with ports:=l }:Cfg).checkB=true:=by
 simp only[Cfg.checkB,Bool.and_eq_true]at h;obtain⟨hf,hr,hb⟩:=h;obtain⟨h1,h2,h3,h4,h5,h6,h7⟩:=XY hf
 have hd:({ c with ports:=l }:Cfg).portsB=true:=by
  simp only[Cfg.portsB,Bool.and_eq_true,decide_eq_true_eq]at h4 ⊢;exact⟨Nat.le_trans hl.length_le h4.1,Wc hl h4.2⟩
 simp only[Cfg.checkB,Bool.and_eq_true];exact⟨Q0 h1 h2 h3 hd h5 h6 h7,hr,hb⟩
theorem Zey{α:Type}(l:List α){f g:α->Bool}(h:∀ x,f x=true->g x=true):(l.filter f).length<=(l.filter g).length:=by
 induction l with
 |nil=>simp
 |cons x l ih=>
  simp only[List.filter_cons];cases hf:f x
  ·cases hg:g x<;>simp<;>omega
  ·rw[h x hf];simp;exact ih
theorem Bk{l l':List Ru}(h:l'.Sublist l):XZ l'<=XZ l:=by
 refine Zey _ λk hk=>?_
 rw[List.any_eq_true]at hk ⊢;obtain⟨x,hx,hk⟩:=hk;exact⟨x,h.subset hx,hk⟩
theorem B4{a a' b b':Int}(h0:0<=a)(ha:a<=a')(hb:b'<=b)(e0:0<b'):upI a b<=upI a' b':=by
 unfold upI;rw[Int.le_ediv_iff_mul_le e0];have h1:(a+b - 1)/b*b<=a+b - 1:=Int.ediv_mul_le _ (by omega);have h2:0<=(a+b - 1)/b:=Int.ediv_nonneg (by omega) (by omega)
 obtain⟨q,hq⟩:∃ q,(a+b - 1)/b=q:=⟨_,rfl⟩
 rw[hq]at h1 h2 ⊢;rcases(by omega:q=0\/1<=q) with rfl|h3
 ·omega
 ·obtain⟨r,rfl⟩:∃ r,q=r+1:=⟨q - 1,by omega⟩
  have e1:(r+1)*b=r*b+b:=by rw[Int.add_mul,Int.one_mul]
  have e2:(r+1)*b'=r*b'+b':=by rw[Int.add_mul,Int.one_mul]
  have h4:r*b'<=r*b:=Int.mul_le_mul_of_nonneg_left hb (by omega);omega
theorem UJ{a b:Int}(ha:0<=a)(hb:0<b):0<=upI a b:=by
 unfold upI;exact Int.ediv_nonneg (by omega) (by omega)
theorem VV{c:Cfg}(h:c.windowsB=true)(hr:c.rules≠[]):0<c.tk 4 0:=by
 simp only[Cfg.windowsB,Bool.and_eq_true,Bool.or_eq_true]at h;obtain⟨-, -, h|h⟩:=h
 ·exact absurd (List.isEmpty_iff.1 h) hr
 ·exact of_decide_eq_true h
theorem WU{c:Cfg}(h:c.windowsB=true):0<=c.mostR:=by
 unfold Cfg.mostR;cases hr:c.rules.isEmpty
 ·have c0:c.rules≠[]:=λe=>by rw[e]at hr;cases hr
  exact UJ (by omega) (VV h c0)
 ·exact Int.le_refl _
theorem Zbq{c:Cfg}{l:List Ru}(hl:l.Sublist c.rules)(h:c.windowsB=true):({ c with rules:=l }:Cfg).need<=c.need:=by
 have hr:({ c with rules:=l }:Cfg).mostR<=c.mostR:=by
  show(if l.isEmpty then(0:Int) else upI (4*(XZ l:Int)) (c.tk 4 0))<=c.mostR;cases he:l.isEmpty
  ·have c0:c.rules≠[]:=by
    rintro e;rw[e]at hl;rw[List.sublist_nil.1 hl]at he;cases he
   unfold Cfg.mostR;rw[if_neg (λe=>c0 (List.isEmpty_iff.1 e)),if_neg (by simp)];have:=Bk hl;refine B4 ?_ ?_ (Int.le_refl _) (VV h c0)<;>omega
  ·exact WU h
 unfold Cfg.need;have:({ c with rules:=l }:Cfg).mostP=c.mostP:=rfl;rw[this];omega
theorem Zbr{c:Cfg}{l:List Ru}(hl:l.Sublist c.rules)(h:c.fine=true):({ c with rules:=l }:Cfg).fine=true:=by
 obtain⟨h1,h2,h3,h4,h5,h6,h7⟩:=XY h;refine Q0 h1 h2 ?_ h4 h5 ?_ h7
 ·simp only[Cfg.windowsB,Bool.and_eq_true,Bool.or_eq_true]at h3 ⊢;refine⟨h3.1,h3.2.1,?_⟩;rcases h3.2.2 with h|h
  ·rw[List.isEmpty_iff.1 h]at hl;exact .inl (by rw[List.sublist_nil.1 hl];rfl)
  ·exact .inr h
 ·simp only[Cfg.rulesB,Bool.and_eq_true,decide_eq_true_eq]at h6 ⊢;exact⟨Nat.le_trans hl.length_le h6.1,Wc hl h6.2⟩
theorem G2{c:Cfg}{l:List Ru}(hl:l.Sublist c.rules)(h:c.checkB=true):({ c with rules:=l }:Cfg).checkB=true:=by
 simp only[Cfg.checkB,Bool.and_eq_true,ZI]at h ⊢;obtain⟨hf,hr,hb⟩:=h;have:=Zbq hl (XY hf).2.2.1;exact⟨Zbr hl hf,hr,⟨Int.le_trans this hb.1,hb.2⟩⟩
end Go.Proofs.YtbchkjfnakabkaaGreatDoor.PC
namespace Go.Proofs.YtbchkjfnakabkaaGreatDoor.PC
open PX
def XP:List Vol->Bool
 |[]=>true
 |[_]=>true
 |x::y::l=>decide (x.first+x.count<=y.first)&&XP (y::l)
theorem ZeU:∀ {l:List Vol} {x:Vol},(x::l).Pairwise (λa b=>a.first<=b.first)->(∀v∈x::l,1<=v.count)->XP (x::l)=true->∀ z∈l,x.first+x.count<=z.first
 |[],x,_,_,_=>λz hz=>by cases hz
 |y::l,x,hs,hc,h=>by
  simp only[XP,Bool.and_eq_true,decide_eq_true_eq]at h;intro z hz;rcases List.mem_cons.1 hz with rfl|hz
  ·exact h.1
  ·have:=(List.pairwise_cons.1 (List.pairwise_cons.1 hs).2).1 z hz;omega
theorem Qp:∀ {l:List Vol},l.Pairwise (λa b=>a.first<=b.first)->(∀v∈l,1<=v.count)->XP l=Xa X8 l
 |[],_,_=>rfl
 |[x],_,_=>rfl
 |x::y::l,hs,hc=>by
  have ih:=Qp (List.pairwise_cons.1 hs).2 (λv hv=>hc v (List.mem_cons_of_mem x hv));rw[XP,Xa,ih,Bool.eq_iff_iff,Bool.and_eq_true,Bool.and_eq_true,decide_eq_true_eq];constructor
  ·rintro⟨h1,h2⟩;refine⟨List.all_eq_true.2 λz hz=>?_,h2⟩;have:=ZeU hs hc (by rw[XP,ih,h2,decide_eq_true h1];rfl) z hz;unfold X8;rw[decide_eq_true this];rfl
  ·rintro⟨h1,h2⟩;refine⟨?_,h2⟩;have h3:=List.all_eq_true.1 h1 y List.mem_cons_self;have h4:=(List.pairwise_cons.1 hs).1 y List.mem_cons_self;have h5:=hc y (by simp);unfold X8 at h3;simp only[Bool.or_eq_true,decide_eq_true_eq]at h3;omega
def fst(l:List Vol)(i:Nat):Int:=((l[i]?).map Vol.first).getD 0
def Zis(l:List Vol)(i:Nat):Prop:=∀ a b,a<b->b<i->fst l a<=fst l b
theorem GM{l:List Vol}(h:Zis l l.length):l.Pairwise (λa b=>a.first<=b.first):=by
 rw[List.pairwise_iff_getElem];intro i j hi hj hij;have:=h i j hij hj;unfold fst at this;rw[List.getElem?_eq_getElem hi,List.getElem?_eq_getElem hj]at this;exact this
theorem ZaR{l m:List Vol}(hp:m.Perm l)(hs:Zis m m.length)(hc:∀ v∈l,1<=v.count):XP m=Xa X8 l:=by
 rw[Qp (GM hs) (λv hv=>hc v (hp.mem_iff.1 hv)),ZbQ BT hp]
theorem Qo:∀ (l:List Vol) (k:Nat),k+1<l.length->XP (l.take (k+2))=(XP (l.take (k+1))&&decide ((l[k]?.map λv=>v.first+v.count).getD 0<=fst l (k+1)))
 |[],k,h=>by simp at h
 |[x],k,h=>by simp at h
 |x::y::l,0,_=>by simp[XP,fst]
 |x::y::l,k+1,h=>by
  have ih:=Qo (y::l) k (by simpa using h);have e1:(x::y::l).take (k+1+2)=x::y::l.take (k+1):=rfl;have e2:(x::y::l).take (k+1+1)=x::y::l.take k:=rfl;have e3:(y::l).take (k+2)=y::l.take (k+1):=rfl;have e4:(y::l).take (k+1)=y::l.take k:=rfl;rw[e3,e4]at ih;rw[e1,e2,XP,XP,ih,Bool.and_assoc];rfl
end Go.Proofs.YtbchkjfnakabkaaGreatDoor.PC
namespace Go.Proofs.YtbchkjfnakabkaaGreatDoor.PC
open PX
theorem Ey{l:List Int}{m:Int}(h0:0<=m)(h:∀ x∈l,x<=m):WW l<=m:=by
 induction l with
 |nil=>exact h0
 |cons x l ih=>
  simp only[WW];exact Int.max_le.2 ⟨h x (List.mem_cons_self ..),ih λy hy=>h y (List.mem_cons_of_mem _ hy)⟩
theorem Uq{l:List Int}{x:Int}(h:x∈l):x<=WW l:=by
 induction l with
 |nil=>cases h
 |cons y l ih=>
  simp only[WW];rcases List.mem_cons.1 h with rfl|h
  ·exact Int.le_max_left ..
  ·exact Int.le_trans (ih h) (Int.le_max_right ..)
theorem YI:∀ (l:List Int),0<=WW l
 |[]=>Int.le_refl _
 |x::l=>Int.le_trans (YI l) (Int.le_max_right ..)
def J7(W:List Win)(l:List Prt):Int:=WW (l.map λp=>upI (cntL l p.level) (sumT W 2 p.level))
theorem ZbU(c:Cfg):J7 c.windows c.parts=c.mostP:=rfl
theorem Vh(l:List Prt)(p:Prt)(n:Int):cntL (l++[p]) n=cntL l n+(if p.level=n then 1 else 0):=by
 unfold cntL;rw[List.filter_append,List.length_append];by_cases h:p.level=n
 ·rw[if_pos h];simp[h]
 ·rw[if_neg h];simp[h]
theorem ZeN(l:List Prt)(p:Prt)(n:Int):cntL l n<=cntL (l++[p]) n:=by rw[Vh];omega
theorem GF(l:List Prt)(n:Int):cntL l n<=l.length:=by unfold cntL;exact List.length_filter_le ..
theorem Bp(W:List Win)(l:List Prt)(p:Prt)(h:∀ q∈l++[p],0<sumT W 2 q.level) :
 J7 W (l++[p])=max (J7 W l) (upI (cntL (l++[p]) p.level) (sumT W 2 p.level)):=by
 have hp:=h p (by simp);apply Int.le_antisymm
 ·refine Ey ?_ ?_
  ·exact Int.le_trans (YI _) (Int.le_max_left ..)
  ·intro x hx;obtain⟨q,hq,rfl⟩:=List.mem_map.1 hx;rcases List.mem_append.1 hq with hq'|hq'
   ·by_cases e:p.level=q.level
    ·rw[<-e];exact Int.le_max_right ..
    ·refine Int.le_trans ?_ (Int.le_max_left ..);rw[Vh,if_neg e,Nat.add_zero];exact Uq (List.mem_map.2 ⟨q,hq',rfl⟩)
   ·rw[List.mem_singleton.1 hq'];exact Int.le_max_right ..
 ·refine Int.max_le.2 ⟨Ey (YI _) ?_,Uq (List.mem_map.2 ⟨p,by simp,rfl⟩)⟩;intro x hx;obtain⟨q,hq,rfl⟩:=List.mem_map.1 hx;refine Int.le_trans ?_ (Uq (List.mem_map.2 ⟨q,List.mem_append_left _ hq,rfl⟩));refine B4 (by omega) ?_ (Int.le_refl _) (h q (List.mem_append_left _ hq));have:=ZeN l p q.level;omega
theorem pairB_snoc{α:Type}(r:α->α->Bool):∀ (l:List α) (x:α),Xa r (l++[x])=(Xa r l&&l.all λy=>r y x)
 |[],x=>by simp[Xa]
 |y::l,x=>by
  simp only[List.cons_append,Xa,pairB_snoc r l x,List.all_append,List.all_cons,List.all_nil,Bool.and_true];cases l.all (r y)<;>cases r y x<;>cases Xa r l<;>simp
theorem QL{α:Type}{r:α->α->Bool}{l:List α}(j:Nat)(h:Xa r (l.take j)=false):Xa r l=false:=by
 rw[Bool.eq_false_iff]at h ⊢;exact λk=>h (Ga (List.take_sublist j l) k)
theorem Zr{α:Type}{l:List α}{j:Nat}(h:j<l.length):l.take (j+1)=l.take j++[l[j]]:=by
 rw[List.take_succ_eq_append_getElem h]
theorem UV(W:List Win):∀ (l m:List Prt) (i:Nat),Z9 W i (l++m)=(Z9 W i l&&Z9 W (i+l.length) m)
 |[],m,i=>by simp[Z9]
 |p::l,m,i=>by
  simp only[List.cons_append,Z9,UV W l m (i+1),List.length_cons];rw[show i+1+l.length=i+(l.length+1) by omega];simp only[Bool.and_assoc]
def Zer(W:List Win)(i:Nat)(p:Prt):Bool:=hasT W 1 i&&(hasT W 2 p.level&&hasT W 3 p.level)
theorem Bx(W:List Win)(l:List Prt)(p:Prt):Z9 W 0 (l++[p])=(Z9 W 0 l&&Zer W l.length p):=by
 rw[UV];simp[Z9,Zer]
theorem Jh{W:List Win}{l:List Prt}{j:Nat}(h:Z9 W 0 (l.take j)=false):Z9 W 0 l=false:=by
 have e:l=l.take j++l.drop j:=(List.take_append_drop j l).symm;rw[e,UV,h,Bool.false_and]
theorem Eh{W:List Win}:∀ {l:List Prt} {i:Nat},Z9 W i l=true->∀ q∈l,0<sumT W 2 q.level
 |[],_,_,q,hq=>by cases hq
 |p::l,i,h,q,hq=>by
  simp only[Z9,Bool.and_eq_true]at h;rcases List.mem_cons.1 hq with rfl|hq
  ·exact of_decide_eq_true h.1.2.1
  ·exact Eh h.2 q hq
theorem ZdN{α β:Type}{f:α->β}{l:List α}(hf:∀ a∈l,∀b∈l,f a=f b->a=b)(h:l.Nodup):(l.map f).Nodup:=
 List.pairwise_map.2 (h.imp_of_mem λha hb c0 e=>c0 (hf _ ha _ hb e))
def Vg(k:Nat):Int × Int:=(((k/8:Nat):Int),((k%8:Nat):Int))
theorem E9{β:Type}(l:List Ru)(K:List β)(f:Int × Int->β)(hn:K.Nodup)(hl:∀ r∈l,lev 8 r.fr/\lev 8 r.tu)
 (hf:∀ a b:Int × Int,lev 8 a.1->lev 8 a.2->lev 8 b.1->lev 8 b.2->f a=f b->a=b) (hm:∀ y,y∈K↔∃ r∈l,f (r.fr,r.tu)=y):K.length=XZ l:=by
 unfold XZ;rw[<-List.length_map (f:=λk=>f (Vg k))];refine List.Perm.length_eq ((List.perm_ext_iff_of_nodup hn ?_).2 ?_)
 ·refine ZdN ?_ (List.Pairwise.filter _ List.nodup_range);intro a ha b hb e;have ha':a<64:=by simpa using (List.mem_filter.1 ha).1
  have e0:b<64:=by simpa using (List.mem_filter.1 hb).1
  have:=hf (Vg a) (Vg b) (by unfold Vg lev;constructor<;>simp<;>omega) (by unfold Vg lev;constructor<;>simp<;>omega) (by unfold Vg lev;constructor<;>simp<;>omega) (by unfold Vg lev;constructor<;>simp<;>omega) e;unfold Vg at this;have e1:=(Prod.mk.inj this).1;have e2:=(Prod.mk.inj this).2;omega
 ·intro y;rw[hm,List.mem_map];constructor
  ·rintro⟨r,hr,rfl⟩;obtain⟨⟨a0,a1⟩,b0,b1⟩:=hl r hr;refine⟨r.fr.toNat*8+r.tu.toNat,List.mem_filter.2 ⟨by simp;omega,?_⟩,?_⟩
   ·rw[List.any_eq_true];refine⟨r,hr,?_⟩;rw[Bool.and_eq_true,decide_eq_true_eq,decide_eq_true_eq];constructor<;>omega
   ·have:Vg (r.fr.toNat*8+r.tu.toNat)=(r.fr,r.tu):=by
     unfold Vg;refine Prod.ext ?_ ?_<;>simp<;>omega
    rw[this]
  ·rintro⟨k,hk,rfl⟩;have i0:=(List.mem_filter.1 hk).2;rw[List.any_eq_true]at i0;obtain⟨r,hr,h⟩:=i0;rw[Bool.and_eq_true,decide_eq_true_eq,decide_eq_true_eq]at h;refine⟨r,hr,?_⟩;unfold Vg;rw[h.1,h.2]
end Go.Proofs.YtbchkjfnakabkaaGreatDoor.PC
namespace Go.Proofs.YtbchkjfnakabkaaGreatDoor.PC
open PX
theorem E7{c:Cfg}(h:c.windowsB=true):∀ q∈c.parts,0<sumT c.windows 2 q.level:=by
 simp only[Cfg.windowsB,Bool.and_eq_true]at h;exact Eh h.2.1
theorem Zcf{c:Cfg}(h:c.windowsB=true):∀ w∈c.windows,1<=w.ticks/\w.ticks<=255:=by
 simp only[Cfg.windowsB,Bool.and_eq_true]at h;intro w hw;have:=List.all_eq_true.1 h.1.2 w hw;unfold JQ at this;rw[Bool.and_eq_true,ZI]at this;exact this.2
end Go.Proofs.YtbchkjfnakabkaaGreatDoor.PC
namespace Go.Proofs.YtbchkjfnakabkaaGreatDoor.PC
open PX
def ZJ:Cfg:=⟨2,[(0,1)],[⟨0,1⟩,⟨1,1⟩],[⟨1,0,4⟩,⟨1,1,4⟩,⟨2,0,1⟩,⟨2,1,1⟩,⟨3,0,1⟩,⟨3,1,1⟩],[],[⟨0,0,12,8⟩,⟨1,12,12,8⟩],⟨0,24,12,8⟩,36,38,[],[⟨#[97]⟩,⟨#[98]⟩],⟨#[112,119]⟩,3,3⟩
theorem JD:ZJ.laid=true:=by decide +kernel
theorem Zh2:ZJ.bytes.take 12=[67,83,84,49,2,1,0,1,2,0,1,1]:=by decide +kernel
theorem ZhZ:(Yp (ZJ.bytes++[120])).isNone=true:=by decide +kernel
theorem Zi2:Lat 2 [(0,1)]:=by
 have hl:∀ p∈[((0:Int),(1:Int))],lev (2:Nat) p.1/\lev (2:Nat) p.2:=by
  intro p hp;simp only[List.mem_singleton]at hp;subst hp;unfold lev;omega
 have hr:=VZ (n:=2) (by omega) [((0:Int),(1:Int))] (Vf 2) (Yi 2 (by omega)) hl;have hL:=Dh (n:=2) (U:=Y0 (Vf 2) [(0,1)]) (by omega) (by omega) hl hr (by decide +kernel) (EO (by omega) hl) (GY (by omega) hl);refine(ZdL hL (by simp)).1 ⟨?_,?_⟩
 ·intro a ha;have:a=0\/a=1:=by omega
  rcases this with rfl|rfl<;>decide +kernel
 ·intro a ha b hb;have h1:a=0\/a=1:=by omega
  have h2:b=0\/b=1:=by omega
  rcases h1 with rfl|rfl<;>rcases h2 with rfl|rfl
  ·exact⟨⟨0,by omega,by decide +kernel⟩,⟨0,by omega,by decide +kernel⟩⟩
  ·exact⟨⟨1,by omega,by decide +kernel⟩,⟨0,by omega,by decide +kernel⟩⟩
  ·exact⟨⟨1,by omega,by decide +kernel⟩,⟨0,by omega,by decide +kernel⟩⟩
  ·exact⟨⟨1,by omega,by decide +kernel⟩,⟨1,by omega,by decide +kernel⟩⟩
theorem ZeC:ZJ.fine=true:=by
 have h1:latB ZJ.levels ZJ.flows=true:=YE.2 Zi2;have h2:ZJ.partsB=true:=by decide +kernel
 have h3:ZJ.windowsB=true:=by decide +kernel
 have h4:ZJ.portsB=true:=by simp[Cfg.portsB,ZJ]
 have h5:ZJ.diskB=true:=by decide +kernel
 have h6:ZJ.rulesB=true:=by simp[Cfg.rulesB,ZJ]
 have h7:ZJ.textsB=true:=by decide +kernel
 unfold Cfg.fine;rw[h1,h2,h3,h4,h5,h6,h7];rfl
theorem ZeB:ZJ.need=3:=by decide +kernel
theorem Zgr:ZJ.checkB=true:=by
 unfold Cfg.checkB;rw[ZeC,ZeB];decide
theorem Zgq:ZJ.needB=3:=by
 unfold Cfg.needB;rw[ZeC,ZeB];rfl
theorem Zh0:({ ZJ with bound:=2 }:Cfg).checkB=false:=by
 have:({ ZJ with bound:=2 }:Cfg).need=3:=by decide +kernel
 unfold Cfg.checkB;rw[this];have:inB ({ ZJ with bound:=2 }:Cfg).bound 3 65535=false:=by decide
 rw[this];simp
theorem Zh3:({ ZJ with boot:=35 }:Cfg).checkB=false:=by
 have:({ ZJ with boot:=35 }:Cfg).diskB=false:=by decide +kernel
 unfold Cfg.checkB Cfg.fine;rw[this];simp
def Vu:Cfg:=⟨0,[],[],[],[],[],⟨0,0,0,0⟩,0,0,[],[],⟨#[]⟩,0,0⟩
theorem Qj:Vu.fine=false:=by
 have:latB Vu.levels Vu.flows=false:=by
  rw[Bool.eq_false_iff];intro h;have:=(YE.1 h).lo;simp[Vu]at this
 unfold Cfg.fine;rw[this];rfl
theorem BD:Vu.checkB=false:=by unfold Cfg.checkB;rw[Qj];rfl
theorem Zch:Vu.needB=0:=by unfold Cfg.needB;rw[Qj];rfl
end Go.Proofs.YtbchkjfnakabkaaGreatDoor.PC
namespace Go.Proofs.YtbchkjfnakabkaaGreatDoor.PC
open PX
end Go.Proofs.YtbchkjfnakabkaaGreatDoor.PC
