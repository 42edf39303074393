import Derived.Test.YtbchkjfnakabkaaGreatDoorQ1
import Derived.Test.YtbchkjfnakabkaaGreatDoorR1
set_option linter.unusedSimpArgs false
set_option linter.unusedVariables false
namespace Go.Proofs.YtbchkjfnakabkaaGreatDoor.PX
def Yo(s:List UInt8):Bool:=match Yn s with|.inl _=>true|.inr _=>false
open Classical in
open Classical in
theorem GQ{s:List UInt8}:Yo s=true↔∃ x,Yn s=.inl x:=by
 unfold Yo;cases Yn s<;>simp
theorem UY{s:List UInt8}:Yo s=false↔∃ n,Yn s=.inr n:=by
 unfold Yo;cases Yn s<;>simp
end Go.Proofs.YtbchkjfnakabkaaGreatDoor.PX
namespace Go.Proofs.YtbchkjfnakabkaaGreatDoor.PC
open PX
structure Prt where
 level:Int
 pages:Int
structure Win where
 kind:Int
 index:Int
 ticks:Int
structure Por where
 kind:Int
 fr:Int
 tu:Int
 size:Int
 depth:Int
structure Vol where
 level:Int
 first:Int
 count:Int
 journal:Int
structure Ru where
 fr:Int
 tu:Int
 act:Int
 pat:ByteArray
 wth:ByteArray
structure Cfg where
 levels:Int
 flows:List (Int × Int)
 parts:List Prt
 windows:List Win
 ports:List Por
 volumes:List Vol
 audit:Vol
 boot:Int
 sectors:Int
 rules:List Ru
 keys:List ByteArray
 login:ByteArray
 recovery:Int
 bound:Int
def putI(n:Int):Nat→List UInt8
 |0=>[]
 |k+1=>UInt8.ofNat (n/256 ^ k%256).toNat::putI n k
theorem XH(n:Int):∀ k,(putI n k).length=k
 |0=>rfl
 |k+1=>by simp[putI,XH n k]
def Ym(w:Nat)(n:Int):Bool:=decide (0≤n∧n<256 ^ w)
def ZZ(w:Nat):List Int→List UInt8
 |[]=>[]
 |n::l=>putI n w++ZZ w l
def Zq(w:Nat):List Int→Bool
 |[]=>true
 |n::l=>Ym w n&&Zq w l
def Yb(s:ByteArray):List UInt8:=if s.size≤1024 then putI s.size 2++s.data.toList else[]
def Xy(s:ByteArray):Bool:=decide (s.size≤1024)
structure Lays (α:Type) where
 b:α→List UInt8
 ok:α→Bool
def XF:Lays (Int × Int):=⟨fun x=>ZZ 1 [x.1,x.2],fun x=>Zq 1 [x.1,x.2]⟩
def XD:Lays Prt:=⟨fun x=>ZZ 1 [x.level,x.pages],fun x=>Zq 1 [x.level,x.pages]⟩
def winP:Lays Win:=⟨fun x=>ZZ 1 [x.kind,x.index,x.ticks],fun x=>Zq 1 [x.kind,x.index,x.ticks]⟩
def porP:Lays Por:=⟨fun x=>ZZ 1 [x.kind,x.fr,x.tu,x.size,x.depth],fun x=>Zq 1 [x.kind,x.fr,x.tu,x.size,x.depth]⟩
def volP:Lays Vol:=⟨fun x=>ZZ 1 [x.level]++ZZ 2 [x.first,x.count,x.journal],fun x=>Zq 1 [x.level]&&Zq 2 [x.first,x.count,x.journal]⟩
def ruP:Lays Ru:=⟨fun x=>ZZ 1 [x.fr,x.tu,x.act]++(Yb x.pat++Yb x.wth),fun x=>Zq 1 [x.fr,x.tu,x.act]&&(Xy x.pat&&Xy x.wth)⟩
def keyP:Lays ByteArray:=⟨Yb,Xy⟩
def ZD{α:Type}(p:Lays α):List α→List UInt8
 |[]=>[]
 |x::l=>p.b x++ZD p l
def ZA{α:Type}(p:Lays α):List α→Bool
 |[]=>true
 |x::l=>p.ok x&&ZA p l
def ZX{α:Type}(p:Lays α)(l:List α):List UInt8:=ZZ 1 [(l.length:Int)]++ZD p l
def ZM{α:Type}(p:Lays α)(l:List α):Bool:=Zq 1 [(l.length:Int)]&&ZA p l
def Ws:List UInt8:=[67,83,84,49]
def Cfg.bytes(c:Cfg):List UInt8:=
 Ws++(ZZ 1 [c.levels]++(ZX XF c.flows++(ZX XD c.parts++(ZX winP c.windows++(ZX porP c.ports++(ZX volP c.volumes ++
  (ZZ 2 [c.audit.first,c.audit.count,c.audit.journal,c.boot,c.sectors]++(ZX ruP c.rules++(ZX keyP c.keys++(Yb c.login++ZZ 2 [c.recovery,c.bound]))))))))))
def Cfg.laid(c:Cfg):Bool:=
 Zq 1 [c.levels]&&ZM XF c.flows&&ZM XD c.parts&&ZM winP c.windows&&ZM porP c.ports&&ZM volP c.volumes &&
  Zq 2 [c.audit.first,c.audit.count,c.audit.journal,c.boot,c.sectors]&&ZM ruP c.rules&&ZM keyP c.keys&&Xy c.login&&Zq 2 [c.recovery,c.bound]&&decide (c.audit.level=0)
def numU:List UInt8→Nat→Nat
 |[],n=>n
 |b::l,n=>numU l (n*256+b.toNat)
abbrev RSt:=Option (List UInt8)
def getN(w:Nat):RSt→Int × RSt
 |none=>(0,none)
 |some r=>if r.length<w then(0,none) else((numU (r.take w) 0:Nat),some (r.drop w))
def bytesOf(l:List UInt8):ByteArray:=⟨l.toArray⟩
def getT:RSt→ByteArray × RSt
 |none=>(⟨#[]⟩,none)
 |some r=>if r.length<2 then(⟨#[]⟩,none) else
  if 1024<numU (r.take 2) 0∨r.length - 2<numU (r.take 2) 0 then(⟨#[]⟩,none) else(bytesOf ((r.drop 2).take (numU (r.take 2) 0)),some ((r.drop 2).drop (numU (r.take 2) 0)))
def many{α:Type}(one:RSt→α × RSt):Nat→RSt→List α × RSt
 |0,s=>([],s)
 |n+1,s=>((one s).1::(many one n (one s).2).1,(many one n (one s).2).2)
def getL{α:Type}(one:RSt→α × RSt)(s:RSt):List α × RSt:=many one (getN 1 s).1.toNat (getN 1 s).2
def YD(s:RSt):(Int × Int) × RSt:=
 let a:=getN 1 s
 let b:=getN 1 a.2
 ((a.1,b.1),b.2)
def YC(s:RSt):Prt × RSt:=
 let a:=getN 1 s
 let b:=getN 1 a.2
 (⟨a.1,b.1⟩,b.2)
def winG(s:RSt):Win × RSt:=
 let a:=getN 1 s
 let b:=getN 1 a.2
 let c:=getN 1 b.2
 (⟨a.1,b.1,c.1⟩,c.2)
def porG(s:RSt):Por × RSt:=
 let a:=getN 1 s
 let b:=getN 1 a.2
 let c:=getN 1 b.2
 let d:=getN 1 c.2
 let e:=getN 1 d.2
 (⟨a.1,b.1,c.1,d.1,e.1⟩,e.2)
def volG(s:RSt):Vol × RSt:=
 let a:=getN 1 s
 let b:=getN 2 a.2
 let c:=getN 2 b.2
 let d:=getN 2 c.2
 (⟨a.1,b.1,c.1,d.1⟩,d.2)
def ruG(s:RSt):Ru × RSt:=
 let a:=getN 1 s
 let b:=getN 1 a.2
 let c:=getN 1 b.2
 let d:=getT c.2
 let e:=getT d.2
 (⟨a.1,b.1,c.1,d.1,e.1⟩,e.2)
def cfgG(s:RSt):Cfg × RSt:=
 let a:=getN 1 s
 let f:=getL YD a.2
 let p:=getL YC f.2
 let w:=getL winG p.2
 let o:=getL porG w.2
 let v:=getL volG o.2
 let x:=getN 2 v.2
 let y:=getN 2 x.2
 let z:=getN 2 y.2
 let b:=getN 2 z.2
 let t:=getN 2 b.2
 let r:=getL ruG t.2
 let k:=getL getT r.2
 let l:=getT k.2
 let m:=getN 2 l.2
 let n:=getN 2 m.2
 (⟨a.1,f.1,p.1,w.1,o.1,v.1,⟨0,x.1,y.1,z.1⟩,b.1,t.1,r.1,k.1,l.1,m.1,n.1⟩,n.2)
def Ye(s:List UInt8):Option Cfg:=
 if s.take 4=Ws then(if (cfgG (some (s.drop 4))).2=some [] then some (cfgG (some (s.drop 4))).1 else none) else none
inductive Rch (l:List (Int × Int)):Int→Int→Prop
 |refl (a:Int):Rch l a a
 |step {a b c:Int}:Rch l a b→(b,c)∈l→Rch l a c
def lev(n a:Int):Prop:=0≤a∧a<n
structure Lat (n:Int) (l:List (Int × Int)):Prop where
 lo:1≤n
 hi:n≤8
 few:l.length≤64
 pairs:∀ p∈l,lev n p.1∧lev n p.2
 loop:∀ a b,lev n a→lev n b→Rch l a b→Rch l b a→a=b
 join:∀ a b,lev n a→lev n b→∃ c,lev n c∧Rch l a c∧Rch l b c∧∀ d,lev n d→Rch l a d→Rch l b d→Rch l c d
 meet:∀ a b,lev n a→lev n b→∃ c,lev n c∧Rch l c a∧Rch l c b∧∀ d,lev n d→Rch l d a→Rch l d b→Rch l d c
open Classical in
noncomputable def latB(n:Int)(l:List (Int × Int)):Bool:=decide (Lat n l)
theorem Y1{n:Int}{l:List (Int × Int)}:latB n l=true↔Lat n l:=by
 unfold latB;exact @decide_eq_true_iff _ (Classical.propDecidable _)
open Classical in
noncomputable def rchB(l:List (Int × Int))(a b:Int):Bool:=decide (Rch l a b)
theorem Bz{l:List (Int × Int)}{a b:Int}:rchB l a b=true↔Rch l a b:=by
 unfold rchB;exact @decide_eq_true_iff _ (Classical.propDecidable _)
def inB(n lo hi:Int):Bool:=decide (lo≤n)&&decide (n≤hi)
theorem ZR{n lo hi:Int}:inB n lo hi=true↔lo≤n∧n≤hi:=by simp[inB]
def sumT:List Win→Int→Int→Int
 |[],_,_=>0
 |w::l,k,i=>(if w.kind=k∧w.index=i then w.ticks else 0)+sumT l k i
def Cfg.tk(c:Cfg)(k i:Int):Int:=sumT c.windows k i
def Cfg.lvl(c:Cfg)(n:Int):Bool:=inB n 0 (c.levels - 1)
def Cfg.prt(c:Cfg)(n:Int):Bool:=inB n 0 ((c.parts.length:Int) - 1)
def YX(c:Cfg)(p:Prt):Bool:=inB p.pages 1 16&&c.lvl p.level
def Cfg.partsB(c:Cfg):Bool:=inB c.parts.length 1 8&&c.parts.all (YX c)
def Zat(c:Cfg)(k i:Int):Bool:=if k=0∨k=4 then decide (i=0) else if k=1 then c.prt i else if k=2∨k=3 then c.lvl i else false
def YB(c:Cfg)(w:Win):Bool:=Zat c w.kind w.index&&inB w.ticks 1 255
def hasT(W:List Win)(k i:Int):Bool:=decide (0<sumT W k i)
def Z4(W:List Win):Nat→List Prt→Bool
 |_,[]=>true
 |i,p::l=>(hasT W 1 i&&(hasT W 2 p.level&&hasT W 3 p.level))&&Z4 W (i+1) l
def Cfg.windowsB(c:Cfg):Bool:=(inB c.windows.length 1 64&&c.windows.all (YB c))&&(Z4 c.windows 0 c.parts&&(c.rules.isEmpty || hasT c.windows 4 0))
def Cfg.levelOf(c:Cfg)(i:Int):Int:=((c.parts[i.toNat]?).map Prt.level).getD 0
noncomputable def Vl(c:Cfg)(p:Por):Bool:=
 inB p.kind 0 1&&(((c.prt p.fr&&c.prt p.tu)&&decide (p.fr≠p.tu))&&((inB p.size 1 255&&(inB p.depth 1 8&&(decide (p.kind=1) || decide (p.depth=1))))&&rchB c.flows (c.levelOf p.fr) (c.levelOf p.tu)))
noncomputable def Cfg.portsB(c:Cfg):Bool:=decide (c.ports.length≤16)&&c.ports.all (Vl c)
def XW(c:Cfg)(v:Vol):Bool:=decide (0≤v.first∧1≤v.count∧v.first≤c.sectors∧v.count≤c.sectors - v.first)&&inB v.journal 4 (v.count - 1)
def JB(c:Cfg)(v:Vol):Bool:=c.lvl v.level&&(decide (v.count - v.journal≤40)&&decide (v.count - v.journal≤v.journal - 3))
def apart(a b:Vol):Prop:=a.first+a.count≤b.first∨b.first+b.count≤a.first
def Cfg.exts(c:Cfg):List Vol:=c.volumes++[c.audit,⟨0,c.boot,2,0⟩]
def Yk(a b:Vol):Bool:=decide (a.first+a.count≤b.first) || decide (b.first+b.count≤a.first)
def Xc{α:Type}(r:α→α→Bool):List α→Bool
 |[]=>true
 |x::l=>l.all (r x)&&Xc r l
def Cfg.diskB(c:Cfg):Bool:=
 (inB c.sectors 1 4096&&decide (c.volumes.length≤8))&&(((c.volumes++[c.audit]).all (XW c)&&c.volumes.all (JB c))&&((decide (c.audit.level=0)&&inB c.boot 0 (c.sectors - 2)) &&
  (Xc (fun a b=>decide (a.level≠b.level)) c.volumes&&Xc Yk c.exts)))
noncomputable def ruOK(c:Cfg)(r:Ru):Bool:=
 ((c.lvl r.fr&&c.lvl r.tu)&&!rchB c.flows r.fr r.tu)&&(inB r.act 0 2&&(Yo r.pat.data.toList&&(if r.act=2 then Yo r.wth.data.toList else r.wth.data.toList.isEmpty)))
noncomputable def Cfg.rulesB(c:Cfg):Bool:=decide (c.rules.length≤32)&&c.rules.all (ruOK c)
def oddB(s:ByteArray):Bool:=s.data.toList.any fun b=>decide (b.toNat<33) || decide (126<b.toNat)
def Cfg.textsB(c:Cfg):Bool:=decide ((c.keys.length:Int)=c.levels)&&(c.keys.all (fun k=>inB k.size 1 64)&&(inB c.login.size 1 16&&!oddB c.login))
noncomputable def Cfg.fine(c:Cfg):Bool:=latB c.levels c.flows&&(c.partsB&&(c.windowsB&&(c.portsB&&(c.diskB&&(c.rulesB&&c.textsB)))))
def upI(a b:Int):Int:=(a+b - 1)/b
def cntL(l:List Prt)(n:Int):Nat:=(l.filter fun p=>decide (p.level=n)).length
def Wq:List Int→Int
 |[]=>0
 |n::l=>max n (Wq l)
def Cfg.mostP(c:Cfg):Int:=Wq (c.parts.map fun p=>upI (cntL c.parts p.level) (c.tk 2 p.level))
def YY(l:List Ru):Nat:=((List.range 64).filter fun k=>l.any fun r=>decide (r.fr=((k/8:Nat):Int))&&decide (r.tu=((k%8:Nat):Int))).length
def Cfg.mostR(c:Cfg):Int:=if c.rules.isEmpty then 0 else upI (4*(YY c.rules:Int)) (c.tk 4 0)
def Cfg.need(c:Cfg):Int:=2+max c.mostP c.mostR
noncomputable def Cfg.checkB(c:Cfg):Bool:=c.fine&&(inB c.recovery 1 65535&&inB c.bound c.need 65535)
noncomputable def Cfg.needB(c:Cfg):Int:=if c.fine then c.need else 0
end Go.Proofs.YtbchkjfnakabkaaGreatDoor.PC
namespace Go.Proofs.YtbchkjfnakabkaaGreatDoor.PC
open PX
theorem Zig(m:Int)(h0:0≤m)(h1:m<256):((UInt8.ofNat m.toNat).toNat:Int)=m:=by
 rw[UInt8.toNat_ofNat'];have:m.toNat%2 ^ 8=m.toNat:=Nat.mod_eq_of_lt (by omega);rw[this];omega
theorem DN(a b:List UInt8):∀ n,numU (a++b) n=numU b (numU a n):=by
 induction a with
 |nil=>intro n;rfl
 |cons x l ih=>intro n;simp only[List.cons_append,numU];exact ih _
theorem Qn(l:List UInt8):∀ n,numU l n=n*256 ^ l.length+numU l 0:=by
 induction l with
 |nil=>intro n;simp[numU]
 |cons x l ih=>
  intro n;simp only[numU,List.length_cons];rw[ih (n*256+x.toNat),ih (0*256+x.toNat),Nat.pow_succ]
  have:(n*256+x.toNat)*256 ^ l.length=n*(256 ^ l.length*256)+x.toNat*256 ^ l.length:=by
   rw[Nat.add_mul,Nat.mul_assoc,Nat.mul_comm 256]
  rw[this];simp;omega
theorem Zbt(n p:Int)(hp:0<p):n%(p*256)=(n/p%256)*p+n%p:=by
 have h1:=Int.mul_ediv_add_emod n p;have h2:=Int.mul_ediv_add_emod (n/p) 256;have h3:=Int.emod_nonneg n (show p≠0 by omega);have h4:=Int.emod_lt_of_pos n hp;have h5:=Int.emod_nonneg (n/p) (show(256:Int)≠0 by decide);have h6:=Int.emod_lt_of_pos (n/p) (show(0:Int)<256 by decide)
 obtain⟨a,ha⟩:∃ a,n/p%256=a:=⟨_,rfl⟩
 obtain⟨b,hb⟩:∃ b,n/p/256=b:=⟨_,rfl⟩
 obtain⟨c,hc⟩:∃ c,n%p=c:=⟨_,rfl⟩
 rw[ha]at h2 h5 h6 ⊢;rw[hc]at h1 h3 h4 ⊢;rw[hb]at h2
 have e:n=(a*p+c)+(p*256)*b:=by
  rw[←h1,←h2,Int.mul_add,Int.mul_comm p a,Int.mul_assoc];omega
 rw[e,Int.add_mul_emod_self_left];have h7:a*p≤255*p:=Int.mul_le_mul_of_nonneg_right (by omega) (by omega);have h8:0≤a*p:=Int.mul_nonneg h5 (by omega);exact Int.emod_eq_of_lt (by omega) (by omega)
theorem ES(n:Int):∀ k,((numU (putI n k) 0:Nat):Int)=n%256 ^ k
 |0=>by simp[putI,numU,Int.emod_one]
 |k+1=>by
  simp only[putI,numU];rw[Qn,XH,Int.natCast_add,ES n k,Int.natCast_mul];have hp:(0:Int)<256 ^ k:=Int.pow_pos (by decide);have h0:=Int.emod_nonneg (n/256 ^ k) (show(256:Int)≠0 by decide);have h1:=Int.emod_lt_of_pos (n/256 ^ k) (show(0:Int)<256 by decide)
  have hb:((0*256+(UInt8.ofNat (n/256 ^ k%256).toNat).toNat:Nat):Int)=n/256 ^ k%256:=by
   rw[Nat.zero_mul,Nat.zero_add];exact Zig _ h0 h1
  rw[hb,Int.natCast_pow,Int.pow_succ,Zbt _ _ hp];rfl
theorem Uh{w:Nat}{n:Int}:Ym w n=true↔0≤n∧n<256 ^ w:=by simp[Ym]
theorem ZN{w:Nat}{n:Int}(h:Ym w n=true)(r:List UInt8):getN w (some (putI n w++r))=(n,some r):=by
 obtain⟨h0,h1⟩:=Uh.1 h;simp only[getN];rw[if_neg (by rw[List.length_append,XH];omega),List.take_left' (XH n w),List.drop_left' (XH n w),ES,Int.emod_eq_of_lt h0 h1]
theorem Qm(l:List UInt8):numU l 0<256 ^ l.length:=by
 induction l with
 |nil=>simp[numU]
 |cons x l ih=>
  simp only[numU,List.length_cons];rw[Qn,Nat.pow_succ];have hx:=x.toNat_lt;have:(0*256+x.toNat)*256 ^ l.length≤255*256 ^ l.length:=Nat.mul_le_mul_right _ (by omega);omega
theorem ZcC:∀ (l:List UInt8) (m:Nat),putI ((m*256 ^ l.length+numU l 0:Nat):Int) l.length=l
 |[],_=>rfl
 |x::l,m=>by
  have hlt:=Qm l;have hx:=x.toNat_lt;have hpos:0<256 ^ l.length:=Nat.pow_pos (by decide)
  have e1:m*256 ^ (x::l).length+numU (x::l) 0=(m*256+x.toNat)*256 ^ l.length+numU l 0:=by
   simp only[numU,List.length_cons];rw[Qn l (0*256+x.toNat),Nat.pow_succ,Nat.zero_mul,Nat.zero_add,Nat.add_mul (m*256),Nat.mul_assoc m 256,Nat.mul_comm 256 (256 ^ l.length)];omega
  rw[e1,List.length_cons,putI,ZcC l (m*256+x.toNat)]
  congr 1
  have e2:((((m*256+x.toNat)*256 ^ l.length+numU l 0:Nat):Int)/256 ^ l.length%256).toNat=x.toNat:=by
   have e3:(256:Int) ^ l.length=((256 ^ l.length:Nat):Int):=by rw[Int.natCast_pow];rfl
   rw[e3,←Int.natCast_ediv,Nat.mul_comm,Nat.mul_add_div hpos,Nat.div_eq_of_lt hlt,Nat.add_zero];omega
  rw[e2];exact UInt8.ofNat_toNat
theorem BB(l:List UInt8):putI ((numU l 0:Nat):Int) l.length=l:=by
 have:=ZcC l 0
 rwa [Nat.zero_mul,Nat.zero_add]at this
theorem Zz{w:Nat}{s:RSt}{r':List UInt8}(h:(getN w s).2=some r'):s=some (putI (getN w s).1 w++r')∧Ym w (getN w s).1=true:=by
 cases s with
 |none=>cases h
 |some r=>
  simp only[getN]at h ⊢;by_cases hl:r.length<w
  ·rw[if_pos hl]at h;cases h
  ·rw[if_neg hl]at h ⊢;have hr:=Option.some.inj h;have ht:(r.take w).length=w:=by rw[List.length_take];omega
   have e:=BB (r.take w);rw[ht]at e;refine⟨?_,?_⟩
   ·show some r=some (putI _ w++r');rw[e,←hr,List.take_append_drop]
   ·have hlt:=Qm (r.take w);rw[ht]at hlt;refine Uh.2 ⟨by omega,?_⟩;have e3:(256:Int) ^ w=((256 ^ w:Nat):Int):=by rw[Int.natCast_pow];rfl
    rw[e3];omega
theorem El{s:ByteArray}(h:Xy s=true)(r:List UInt8):getT (some (Yb s++r))=(s,some r):=by
 have hs:s.size≤1024:=by simpa [Xy] using h
 have hl:s.data.toList.length=s.size:=by rw[Array.length_toList];rfl
 have e:Yb s++r=putI (s.size:Int) 2++(s.data.toList++r):=by simp[Yb,if_pos hs]
 have hn:numU ((putI (s.size:Int) 2++(s.data.toList++r)).take 2) 0=s.size:=by
  rw[List.take_left' (XH _ 2)];have:=ES (s.size:Int) 2;rw[Int.emod_eq_of_lt (by omega) (by have:(256:Int) ^ 2=65536:=rfl;omega)]at this;omega
 rw[e];simp only[getT]
 rw[if_neg (by rw[List.length_append,XH];omega),hn,if_neg (by rw[List.length_append,List.length_append,XH];omega),List.drop_left' (XH _ 2),
  List.take_left' hl,List.drop_left' hl]
 rfl
theorem Uf{s:RSt}{r':List UInt8}(h:(getT s).2=some r'):s=some (Yb (getT s).1++r')∧Xy (getT s).1=true:=by
 cases s with
 |none=>cases h
 |some r=>
  simp only[getT]at h ⊢;by_cases hl:r.length<2
  ·rw[if_pos hl]at h;cases h
  ·rw[if_neg hl]at h ⊢;by_cases hn:1024<numU (r.take 2) 0∨r.length - 2<numU (r.take 2) 0
   ·rw[if_pos hn]at h;cases h
   ·rw[if_neg hn]at h ⊢
    obtain⟨n,en⟩:∃ n,numU (r.take 2) 0=n:=⟨_,rfl⟩
    have e:=BB (r.take 2);have ht:(r.take 2).length=2:=by rw[List.length_take];omega
    rw[ht]at e;rw[en]at h hn e ⊢;have hr:=Option.some.inj h
    have hsz:(bytesOf ((r.drop 2).take n)).size=n:=by
     show((r.drop 2).take n).toArray.size=n;rw[List.size_toArray,List.length_take,List.length_drop];omega
    have hle:n≤1024:=by omega
    refine⟨?_,?_⟩
    ·show some r=some (Yb (bytesOf ((r.drop 2).take n))++r');rw[Yb,hsz,if_pos hle,e,←hr,List.append_assoc];show some r=some (r.take 2++((r.drop 2).take n++(r.drop 2).drop n));rw[List.take_append_drop,List.take_append_drop]
    ·show decide _=true;rw[hsz];exact decide_eq_true hle
structure Fit {α:Type} (p:Lays α) (g:RSt→α × RSt):Prop where
 put:∀ x,p.ok x=true→∀ r,g (some (p.b x++r))=(x,some r)
 back:∀ s r',(g s).2=some r'→s=some (p.b (g s).1++r')∧p.ok (g s).1=true
theorem ZdL:Fit keyP getT:=⟨fun x h r=>El h r,fun s r' h=>Uf h⟩
theorem Xg{w:Nat}{n:Int}{l:List Int}{r:List UInt8}:ZZ w (n::l)++r=putI n w++(ZZ w l++r):=by simp[ZZ]
theorem Jl{w:Nat}{r:List UInt8}:ZZ w []++r=r:=rfl
theorem ZU{w:Nat}{n:Int}{l:List Int}:Zq w (n::l)=true↔Ym w n=true∧Zq w l=true:=by simp[Zq]
theorem YT{w:Nat}:Zq w []=true:=rfl
theorem B0:Fit XF YD:=by
 refine⟨fun⟨a,b⟩ h r=>?_,fun s r' h=>?_⟩
 ·obtain⟨h1,h2,-⟩:Ym 1 a=true∧Ym 1 b=true∧True:=by have:=h;simp only[XF,ZU]at this;exact⟨this.1,this.2.1,trivial⟩
  show YD (some (ZZ 1 [a,b]++r))=_;rw[Xg,Xg,Jl];simp only[YD,ZN h1,ZN h2]
 ·simp only[YD]at h ⊢;obtain⟨e2,k2⟩:=Zz h;obtain⟨e1,k1⟩:=Zz e2;refine⟨?_,?_⟩
  ·show s=some (ZZ 1 [_,_]++r');rw[Xg,Xg,Jl];exact e1
  ·show Zq 1 [_,_]=true;exact ZU.2 ⟨k1,ZU.2 ⟨k2,YT⟩⟩
theorem BZ:Fit XD YC:=by
 refine⟨fun⟨a,b⟩ h r=>?_,fun s r' h=>?_⟩
 ·obtain⟨h1,h2,-⟩:Ym 1 a=true∧Ym 1 b=true∧True:=by have:=h;simp only[XD,ZU]at this;exact⟨this.1,this.2.1,trivial⟩
  show YC (some (ZZ 1 [a,b]++r))=_;rw[Xg,Xg,Jl];simp only[YC,ZN h1,ZN h2]
 ·simp only[YC]at h ⊢;obtain⟨e2,k2⟩:=Zz h;obtain⟨e1,k1⟩:=Zz e2;refine⟨?_,?_⟩
  ·show s=some (ZZ 1 [_,_]++r');rw[Xg,Xg,Jl];exact e1
  ·show Zq 1 [_,_]=true;exact ZU.2 ⟨k1,ZU.2 ⟨k2,YT⟩⟩
theorem ZdI:Fit winP winG:=by
 refine⟨fun⟨a,b,c⟩ h r=>?_,fun s r' h=>?_⟩
 ·obtain⟨h1,h2,h3,-⟩:Ym 1 a=true∧Ym 1 b=true∧Ym 1 c=true∧True:=by have:=h;simp only[winP,ZU]at this;exact⟨this.1,this.2.1,this.2.2.1,trivial⟩
  show winG (some (ZZ 1 [a,b,c]++r))=_;rw[Xg,Xg,Xg,Jl];simp only[winG,ZN h1,ZN h2,ZN h3]
 ·simp only[winG]at h ⊢;obtain⟨e3,k3⟩:=Zz h;obtain⟨e2,k2⟩:=Zz e3;obtain⟨e1,k1⟩:=Zz e2;refine⟨?_,?_⟩
  ·show s=some (ZZ 1 [_,_,_]++r');rw[Xg,Xg,Xg,Jl];exact e1
  ·show Zq 1 [_,_,_]=true;exact ZU.2 ⟨k1,ZU.2 ⟨k2,ZU.2 ⟨k3,YT⟩⟩⟩
theorem ZdK:Fit porP porG:=by
 refine⟨fun⟨a,b,c,d,e⟩ h r=>?_,fun s r' h=>?_⟩
 ·obtain⟨h1,h2,h3,h4,h5⟩:Ym 1 a=true∧Ym 1 b=true∧Ym 1 c=true∧Ym 1 d=true∧Ym 1 e=true:=by have:=h;simp only[porP,ZU]at this;exact⟨this.1,this.2.1,this.2.2.1,this.2.2.2.1,this.2.2.2.2.1⟩
  show porG (some (ZZ 1 [a,b,c,d,e]++r))=_;rw[Xg,Xg,Xg,Xg,Xg,Jl];simp only[porG,ZN h1,ZN h2,ZN h3,ZN h4,ZN h5]
 ·simp only[porG]at h ⊢;obtain⟨e5,k5⟩:=Zz h;obtain⟨e4,k4⟩:=Zz e5;obtain⟨e3,k3⟩:=Zz e4;obtain⟨e2,k2⟩:=Zz e3;obtain⟨e1,k1⟩:=Zz e2;refine⟨?_,?_⟩
  ·show s=some (ZZ 1 [_,_,_,_,_]++r');rw[Xg,Xg,Xg,Xg,Xg,Jl];exact e1
  ·show Zq 1 [_,_,_,_,_]=true;exact ZU.2 ⟨k1,ZU.2 ⟨k2,ZU.2 ⟨k3,ZU.2 ⟨k4,ZU.2 ⟨k5,YT⟩⟩⟩⟩⟩
theorem ZdJ:Fit volP volG:=by
 refine⟨fun⟨a,b,c,d⟩ h r=>?_,fun s r' h=>?_⟩
 ·obtain⟨h1,h2,h3,h4⟩:Ym 1 a=true∧Ym 2 b=true∧Ym 2 c=true∧Ym 2 d=true:=by have:=h;simp only[volP,Bool.and_eq_true,ZU]at this;exact⟨this.1.1,this.2.1,this.2.2.1,this.2.2.2.1⟩
  show volG (some ((ZZ 1 [a]++ZZ 2 [b,c,d])++r))=_;rw[List.append_assoc,Xg,Jl,Xg,Xg,Xg,Jl];simp only[volG,ZN h1,ZN h2,ZN h3,ZN h4]
 ·simp only[volG]at h ⊢;obtain⟨e4,k4⟩:=Zz h;obtain⟨e3,k3⟩:=Zz e4;obtain⟨e2,k2⟩:=Zz e3;obtain⟨e1,k1⟩:=Zz e2;refine⟨?_,?_⟩
  ·show s=some ((ZZ 1 [_]++ZZ 2 [_,_,_])++r');rw[List.append_assoc,Xg,Jl,Xg,Xg,Xg,Jl];exact e1
  ·show(Zq 1 [_]&&Zq 2 [_,_,_])=true;rw[Bool.and_eq_true];exact⟨ZU.2 ⟨k1,YT⟩,ZU.2 ⟨k2,ZU.2 ⟨k3,ZU.2 ⟨k4,YT⟩⟩⟩⟩
theorem Zf9:Fit ruP ruG:=by
 refine⟨fun⟨a,b,c,d,e⟩ h r=>?_,fun s r' h=>?_⟩
 ·obtain⟨h1,h2,h3,h4,h5⟩:Ym 1 a=true∧Ym 1 b=true∧Ym 1 c=true∧Xy d=true∧Xy e=true:=by have:=h;simp only[ruP,Bool.and_eq_true,ZU]at this;exact⟨this.1.1,this.1.2.1,this.1.2.2.1,this.2.1,this.2.2⟩
  show ruG (some ((ZZ 1 [a,b,c]++(Yb d++Yb e))++r))=_;rw[List.append_assoc,Xg,Xg,Xg,Jl,List.append_assoc];simp only[ruG,ZN h1,ZN h2,ZN h3,El h4,El h5]
 ·simp only[ruG]at h ⊢;obtain⟨e5,k5⟩:=Uf h;obtain⟨e4,k4⟩:=Uf e5;obtain⟨e3,k3⟩:=Zz e4;obtain⟨e2,k2⟩:=Zz e3;obtain⟨e1,k1⟩:=Zz e2;refine⟨?_,?_⟩
  ·show s=some ((ZZ 1 [_,_,_]++(Yb _++Yb _))++r');rw[List.append_assoc,Xg,Xg,Xg,Jl,List.append_assoc];exact e1
  ·show(Zq 1 [_,_,_]&&(Xy _&&Xy _))=true;rw[Bool.and_eq_true,Bool.and_eq_true];exact⟨ZU.2 ⟨k1,ZU.2 ⟨k2,ZU.2 ⟨k3,YT⟩⟩⟩,k4,k5⟩
theorem BN{α:Type}{p:Lays α}{g:RSt→α × RSt}(F:Fit p g):∀ (l:List α),ZA p l=true→∀ r,many g l.length (some (ZD p l++r))=(l,some r)
 |[],_,_=>rfl
 |x::l,h,r=>by
  have h':p.ok x=true∧ZA p l=true:=by simpa [ZA] using h
  simp only[ZD,many,List.length_cons,List.append_assoc,F.put x h'.1,BN F l h'.2]
theorem Wr{α:Type}{p:Lays α}{g:RSt→α × RSt}(F:Fit p g):∀ (n:Nat) (s:RSt) (r':List UInt8),(many g n s).2=some r'→s=some (ZD p (many g n s).1++r')∧ZA p (many g n s).1=true∧(many g n s).1.length=n
 |0,s,r',h=>⟨h,rfl,rfl⟩
 |n+1,s,r',h=>by
  simp only[many]at h ⊢;obtain⟨e2,k2,l2⟩:=Wr F n _ _ h;obtain⟨e1,k1⟩:=F.back _ _ e2;refine⟨?_,?_,?_⟩
  ·simp only[ZD,List.append_assoc];exact e1
  ·simp only[ZA,k1,k2,Bool.and_self]
  ·simp[l2]
theorem Jn{α:Type}{p:Lays α}{g:RSt→α × RSt}(F:Fit p g){l:List α}(h:ZM p l=true)(r:List UInt8):getL g (some (ZX p l++r))=(l,some r):=by
 obtain⟨h1,h2⟩:Ym 1 (l.length:Int)=true∧ZA p l=true:=by have:=h;simp only[ZM,Bool.and_eq_true,ZU]at this;exact⟨this.1.1,this.2⟩
 simp only[getL,ZX,List.append_assoc];rw[Xg,Jl,ZN h1];simp only[Int.toNat_natCast];exact BN F l h2 r
theorem YP{α:Type}{p:Lays α}{g:RSt→α × RSt}(F:Fit p g){s:RSt}{r':List UInt8}(h:(getL g s).2=some r'):s=some (ZX p (getL g s).1++r')∧ZM p (getL g s).1=true:=by
 simp only[getL]at h ⊢;obtain⟨e2,k2,l2⟩:=Wr F _ _ _ h;obtain⟨e1,k1⟩:=Zz e2;have h0:=(Uh.1 k1).1
 obtain⟨n,en⟩:∃ n,(getN 1 s).1=n:=⟨_,rfl⟩
 obtain⟨L,eL⟩:∃ L,many g (getN 1 s).1.toNat (getN 1 s).2=L:=⟨_,rfl⟩
 rw[eL]at e2 k2 l2 e1 ⊢;rw[en]at k1 h0 l2 e1;have el:(L.1.length:Int)=n:=by omega
 refine⟨?_,?_⟩
 ·simp only[ZX,List.append_assoc];rw[Xg,Jl,el];exact e1
 ·simp only[ZM,Bool.and_eq_true];rw[el];exact⟨ZU.2 ⟨k1,YT⟩,k2⟩
theorem vol0(v:Vol)(h:v.level=0):(⟨0,v.first,v.count,v.journal⟩:Vol)=v:=by cases v;cases h;rfl
theorem DH(c:Cfg)(h:c.laid=true):Ye c.bytes=some c:=by
 simp only[Cfg.laid,Bool.and_eq_true,ZU,decide_eq_true_eq]at h;obtain⟨⟨⟨⟨⟨⟨⟨⟨⟨⟨⟨⟨h1,-⟩,h2⟩,h3⟩,h4⟩,h5⟩,h6⟩,⟨a1,a2,a3,a4,a5,-⟩⟩,h7⟩,h8⟩,h9⟩,⟨b1,b2,-⟩⟩,h10⟩:=h;have ht:c.bytes.take 4=Ws:=rfl
 have hd:c.bytes.drop 4=ZZ 1 [c.levels]++(ZX XF c.flows++(ZX XD c.parts++(ZX winP c.windows++(ZX porP c.ports++(ZX volP c.volumes ++
  (ZZ 2 [c.audit.first,c.audit.count,c.audit.journal,c.boot,c.sectors]++(ZX ruP c.rules++(ZX keyP c.keys++(Yb c.login++(ZZ 2 [c.recovery,c.bound]++[])))))))))):=by rw[List.append_nil];rfl
 have hg:cfgG (some (c.bytes.drop 4))=(c,some []):=by
  rw[hd,Xg,Jl,Xg,Xg,Xg,Xg,Xg,Jl,Xg,Xg,Jl]
  simp only[cfgG,ZN h1,Jn B0 h2,Jn BZ h3,Jn ZdI h4,Jn ZdK h5,Jn ZdJ h6,ZN a1,ZN a2,ZN a3,ZN a4,ZN a5,
   Jn Zf9 h7,Jn ZdL h8,El h9,ZN b1,ZN b2]
  rw[vol0 _ h10]
 rw[Ye,if_pos ht,hg,if_pos rfl]
theorem Bc{s:List UInt8}{c:Cfg}(h:Ye s=some c):c.laid=true∧c.bytes=s:=by
 unfold Ye at h;by_cases hm:s.take 4=Ws
 ·rw[if_pos hm]at h;by_cases hr:(cfgG (some (s.drop 4))).2=some []
  ·rw[if_pos hr]at h;have hc:=Option.some.inj h
   obtain⟨t,et⟩:∃ t,s.drop 4=t:=⟨_,rfl⟩
   rw[et]at hr hc;have hs:s=Ws++t:=by rw[←hm,←et,List.take_append_drop]
   clear h hm et;simp only[cfgG]at hr hc;obtain⟨q16,k16⟩:=Zz hr;obtain⟨q15,k15⟩:=Zz q16;obtain⟨q14,k14⟩:=Uf q15;obtain⟨q13,k13⟩:=YP ZdL q14;obtain⟨q12,k12⟩:=YP Zf9 q13;obtain⟨q11,k11⟩:=Zz q12;obtain⟨q10,k10⟩:=Zz q11;obtain⟨q9,k9⟩:=Zz q10;obtain⟨q8,k8⟩:=Zz q9;obtain⟨q7,k7⟩:=Zz q8;obtain⟨q6,k6⟩:=YP ZdJ q7;obtain⟨q5,k5⟩:=YP ZdK q6;obtain⟨q4,k4⟩:=YP ZdI q5;obtain⟨q3,k3⟩:=YP BZ q4;obtain⟨q2,k2⟩:=YP B0 q3;obtain⟨q1,k1⟩:=Zz q2;rw[←hc];refine⟨?_,?_⟩
   ·simp only[Cfg.laid,Bool.and_eq_true,ZU,decide_eq_true_eq];exact⟨⟨⟨⟨⟨⟨⟨⟨⟨⟨⟨⟨k1,YT⟩,k2⟩,k3⟩,k4⟩,k5⟩,k6⟩,⟨k7,k8,k9,k10,k11,YT⟩⟩,k12⟩,k13⟩,k14⟩,⟨k15,k16,YT⟩⟩,trivial⟩
   ·rw[hs];simp only[Cfg.bytes];refine congrArg (Ws++·) ?_;refine Eq.trans ?_ (Option.some.inj q1).symm;simp only[ZZ,List.append_assoc,List.append_nil,List.nil_append]
  ·rw[if_neg hr]at h;cases h
 ·rw[if_neg hm]at h;cases h
end Go.Proofs.YtbchkjfnakabkaaGreatDoor.PC
namespace Go.Proofs.YtbchkjfnakabkaaGreatDoor.PC
open PX
def bitR(r:List Int)(a b:Nat):Bool:=((r[a]?.getD 0).toNat).testBit b
structure Rows8 (r:List Int):Prop where
 len:r.length=8
 u8:∀ x∈r,0≤x∧x<256
def orI(x y:Int):Int:=((x.toNat ||| y.toNat:Nat):Int)
def andI(x y:Int):Int:=((x.toNat &&& y.toNat:Nat):Int)
theorem ZcU{x y:Int}(hx:0≤x∧x<256)(hy:0≤y∧y<256):0≤orI x y∧orI x y<256:=by
 unfold orI;have h1:x.toNat<2 ^ 8:=by omega
 have h2:y.toNat<2 ^ 8:=by omega
 have:=Nat.or_lt_two_pow h1 h2;omega
theorem QE{x y:Int}(hx:0≤x∧x<256)(hy:0≤y∧y<256):0≤andI x y∧andI x y<256:=by
 unfold andI;have h1:x.toNat<2 ^ 8:=by omega
 have:=Nat.and_le_left (n:=x.toNat) (m:=y.toNat);omega
theorem ZhW{x y:Int}(hx:0≤x):x≤orI x y:=by
 unfold orI;have h:x.toNat≤x.toNat ||| y.toNat:=Nat.left_le_or;omega
theorem Zd8(x y:Int)(j:Nat):(orI x y).toNat.testBit j=(x.toNat.testBit j || y.toNat.testBit j):=by
 unfold orI;rw[Int.toNat_natCast,Nat.testBit_or]
theorem Vg(x y:Int)(j:Nat):(andI x y).toNat.testBit j=(x.toNat.testBit j&&y.toNat.testBit j):=by
 unfold andI;rw[Int.toNat_natCast,Nat.testBit_and]
theorem Rows8.get{r:List Int}(h:Rows8 r)(a:Nat):0≤r[a]?.getD 0∧r[a]?.getD 0<256:=by
 by_cases hl:a<r.length
 ·rw[List.getElem?_eq_getElem hl];exact h.u8 _ (List.getElem_mem hl)
 ·rw[List.getElem?_eq_none (by omega)];simp
theorem Rows8.set{r:List Int}(h:Rows8 r)(a:Nat){x:Int}(hx:0≤x∧x<256):Rows8 (r.set a x):=by
 refine⟨by rw[List.length_set];exact h.len,fun y hy=>?_⟩;rcases List.mem_or_eq_of_mem_set hy with hy|rfl
 ·exact h.u8 y hy
 ·exact hx
theorem Zd9{r:List Int}(h:Rows8 r){a b:Nat}(hb:bitR r a b=true):a<8∧b<8:=by
 unfold bitR at hb;have hg:=h.get a;refine⟨?_,?_⟩
 ·by_cases hl:a<8
  ·exact hl
  ·rw[List.getElem?_eq_none (by have:=h.len;omega)]at hb;simp at hb
 ·by_cases hl:b<8
  ·exact hl
  ·have h2:(r[a]?.getD 0).toNat<2 ^ b:=Nat.lt_of_lt_of_le (show(r[a]?.getD 0).toNat<2 ^ 8 by omega) (Nat.pow_le_pow_right (by omega) (by omega));rw[Nat.testBit_lt_two_pow h2]at hb;cases hb
theorem Qy{r:List Int}(h:Rows8 r){a:Nat}(ha:a<8)(x:Int)(i j:Nat):bitR (r.set a x) i j=if i=a then x.toNat.testBit j else bitR r i j:=by
 unfold bitR;by_cases hi:i=a
 ·subst hi;rw[if_pos rfl,List.getElem?_set_self (by rw[h.len];exact ha)];rfl
 ·rw[if_neg hi,List.getElem?_set_ne (fun e=>hi e.symm)]
def VB(r:List Int)(a b:Nat):List Int:=if bitR r a b then r.set a (orI (r[a]?.getD 0) (r[b]?.getD 0)) else r
def UB(r:List Int)(a:Nat):Nat→List Int
 |0=>r
 |k+1=>VB (UB r a k) a k
def Jc(r:List Int):Nat→List Int
 |0=>r
 |k+1=>UB (Jc r k) k 8
theorem ZaB{r:List Int}(h:Rows8 r)(a b:Nat):Rows8 (VB r a b):=by
 unfold VB;split
 ·exact h.set a (ZcU (h.get a) (h.get b))
 ·exact h
theorem Yr{r:List Int}(h:Rows8 r)(a:Nat):∀ k,Rows8 (UB r a k)
 |0=>h
 |k+1=>ZaB (Yr h a k) a k
theorem XA{r:List Int}(h:Rows8 r):∀ k,Rows8 (Jc r k)
 |0=>h
 |k+1=>Yr (XA h k) k 8
theorem Ex{r:List Int}(h:Rows8 r){a:Nat}(ha:a<8)(b i j:Nat):bitR (VB r a b) i j=(bitR r i j || (decide (i=a)&&(bitR r a b&&bitR r b j))):=by
 unfold VB;by_cases hb:bitR r a b=true
 ·rw[if_pos hb,Qy h ha,hb];by_cases hi:i=a
  ·subst hi;rw[if_pos rfl,Zd8];simp[bitR]
  ·rw[if_neg hi];simp[hi]
 ·rw[if_neg hb];simp[hb]
def leR:List Int→List Int→Prop
 |[],[]=>True
 |x::l,y::m=>x≤y∧leR l m
 |_,_=>False
theorem V9:∀ l,leR l l
 |[]=>trivial
 |x::l=>⟨Int.le_refl x,V9 l⟩
theorem E0:∀ {l m n:List Int},leR l m→leR m n→leR l n
 |[],[],[],_,_=>trivial
 |x::l,y::m,z::n,h1,h2=>⟨Int.le_trans h1.1 h2.1,E0 h1.2 h2.2⟩
 |[],_::_,_,h,_=>h.elim
 |_::_,[],_,h,_=>h.elim
 |[],[],_::_,_,h=>h.elim
 |_::_,_::_,[],_,h=>h.elim
theorem Zdn:∀ (l:List Int) (a:Nat) (v:Int),l[a]?.getD 0≤v→leR l (l.set a v)
 |[],_,_,_=>trivial
 |x::l,0,v,h=>⟨h,V9 l⟩
 |x::l,a+1,v,h=>⟨Int.le_refl x,Zdn l a v (by simpa using h)⟩
theorem Zdm:∀ {l m:List Int},leR l m→l.sum≤m.sum∧(l.sum=m.sum→l=m)
 |[],[],_=>⟨Int.le_refl _,fun _=>rfl⟩
 |x::l,y::m,h=>by
  obtain⟨h1,h2⟩:=Zdm h.2;have h3:=h.1;simp only[List.sum_cons];refine⟨by omega,fun e=>?_⟩;have e1:x=y:=by omega
  rw[e1,h2 (by omega)]
 |[],_::_,h=>h.elim
 |_::_,[],h=>h.elim
theorem Ze9{r:List Int}(h:Rows8 r)(a b:Nat):leR r (VB r a b):=by
 unfold VB;split
 ·exact Zdn r a _ (ZhW (h.get a).1)
 ·exact V9 r
theorem Wx{r:List Int}(h:Rows8 r)(a:Nat):∀ k,leR r (UB r a k)
 |0=>V9 r
 |k+1=>E0 (Wx h a k) (Ze9 (Yr h a k) a k)
theorem Wy{r:List Int}(h:Rows8 r):∀ k,leR r (Jc r k)
 |0=>V9 r
 |k+1=>E0 (Wy h k) (Wx (XA h k) k 8)
theorem Zf0:∀ (l:List Int),(∀x∈l,0≤x∧x<256)→0≤l.sum∧l.sum≤255*l.length
 |[],_=>by simp
 |x::l,h=>by
  have h1:=Zf0 l fun y hy=>h y (List.mem_cons_of_mem x hy)
  have h2:=h x List.mem_cons_self;simp only[List.sum_cons,List.length_cons];omega
def Zdk(r:List Int):Nat:=(2040 - r.sum).toNat
theorem Zdj{r:List Int}(h:Rows8 r)(hne:Jc r 8≠r):Zdk (Jc r 8)<Zdk r:=by
 have h1:=Zdm (Wy h 8);have h2:=Zf0 _ (XA h 8).u8;rw[(XA h 8).len]at h2;have h3:r.sum≠(Jc r 8).sum:=fun e=>hne (h1.2 e).symm
 unfold Zdk;omega
def subR(r s:List Int):Prop:=∀ i j,bitR r i j=true→bitR s i j=true
theorem Zca{r:List Int}(h:Rows8 r){a:Nat}(ha:a<8)(b:Nat):subR r (VB r a b):=fun i j hb=>by rw[Ex h ha,hb];rfl
theorem Uw{r:List Int}(h:Rows8 r){a:Nat}(ha:a<8):∀ k k',k≤k'→subR (UB r a k) (UB r a k'):=by
 intro k k' hk
 induction hk with
 |refl=>exact fun i j hb=>hb
 |step hk ih=>exact fun i j hb=>Zca (Yr h a _) ha _ i j (ih i j hb)
theorem Ux{r:List Int}(h:Rows8 r):∀ k k',k≤k'→k'≤8→subR (Jc r k) (Jc r k'):=by
 intro k k' hk
 induction hk with
 |refl=>exact fun _ i j hb=>hb
 |step hk ih=>exact fun hk' i j hb=>Uw (XA h _) (by omega) 0 8 (by omega) i j (ih (by omega) i j hb)
theorem WY{r:List Int}(h:Rows8 r)(he:Jc r 8=r){a b c:Nat}(hab:bitR r a b=true)(hbc:bitR r b c=true):bitR r a c=true:=by
 have ha:=(Zd9 h hab).1;have hb:=(Zd9 h hab).2
 have h1:∀ i j,bitR r i j=true→bitR (UB (Jc r a) a b) i j=true:=fun i j hb'=>
  Uw (XA h a) ha 0 b (by omega) i j (Ux h 0 a (by omega) (by omega) i j hb')
 have h2:bitR (UB (Jc r a) a (b+1)) a c=true:=by
  show bitR (VB _ a b) a c=true;rw[Ex (Yr (XA h a) a b) ha,h1 a b hab,h1 b c hbc];simp
 have h3:bitR (Jc r (a+1)) a c=true:=Uw (XA h a) ha (b+1) 8 (by omega) a c h2;have h4:=Ux h (a+1) 8 (by omega) (by omega) a c h3
 rwa [he]at h4
def Y3(n:Int)(l:List (Int × Int))(r:List Int):Prop:=∀ i j:Nat,bitR r i j=true→lev n i∧lev n j∧Rch l i j
theorem Jb{l:List (Int × Int)}{a b c:Int}(h1:Rch l a b)(h2:Rch l b c):Rch l a c:=by
 induction h2 with
 |refl=>exact h1
 |step _ he ih=>exact .step ih he
theorem ZaC{n:Int}{l:List (Int × Int)}{r:List Int}(h:Rows8 r)(hs:Y3 n l r){a:Nat}(ha:a<8)(b:Nat):Y3 n l (VB r a b):=by
 intro i j hb;rw[Ex h ha,Bool.or_eq_true]at hb;rcases hb with hb|hb
 ·exact hs i j hb
 ·simp only[Bool.and_eq_true,decide_eq_true_eq]at hb;obtain⟨rfl,h1,h2⟩:=hb;obtain⟨p1,p2,p3⟩:=hs _ _ h1;obtain⟨q1,q2,q3⟩:=hs _ _ h2;exact⟨p1,q2,Jb p3 q3⟩
theorem Ez{n:Int}{l:List (Int × Int)}{r:List Int}(h:Rows8 r)(hs:Y3 n l r){a:Nat}(ha:a<8):∀ k,Y3 n l (UB r a k)
 |0=>hs
 |k+1=>ZaC (Yr h a k) (Ez h hs ha k) ha k
theorem EA{n:Int}{l:List (Int × Int)}{r:List Int}(h:Rows8 r)(hs:Y3 n l r):∀ k,k≤8→Y3 n l (Jc r k)
 |0,_=>hs
 |k+1,hk=>Ez (XA h k) (EA h hs k (by omega)) (by omega) 8
def ZbI(n:Int)(l:List (Int × Int))(r:List Int):Prop:=(∀i:Nat,lev n i→bitR r i i=true)∧∀ p∈l,bitR r p.1.toNat p.2.toNat=true
theorem ZfO{n:Int}{l:List (Int × Int)}{r s:List Int}(h:ZbI n l r)(hs:subR r s):ZbI n l s:=⟨fun i hi=>hs _ _ (h.1 i hi),fun p hp=>hs _ _ (h.2 p hp)⟩
theorem GZ{n:Int}{l:List (Int × Int)}{r:List Int}(h:Rows8 r)(he:Jc r 8=r)(hs:Y3 n l r)(hb:ZbI n l r)(hl:∀ p∈l,lev n p.1∧lev n p.2){a b:Nat}(ha:lev n a):bitR r a b=true↔Rch l a b:=by
 refine⟨fun h=>(hs _ _ h).2.2,?_⟩
 have key:∀ x y:Int,Rch l x y→x=a→bitR r a y.toNat=true:=by
  intro x y hr
  induction hr with
  |refl=>intro e;subst e;exact hb.1 a ha
  |step h1 he' ih=>
   intro e;obtain⟨q1,q2⟩:=hl _ he';exact WY h he (ih e) (hb.2 _ he')
 intro hr;have:=key _ _ hr rfl
 simpa using this
theorem ZgB{n:Int}{l:List (Int × Int)}(hl:∀ p∈l,lev n p.1∧lev n p.2){a b:Int}(h:Rch l a b)(ha:lev n a):lev n b:=by
 cases h with
 |refl=>exact ha
 |step _ he=>exact(hl _ he).2
def addR(r:List Int)(a b:Nat):List Int:=r.set a (orI (r[a]?.getD 0) (2 ^ b))
theorem GD{b:Nat}(hb:b<8):0≤(2:Int) ^ b∧(2:Int) ^ b<256:=by
 have:b=0∨b=1∨b=2∨b=3∨b=4∨b=5∨b=6∨b=7:=by omega
 rcases this with rfl|rfl|rfl|rfl|rfl|rfl|rfl|rfl<;>decide
theorem VV(b:Nat):((2:Int) ^ b).toNat=2 ^ b:=by
 have:(2:Int) ^ b=((2 ^ b:Nat):Int):=by simp
 rw[this,Int.toNat_natCast]
theorem Gp{r:List Int}(h:Rows8 r)(a:Nat){b:Nat}(hb:b<8):Rows8 (addR r a b):=h.set a (ZcU (h.get a) (GD hb))
theorem Zae{r:List Int}(h:Rows8 r){a:Nat}(ha:a<8)(b i j:Nat):bitR (addR r a b) i j=(bitR r i j || (decide (i=a)&&decide (b=j))):=by
 unfold addR;rw[Qy h ha];by_cases hi:i=a
 ·subst hi;rw[if_pos rfl,Zd8,VV,Nat.testBit_two_pow];simp[bitR]
 ·rw[if_neg hi];simp[hi]
def YE:List Int:=[0,0,0,0,0,0,0,0]
theorem Gy:Rows8 YE:=⟨rfl,by intro x hx;simp[YE]at hx;omega⟩
theorem ZbL(a:Nat):YE[a]?.getD 0=0:=by
 unfold YE;rcases a with _|_|_|_|_|_|_|_|a<;>rfl
theorem QJ(a b:Nat):bitR YE a b=false:=by
 unfold bitR;rw[ZbL];simp
def JQ:Nat→List Int
 |0=>YE
 |k+1=>(JQ k).set k (2 ^ k)
theorem X7:∀ k,k≤8→Rows8 (JQ k)
 |0,_=>Gy
 |k+1,h=>(X7 k (by omega)).set k (GD (by omega))
theorem Gi:∀ k,k≤8→∀ i j,bitR (JQ k) i j=(decide (i<k)&&decide (i=j))
 |0,_,i,j=>by rw[JQ,QJ];simp
 |k+1,h,i,j=>by
  rw[JQ,Qy (X7 k (by omega)) (by omega)];by_cases hi:i=k
  ·subst hi;rw[if_pos rfl,VV,Nat.testBit_two_pow];simp
  ·rw[if_neg hi,Gi k (by omega)];have:decide (i<k+1)=decide (i<k):=by rw[decide_eq_decide];omega
   rw[this]
def YO(r:List Int):List (Int × Int)→List Int
 |[]=>r
 |p::l=>YO (addR r p.1.toNat p.2.toNat) l
theorem DJ(r:List Int)(l:List (Int × Int))(p:Int × Int):YO r (l++[p])=addR (YO r l) p.1.toNat p.2.toNat:=by
 induction l generalizing r with
 |nil=>rfl
 |cons q l ih=>exact ih _
theorem VH{n:Int}(hn:n≤8):∀ (l:List (Int × Int)) (r:List Int),Rows8 r→(∀p∈l,lev n p.1∧lev n p.2)→Rows8 (YO r l)
 |[],r,h,_=>h
 |p::l,r,h,hl=>by
  have h1:=(hl p List.mem_cons_self).2;unfold lev at h1;exact VH hn l _ (Gp h _ (by omega)) fun q hq=>hl q (List.mem_cons_of_mem p hq)
theorem J0{n:Int}(hn:n≤8):∀ (l:List (Int × Int)) (r:List Int),Rows8 r→(∀p∈l,lev n p.1∧lev n p.2)→∀ i j,bitR (YO r l) i j=true↔(bitR r i j=true∨∃ p∈l,i=p.1.toNat∧j=p.2.toNat)
 |[],r,h,_,i,j=>by simp[YO]
 |p::l,r,h,hl,i,j=>by
  have h1:=hl p List.mem_cons_self;unfold lev at h1;rw[YO,J0 hn l _ (Gp h _ (by omega)) (fun q hq=>hl q (List.mem_cons_of_mem p hq)),Zae h (by omega)];simp only[Bool.or_eq_true,Bool.and_eq_true,decide_eq_true_eq,List.mem_cons,exists_eq_or_imp];constructor
  ·rintro((h|h)|h)
   ·exact .inl h
   ·exact .inr (.inl ⟨h.1,h.2.symm⟩)
   ·exact .inr (.inr h)
  ·rintro(h|h|h)
   ·exact .inl (.inl h)
   ·exact .inl (.inr ⟨h.1,h.2.symm⟩)
   ·exact .inr h
theorem Ey{n:Nat}(hn:n≤8){l:List (Int × Int)}(hl:∀ p∈l,lev n p.1∧lev n p.2):Y3 n l (YO (JQ n) l):=by
 intro i j hb;rcases(J0 (n:=n) (by omega) l _ (X7 n hn) hl i j).1 hb with h|⟨p,hp,rfl,rfl⟩
 ·rw[Gi n hn]at h;simp only[Bool.and_eq_true,decide_eq_true_eq]at h;obtain⟨h1,rfl⟩:=h;have:lev (n:Int) (i:Int):=by unfold lev;omega
  exact⟨this,this,.refl _⟩
 ·obtain⟨h1,h2⟩:=hl p hp;have e1:((p.1.toNat:Nat):Int)=p.1:=by unfold lev at h1;omega
  have e2:((p.2.toNat:Nat):Int)=p.2:=by unfold lev at h2;omega
  rw[e1,e2];exact⟨h1,h2,.step (.refl _) hp⟩
theorem GF{n:Nat}(hn:n≤8){l:List (Int × Int)}(hl:∀ p∈l,lev n p.1∧lev n p.2):ZbI n l (YO (JQ n) l):=by
 refine⟨fun i hi=>(J0 (n:=n) (by omega) l _ (X7 n hn) hl i i).2 (.inl ?_),fun p hp=>(J0 (n:=n) (by omega) l _ (X7 n hn) hl _ _).2 (.inr ⟨p,hp,rfl,rfl⟩)⟩;rw[Gi n hn];unfold lev at hi;simp;omega
def Ur(U r:List Int)(a:Nat):Nat→List Int
 |0=>r
 |k+1=>if bitR U a k then addR (Ur U r a k) k a else Ur U r a k
def U6(U:List Int)(n:Nat):Nat→List Int
 |0=>YE
 |k+1=>Ur U (U6 U n k) k n
theorem UN{U r:List Int}(h:Rows8 r){a:Nat}(ha:a<8):∀ k,k≤8→Rows8 (Ur U r a k)∧∀ i j,bitR (Ur U r a k) i j=(bitR r i j || (decide (i<k)&&(decide (j=a)&&bitR U a i)))
 |0,_=>⟨h,fun i j=>by simp[Ur]⟩
 |k+1,hk=>by
  obtain⟨h1,h2⟩:=UN (U:=U) h ha k (by omega);unfold Ur;by_cases hb:bitR U a k=true
  ·rw[if_pos hb];refine⟨Gp h1 _ ha,fun i j=>?_⟩;rw[Zae h1 (by omega),h2];by_cases hi:i=k
   ·subst hi;have e1:decide (i<i)=false:=by simp
    have e2:decide (i<i+1)=true:=by simp
    have e3:decide (a=j)=decide (j=a):=by rw[decide_eq_decide];exact eq_comm
    rw[hb,e1,e2,e3];simp
   ·have:decide (i<k+1)=decide (i<k):=by rw[decide_eq_decide];omega
    rw[this];simp[hi]
  ·rw[if_neg hb];refine⟨h1,fun i j=>?_⟩;rw[h2];by_cases hi:i=k
   ·subst hi;simp[hb]
   ·have:decide (i<k+1)=decide (i<k):=by rw[decide_eq_decide];omega
    rw[this]
theorem Vi{U:List Int}{n:Nat}(hn:n≤8):∀ k,k≤8→Rows8 (U6 U n k)∧∀ i j,bitR (U6 U n k) i j=(decide (j<k)&&(decide (i<n)&&bitR U j i))
 |0,_=>⟨Gy,fun i j=>by rw[U6,QJ];simp⟩
 |k+1,hk=>by
  obtain⟨h1,h2⟩:=Vi (U:=U) hn k (by omega);obtain⟨h3,h4⟩:=UN (U:=U) h1 (show k<8 by omega) n hn;refine⟨h3,fun i j=>?_⟩;rw[U6,h4,h2];by_cases hj:j=k
  ·subst hj;simp
  ·have:decide (j<k+1)=decide (j<k):=by rw[decide_eq_decide];omega
   rw[this];simp[hj]
structure LatR (n:Nat) (l:List (Int × Int)) (U D:List Int):Prop where
 up:Rows8 U
 down:Rows8 D
 lo:1≤n
 hi:n≤8
 pairs:∀ p∈l,lev n p.1∧lev n p.2
 ubit:∀ a b:Nat,a<n→(bitR U a b=true↔Rch l a b)
 dbit:∀ a b:Nat,a<n→(bitR D a b=true↔(b<n∧Rch l b a))
theorem WD{n:Nat}{l:List (Int × Int)}{U:List Int}(h1:1≤n)(h8:n≤8)(hl:∀ p∈l,lev n p.1∧lev n p.2)(h:Rows8 U)(he:Jc U 8=U)(hs:Y3 n l U)(hb:ZbI n l U):LatR n l U (U6 U n n):=by
 refine⟨h,(Vi h8 n h8).1,h1,h8,hl,fun a b ha=>GZ h he hs hb hl (by unfold lev;omega),fun a b ha=>?_⟩;rw[(Vi h8 n h8).2];simp only[Bool.and_eq_true,decide_eq_true_eq];refine⟨fun⟨q1,q2,q3⟩=>⟨q1,(hs _ _ q3).2.2⟩,fun⟨q1,q2⟩=>⟨q1,ha,(GZ h he hs hb hl (by unfold lev;omega)).2 q2⟩⟩
theorem BP{n:Nat}{l:List (Int × Int)}{U D:List Int}(h:LatR n l U D):(∀a,a<n→andI (U[a]?.getD 0) (D[a]?.getD 0)=2 ^ a)↔∀ a b,lev n a→lev n b→Rch l a b→Rch l b a→a=b:=by
 constructor
 ·intro hh a b ha hb h1 h2;unfold lev at ha hb;obtain⟨x,rfl⟩:=Int.eq_ofNat_of_zero_le ha.1;obtain⟨y,rfl⟩:=Int.eq_ofNat_of_zero_le hb.1;have e:=congrArg (fun z:Int=>z.toNat.testBit y) (hh x (by omega));simp only[Vg,VV,Nat.testBit_two_pow]at e;have u:bitR U x y=true:=(h.ubit x y (by omega)).2 h1;have d:bitR D x y=true:=(h.dbit x y (by omega)).2 ⟨by omega,h2⟩;unfold bitR at u d;rw[u,d]at e;have:x=y:=by simpa using e
  rw[this]
 ·intro hh a ha;have hk:=QE (h.up.get a) (h.down.get a)
  have:(andI (U[a]?.getD 0) (D[a]?.getD 0)).toNat=2 ^ a:=by
   refine Nat.eq_of_testBit_eq fun j=>?_
   rw[Vg,Nat.testBit_two_pow];rw[Bool.eq_iff_iff,Bool.and_eq_true,decide_eq_true_eq];have u:=h.ubit a j ha;have d:=h.dbit a j ha;unfold bitR at u d;rw[u,d];constructor
   ·rintro⟨q1,q2,q3⟩;have:=hh a j (by unfold lev;omega) (by unfold lev;omega) q1 q3;omega
   ·rintro rfl;exact⟨.refl _,ha,.refl _⟩
  have e2:=VV a;have e3:(0:Int)≤2 ^ a:=Int.pow_nonneg (by decide);omega
def Vv(R:List Int)(n:Nat)(x:Int):Prop:=∃ c,c<n∧R[c]?.getD 0=x
theorem BT{n:Nat}{l:List (Int × Int)}{U D:List Int}(h:LatR n l U D){a b:Nat}(ha:a<n)(hb:b<n) :
 Vv U n (andI (U[a]?.getD 0) (U[b]?.getD 0))↔∃ c,lev n c∧Rch l a c∧Rch l b c∧∀ d,lev n d→Rch l a d→Rch l b d→Rch l c d:=by
 constructor
 ·rintro⟨c,hc,e⟩
  have key:∀ j,bitR U c j=(bitR U a j&&bitR U b j):=fun j=>by
   unfold bitR;rw[e,Vg]
  have hcc:bitR U c c=true:=(h.ubit c c hc).2 (.refl _);rw[key,Bool.and_eq_true]at hcc;refine⟨c,by unfold lev;omega,(h.ubit a c ha).1 hcc.1,(h.ubit b c hb).1 hcc.2,fun d hd h1 h2=>?_⟩;unfold lev at hd;obtain⟨y,rfl⟩:=Int.eq_ofNat_of_zero_le hd.1;refine(h.ubit c y hc).1 ?_;have u1:bitR U a y=true:=(h.ubit a y ha).2 h1;have u2:bitR U b y=true:=(h.ubit b y hb).2 h2;rw[key,u1,u2];rfl
 ·rintro⟨c,hc,h1,h2,h3⟩;unfold lev at hc;obtain⟨z,rfl⟩:=Int.eq_ofNat_of_zero_le hc.1;refine⟨z,by omega,?_⟩;have g1:=h.up.get z;have g2:=QE (h.up.get a) (h.up.get b)
  have:(U[z]?.getD 0).toNat=(andI (U[a]?.getD 0) (U[b]?.getD 0)).toNat:=by
   refine Nat.eq_of_testBit_eq fun j=>?_
   rw[Vg,Bool.eq_iff_iff,Bool.and_eq_true];have u1:=h.ubit z j (by omega);have u2:=h.ubit a j ha;have u3:=h.ubit b j hb;unfold bitR at u1 u2 u3;rw[u1,u2,u3];constructor
   ·exact fun q=>⟨Jb h1 q,Jb h2 q⟩
   ·rintro⟨q1,q2⟩;exact h3 j (ZgB h.pairs q1 (by unfold lev;omega)) q1 q2
  omega
theorem BK{n:Nat}{l:List (Int × Int)}{U D:List Int}(h:LatR n l U D){a b:Nat}(ha:a<n)(hb:b<n) :
 Vv D n (andI (D[a]?.getD 0) (D[b]?.getD 0))↔∃ c,lev n c∧Rch l c a∧Rch l c b∧∀ d,lev n d→Rch l d a→Rch l d b→Rch l d c:=by
 constructor
 ·rintro⟨c,hc,e⟩
  have key:∀ j,bitR D c j=(bitR D a j&&bitR D b j):=fun j=>by
   unfold bitR;rw[e,Vg]
  have hcc:bitR D c c=true:=(h.dbit c c hc).2 ⟨hc,.refl _⟩;rw[key,Bool.and_eq_true]at hcc;refine⟨c,by unfold lev;omega,((h.dbit a c ha).1 hcc.1).2,((h.dbit b c hb).1 hcc.2).2,fun d hd h1 h2=>?_⟩;unfold lev at hd;obtain⟨y,rfl⟩:=Int.eq_ofNat_of_zero_le hd.1;refine((h.dbit c y hc).1 ?_).2;have u1:bitR D a y=true:=(h.dbit a y ha).2 ⟨by omega,h1⟩;have u2:bitR D b y=true:=(h.dbit b y hb).2 ⟨by omega,h2⟩;rw[key,u1,u2];rfl
 ·rintro⟨c,hc,h1,h2,h3⟩;unfold lev at hc;obtain⟨z,rfl⟩:=Int.eq_ofNat_of_zero_le hc.1;refine⟨z,by omega,?_⟩;have g1:=h.down.get z;have g2:=QE (h.down.get a) (h.down.get b)
  have:(D[z]?.getD 0).toNat=(andI (D[a]?.getD 0) (D[b]?.getD 0)).toNat:=by
   refine Nat.eq_of_testBit_eq fun j=>?_
   rw[Vg,Bool.eq_iff_iff,Bool.and_eq_true];have u1:=h.dbit z j (by omega);have u2:=h.dbit a j ha;have u3:=h.dbit b j hb;unfold bitR at u1 u2 u3;rw[u1,u2,u3];constructor
   ·exact fun⟨q0,q⟩=>⟨⟨q0,Jb q h1⟩,q0,Jb q h2⟩
   ·rintro⟨⟨q0,q1⟩,-, q2⟩;exact⟨q0,h3 j (by unfold lev;omega) q1 q2⟩
  omega
def okR(n:Nat)(U D:List Int):Prop:=(∀a,a<n→andI (U[a]?.getD 0) (D[a]?.getD 0)=2 ^ a)∧∀ a,a<n→∀ b,b<n→Vv U n (andI (U[a]?.getD 0) (U[b]?.getD 0))∧Vv D n (andI (D[a]?.getD 0) (D[b]?.getD 0))
theorem ZcX{n:Nat}{l:List (Int × Int)}{U D:List Int}(h:LatR n l U D)(hf:l.length≤64):okR n U D↔Lat n l:=by
 constructor
 ·rintro⟨h1,h2⟩
  refine⟨by have:=h.lo;omega,by have:=h.hi;omega,hf,h.pairs,(BP h).1 h1,fun a b ha hb=>?_,fun a b ha hb=>?_⟩<;>
   (unfold lev at ha hb
    obtain⟨x,rfl⟩:=Int.eq_ofNat_of_zero_le ha.1
    obtain⟨y,rfl⟩:=Int.eq_ofNat_of_zero_le hb.1)
  ·exact(BT h (by omega) (by omega)).1 (h2 x (by omega) y (by omega)).1
  ·exact(BK h (by omega) (by omega)).1 (h2 x (by omega) y (by omega)).2
 ·intro hL;refine⟨(BP h).2 hL.loop,fun a ha b hb=>⟨(BT h ha hb).2 (hL.join a b ?_ ?_),(BK h ha hb).2 (hL.meet a b ?_ ?_)⟩⟩<;>(unfold lev;omega)
end Go.Proofs.YtbchkjfnakabkaaGreatDoor.PC
namespace Go.Proofs.YtbchkjfnakabkaaGreatDoor.PC
open PX
theorem JK{α:Type}{r:α→α→Bool}:∀ {l:List α},Xc r l=true↔l.Pairwise (fun a b=>r a b=true)
 |[]=>by simp[Xc]
 |x::l=>by rw[Xc,Bool.and_eq_true,List.all_eq_true,JK,List.pairwise_cons]
theorem Za6{α:Type}{r:α→α→Bool}(S:∀ {a b},r a b=true→r b a=true){l l':List α}(h:l.Perm l'):Xc r l=Xc r l':=by
 rw[Bool.eq_iff_iff,JK,JK];exact h.pairwise_iff (fun {a b}=>S)
theorem Bf{a b:Vol}(h:Yk a b=true):Yk b a=true:=by
 unfold Yk at h ⊢;rw[Bool.or_comm];exact h
theorem Do{c d:Cfg}(h1:c.levels=d.levels)(h2:c.parts=d.parts):YB c=YB d:=by
 funext w;simp only[YB,Zat,Cfg.prt,Cfg.lvl,h1,h2]
theorem Zhy{α:Type}{l l':List α}(h:l'.Sublist l){f:α→Bool}(k:l.all f=true):l'.all f=true:=by
 rw[List.all_eq_true]at k ⊢;exact fun x hx=>k x (h.subset hx)
theorem ZcS{α:Type}{r:α→α→Bool}{l l':List α}(h:l'.Sublist l)(k:Xc r l=true):Xc r l'=true:=
 JK.2 ((JK.1 k).sublist h)
theorem YJ{c:Cfg}(h:c.fine=true):latB c.levels c.flows=true∧c.partsB=true∧c.windowsB=true∧c.portsB=true∧c.diskB=true∧c.rulesB=true∧c.textsB=true:=by
 simpa only[Cfg.fine,Bool.and_eq_true] using h
theorem DZ{c:Cfg}(h1:latB c.levels c.flows=true)(h2:c.partsB=true)(h3:c.windowsB=true)(h4:c.portsB=true)(h5:c.diskB=true)(h6:c.rulesB=true)(h7:c.textsB=true):c.fine=true:=by
 simp only[Cfg.fine,Bool.and_eq_true];exact⟨h1,h2,h3,h4,h5,h6,h7⟩
theorem ZdM{α:Type}(l:List α){f g:α→Bool}(h:∀ x,f x=true→g x=true):(l.filter f).length≤(l.filter g).length:=by
 induction l with
 |nil=>simp
 |cons x l ih=>
  simp only[List.filter_cons];cases hf:f x
  ·cases hg:g x<;>simp<;>omega
  ·rw[h x hf];simp;exact ih
theorem DK{l l':List Ru}(h:l'.Sublist l):YY l'≤YY l:=by
 refine ZdM _ fun k hk=>?_
 rw[List.any_eq_true]at hk ⊢;obtain⟨x,hx,hk⟩:=hk;exact⟨x,h.subset hx,hk⟩
theorem U8{a a' b b':Int}(h0:0≤a)(ha:a≤a')(hb:b'≤b)(hb':0<b'):upI a b≤upI a' b':=by
 unfold upI;rw[Int.le_ediv_iff_mul_le hb'];have h1:(a+b - 1)/b*b≤a+b - 1:=Int.ediv_mul_le _ (by omega);have h2:0≤(a+b - 1)/b:=Int.ediv_nonneg (by omega) (by omega)
 obtain⟨q,hq⟩:∃ q,(a+b - 1)/b=q:=⟨_,rfl⟩
 rw[hq]at h1 h2 ⊢;rcases(by omega:q=0∨1≤q) with rfl|h3
 ·omega
 ·obtain⟨r,rfl⟩:∃ r,q=r+1:=⟨q - 1,by omega⟩
  have e1:(r+1)*b=r*b+b:=by rw[Int.add_mul,Int.one_mul]
  have e2:(r+1)*b'=r*b'+b':=by rw[Int.add_mul,Int.one_mul]
  have h4:r*b'≤r*b:=Int.mul_le_mul_of_nonneg_left hb (by omega);omega
theorem GC{a b:Int}(ha:0≤a)(hb:0<b):0≤upI a b:=by
 unfold upI;exact Int.ediv_nonneg (by omega) (by omega)
theorem Jh{c:Cfg}(h:c.windowsB=true)(hr:c.rules≠[]):0<c.tk 4 0:=by
 simp only[Cfg.windowsB,Bool.and_eq_true,Bool.or_eq_true]at h;obtain⟨-, -, h|h⟩:=h
 ·exact absurd (List.isEmpty_iff.1 h) hr
 ·exact of_decide_eq_true h
theorem Wk{c:Cfg}(h:c.windowsB=true):0≤c.mostR:=by
 unfold Cfg.mostR;cases hr:c.rules.isEmpty
 ·have hne:c.rules≠[]:=fun e=>by rw[e]at hr;cases hr
  exact GC (by omega) (Jh h hne)
 ·exact Int.le_refl _
theorem ZaH{c:Cfg}{l:List Ru}(hl:l.Sublist c.rules)(h:c.windowsB=true):({ c with rules:=l }:Cfg).need≤c.need:=by
 have hr:({ c with rules:=l }:Cfg).mostR≤c.mostR:=by
  show(if l.isEmpty then(0:Int) else upI (4*(YY l:Int)) (c.tk 4 0))≤c.mostR;cases he:l.isEmpty
  ·have hne:c.rules≠[]:=by
    rintro e;rw[e]at hl;rw[List.sublist_nil.1 hl]at he;cases he
   unfold Cfg.mostR;rw[if_neg (fun e=>hne (List.isEmpty_iff.1 e)),if_neg (by simp)];have:=DK hl;refine U8 ?_ ?_ (Int.le_refl _) (Jh h hne)<;>omega
  ·exact Wk h
 unfold Cfg.need;have:({ c with rules:=l }:Cfg).mostP=c.mostP:=rfl;rw[this];omega
theorem ZaI{c:Cfg}{l:List Ru}(hl:l.Sublist c.rules)(h:c.fine=true):({ c with rules:=l }:Cfg).fine=true:=by
 obtain⟨h1,h2,h3,h4,h5,h6,h7⟩:=YJ h;refine DZ h1 h2 ?_ h4 h5 ?_ h7
 ·simp only[Cfg.windowsB,Bool.and_eq_true,Bool.or_eq_true]at h3 ⊢;refine⟨h3.1,h3.2.1,?_⟩;rcases h3.2.2 with h|h
  ·rw[List.isEmpty_iff.1 h]at hl;exact .inl (by rw[List.sublist_nil.1 hl];rfl)
  ·exact .inr h
 ·simp only[Cfg.rulesB,Bool.and_eq_true,decide_eq_true_eq]at h6 ⊢;exact⟨Nat.le_trans hl.length_le h6.1,Zhy hl h6.2⟩
end Go.Proofs.YtbchkjfnakabkaaGreatDoor.PC
namespace Go.Proofs.YtbchkjfnakabkaaGreatDoor.PC
open PX
def XJ:List Vol→Bool
 |[]=>true
 |[_]=>true
 |x::y::l=>decide (x.first+x.count≤y.first)&&XJ (y::l)
theorem Zd5:∀ {l:List Vol} {x:Vol},(x::l).Pairwise (fun a b=>a.first≤b.first)→(∀v∈x::l,1≤v.count)→XJ (x::l)=true→∀ z∈l,x.first+x.count≤z.first
 |[],x,_,_,_=>fun z hz=>by cases hz
 |y::l,x,hs,hc,h=>by
  simp only[XJ,Bool.and_eq_true,decide_eq_true_eq]at h;intro z hz;rcases List.mem_cons.1 hz with rfl|hz
  ·exact h.1
  ·have:=(List.pairwise_cons.1 (List.pairwise_cons.1 hs).2).1 z hz;omega
theorem G1:∀ {l:List Vol},l.Pairwise (fun a b=>a.first≤b.first)→(∀v∈l,1≤v.count)→XJ l=Xc Yk l
 |[],_,_=>rfl
 |[x],_,_=>rfl
 |x::y::l,hs,hc=>by
  have ih:=G1 (List.pairwise_cons.1 hs).2 (fun v hv=>hc v (List.mem_cons_of_mem x hv));rw[XJ,Xc,ih,Bool.eq_iff_iff,Bool.and_eq_true,Bool.and_eq_true,decide_eq_true_eq];constructor
  ·rintro⟨h1,h2⟩;refine⟨List.all_eq_true.2 fun z hz=>?_,h2⟩;have:=Zd5 hs hc (by rw[XJ,ih,h2,decide_eq_true h1];rfl) z hz;unfold Yk;rw[decide_eq_true this];rfl
  ·rintro⟨h1,h2⟩;refine⟨?_,h2⟩;have h3:=List.all_eq_true.1 h1 y List.mem_cons_self;have h4:=(List.pairwise_cons.1 hs).1 y List.mem_cons_self;have h5:=hc y (by simp);unfold Yk at h3;simp only[Bool.or_eq_true,decide_eq_true_eq]at h3;omega
def fst(l:List Vol)(i:Nat):Int:=((l[i]?).map Vol.first).getD 0
def ZhB(l:List Vol)(i:Nat):Prop:=∀ a b,a<b→b<i→fst l a≤fst l b
theorem Gs{l:List Vol}(h:ZhB l l.length):l.Pairwise (fun a b=>a.first≤b.first):=by
 rw[List.pairwise_iff_getElem];intro i j hi hj hij;have:=h i j hij hj;unfold fst at this;rw[List.getElem?_eq_getElem hi,List.getElem?_eq_getElem hj]at this;exact this
theorem Zaa{l m:List Vol}(hp:m.Perm l)(hs:ZhB m m.length)(hc:∀ v∈l,1≤v.count):XJ m=Xc Yk l:=by
 rw[G1 (Gs hs) (fun v hv=>hc v (hp.mem_iff.1 hv)),Za6 Bf hp]
theorem G0:∀ (l:List Vol) (k:Nat),k+1<l.length→XJ (l.take (k+2))=(XJ (l.take (k+1))&&decide ((l[k]?.map fun v=>v.first+v.count).getD 0≤fst l (k+1)))
 |[],k,h=>by simp at h
 |[x],k,h=>by simp at h
 |x::y::l,0,_=>by simp[XJ,fst]
 |x::y::l,k+1,h=>by
  have ih:=G0 (y::l) k (by simpa using h);have e1:(x::y::l).take (k+1+2)=x::y::l.take (k+1):=rfl;have e2:(x::y::l).take (k+1+1)=x::y::l.take k:=rfl;have e3:(y::l).take (k+2)=y::l.take (k+1):=rfl;have e4:(y::l).take (k+1)=y::l.take k:=rfl;rw[e3,e4]at ih;rw[e1,e2,XJ,XJ,ih,Bool.and_assoc];rfl
end Go.Proofs.YtbchkjfnakabkaaGreatDoor.PC
namespace Go.Proofs.YtbchkjfnakabkaaGreatDoor.PC
open PX
theorem Eh{l:List Int}{m:Int}(h0:0≤m)(h:∀ x∈l,x≤m):Wq l≤m:=by
 induction l with
 |nil=>exact h0
 |cons x l ih=>
  simp only[Wq];exact Int.max_le.2 ⟨h x (List.mem_cons_self ..),ih fun y hy=>h y (List.mem_cons_of_mem _ hy)⟩
theorem Ej{l:List Int}{x:Int}(h:x∈l):x≤Wq l:=by
 induction l with
 |nil=>cases h
 |cons y l ih=>
  simp only[Wq];rcases List.mem_cons.1 h with rfl|h
  ·exact Int.le_max_left ..
  ·exact Int.le_trans (ih h) (Int.le_max_right ..)
theorem X5:∀ (l:List Int),0≤Wq l
 |[]=>Int.le_refl _
 |x::l=>Int.le_trans (X5 l) (Int.le_max_right ..)
def JL(W:List Win)(l:List Prt):Int:=Wq (l.map fun p=>upI (cntL l p.level) (sumT W 2 p.level))
theorem Za9(c:Cfg):JL c.windows c.parts=c.mostP:=rfl
theorem Un(l:List Prt)(p:Prt)(n:Int):cntL (l++[p]) n=cntL l n+(if p.level=n then 1 else 0):=by
 unfold cntL;rw[List.filter_append,List.length_append];by_cases h:p.level=n
 ·rw[if_pos h];simp[h]
 ·rw[if_neg h];simp[h]
theorem ZdZ(l:List Prt)(p:Prt)(n:Int):cntL l n≤cntL (l++[p]) n:=by rw[Un];omega
theorem Zd0(l:List Prt)(n:Int):cntL l n≤l.length:=by unfold cntL;exact List.length_filter_le ..
theorem DO(W:List Win)(l:List Prt)(p:Prt)(h:∀ q∈l++[p],0<sumT W 2 q.level) :
 JL W (l++[p])=max (JL W l) (upI (cntL (l++[p]) p.level) (sumT W 2 p.level)):=by
 have hp:=h p (by simp);apply Int.le_antisymm
 ·refine Eh ?_ ?_
  ·exact Int.le_trans (X5 _) (Int.le_max_left ..)
  ·intro x hx;obtain⟨q,hq,rfl⟩:=List.mem_map.1 hx;rcases List.mem_append.1 hq with hq'|hq'
   ·by_cases e:p.level=q.level
    ·rw[←e];exact Int.le_max_right ..
    ·refine Int.le_trans ?_ (Int.le_max_left ..);rw[Un,if_neg e,Nat.add_zero];exact Ej (List.mem_map.2 ⟨q,hq',rfl⟩)
   ·rw[List.mem_singleton.1 hq'];exact Int.le_max_right ..
 ·refine Int.max_le.2 ⟨Eh (X5 _) ?_,Ej (List.mem_map.2 ⟨p,by simp,rfl⟩)⟩;intro x hx;obtain⟨q,hq,rfl⟩:=List.mem_map.1 hx;refine Int.le_trans ?_ (Ej (List.mem_map.2 ⟨q,List.mem_append_left _ hq,rfl⟩));refine U8 (by omega) ?_ (Int.le_refl _) (h q (List.mem_append_left _ hq));have:=ZdZ l p q.level;omega
theorem pairB_snoc{α:Type}(r:α→α→Bool):∀ (l:List α) (x:α),Xc r (l++[x])=(Xc r l&&l.all fun y=>r y x)
 |[],x=>by simp[Xc]
 |y::l,x=>by
  simp only[List.cons_append,Xc,pairB_snoc r l x,List.all_append,List.all_cons,List.all_nil,Bool.and_true];cases l.all (r y)<;>cases r y x<;>cases Xc r l<;>simp
theorem Qj{α:Type}{r:α→α→Bool}{l:List α}(j:Nat)(h:Xc r (l.take j)=false):Xc r l=false:=by
 rw[Bool.eq_false_iff]at h ⊢;exact fun k=>h (ZcS (List.take_sublist j l) k)
theorem Zx{α:Type}{l:List α}{j:Nat}(h:j<l.length):l.take (j+1)=l.take j++[l[j]]:=by
 rw[List.take_succ_eq_append_getElem h]
theorem UI(W:List Win):∀ (l m:List Prt) (i:Nat),Z4 W i (l++m)=(Z4 W i l&&Z4 W (i+l.length) m)
 |[],m,i=>by simp[Z4]
 |p::l,m,i=>by
  simp only[List.cons_append,Z4,UI W l m (i+1),List.length_cons];rw[show i+1+l.length=i+(l.length+1) by omega];simp only[Bool.and_assoc]
def ZdF(W:List Win)(i:Nat)(p:Prt):Bool:=hasT W 1 i&&(hasT W 2 p.level&&hasT W 3 p.level)
theorem DU(W:List Win)(l:List Prt)(p:Prt):Z4 W 0 (l++[p])=(Z4 W 0 l&&ZdF W l.length p):=by
 rw[UI];simp[Z4,ZdF]
theorem Y6{W:List Win}{l:List Prt}{j:Nat}(h:Z4 W 0 (l.take j)=false):Z4 W 0 l=false:=by
 have e:l=l.take j++l.drop j:=(List.take_append_drop j l).symm;rw[e,UI,h,Bool.false_and]
theorem UZ{W:List Win}:∀ {l:List Prt} {i:Nat},Z4 W i l=true→∀ q∈l,0<sumT W 2 q.level
 |[],_,_,q,hq=>by cases hq
 |p::l,i,h,q,hq=>by
  simp only[Z4,Bool.and_eq_true]at h;rcases List.mem_cons.1 hq with rfl|hq
  ·exact of_decide_eq_true h.1.2.1
  ·exact UZ h.2 q hq
theorem ZcZ{α β:Type}{f:α→β}{l:List α}(hf:∀ a∈l,∀b∈l,f a=f b→a=b)(h:l.Nodup):(l.map f).Nodup:=
 List.pairwise_map.2 (h.imp_of_mem fun ha hb hne e=>hne (hf _ ha _ hb e))
def JR(k:Nat):Int × Int:=(((k/8:Nat):Int),((k%8:Nat):Int))
theorem DI{β:Type}(l:List Ru)(K:List β)(f:Int × Int→β)(hn:K.Nodup)(hl:∀ r∈l,lev 8 r.fr∧lev 8 r.tu)
 (hf:∀ a b:Int × Int,lev 8 a.1→lev 8 a.2→lev 8 b.1→lev 8 b.2→f a=f b→a=b) (hm:∀ y,y∈K↔∃ r∈l,f (r.fr,r.tu)=y):K.length=YY l:=by
 unfold YY;rw[←List.length_map (f:=fun k=>f (JR k))];refine List.Perm.length_eq ((List.perm_ext_iff_of_nodup hn ?_).2 ?_)
 ·refine ZcZ ?_ (List.Pairwise.filter _ List.nodup_range);intro a ha b hb e;have ha':a<64:=by simpa using (List.mem_filter.1 ha).1
  have hb':b<64:=by simpa using (List.mem_filter.1 hb).1
  have:=hf (JR a) (JR b) (by unfold JR lev;constructor<;>simp<;>omega) (by unfold JR lev;constructor<;>simp<;>omega) (by unfold JR lev;constructor<;>simp<;>omega) (by unfold JR lev;constructor<;>simp<;>omega) e;unfold JR at this;have e1:=(Prod.mk.inj this).1;have e2:=(Prod.mk.inj this).2;omega
 ·intro y;rw[hm,List.mem_map];constructor
  ·rintro⟨r,hr,rfl⟩;obtain⟨⟨a0,a1⟩,b0,b1⟩:=hl r hr;refine⟨r.fr.toNat*8+r.tu.toNat,List.mem_filter.2 ⟨by simp;omega,?_⟩,?_⟩
   ·rw[List.any_eq_true];refine⟨r,hr,?_⟩;rw[Bool.and_eq_true,decide_eq_true_eq,decide_eq_true_eq];constructor<;>omega
   ·have:JR (r.fr.toNat*8+r.tu.toNat)=(r.fr,r.tu):=by
     unfold JR;refine Prod.ext ?_ ?_<;>simp<;>omega
    rw[this]
  ·rintro⟨k,hk,rfl⟩;have hk2:=(List.mem_filter.1 hk).2;rw[List.any_eq_true]at hk2;obtain⟨r,hr,h⟩:=hk2;rw[Bool.and_eq_true,decide_eq_true_eq,decide_eq_true_eq]at h;refine⟨r,hr,?_⟩;unfold JR;rw[h.1,h.2]
end Go.Proofs.YtbchkjfnakabkaaGreatDoor.PC
namespace Go.Proofs.YtbchkjfnakabkaaGreatDoor.PC
open PX
def U4:List Win→List Win→Prop
 |[],[]=>True
 |a::l,b::m=>(a.kind=b.kind∧a.index=b.index∧a.ticks≤b.ticks∧b.ticks≤255)∧U4 l m
 |_,_=>False
theorem Wn:∀ {l m:List Win},U4 l m→l.length=m.length
 |[],[],_=>rfl
 |_::_,_::_,h=>by simp[Wn h.2]
 |[],_::_,h=>h.elim
 |_::_,[],h=>h.elim
theorem V6:∀ {l m:List Win} (k i:Int),U4 l m→sumT l k i≤sumT m k i
 |[],[],_,_,_=>Int.le_refl _
 |a::l,b::m,k,i,h=>by
  have ih:=V6 k i h.2;obtain⟨h1,h2,h3,h4⟩:=h.1;simp only[sumT,h1,h2];by_cases e:b.kind=k∧b.index=i
  ·rw[if_pos e,if_pos e];omega
  ·rw[if_neg e,if_neg e];omega
 |[],_::_,_,_,h=>h.elim
 |_::_,[],_,_,h=>h.elim
theorem Wo{c d:Cfg}(e:YB d=YB c):∀ {l m:List Win},U4 l m→l.all (YB c)=true→m.all (YB d)=true
 |[],[],_,_=>rfl
 |a::l,b::m,h,k=>by
  rw[List.all_cons,Bool.and_eq_true]at k ⊢;refine⟨?_,Wo e h.2 k.2⟩;obtain⟨h1,h2,h3,h4⟩:=h.1;have ka:=k.1;rw[e];unfold YB at ka ⊢;rw[Bool.and_eq_true,ZR]at ka ⊢;rw[←h1,←h2];exact⟨ka.1,by omega,h4⟩
 |[],_::_,h,_=>h.elim
 |_::_,[],h,_=>h.elim
theorem Ud{l m:List Win}(h:U4 l m){k i:Int}(q:hasT l k i=true):hasT m k i=true:=by
 unfold hasT at q ⊢;have:=V6 k i h;rw[decide_eq_true_eq]at q ⊢;omega
theorem E9{l m:List Win}(h:U4 l m):∀ (p:List Prt) (i:Nat),Z4 l i p=true→Z4 m i p=true
 |[],_,_=>rfl
 |q::p,i,k=>by
  simp only[Z4,Bool.and_eq_true]at k ⊢;exact⟨⟨Ud h k.1.1,Ud h k.1.2.1,Ud h k.1.2.2⟩,E9 h p (i+1) k.2⟩
theorem Wl{c:Cfg}{W:List Win}(h:U4 c.windows W)(k:c.windowsB=true):({ c with windows:=W }:Cfg).windowsB=true:=by
 simp only[Cfg.windowsB,Bool.and_eq_true,Bool.or_eq_true]at k ⊢;obtain⟨⟨k1,k2⟩,k3,k4⟩:=k;refine⟨⟨?_,Wo (Do rfl rfl) h k2⟩,E9 h _ _ k3,?_⟩
 ·rw[←Wn h];exact k1
 ·rcases k4 with k4|k4
  ·exact .inl k4
  ·exact .inr (Ud h k4)
theorem Zc4{c:Cfg}{W:List Win}(h:U4 c.windows W)(k:c.fine=true):({ c with windows:=W }:Cfg).fine=true:=by
 obtain⟨h1,h2,h3,h4,h5,h6,h7⟩:=YJ k;exact DZ h1 h2 (Wl h h3) h4 h5 h6 h7
theorem EQ{c:Cfg}(h:c.windowsB=true):∀ q∈c.parts,0<sumT c.windows 2 q.level:=by
 simp only[Cfg.windowsB,Bool.and_eq_true]at h;exact UZ h.2.1
theorem Zc3{c:Cfg}{W:List Win}(h:U4 c.windows W)(k:c.windowsB=true):({ c with windows:=W }:Cfg).need≤c.need:=by
 have hp:({ c with windows:=W }:Cfg).mostP≤c.mostP:=by
  refine Eh (X5 _) ?_;intro x hx;obtain⟨q,hq,rfl⟩:=List.mem_map.1 hx;refine Int.le_trans ?_ (Ej (List.mem_map.2 ⟨q,hq,rfl⟩));exact U8 (by omega) (Int.le_refl _) (V6 2 q.level h) (EQ k q hq)
 have hr:({ c with windows:=W }:Cfg).mostR≤c.mostR:=by
  unfold Cfg.mostR;cases he:c.rules.isEmpty
  ·have hne:c.rules≠[]:=fun e=>by rw[e]at he;cases he
   rw[if_neg (by simp),if_neg (by simp)];exact U8 (by omega) (Int.le_refl _) (V6 4 0 h) (Jh k hne)
  ·rw[if_pos rfl,if_pos rfl];exact Int.le_refl _
 unfold Cfg.need;omega
theorem Qo{c:Cfg}:2≤c.need:=by
 unfold Cfg.need;have:0≤c.mostP:=X5 _;omega
theorem UE:∀ {l:List Win},(∀w∈l,w.ticks≤255)→U4 l l
 |[],_=>trivial
 |a::l,h=>⟨⟨rfl,rfl,Int.le_refl _,h a (List.mem_cons_self ..)⟩,UE fun w hw=>h w (List.mem_cons_of_mem _ hw)⟩
theorem Wm:∀ {l:List Win} (k:Nat) (hk:k<l.length),(∀w∈l,w.ticks≤255)→l[k].ticks<255→U4 l (l.set k ⟨l[k].kind,l[k].index,l[k].ticks+1⟩)
 |a::l,0,_,h,h2=>by
  simp only[List.getElem_cons_zero,List.set_cons_zero]at h2 ⊢;exact⟨⟨rfl,rfl,(show a.ticks≤a.ticks+1 by omega),(show a.ticks+1≤255 by omega)⟩,UE fun w hw=>h w (List.mem_cons_of_mem _ hw)⟩
 |a::l,k+1,hk,h,h2=>by
  simp only[List.getElem_cons_succ,List.set_cons_succ]at h2 ⊢;exact⟨⟨rfl,rfl,Int.le_refl _,h a (List.mem_cons_self ..)⟩,Wm k _ (fun w hw=>h w (List.mem_cons_of_mem _ hw)) h2⟩
theorem Zbq{c:Cfg}(h:c.windowsB=true):∀ w∈c.windows,1≤w.ticks∧w.ticks≤255:=by
 simp only[Cfg.windowsB,Bool.and_eq_true]at h;intro w hw;have:=List.all_eq_true.1 h.1.2 w hw;unfold YB at this;rw[Bool.and_eq_true,ZR]at this;exact this.2
end Go.Proofs.YtbchkjfnakabkaaGreatDoor.PC
namespace Go.Proofs.YtbchkjfnakabkaaGreatDoor.PC
open PX
def ZH:Cfg:=⟨2,[(0,1)],[⟨0,1⟩,⟨1,1⟩],[⟨1,0,4⟩,⟨1,1,4⟩,⟨2,0,1⟩,⟨2,1,1⟩,⟨3,0,1⟩,⟨3,1,1⟩],[],[⟨0,0,12,8⟩,⟨1,12,12,8⟩],⟨0,24,12,8⟩,36,38,[],[⟨#[97]⟩,⟨#[98]⟩],⟨#[112,119]⟩,3,3⟩
theorem Jp:ZH.laid=true:=by decide +kernel
theorem Zg9:ZH.bytes.take 12=[67,83,84,49,2,1,0,1,2,0,1,1]:=by decide +kernel
theorem Zg6:(Ye (ZH.bytes++[120])).isNone=true:=by decide +kernel
theorem Zia:Lat 2 [(0,1)]:=by
 have hl:∀ p∈[((0:Int),(1:Int))],lev (2:Nat) p.1∧lev (2:Nat) p.2:=by
  intro p hp;simp only[List.mem_singleton]at hp;subst hp;unfold lev;omega
 have hr:=VH (n:=2) (by omega) [((0:Int),(1:Int))] (JQ 2) (X7 2 (by omega)) hl;have hL:=WD (n:=2) (U:=YO (JQ 2) [(0,1)]) (by omega) (by omega) hl hr (by decide +kernel) (Ey (by omega) hl) (GF (by omega) hl);refine(ZcX hL (by simp)).1 ⟨?_,?_⟩
 ·intro a ha;have:a=0∨a=1:=by omega
  rcases this with rfl|rfl<;>decide +kernel
 ·intro a ha b hb;have h1:a=0∨a=1:=by omega
  have h2:b=0∨b=1:=by omega
  rcases h1 with rfl|rfl<;>rcases h2 with rfl|rfl
  ·exact⟨⟨0,by omega,by decide +kernel⟩,⟨0,by omega,by decide +kernel⟩⟩
  ·exact⟨⟨1,by omega,by decide +kernel⟩,⟨0,by omega,by decide +kernel⟩⟩
  ·exact⟨⟨1,by omega,by decide +kernel⟩,⟨0,by omega,by decide +kernel⟩⟩
  ·exact⟨⟨1,by omega,by decide +kernel⟩,⟨1,by omega,by decide +kernel⟩⟩
theorem ZdQ:ZH.fine=true:=by
 have h1:latB ZH.levels ZH.flows=true:=Y1.2 Zia;have h2:ZH.partsB=true:=by decide +kernel
 have h3:ZH.windowsB=true:=by decide +kernel
 have h4:ZH.portsB=true:=by simp[Cfg.portsB,ZH]
 have h5:ZH.diskB=true:=by decide +kernel
 have h6:ZH.rulesB=true:=by simp[Cfg.rulesB,ZH]
 have h7:ZH.textsB=true:=by decide +kernel
 unfold Cfg.fine;rw[h1,h2,h3,h4,h5,h6,h7];rfl
theorem ZdP:ZH.need=3:=by decide +kernel
theorem Zfx:ZH.checkB=true:=by
 unfold Cfg.checkB;rw[ZdQ,ZdP];decide
theorem Zfw:ZH.needB=3:=by
 unfold Cfg.needB;rw[ZdQ,ZdP];rfl
theorem Zg7:({ ZH with bound:=2 }:Cfg).checkB=false:=by
 have:({ ZH with bound:=2 }:Cfg).need=3:=by decide +kernel
 unfold Cfg.checkB;rw[this];have:inB ({ ZH with bound:=2 }:Cfg).bound 3 65535=false:=by decide
 rw[this];simp
theorem Zha:({ ZH with boot:=35 }:Cfg).checkB=false:=by
 have:({ ZH with boot:=35 }:Cfg).diskB=false:=by decide +kernel
 unfold Cfg.checkB Cfg.fine;rw[this];simp
def Vb:Cfg:=⟨0,[],[],[],[],[],⟨0,0,0,0⟩,0,0,[],[],⟨#[]⟩,0,0⟩
theorem GW:Vb.fine=false:=by
 have:latB Vb.levels Vb.flows=false:=by
  rw[Bool.eq_false_iff];intro h;have:=(Y1.1 h).lo;simp[Vb]at this
 unfold Cfg.fine;rw[this];rfl
theorem D1:Vb.checkB=false:=by unfold Cfg.checkB;rw[GW];rfl
theorem Zbs:Vb.needB=0:=by unfold Cfg.needB;rw[GW];rfl
end Go.Proofs.YtbchkjfnakabkaaGreatDoor.PC
namespace Go.Proofs.YtbchkjfnakabkaaGreatDoor.PC
open PX
end Go.Proofs.YtbchkjfnakabkaaGreatDoor.PC
