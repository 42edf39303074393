import Derived.Test.YtbchkjfnakabkaaGreatDoorY23
import Derived.Test.YtbchkjfnakabkaaGreatDoorR1b
set_option linter.unusedSimpArgs false
set_option linter.unusedVariables false
set_option maxHeartbeats 8000000
set_option maxRecDepth 100000
namespace Go.Proofs.YtbchkjfnakabkaaGreatDoor
open Go.RowKit PX PC
def PrAt(w:World)(pb:Nat)(S:ByteArray)(lost:Bool):Prop:=w.heap[pb]?=some (.cells #[.string S,.bool lost] 69 (0,0))
def IsPb(pb:Nat)(k:Nat):Prop:=k=pb
abbrev Zp(pb:Nat)(w w':World):Prop:=Only (IsPb pb) w w'
theorem PrAt.lt{w:World}{pb:Nat}{S:ByteArray}{b:Bool}(h:PrAt w pb S b):pb<w.heap.size:=Zb h
theorem PrAt.later{w w':World}{pb:Nat}{S:ByteArray}{b:Bool}(h:PrAt w pb S b)(hl:Later w w'):PrAt w' pb S b:=hl.block h
theorem PrAt.cells{w:World}{pb:Nat}{S:ByteArray}{b:Bool}(h:PrAt w pb S b):w.cell? ⟨pb,0,none⟩=some (.string S)/\w.cell? ⟨pb,1,none⟩=some (.bool b)/\w.frozen? ⟨pb,0,none⟩=false/\w.frozen? ⟨pb,1,none⟩=false:=
 ⟨Za h 0,Za h 1,Zc h 0,Zc h 1⟩
theorem PrAt.lose{w:World}{pb:Nat}{S:ByteArray}{b:Bool}(h:PrAt w pb S b)(c:Bool):PrAt (w.setCell ⟨pb,1,none⟩ (.bool c)) pb S c:=Zf h 1 _
theorem PrAt.say{w:World}{pb:Nat}{S:ByteArray}{b:Bool}(h:PrAt w pb S b)(T:ByteArray):PrAt (w.setCell ⟨pb,0,none⟩ (.string T)) pb T b:=Zf h 0 _
theorem Only.later{r:Nat->Prop}{a b c:World}(h:Only r a b)(k:Later b c):Only r a c:=by
 refine⟨k.os.trans h.os,k.tape.trans h.tape,k.output.trans h.output,Nat.le_trans h.size k.size,λq hq hr=>?_⟩;exact(Below.block k q (Nat.lt_of_lt_of_le hq h.size)).trans (h.block q hq hr)
theorem Later.undrew{a b:World}(h:Later a.drew b):Later a b:=UC h
theorem Only.thenP{pb:Nat}{a b c:World}(h:Zp pb a b)(k:Zp pb b c):Zp pb a c:=h.trans (k.mono λq _ hq=>.inl hq)
theorem Xk(a b c:ByteArray):a++b++c=a++(b++c):=QX (by simp only[Dx,List.append_assoc])
def Z9(k:Nat)(ns:List Int):ByteArray:=bytesOf (Z0 k ns)
theorem XZ(k:Nat):∀ ns:List Int,(Z0 k ns).length=k*ns.length
 |[]=>by simp[Z0]
 |n::l=>by simp[Z0,XZ k l,XK,Nat.mul_add];omega
theorem Xg(k:Nat)(ns:List Int):(Z9 k ns).size=k*ns.length:=by
 show(Z0 k ns).toArray.size=_;rw[List.size_toArray,XZ]
theorem WK(k:Nat):∀ (a b:List Int),Z0 k (a++b)=Z0 k a++Z0 k b
 |[],_=>rfl
 |n::l,b=>by simp only[List.cons_append,Z0,WK k l b,List.append_assoc]
theorem ZbG(k:Nat)(a:List Int)(n:Int):Z9 k (a++[n])=Z9 k a++putS n k:=by
 refine QX ?_;rw[Dx,WE];show Z0 k (a++[n])=Z0 k a++putI n k;rw[WK];simp[Z0]
theorem GC(k:Nat):∀ (a:List Int) (n:Int),Zt k (a++[n])=(Zt k a&&Yq k n)
 |[],n=>by simp[Zt]
 |m::l,n=>by simp[Zt,GC k l n,Bool.and_assoc]
theorem Zi2(S:ByteArray)(k:Nat):S++Z9 k []=S:=QX (by rw[Dx];simp[Z9,bytesOf,Z0])
theorem Zb3(L:Bool)(n M:Int):(L=true/\(L || !decide (0<=n/\n<M))=true)\/(L=false/\decide (n<0)=true/\(L || !decide (0<=n/\n<M))=true) \/
 (L=false/\decide (n<0)=false/\decide (M<=n)=true/\(L || !decide (0<=n/\n<M))=true)\/(L=false/\decide (n<0)=false/\decide (M<=n)=false/\(L || !decide (0<=n/\n<M))=false):=by
 cases L
 ·by_cases h0:0<=n
  ·by_cases h1:n<M
   ·exact .inr (.inr (.inr ⟨rfl,decide_eq_false (by omega),decide_eq_false (by omega),by simp[h0,h1]⟩))
   ·exact .inr (.inr (.inl ⟨rfl,decide_eq_false (by omega),decide_eq_true (by omega),by simp;omega⟩))
  ·exact .inr (.inl ⟨rfl,decide_eq_true (by omega),by simp;omega⟩)
 ·exact .inl ⟨rfl,rfl⟩
theorem Zgr(w:World)(pb:Nat)(S:ByteArray)(lost:Bool)(hp:PrAt w pb S lost)(k:Nat)(K:Int)(hkK:(k=1/\K=1)\/(k=2/\K=2))(ns:List Int)(g o cap:Nat)(hg:g≠pb)(f2:g<w.heap.size)(h64:∀ n∈ns,I64 n)
 (hc:∀ (i:Nat) n,ns[i]?=some n->w.cell? ⟨g,o+i,none⟩=some (.int .i64 n)) (hz:S.size+2*ns.length<=4611686018427387904) :
 Calls Tryz.prog 30 #[.pointer (some ⟨pb,0,none⟩),.int .i64 K,.slice (some ⟨g,o,none⟩) ns.length cap] w λe w'=>e=.returned (.tuple #[])/\PrAt w' pb (S++Z9 k ns) (lost || !Zt k ns)/\Zp pb w w':=by
 have d2:=Hd hkK;have hk:k=1\/k=2:=by omega
 clear hkK;have HP:=Hd hp;have HC:=Hd hc;have Z2:=Hd h64;have z0:=hp.lt;clear hp hc h64;have hlen:ns.length<=4611686018427387904:=by omega
 go_enter Tryz.func30,Tryz.ntmps30
 go_wp2_with fail
 go_loopw [10] (λvi wr=>∃ j:Nat,j<=ns.length/\vi=.int .i64 j/\PrAt wr pb (S++Z9 k (ns.take j)) (lost || !Zt k (ns.take j))/\Zp pb w wr) (λvi _=>ns.length - (intOf vi).toNat)
 case atStart=>exact⟨0,by omega,by simp,by simpa [Zi2,Zt] using HP.out,Only.refl _ _⟩
 case round=>
  obtain⟨j,hj,rfl,a0,hon⟩:=hrel;by_cases i0:j<ns.length
  ·obtain⟨n,hn⟩:∃ n,ns[j]?=some n:=⟨_,List.getElem?_eq_getElem i0⟩
   have e0:ns.take (j+1)=ns.take j++[n]:=by
    rw[List.take_add_one,hn];rfl
   have hI:=Z2.out n (List.mem_of_getElem? hn);have hcell:wr.cell? ⟨g,o+j,none⟩=some (.int .i64 n):=(hon.cell (p:=⟨g,o+j,none⟩) f2 hg).trans (HC.out j n hn)
   obtain⟨M,hM⟩:∃ M:Int,(256:Int) ^ k=M:=⟨_,rfl⟩
   have HL:Hid ((lost || !Zt k (ns.take (j+1)))=((lost || !Zt k (ns.take j)) || !decide (0≤n∧n<M))):=Hd (by
    rw[e0,GC,Yq,hM]
    cases lost<;>cases Zt k (ns.take j)<;>rfl)
   have HS:Hid (S++Z9 k (ns.take (j+1))=(S++Z9 k (ns.take j))++putS n k):=Hd (by rw[e0,ZbG,Xk])
   have g0:(S++Z9 k (ns.take j)).size<=4611686018427387904:=by
    rw[ByteArray.size_append,Xg,List.length_take];rcases hk with rfl|rfl<;>omega
   obtain⟨L,hL⟩:∃ L,(lost || !Zt k (ns.take j))=L:=⟨_,rfl⟩
   obtain⟨Sj,hSj⟩:∃ Sj,S++Z9 k (ns.take j)=Sj:=⟨_,rfl⟩
   rw[hL]at a0 HL;rw[hSj]at a0 HS g0;have y0:=Hd hon;have o2:=WD n k;have j1:=Hd (λw1=>Zh2 w1 n hI k K (by have:=d2.out;omega) (by omega) (by omega))
   obtain⟨P,hP⟩:∃ P,putS n k=P:=⟨_,rfl⟩
   rw[hP]at HS j1 o2;have C2:P.size<=2:=by rcases hk with rfl|rfl<;>omega
   have o1:=Hd (show ¬9223372036854775807<Sj.size+P.size by omega);obtain⟨hI1,hI2⟩:=hI;clear hL hSj hon e0 hn o2 hP g0 C2
   have q2:(K=1/\M=256)\/(K=2/\M=65536):=by
    rcases d2.out with⟨rfl,rfl⟩|⟨rfl,rfl⟩
    ·exact .inl ⟨rfl,hM.symm⟩
    ·exact .inr ⟨rfl,hM.symm⟩
   clear hk hM;have b1:=Zb3 L n M
   obtain⟨b',hb'⟩:∃ b',(L || !decide (0<=n/\n<M))=b':=⟨_,rfl⟩
   rw[hb']at b1 HL;clear hb';obtain⟨hc0,hc1,hf0,hf1⟩:=a0.cells;have f0:=Hd a0;clear a0;rcases q2 with⟨rfl,rfl⟩|⟨rfl,rfl⟩
   all_goals
    rcases b1 with⟨rfl,hB⟩|⟨rfl,hn0,hB⟩|⟨rfl,hn0,hn1,hB⟩|⟨rfl,hn0,hn1,hB⟩
    all_goals
     rw[hB]at HL;clear hB
     go_upto_region 4 with fail
     first
      |(obtain⟨w2,hw2⟩:∃ w2,wr.setCell ⟨pb,1,none⟩ (.bool true)=w2:=⟨_,rfl⟩;rw[hw2];have m0:=f0.out.lose true)
      |(obtain⟨w2,hw2⟩:∃ w2,wr.setCell ⟨pb,1,none⟩ (.bool false)=w2:=⟨_,rfl⟩;rw[hw2];have m0:=f0.out.lose false)
     rw[hw2]at m0;have K0:Zp pb w w2:=by rw[<-hw2];exact y0.out.setCell (.inl (show IsPb pb pb from rfl)) _
     have N0:=Hd K0;clear hw2 K0 hc0 hc1 hf0 hf1;have M0:=Hd m0;obtain⟨hc0,hc1,hf0,hf1⟩:=m0.cells;have E1:=m0.lt;have t2:=o1.out;clear m0
     go_region_with (go_at_call 78;(with_reducible refine(j1.out _).mono ?_);rintro e w3 ⟨rfl,I0⟩;have z1:=Later.undrew I0;have W0:=M0.out.later z1;have l1:=N0.out.later z1;clear z1;have t1:=Hd W0;have W1:=Hd l1;obtain⟨kc0,kc1,kf0,kf1⟩:=W0.cells;clear W0 l1)
     all_goals
      go_wp2_with fail
      refine⟨⟨j+1,by omega,by simp,?_,?_⟩,by simp only[intOf];omega⟩
      ·rw[HS.out,HL.out];exact t1.out.say _
      ·exact W1.out.setCell (.inl (show IsPb pb pb from rfl)) _
  ·obtain rfl:j=ns.length:=by omega
   rw[List.take_of_length_le (Nat.le_refl _)]at a0
   go_wp2_with fail
   go_end0
   exact⟨rfl,a0,hon⟩
end Go.Proofs.YtbchkjfnakabkaaGreatDoor
namespace Go.Proofs.YtbchkjfnakabkaaGreatDoor
open Go.RowKit PX PC
def Zy(pb:Nat)(T:ByteArray)(b:Bool)(w:World)(e:Ending)(w':World):Prop:=e=.returned (.tuple #[])/\PrAt w' pb T b/\Zp pb w w'
theorem Xa(w:World)(pb:Nat)(S:ByteArray)(lost:Bool)(hp:PrAt w pb S lost)(k:Nat)(K:Int)(hkK:(k=1/\K=1)\/(k=2/\K=2))(ns:List Int)(g cap:Nat)(C:Array Value)(t:TypeId)(hg:w.heap[g]?=some (.cells C t (0,0)))
 (hC:C=(ns.map λn=>Value.int .i64 n).toArray) (hne:g≠pb) (h64:∀ n∈ns,I64 n) (n:Nat) (hn:ns.length=n) (hz:S.size+2*ns.length<=4611686018427387904) :
 Calls Tryz.prog 30 #[.pointer (some ⟨pb,0,none⟩),.int .i64 K,.slice (some ⟨g,0,none⟩) n cap] w (Zy pb (S++Z9 k ns) (lost || !Zt k ns) w):=by
 subst hn;refine Zgr w pb S lost hp k K hkK ns g 0 cap hne (Zb hg) h64 (λi n hi=>?_) hz;rw[Nat.zero_add,Za hg i,hC];simp[hi]
theorem Dh(L A:Bool):(L=true/\(L || !A)=true)\/(L=false/\A=true/\(L || !A)=false)\/(L=false/\A=false/\(L || !A)=true):=by cases L<;>cases A<;>simp
theorem Ux(w:World)(pb:Nat)(S:ByteArray)(lost:Bool)(hp:PrAt w pb S lost)(s:ByteArray)(hs:s.size<=9223372036854775807)(hz:S.size<=4611686018427387904) :
 Calls Tryz.prog 43 #[.pointer (some ⟨pb,0,none⟩),.string s] w (Zy pb (S++VC s) (lost || !XC s) w):=by
 have HP:=Hd hp;have HT:=Hd (Dp w s hs);have y2:=Vk s;have o1:=Hd (show ¬9223372036854775807<S.size+(VC s).size by omega);have hf:=Dh lost (XC s)
 obtain⟨b,hb⟩:∃ b,(lost || !XC s)=b:=⟨_,rfl⟩
 rw[hb]at hf ⊢
 obtain⟨T,hT⟩:∃ T,VC s=T:=⟨_,rfl⟩
 rw[hT]at HT o1 ⊢
 obtain⟨q,hq⟩:∃ q:Int,(if s.size<=1024 then(0:Int) else 11)=q:=⟨_,rfl⟩
 rw[hq]at HT
 have F2:(lost=true/\b=true)\/(lost=false/\(q != 0)=false/\b=false)\/(lost=false/\(q != 0)=true/\b=true):=by
  rcases hf with⟨h1,h2⟩|⟨h1,h2,h3⟩|⟨h1,h2,h3⟩
  ·exact .inl ⟨h1,h2⟩
  ·refine .inr (.inl ⟨h1,?_,h3⟩);rw[<-hq,if_pos (of_decide_eq_true h2)];rfl
  ·refine .inr (.inr ⟨h1,?_,h3⟩);rw[<-hq,if_neg (of_decide_eq_false h2)];rfl
 clear hf hb hp y2 hT hq hs hz;rcases F2 with⟨rfl,rfl⟩|⟨rfl,hq,rfl⟩|⟨rfl,hq,rfl⟩
 all_goals
  go_enter Tryz.func43,Tryz.ntmps43
  go_upto_region 1 with(first
   |(go_at_call 79;(with_reducible refine HT.out.mono ?_);rintro e w1 ⟨rfl,hl1⟩)
   |fail)
  have a0:=HP.out.later hl1;have f0:=Hd a0;obtain⟨hc0,hc1,hf0,hf1⟩:=a0.cells;have i0:=a0.lt;clear a0
  go_upto_region 2 with fail
  have t2:=o1.out
  first
   |(obtain⟨w2,hw2⟩:∃ w2,w1.setCell ⟨pb,1,none⟩ (.bool true)=w2:=⟨_,rfl⟩;rw[hw2];have m0:=f0.out.lose true)
   |(obtain⟨w2,hw2⟩:∃ w2,w1.setCell ⟨pb,1,none⟩ (.bool false)=w2:=⟨_,rfl⟩;rw[hw2];have m0:=f0.out.lose false)
  rw[hw2]at m0;have K0:Zp pb w w2:=by rw[<-hw2];exact(Only.of_below hl1).setCell (.inl (show IsPb pb pb from rfl)) _
  have N0:=Hd K0;clear hw2 K0 hc0 hc1 hf0 hf1;have M0:=Hd m0;obtain⟨hc0,hc1,hf0,hf1⟩:=m0.cells;have E1:=m0.lt;clear m0
  go_wp2_with fail
  go_end0
  exact⟨rfl,M0.out.say _,N0.out.setCell (.inl (show IsPb pb pb from rfl)) _⟩
theorem ZE{pb:Nat}{a b c:World}(h:Later a b)(k:Zp pb b c):Zp pb a c:=(Only.of_below h).thenP k
theorem ofB(l m:List UInt8):bytesOf (l++m)=bytesOf l++bytesOf m:=QX (by rw[Dx];rfl)
theorem Xb(L a b:Bool):((L || !a) || !b)=(L || !(a&&b)):=by cases L<;>cases a<;>cases b<;>rfl
def Zby(x:Prt):Prop:=∀ n∈[x.level,x.pages],I64 n
theorem Zhn(w:World)(pb cb:Nat)(S:ByteArray)(lost:Bool)(hp:PrAt w pb S lost)(hcb:w.cell? ⟨cb,0,none⟩=some (.pointer (some ⟨pb,0,none⟩)))(x:Prt)(hI:Zby x)(hz:S.size<=4611686018427380000) :
 Calls Tryz.prog 34 #[.agg (XQ x).toArray,.pointer (some ⟨cb,0,none⟩)] w (Zy pb (S++bytesOf (XG.b x)) (lost || !XG.ok x) w):=by
 obtain⟨level,pages⟩:=x;have z0:=hp.lt;have HN:=Hd (λ(w1:World) (h1:Later w w1) (g:Nat) (hg:w1.heap[g]?=some (.cells #[.int .i64 level,.int .i64 pages] 3 (0,0))) (hge:w.heap.size<=g)=>Xa w1 pb S lost (hp.later h1) 1 1 (.inl ⟨rfl,rfl⟩) [level,pages] g 2 _ _ hg rfl (by omega) hI 2 rfl (by simp;omega));clear hp hI z0 hz;show Calls Tryz.prog 34 #[.agg #[.int .i64 level,.int .i64 pages],.pointer (some ⟨cb,0,none⟩)] w (Zy pb (S++Z9 1 [level,pages]) (lost || !Zt 1 [level,pages]) w)
 go_enter Tryz.func34,Tryz.ntmps34
 go_upto_region 1 with fail
 obtain⟨w1,hw1⟩:∃ w1,w.alloc (.cells #[.int .i64 level,.int .i64 pages] 49)=w1:=⟨_,rfl⟩
 obtain⟨g,hg⟩:∃ g,w.heap.size=g:=⟨_,rfl⟩
 have hb:w1.heap[g]?=some (.cells #[.int .i64 level,.int .i64 pages] 49 (0,0)):=by rw[<-hw1,<-hg];exact Zd w _
 have hl:Later w w1:=by rw[<-hw1];exact(Later.refl w).alloc _
 have A0:=hl.cell hcb;rw[hw1,hg];have HL:=Hd hl;have O0:w.heap.size<=w1.heap.size:=hl.size;have k0:=Za hb 0;have k1:=Za hb 1;clear hw1 hl hcb hg hb
 go_wp2_with (first
  |(go_at_call 30;(with_reducible refine(HN.out _ (HL.out.alloc _) _ (Zd _ _) O0).mono ?_);rintro e w2 ⟨rfl,a0,hon⟩)
  |fail)
 go_end0
 exact⟨rfl,a0,ZE (HL.out.alloc _) hon⟩
def winI(x:Win):Prop:=∀ n∈[x.kind,x.index,x.ticks],I64 n
theorem ZiC(w:World)(pb cb:Nat)(S:ByteArray)(lost:Bool)(hp:PrAt w pb S lost)(hcb:w.cell? ⟨cb,0,none⟩=some (.pointer (some ⟨pb,0,none⟩)))(x:Win)(hI:winI x)(hz:S.size<=4611686018427380000) :
 Calls Tryz.prog 36 #[.agg (winC x).toArray,.pointer (some ⟨cb,0,none⟩)] w (Zy pb (S++bytesOf (winP.b x)) (lost || !winP.ok x) w):=by
 obtain⟨kind,index,ticks⟩:=x;have z0:=hp.lt;have HN:=Hd (λ(w1:World) (h1:Later w w1) (g:Nat) (hg:w1.heap[g]?=some (.cells #[.int .i64 kind,.int .i64 index,.int .i64 ticks] 3 (0,0))) (hge:w.heap.size<=g)=>Xa w1 pb S lost (hp.later h1) 1 1 (.inl ⟨rfl,rfl⟩) [kind,index,ticks] g 3 _ _ hg rfl (by omega) hI 3 rfl (by simp;omega));clear hp hI z0 hz;show Calls Tryz.prog 36 #[.agg #[.int .i64 kind,.int .i64 index,.int .i64 ticks],.pointer (some ⟨cb,0,none⟩)] w (Zy pb (S++Z9 1 [kind,index,ticks]) (lost || !Zt 1 [kind,index,ticks]) w)
 go_enter Tryz.func36,Tryz.ntmps36
 go_upto_region 1 with fail
 obtain⟨w1,hw1⟩:∃ w1,w.alloc (.cells #[.int .i64 kind,.int .i64 index,.int .i64 ticks] 55)=w1:=⟨_,rfl⟩
 obtain⟨g,hg⟩:∃ g,w.heap.size=g:=⟨_,rfl⟩
 have hb:w1.heap[g]?=some (.cells #[.int .i64 kind,.int .i64 index,.int .i64 ticks] 55 (0,0)):=by rw[<-hw1,<-hg];exact Zd w _
 have hl:Later w w1:=by rw[<-hw1];exact(Later.refl w).alloc _
 have A0:=hl.cell hcb;rw[hw1,hg];have HL:=Hd hl;have O0:w.heap.size<=w1.heap.size:=hl.size;have k0:=Za hb 0;have k1:=Za hb 1;have k2:=Za hb 2;clear hw1 hl hcb hg hb
 go_wp2_with (first
  |(go_at_call 30;(with_reducible refine(HN.out _ (HL.out.alloc _) _ (Zd _ _) O0).mono ?_);rintro e w2 ⟨rfl,a0,hon⟩)
  |fail)
 go_end0
 exact⟨rfl,a0,ZE (HL.out.alloc _) hon⟩
def porI(x:Por):Prop:=∀ n∈[x.kind,x.fr,x.tu,x.size,x.depth],I64 n
theorem ZiE(w:World)(pb cb:Nat)(S:ByteArray)(lost:Bool)(hp:PrAt w pb S lost)(hcb:w.cell? ⟨cb,0,none⟩=some (.pointer (some ⟨pb,0,none⟩)))(x:Por)(hI:porI x)(hz:S.size<=4611686018427380000) :
 Calls Tryz.prog 38 #[.agg (porC x).toArray,.pointer (some ⟨cb,0,none⟩)] w (Zy pb (S++bytesOf (porP.b x)) (lost || !porP.ok x) w):=by
 obtain⟨kind,fr,tu,size,depth⟩:=x;have z0:=hp.lt;have HN:=Hd (λ(w1:World) (h1:Later w w1) (g:Nat) (hg:w1.heap[g]?=some (.cells #[.int .i64 kind,.int .i64 fr,.int .i64 tu,.int .i64 size,.int .i64 depth] 3 (0,0))) (hge:w.heap.size<=g)=>Xa w1 pb S lost (hp.later h1) 1 1 (.inl ⟨rfl,rfl⟩) [kind,fr,tu,size,depth] g 5 _ _ hg rfl (by omega) hI 5 rfl (by simp;omega));clear hp hI z0 hz;show Calls Tryz.prog 38 #[.agg #[.int .i64 kind,.int .i64 fr,.int .i64 tu,.int .i64 size,.int .i64 depth],.pointer (some ⟨cb,0,none⟩)] w (Zy pb (S++Z9 1 [kind,fr,tu,size,depth]) (lost || !Zt 1 [kind,fr,tu,size,depth]) w)
 go_enter Tryz.func38,Tryz.ntmps38
 go_upto_region 1 with fail
 obtain⟨w1,hw1⟩:∃ w1,w.alloc (.cells #[.int .i64 kind,.int .i64 fr,.int .i64 tu,.int .i64 size,.int .i64 depth] 51)=w1:=⟨_,rfl⟩
 obtain⟨g,hg⟩:∃ g,w.heap.size=g:=⟨_,rfl⟩
 have hb:w1.heap[g]?=some (.cells #[.int .i64 kind,.int .i64 fr,.int .i64 tu,.int .i64 size,.int .i64 depth] 51 (0,0)):=by rw[<-hw1,<-hg];exact Zd w _
 have hl:Later w w1:=by rw[<-hw1];exact(Later.refl w).alloc _
 have A0:=hl.cell hcb;rw[hw1,hg];have HL:=Hd hl;have O0:w.heap.size<=w1.heap.size:=hl.size;have k0:=Za hb 0;have k1:=Za hb 1;have k2:=Za hb 2;have k3:=Za hb 3;have k4:=Za hb 4;clear hw1 hl hcb hg hb
 go_wp2_with (first
  |(go_at_call 30;(with_reducible refine(HN.out _ (HL.out.alloc _) _ (Zd _ _) O0).mono ?_);rintro e w2 ⟨rfl,a0,hon⟩)
  |fail)
 go_end0
 exact⟨rfl,a0,ZE (HL.out.alloc _) hon⟩
def Bp(x:Int × Int):Prop:=∀ n∈[x.1,x.2],I64 n
theorem Zho(w:World)(pb cb:Nat)(S:ByteArray)(lost:Bool)(hp:PrAt w pb S lost)(hcb:w.cell? ⟨cb,0,none⟩=some (.pointer (some ⟨pb,0,none⟩)))(x:Int × Int)(hI:Bp x)(hz:S.size<=4611686018427380000) :
 Calls Tryz.prog 32 #[.agg (Xx x).toArray,.pointer (some ⟨cb,0,none⟩)] w (Zy pb (S++bytesOf (XI.b x)) (lost || !XI.ok x) w):=by
 obtain⟨a,b⟩:=x;have z0:=hp.lt;have HN:=Hd (λ(w1:World) (h1:Later w w1) (g:Nat) (hg:w1.heap[g]?=some (.cells #[.int .i64 a,.int .i64 b] 47 (0,0))) (hge:w.heap.size<=g)=>Xa w1 pb S lost (hp.later h1) 1 1 (.inl ⟨rfl,rfl⟩) [a,b] g 2 _ _ hg rfl (by omega) hI 2 rfl (by simp;omega));clear hp hI z0 hz;show Calls Tryz.prog 32 #[.agg #[.int .i64 a,.int .i64 b],.pointer (some ⟨cb,0,none⟩)] w (Zy pb (S++Z9 1 [a,b]) (lost || !Zt 1 [a,b]) w)
 go_enter Tryz.func32,Tryz.ntmps32
 go_upto_region 1 with fail
 obtain⟨w1,hw1⟩:∃ w1,w.alloc (.cells #[.int .i64 a,.int .i64 b] 47)=w1:=⟨_,rfl⟩
 obtain⟨g,hg⟩:∃ g,w.heap.size=g:=⟨_,rfl⟩
 have hb:w1.heap[g]?=some (.cells #[.int .i64 a,.int .i64 b] 47 (0,0)):=by rw[<-hw1,<-hg];exact Zd w _
 have hl:Later w w1:=by rw[<-hw1];exact(Later.refl w).alloc _
 have A0:=hl.cell hcb;rw[hw1,hg];have HL:=Hd hl;have T2:=Hd (HN.out w1.drew hl.drew g hb (by omega));have f2:=Zb hb;clear hw1 hl hcb HN hg hb
 go_region_with (go_at_call 30;(with_reducible refine T2.out.mono ?_);rintro e w2 ⟨rfl,a0,hon⟩)
 all_goals
  go_wp2_with fail
  go_end0
  exact⟨rfl,a0,ZE HL.out.drew hon⟩
def volI(x:Vol):Prop:=(∀n∈[x.level],I64 n)/\∀ n∈[x.first,x.count,x.journal],I64 n
theorem ZiD(w:World)(pb cb:Nat)(S:ByteArray)(lost:Bool)(hp:PrAt w pb S lost)(hcb:w.cell? ⟨cb,0,none⟩=some (.pointer (some ⟨pb,0,none⟩)))(hcp:cb≠pb)(x:Vol)(hI:volI x)(hz:S.size<=4611686018427380000) :
 Calls Tryz.prog 40 #[.agg (volC x).toArray,.pointer (some ⟨cb,0,none⟩)] w (Zy pb (S++bytesOf (volP.b x)) (lost || !volP.ok x) w):=by
 obtain⟨level,first,count,journal⟩:=x;have z0:=hp.lt;have b2:cb<w.heap.size:=World.block_lt_of_cell? w _ hcb;have HN:=Hd (λ(w1:World) (h1:Later w w1) (g:Nat) (hg:w1.heap[g]?=some (.cells #[.int .i64 level] 3 (0,0))) (hge:w.heap.size<=g)=>Xa w1 pb S lost (hp.later h1) 1 1 (.inl ⟨rfl,rfl⟩) [level] g 1 _ _ hg rfl (by omega) hI.1 1 rfl (by simp;omega));have g0:(S++Z9 1 [level]).size+2*3<=4611686018427387904:=by rw[ByteArray.size_append,Xg];simp;omega
 have HM:=Hd (λ(w1:World) (hp1:PrAt w1 pb (S++Z9 1 [level]) (lost || !Zt 1 [level])) (g:Nat) (hg:w1.heap[g]?=some (.cells #[.int .i64 first,.int .i64 count,.int .i64 journal] 3 (0,0))) (hge:w.heap.size<=g)=>Xa w1 pb (S++Z9 1 [level]) (lost || !Zt 1 [level]) hp1 2 2 (.inr ⟨rfl,rfl⟩) [first,count,journal] g 3 _ _ hg rfl (by omega) hI.2 3 rfl g0);clear hp hI hz g0
 have he:Zy pb (S++bytesOf (volP.b ⟨level,first,count,journal⟩)) (lost || !volP.ok ⟨level,first,count,journal⟩) w=Zy pb (S++Z9 1 [level]++Z9 2 [first,count,journal]) (lost || !Zt 1 [level] || !Zt 2 [first,count,journal]) w:=by
  rw[Xb,Xk];show Zy pb (S++bytesOf (Z0 1 [level]++Z0 2 [first,count,journal])) _ w=_;rw[ofB];rfl
 rw[he]
 obtain⟨T,hT⟩:∃ T,S++Z9 1 [level]++Z9 2 [first,count,journal]=T:=⟨_,rfl⟩
 obtain⟨L2,hL2⟩:∃ L2,(lost || !Zt 1 [level] || !Zt 2 [first,count,journal])=L2:=⟨_,rfl⟩
 rw[hT,hL2];have HT:=Hd hT;have K1:=Hd hL2;clear he hT hL2;show Calls Tryz.prog 40 #[.agg #[.int .i64 level,.int .i64 first,.int .i64 count,.int .i64 journal],.pointer (some ⟨cb,0,none⟩)] w (Zy pb T L2 w);have H0:=Hd (λ(w1:World) (h1:Zp pb w w1)=>((h1.cell (p:=⟨cb,0,none⟩) b2 hcp).trans hcb))
 go_enter Tryz.func40,Tryz.ntmps40
 go_upto_region 1 with fail
 obtain⟨w1,hw1⟩:∃ w1,w.alloc (.cells #[.int .i64 level,.int .i64 first,.int .i64 count,.int .i64 journal] 28)=w1:=⟨_,rfl⟩
 obtain⟨g,hg⟩:∃ g,w.heap.size=g:=⟨_,rfl⟩
 have hb:w1.heap[g]?=some (.cells #[.int .i64 level,.int .i64 first,.int .i64 count,.int .i64 journal] 28 (0,0)):=by rw[<-hw1,<-hg];exact Zd w _
 have hl:Later w w1:=by rw[<-hw1];exact(Later.refl w).alloc _
 have A0:=hl.cell hcb;have R0:¬ g=pb:=by omega
 rw[hw1,hg];have HL:=Hd hl;have HB:=Hd hb;have O0:w.heap.size<=w1.heap.size:=hl.size;have k0:=Za hb 0;have k1:=Za hb 1;have k2:=Za hb 2;have k3:=Za hb 3;clear hw1 hl hcb hg hb
 go_wp2_with (first
  |(go_at_call 30;(with_reducible refine(HN.out _ (HL.out.alloc _) _ (Zd _ _) O0).mono ?_);rintro e w2 ⟨rfl,a0,hon⟩;have o0:=(hon.block g (Zb (Ze HB.out (.cells #[.int .i64 level] 3))) R0).trans (Ze HB.out _);have m1:=Za o0 1;have m2:=Za o0 2;have m3:=Za o0 3;have p0:=ZE (HL.out.alloc _) hon;have kc:=H0.out w2 p0;have f0:=Hd a0;have y0:=Hd p0;have T1:w.heap.size<=w2.heap.size:=p0.size;clear a0 hon p0 o0 A0 k0 k1 k2 k3)
  |(go_at_call 30;(with_reducible refine(HM.out _ (f0.out.later ((Later.refl w2).alloc _)) _ (Zd _ _) T1).mono ?_);rintro e w3 ⟨rfl,a0,hon⟩)
  |fail)
 go_end0
 exact⟨rfl,by rw[<-HT.out,<-K1.out];exact a0,y0.out.thenP (ZE ((Later.refl w2).alloc _) hon)⟩
def ruI(x:Ru):Prop:=(∀n∈[x.fr,x.tu,x.act],I64 n)/\x.pat.size<=9223372036854775807/\x.wth.size<=9223372036854775807
theorem pr_ru(w:World)(pb cb:Nat)(S:ByteArray)(lost:Bool)(hp:PrAt w pb S lost)(hcb:w.cell? ⟨cb,0,none⟩=some (.pointer (some ⟨pb,0,none⟩)))(hcp:cb≠pb)(x:Ru)(hI:ruI x)(hz:S.size<=4611686018427380000) :
 Calls Tryz.prog 42 #[.agg (ruC x).toArray,.pointer (some ⟨cb,0,none⟩)] w (Zy pb (S++bytesOf (ruP.b x)) (lost || !ruP.ok x) w):=by
 obtain⟨fr,tu,act,pat,wth⟩:=x;have z0:=hp.lt;have b2:cb<w.heap.size:=World.block_lt_of_cell? w _ hcb;have HN:=Hd (λ(w1:World) (h1:Later w w1) (g:Nat) (hg:w1.heap[g]?=some (.cells #[.int .i64 fr,.int .i64 tu,.int .i64 act] 3 (0,0))) (hge:w.heap.size<=g)=>Xa w1 pb S lost (hp.later h1) 1 1 (.inl ⟨rfl,rfl⟩) [fr,tu,act] g 3 _ _ hg rfl (by omega) hI.1 3 rfl (by simp;omega));have g0:(S++Z9 1 [fr,tu,act]).size<=4611686018427387904:=by rw[ByteArray.size_append,Xg];simp;omega
 have i1:(S++Z9 1 [fr,tu,act]++VC pat).size<=4611686018427387904:=by
  have:=Vk pat;rw[ByteArray.size_append,ByteArray.size_append,Xg];simp;omega
 have HM:=Hd (λ(w1:World) (hp1:PrAt w1 pb (S++Z9 1 [fr,tu,act]) (lost || !Zt 1 [fr,tu,act]))=>Ux w1 pb _ _ hp1 pat hI.2.1 g0);have HO:=Hd (λ(w1:World) (hp1:PrAt w1 pb (S++Z9 1 [fr,tu,act]++VC pat) (lost || !Zt 1 [fr,tu,act] || !XC pat))=>Ux w1 pb _ _ hp1 wth hI.2.2 i1);clear hp hI hz g0 i1
 have he:Zy pb (S++bytesOf (ruP.b ⟨fr,tu,act,pat,wth⟩)) (lost || !ruP.ok ⟨fr,tu,act,pat,wth⟩) w=Zy pb (S++Z9 1 [fr,tu,act]++VC pat++VC wth) (lost || !Zt 1 [fr,tu,act] || !XC pat || !XC wth) w:=by
  rw[Xb,Xb,Xk,Xk];show Zy pb (S++bytesOf (Z0 1 [fr,tu,act]++(Yf pat++Yf wth))) _ w=_;rw[ofB,ofB];rfl
 rw[he]
 obtain⟨T,hT⟩:∃ T,S++Z9 1 [fr,tu,act]++VC pat++VC wth=T:=⟨_,rfl⟩
 obtain⟨L2,hL2⟩:∃ L2,(lost || !Zt 1 [fr,tu,act] || !XC pat || !XC wth)=L2:=⟨_,rfl⟩
 rw[hT,hL2];have HT:=Hd hT;have K1:=Hd hL2;clear he hT hL2;show Calls Tryz.prog 42 #[.agg #[.int .i64 fr,.int .i64 tu,.int .i64 act,.string pat,.string wth],.pointer (some ⟨cb,0,none⟩)] w (Zy pb T L2 w);have H0:=Hd (λ(w1:World) (h1:Zp pb w w1)=>((h1.cell (p:=⟨cb,0,none⟩) b2 hcp).trans hcb))
 go_enter Tryz.func42,Tryz.ntmps42
 go_upto_region 1 with fail
 obtain⟨w1,hw1⟩:∃ w1,w.alloc (.cells #[.int .i64 fr,.int .i64 tu,.int .i64 act,.string pat,.string wth] 53)=w1:=⟨_,rfl⟩
 obtain⟨g,hg⟩:∃ g,w.heap.size=g:=⟨_,rfl⟩
 have hb:w1.heap[g]?=some (.cells #[.int .i64 fr,.int .i64 tu,.int .i64 act,.string pat,.string wth] 53 (0,0)):=by rw[<-hw1,<-hg];exact Zd w _
 have hl:Later w w1:=by rw[<-hw1];exact(Later.refl w).alloc _
 have A0:=hl.cell hcb;have R0:¬ g=pb:=by omega
 rw[hw1,hg];have HL:=Hd hl;have HB:=Hd hb;have O0:w.heap.size<=w1.heap.size:=hl.size;have k0:=Za hb 0;have k1:=Za hb 1;have k2:=Za hb 2;have k3:=Za hb 3;have k4:=Za hb 4;clear hw1 hl hcb hg hb
 go_wp2_with (first
  |(go_at_call 30;(with_reducible refine(HN.out _ (HL.out.alloc _) _ (Zd _ _) O0).mono ?_);rintro e w2 ⟨rfl,a0,hon⟩;have o0:=(hon.block g (Zb (Ze HB.out (.cells #[.int .i64 fr,.int .i64 tu,.int .i64 act] 3))) R0).trans (Ze HB.out _);have m1:=Za o0 3;have j2:=Hd o0;have p0:=ZE (HL.out.alloc _) hon;have kc:=H0.out w2 p0;have f0:=Hd a0;have y0:=Hd p0;clear a0 hon p0 o0 A0 k0 k1 k2 k3 k4)
  |(go_at_call 43;(with_reducible refine(HM.out _ f0.out).mono ?_);rintro e w3 ⟨rfl,a0,hon⟩;have n1:=(hon.block g (Zb j2.out) R0).trans j2.out;have m2:=Za n1 4;have p0:=y0.out.thenP hon;have kc2:=H0.out w3 p0;have M0:=Hd a0;have N0:=Hd p0;clear a0 hon p0 n1 m1 kc)
  |(go_at_call 43;(with_reducible refine(HO.out _ M0.out).mono ?_);rintro e w4 ⟨rfl,a0,hon⟩)
  |fail)
 go_end0
 exact⟨rfl,by rw[<-HT.out,<-K1.out];exact a0,N0.out.thenP hon⟩
end Go.Proofs.YtbchkjfnakabkaaGreatDoor
namespace Go.Proofs.YtbchkjfnakabkaaGreatDoor
open Go.RowKit PX PC
def keyI(x:ByteArray):Prop:=x.size<=9223372036854775807
theorem Zl{α:Type}{w:World}{k:Nat}{v:Value}{f:α->List Value}{l:List α}(h:RowAt w k v (l.map f)):∃ a cap,v=.slice a l.length cap/\l.length<=cap/\cap<=9223372036854775807/\l.length*k<=140737488355328:=by
 obtain⟨a,cap,rfl,h1,h2,h3,-⟩:=h;rw[List.length_map]at h1 h3 ⊢;exact⟨a,cap,rfl,h1,h2,h3⟩
theorem Zz{α:Type}{w:World}{k:Nat}{a:Option Addr}{n cap:Nat}{f:α->List Value}{l:List α}(h:RowAt w k (.slice a n cap) (l.map f)){i:Nat}(hi:i<l.length) :
 ∃ b o,a=some ⟨b,o,none⟩/\b<w.heap.size/\∀ j,j<k->w.cell? ⟨b,o+i*k+j,none⟩=(f l[i])[j]?:=by
 obtain⟨a',cap',hv,h1,h2,h3,h4⟩:=h;have ha:a=a':=by injection hv
 subst ha;rcases h4 with h4|⟨b,o,rfl,hb,hc⟩
 ·have:(l.map f).length=0:=by rw[h4];rfl
  rw[List.length_map]at this;omega
 ·refine⟨b,o,rfl,hb,λj hj=>?_⟩;rw[hc i (by rw[List.length_map];exact hi) j hj,List.getElem_map]
theorem Yb{α:Type}(p:Lays α):∀ (l:List α) (x:α),ZF p (l++[x])=ZF p l++p.b x
 |[],x=>by simp[ZF]
 |y::l,x=>by simp[ZF,Yb p l x]
theorem XR{α:Type}(p:Lays α):∀ (l:List α) (x:α),ZD p (l++[x])=(ZD p l&&p.ok x)
 |[],x=>by simp[ZD]
 |y::l,x=>by simp[ZD,XR p l x,Bool.and_assoc]
theorem Ym{α:Type}(p:Lays α)(m:Nat)(hm:∀ x,(p.b x).length<=m):∀ (l:List α),(ZF p l).length<=l.length*m
 |[]=>by simp[ZF]
 |y::l=>by
  have:=Ym p m hm l;have:=hm y;simp only[ZF,List.length_append,List.length_cons,Nat.add_mul];omega
theorem ZdX{α:Type}(p:Lays α)(m:Nat)(hm:∀ x,(p.b x).length<=m)(l:List α):(ZY p l).length<=1+l.length*m:=by
 have:=Ym p m hm l;simp only[ZY,List.length_append,XZ,List.length_cons,List.length_nil];omega
theorem EH(s:ByteArray):(Yf s).length<=1026:=by
 have:=Vk s
 rwa [show(VC s).size=(Yf s).length by show(Yf s).toArray.size=_;simp]at this
theorem JH(S:ByteArray):S++(⟨#[]⟩:ByteArray)=S:=QX (by rw[Dx];simp)
theorem Zaw(x:Int × Int):(XI.b x).length<=4:=by show(Z0 1 [x.1,x.2]).length<=4;rw[XZ];simp
theorem ZbO(w0 w:World)(h0:Later w0 w)(pb cb:Nat)(S:ByteArray)(lost:Bool)(hp:PrAt w pb S lost)(hpb:w0.heap.size<=pb)(hcb:w.cell? ⟨cb,0,none⟩=some (.pointer (some ⟨pb,0,none⟩)))(hcp:cb≠pb)(v:Value)(l:List (Int × Int))(hrow:RowAt w0 2 v (l.map Xx))(hI:∀ x∈l,Bp x)(hz:S.size<=2305843009213693952) :
 Calls Tryz.prog 31 #[.pointer (some ⟨pb,0,none⟩),v,.func (.func 32) #[] #[.pointer (some ⟨cb,0,none⟩)]] w (Zy pb (S++bytesOf (ZY XI l)) (lost || !ZO XI l) w):=by
 obtain⟨a,cap,rfl,hl1,hl2,I0⟩:=Zl hrow;have j0:=Hd hrow;have HI:=Hd hI;have H0:=Hd h0;have z0:=hp.lt;have HN:=Hd (λ(w1:World) (h1:Later w w1) (g:Nat) (hg:w1.heap[g]?=some (.cells #[.int .i64 (l.length:Int)] 3 (0,0))) (hge:w.heap.size<=g)=>Xa w1 pb S lost (hp.later h1) 1 1 (.inl ⟨rfl,rfl⟩) [(l.length:Int)] g 1 _ _ hg rfl (by omega) (by intro n hn;rw[List.mem_singleton.1 hn];exact⟨by omega,by omega⟩) 1 rfl (by simp;omega));have r0:=Hd (And.intro (World.block_lt_of_cell? w _ hcb) hcb)
 have t0:=Hd (λ(j:Nat) (hj:j<=l.length)=>show(S++Z9 1 [(l.length:Int)]++bytesOf (ZF XI (l.take j))).size<=4611686018427380000 by
  have e1:=Ym XI 4 Zaw (l.take j);have e2:(l.take j).length<=l.length:=by rw[List.length_take];omega
  have e3:(l.take j).length*4<=l.length*4:=Nat.mul_le_mul_right _ e2;rw[ByteArray.size_append,ByteArray.size_append,Xg,show(bytesOf (ZF XI (l.take j))).size=(ZF XI (l.take j)).length by show(ZF XI (l.take j)).toArray.size=_;simp];simp only[List.length_cons,List.length_nil]
  omega)
 have HE:Hid (Zy pb (S++bytesOf (ZY XI l)) (lost || !ZO XI l) w=Zy pb (S++Z9 1 [(l.length:Int)]++bytesOf (ZF XI l)) (lost || !Zt 1 [(l.length:Int)] || !ZD XI l) w):=Hd (by
  rw[Xb,Xk,ZY,ofB];rfl)
 obtain⟨PT,hPT⟩:∃ PT,Zy pb (S++bytesOf (ZY XI l)) (lost || !ZO XI l) w=PT:=⟨_,rfl⟩
 rw[hPT];have C0:=Hd hPT;have a1:l.length<=140737488355328:=by omega
 clear hp hrow hI h0 hz hcb hPT
 go_enter Tryz.func31,Tryz.ntmps31
 go_wp2_with (first
  |(go_at_call 30;(with_reducible refine(HN.out _ ((Later.refl w).alloc _) _ (Zd _ _) (Nat.le_refl _)).mono ?_);rintro e w1 ⟨rfl,a0,hon⟩;have f0:=Hd a0;have y0:=Hd (ZE ((Later.refl w).alloc _) hon);clear a0 hon)
  |fail)
 obtain⟨S0,hS0⟩:∃ S0,S++Z9 1 [(l.length:Int)]=S0:=⟨_,rfl⟩
 obtain⟨L0,hL0⟩:∃ L0,(lost || !Zt 1 [(l.length:Int)])=L0:=⟨_,rfl⟩
 rw[hS0]at f0 HE t0;rw[hL0]at f0 HE;clear hS0 hL0 HN
 go_loopw [15] (λvi wr=>∃ j:Nat,j<=l.length/\vi=.int .i64 j/\PrAt wr pb (S0++bytesOf (ZF XI (l.take j))) (L0 || !ZD XI (l.take j))/\Zp pb w wr) (λvi _=>l.length - (intOf vi).toNat)
 case atStart=>exact⟨0,by omega,by simp,by simpa [ZF,ZD,bytesOf,JH] using f0.out,y0.out⟩
 case round=>
  obtain⟨j,hj,rfl,a0,hon⟩:=hrel;by_cases i0:j<l.length
  ·have v0:Later w0 wr:=(Below.trans H0.out (Only.below hon H0.out.size (λk hk=>by rw[show k=pb from hk];exact hpb)))
   obtain⟨b,o,rfl,hb,hc⟩:=Zz (j0.out.later v0) i0;have e0:=List.take_succ_eq_append_getElem i0;have hI:=HI.out _ (List.getElem_mem i0);have g0:=t0.out j hj
   obtain⟨x,hx⟩:∃ x,l[j]=x:=⟨_,rfl⟩
   rw[hx]at hc e0 hI;have HS:Hid (S0++bytesOf (ZF XI (l.take (j+1)))=(S0++bytesOf (ZF XI (l.take j)))++bytesOf (XI.b x)):=Hd (by rw[e0,Yb,ofB,Xk]);have HL:Hid ((L0 || !ZD XI (l.take (j+1)))=((L0 || !ZD XI (l.take j)) || !XI.ok x)):=Hd (by rw[e0,XR,Xb])
   obtain⟨Sj,hSj⟩:∃ Sj,S0++bytesOf (ZF XI (l.take j))=Sj:=⟨_,rfl⟩
   obtain⟨L,hL⟩:∃ L,(L0 || !ZD XI (l.take j))=L:=⟨_,rfl⟩
   rw[hSj]at HS a0 g0;rw[hL]at HL a0;have b0:=Hd a0;have d0:=Hd hon;clear hSj hL a0 hon hx e0 v0;obtain⟨x1,x2⟩:=x;have c0:=hc 0 (by omega);have c1:=hc 1 (by omega);have F0:=Hd (λ(w1:World) (h1:Zp pb w w1) (h2:PrAt w1 pb Sj L)=>(show Calls Tryz.prog 32 #[.agg #[.int .i64 x1,.int .i64 x2],.pointer (some ⟨cb,0,none⟩)] w1 (Zy pb (Sj++bytesOf (XI.b ⟨x1,x2⟩)) (L || !XI.ok ⟨x1,x2⟩) w1) from Zho w1 pb cb Sj L h2 ((h1.cell (p:=⟨cb,0,none⟩) r0.out.1 hcp).trans r0.out.2) ⟨x1,x2⟩ hI g0));clear hc hI g0;simp only[Xx,List.getElem?_cons_zero,List.getElem?_cons_succ,Nat.add_zero,Nat.mul_one]at c0 c1
   go_wp2_with (first
    |(go_at_call 32;(with_reducible refine(F0.out _ (d0.out.alloc _) (b0.out.later ((Later.refl wr).alloc _))).mono ?_);rintro e w2 ⟨rfl,a0,hon⟩)
    |fail)
   refine⟨⟨j+1,by omega,by simp,?_,?_⟩,by simp only[intOf];omega⟩
   ·rw[HS.out,HL.out];exact a0
   ·exact d0.out.thenP (ZE ((Later.refl wr).alloc _) hon)
  ·obtain rfl:j=l.length:=by omega
   rw[List.take_of_length_le (Nat.le_refl _)]at a0;have b0:=Hd a0;clear a0
   go_wp2_with fail
   go_end0
   rw[<-C0.out,HE.out];exact⟨rfl,b0.out,hon⟩
theorem Zaa(x:Prt):(XG.b x).length<=4:=by show(Z0 1 [x.level,x.pages]).length<=4;rw[XZ];simp
theorem ZbN(w0 w:World)(h0:Later w0 w)(pb cb:Nat)(S:ByteArray)(lost:Bool)(hp:PrAt w pb S lost)(hpb:w0.heap.size<=pb)(hcb:w.cell? ⟨cb,0,none⟩=some (.pointer (some ⟨pb,0,none⟩)))(hcp:cb≠pb)(v:Value)(l:List Prt)(hrow:RowAt w0 2 v (l.map XQ))(hI:∀ x∈l,Zby x)(hz:S.size<=2305843009213693952) :
 Calls Tryz.prog 33 #[.pointer (some ⟨pb,0,none⟩),v,.func (.func 34) #[] #[.pointer (some ⟨cb,0,none⟩)]] w (Zy pb (S++bytesOf (ZY XG l)) (lost || !ZO XG l) w):=by
 obtain⟨a,cap,rfl,hl1,hl2,I0⟩:=Zl hrow;have j0:=Hd hrow;have HI:=Hd hI;have H0:=Hd h0;have z0:=hp.lt;have HN:=Hd (λ(w1:World) (h1:Later w w1) (g:Nat) (hg:w1.heap[g]?=some (.cells #[.int .i64 (l.length:Int)] 3 (0,0))) (hge:w.heap.size<=g)=>Xa w1 pb S lost (hp.later h1) 1 1 (.inl ⟨rfl,rfl⟩) [(l.length:Int)] g 1 _ _ hg rfl (by omega) (by intro n hn;rw[List.mem_singleton.1 hn];exact⟨by omega,by omega⟩) 1 rfl (by simp;omega));have r0:=Hd (And.intro (World.block_lt_of_cell? w _ hcb) hcb)
 have t0:=Hd (λ(j:Nat) (hj:j<=l.length)=>show(S++Z9 1 [(l.length:Int)]++bytesOf (ZF XG (l.take j))).size<=4611686018427380000 by
  have e1:=Ym XG 4 Zaa (l.take j);have e2:(l.take j).length<=l.length:=by rw[List.length_take];omega
  have e3:(l.take j).length*4<=l.length*4:=Nat.mul_le_mul_right _ e2;rw[ByteArray.size_append,ByteArray.size_append,Xg,show(bytesOf (ZF XG (l.take j))).size=(ZF XG (l.take j)).length by show(ZF XG (l.take j)).toArray.size=_;simp];simp only[List.length_cons,List.length_nil]
  omega)
 have HE:Hid (Zy pb (S++bytesOf (ZY XG l)) (lost || !ZO XG l) w=Zy pb (S++Z9 1 [(l.length:Int)]++bytesOf (ZF XG l)) (lost || !Zt 1 [(l.length:Int)] || !ZD XG l) w):=Hd (by
  rw[Xb,Xk,ZY,ofB];rfl)
 obtain⟨PT,hPT⟩:∃ PT,Zy pb (S++bytesOf (ZY XG l)) (lost || !ZO XG l) w=PT:=⟨_,rfl⟩
 rw[hPT];have C0:=Hd hPT;have a1:l.length<=140737488355328:=by omega
 clear hp hrow hI h0 hz hcb hPT
 go_enter Tryz.func33,Tryz.ntmps33
 go_wp2_with (first
  |(go_at_call 30;(with_reducible refine(HN.out _ ((Later.refl w).alloc _) _ (Zd _ _) (Nat.le_refl _)).mono ?_);rintro e w1 ⟨rfl,a0,hon⟩;have f0:=Hd a0;have y0:=Hd (ZE ((Later.refl w).alloc _) hon);clear a0 hon)
  |fail)
 obtain⟨S0,hS0⟩:∃ S0,S++Z9 1 [(l.length:Int)]=S0:=⟨_,rfl⟩
 obtain⟨L0,hL0⟩:∃ L0,(lost || !Zt 1 [(l.length:Int)])=L0:=⟨_,rfl⟩
 rw[hS0]at f0 HE t0;rw[hL0]at f0 HE;clear hS0 hL0 HN
 go_loopw [15] (λvi wr=>∃ j:Nat,j<=l.length/\vi=.int .i64 j/\PrAt wr pb (S0++bytesOf (ZF XG (l.take j))) (L0 || !ZD XG (l.take j))/\Zp pb w wr) (λvi _=>l.length - (intOf vi).toNat)
 case atStart=>exact⟨0,by omega,by simp,by simpa [ZF,ZD,bytesOf,JH] using f0.out,y0.out⟩
 case round=>
  obtain⟨j,hj,rfl,a0,hon⟩:=hrel;by_cases i0:j<l.length
  ·have v0:Later w0 wr:=(Below.trans H0.out (Only.below hon H0.out.size (λk hk=>by rw[show k=pb from hk];exact hpb)))
   obtain⟨b,o,rfl,hb,hc⟩:=Zz (j0.out.later v0) i0;have e0:=List.take_succ_eq_append_getElem i0;have hI:=HI.out _ (List.getElem_mem i0);have g0:=t0.out j hj
   obtain⟨x,hx⟩:∃ x,l[j]=x:=⟨_,rfl⟩
   rw[hx]at hc e0 hI;have HS:Hid (S0++bytesOf (ZF XG (l.take (j+1)))=(S0++bytesOf (ZF XG (l.take j)))++bytesOf (XG.b x)):=Hd (by rw[e0,Yb,ofB,Xk]);have HL:Hid ((L0 || !ZD XG (l.take (j+1)))=((L0 || !ZD XG (l.take j)) || !XG.ok x)):=Hd (by rw[e0,XR,Xb])
   obtain⟨Sj,hSj⟩:∃ Sj,S0++bytesOf (ZF XG (l.take j))=Sj:=⟨_,rfl⟩
   obtain⟨L,hL⟩:∃ L,(L0 || !ZD XG (l.take j))=L:=⟨_,rfl⟩
   rw[hSj]at HS a0 g0;rw[hL]at HL a0;have b0:=Hd a0;have d0:=Hd hon;clear hSj hL a0 hon hx e0 v0;obtain⟨x1,x2⟩:=x;have c0:=hc 0 (by omega);have c1:=hc 1 (by omega);have F0:=Hd (λ(w1:World) (h1:Zp pb w w1) (h2:PrAt w1 pb Sj L)=>(show Calls Tryz.prog 34 #[.agg #[.int .i64 x1,.int .i64 x2],.pointer (some ⟨cb,0,none⟩)] w1 (Zy pb (Sj++bytesOf (XG.b ⟨x1,x2⟩)) (L || !XG.ok ⟨x1,x2⟩) w1) from Zhn w1 pb cb Sj L h2 ((h1.cell (p:=⟨cb,0,none⟩) r0.out.1 hcp).trans r0.out.2) ⟨x1,x2⟩ hI g0));clear hc hI g0;simp only[XQ,List.getElem?_cons_zero,List.getElem?_cons_succ,Nat.add_zero,Nat.mul_one]at c0 c1
   go_wp2_with (first
    |(go_at_call 34;(with_reducible refine(F0.out _ (d0.out.alloc _) (b0.out.later ((Later.refl wr).alloc _))).mono ?_);rintro e w2 ⟨rfl,a0,hon⟩)
    |fail)
   refine⟨⟨j+1,by omega,by simp,?_,?_⟩,by simp only[intOf];omega⟩
   ·rw[HS.out,HL.out];exact a0
   ·exact d0.out.thenP (ZE ((Later.refl wr).alloc _) hon)
  ·obtain rfl:j=l.length:=by omega
   rw[List.take_of_length_le (Nat.le_refl _)]at a0;have b0:=Hd a0;clear a0
   go_wp2_with fail
   go_end0
   rw[<-C0.out,HE.out];exact⟨rfl,b0.out,hon⟩
theorem ZcB(x:Win):(winP.b x).length<=6:=by show(Z0 1 [x.kind,x.index,x.ticks]).length<=6;rw[XZ];simp
theorem ZdS(w0 w:World)(h0:Later w0 w)(pb cb:Nat)(S:ByteArray)(lost:Bool)(hp:PrAt w pb S lost)(hpb:w0.heap.size<=pb)(hcb:w.cell? ⟨cb,0,none⟩=some (.pointer (some ⟨pb,0,none⟩)))(hcp:cb≠pb)(v:Value)(l:List Win)(hrow:RowAt w0 3 v (l.map winC))(hI:∀ x∈l,winI x)(hz:S.size<=2305843009213693952) :
 Calls Tryz.prog 35 #[.pointer (some ⟨pb,0,none⟩),v,.func (.func 36) #[] #[.pointer (some ⟨cb,0,none⟩)]] w (Zy pb (S++bytesOf (ZY winP l)) (lost || !ZO winP l) w):=by
 obtain⟨a,cap,rfl,hl1,hl2,I0⟩:=Zl hrow;have j0:=Hd hrow;have HI:=Hd hI;have H0:=Hd h0;have z0:=hp.lt;have HN:=Hd (λ(w1:World) (h1:Later w w1) (g:Nat) (hg:w1.heap[g]?=some (.cells #[.int .i64 (l.length:Int)] 3 (0,0))) (hge:w.heap.size<=g)=>Xa w1 pb S lost (hp.later h1) 1 1 (.inl ⟨rfl,rfl⟩) [(l.length:Int)] g 1 _ _ hg rfl (by omega) (by intro n hn;rw[List.mem_singleton.1 hn];exact⟨by omega,by omega⟩) 1 rfl (by simp;omega));have r0:=Hd (And.intro (World.block_lt_of_cell? w _ hcb) hcb)
 have t0:=Hd (λ(j:Nat) (hj:j<=l.length)=>show(S++Z9 1 [(l.length:Int)]++bytesOf (ZF winP (l.take j))).size<=4611686018427380000 by
  have e1:=Ym winP 6 ZcB (l.take j);have e2:(l.take j).length<=l.length:=by rw[List.length_take];omega
  have e3:(l.take j).length*6<=l.length*6:=Nat.mul_le_mul_right _ e2;rw[ByteArray.size_append,ByteArray.size_append,Xg,show(bytesOf (ZF winP (l.take j))).size=(ZF winP (l.take j)).length by show(ZF winP (l.take j)).toArray.size=_;simp];simp only[List.length_cons,List.length_nil]
  omega)
 have HE:Hid (Zy pb (S++bytesOf (ZY winP l)) (lost || !ZO winP l) w=Zy pb (S++Z9 1 [(l.length:Int)]++bytesOf (ZF winP l)) (lost || !Zt 1 [(l.length:Int)] || !ZD winP l) w):=Hd (by
  rw[Xb,Xk,ZY,ofB];rfl)
 obtain⟨PT,hPT⟩:∃ PT,Zy pb (S++bytesOf (ZY winP l)) (lost || !ZO winP l) w=PT:=⟨_,rfl⟩
 rw[hPT];have C0:=Hd hPT;have a1:l.length<=140737488355328:=by omega
 clear hp hrow hI h0 hz hcb hPT
 go_enter Tryz.func35,Tryz.ntmps35
 go_wp2_with (first
  |(go_at_call 30;(with_reducible refine(HN.out _ ((Later.refl w).alloc _) _ (Zd _ _) (Nat.le_refl _)).mono ?_);rintro e w1 ⟨rfl,a0,hon⟩;have f0:=Hd a0;have y0:=Hd (ZE ((Later.refl w).alloc _) hon);clear a0 hon)
  |fail)
 obtain⟨S0,hS0⟩:∃ S0,S++Z9 1 [(l.length:Int)]=S0:=⟨_,rfl⟩
 obtain⟨L0,hL0⟩:∃ L0,(lost || !Zt 1 [(l.length:Int)])=L0:=⟨_,rfl⟩
 rw[hS0]at f0 HE t0;rw[hL0]at f0 HE;clear hS0 hL0 HN
 go_loopw [15] (λvi wr=>∃ j:Nat,j<=l.length/\vi=.int .i64 j/\PrAt wr pb (S0++bytesOf (ZF winP (l.take j))) (L0 || !ZD winP (l.take j))/\Zp pb w wr) (λvi _=>l.length - (intOf vi).toNat)
 case atStart=>exact⟨0,by omega,by simp,by simpa [ZF,ZD,bytesOf,JH] using f0.out,y0.out⟩
 case round=>
  obtain⟨j,hj,rfl,a0,hon⟩:=hrel;by_cases i0:j<l.length
  ·have v0:Later w0 wr:=(Below.trans H0.out (Only.below hon H0.out.size (λk hk=>by rw[show k=pb from hk];exact hpb)))
   obtain⟨b,o,rfl,hb,hc⟩:=Zz (j0.out.later v0) i0;have e0:=List.take_succ_eq_append_getElem i0;have hI:=HI.out _ (List.getElem_mem i0);have g0:=t0.out j hj
   obtain⟨x,hx⟩:∃ x,l[j]=x:=⟨_,rfl⟩
   rw[hx]at hc e0 hI;have HS:Hid (S0++bytesOf (ZF winP (l.take (j+1)))=(S0++bytesOf (ZF winP (l.take j)))++bytesOf (winP.b x)):=Hd (by rw[e0,Yb,ofB,Xk]);have HL:Hid ((L0 || !ZD winP (l.take (j+1)))=((L0 || !ZD winP (l.take j)) || !winP.ok x)):=Hd (by rw[e0,XR,Xb])
   obtain⟨Sj,hSj⟩:∃ Sj,S0++bytesOf (ZF winP (l.take j))=Sj:=⟨_,rfl⟩
   obtain⟨L,hL⟩:∃ L,(L0 || !ZD winP (l.take j))=L:=⟨_,rfl⟩
   rw[hSj]at HS a0 g0;rw[hL]at HL a0;have b0:=Hd a0;have d0:=Hd hon;clear hSj hL a0 hon hx e0 v0;obtain⟨x1,x2,x3⟩:=x;have c0:=hc 0 (by omega);have c1:=hc 1 (by omega);have c2:=hc 2 (by omega);have F0:=Hd (λ(w1:World) (h1:Zp pb w w1) (h2:PrAt w1 pb Sj L)=>(show Calls Tryz.prog 36 #[.agg #[.int .i64 x1,.int .i64 x2,.int .i64 x3],.pointer (some ⟨cb,0,none⟩)] w1 (Zy pb (Sj++bytesOf (winP.b ⟨x1,x2,x3⟩)) (L || !winP.ok ⟨x1,x2,x3⟩) w1) from ZiC w1 pb cb Sj L h2 ((h1.cell (p:=⟨cb,0,none⟩) r0.out.1 hcp).trans r0.out.2) ⟨x1,x2,x3⟩ hI g0));clear hc hI g0;simp only[winC,List.getElem?_cons_zero,List.getElem?_cons_succ,Nat.add_zero,Nat.mul_one]at c0 c1 c2
   go_wp2_with (first
    |(go_at_call 36;(with_reducible refine(F0.out _ (d0.out.alloc _) (b0.out.later ((Later.refl wr).alloc _))).mono ?_);rintro e w2 ⟨rfl,a0,hon⟩)
    |fail)
   refine⟨⟨j+1,by omega,by simp,?_,?_⟩,by simp only[intOf];omega⟩
   ·rw[HS.out,HL.out];exact a0
   ·exact d0.out.thenP (ZE ((Later.refl wr).alloc _) hon)
  ·obtain rfl:j=l.length:=by omega
   rw[List.take_of_length_le (Nat.le_refl _)]at a0;have b0:=Hd a0;clear a0
   go_wp2_with fail
   go_end0
   rw[<-C0.out,HE.out];exact⟨rfl,b0.out,hon⟩
theorem Zdo(x:Por):(porP.b x).length<=10:=by show(Z0 1 [x.kind,x.fr,x.tu,x.size,x.depth]).length<=10;rw[XZ];simp
theorem ZdU(w0 w:World)(h0:Later w0 w)(pb cb:Nat)(S:ByteArray)(lost:Bool)(hp:PrAt w pb S lost)(hpb:w0.heap.size<=pb)(hcb:w.cell? ⟨cb,0,none⟩=some (.pointer (some ⟨pb,0,none⟩)))(hcp:cb≠pb)(v:Value)(l:List Por)(hrow:RowAt w0 5 v (l.map porC))(hI:∀ x∈l,porI x)(hz:S.size<=2305843009213693952) :
 Calls Tryz.prog 37 #[.pointer (some ⟨pb,0,none⟩),v,.func (.func 38) #[] #[.pointer (some ⟨cb,0,none⟩)]] w (Zy pb (S++bytesOf (ZY porP l)) (lost || !ZO porP l) w):=by
 obtain⟨a,cap,rfl,hl1,hl2,I0⟩:=Zl hrow;have j0:=Hd hrow;have HI:=Hd hI;have H0:=Hd h0;have z0:=hp.lt;have HN:=Hd (λ(w1:World) (h1:Later w w1) (g:Nat) (hg:w1.heap[g]?=some (.cells #[.int .i64 (l.length:Int)] 3 (0,0))) (hge:w.heap.size<=g)=>Xa w1 pb S lost (hp.later h1) 1 1 (.inl ⟨rfl,rfl⟩) [(l.length:Int)] g 1 _ _ hg rfl (by omega) (by intro n hn;rw[List.mem_singleton.1 hn];exact⟨by omega,by omega⟩) 1 rfl (by simp;omega));have r0:=Hd (And.intro (World.block_lt_of_cell? w _ hcb) hcb)
 have t0:=Hd (λ(j:Nat) (hj:j<=l.length)=>show(S++Z9 1 [(l.length:Int)]++bytesOf (ZF porP (l.take j))).size<=4611686018427380000 by
  have e1:=Ym porP 10 Zdo (l.take j);have e2:(l.take j).length<=l.length:=by rw[List.length_take];omega
  have e3:(l.take j).length*10<=l.length*10:=Nat.mul_le_mul_right _ e2;rw[ByteArray.size_append,ByteArray.size_append,Xg,show(bytesOf (ZF porP (l.take j))).size=(ZF porP (l.take j)).length by show(ZF porP (l.take j)).toArray.size=_;simp];simp only[List.length_cons,List.length_nil]
  omega)
 have HE:Hid (Zy pb (S++bytesOf (ZY porP l)) (lost || !ZO porP l) w=Zy pb (S++Z9 1 [(l.length:Int)]++bytesOf (ZF porP l)) (lost || !Zt 1 [(l.length:Int)] || !ZD porP l) w):=Hd (by
  rw[Xb,Xk,ZY,ofB];rfl)
 obtain⟨PT,hPT⟩:∃ PT,Zy pb (S++bytesOf (ZY porP l)) (lost || !ZO porP l) w=PT:=⟨_,rfl⟩
 rw[hPT];have C0:=Hd hPT;have a1:l.length<=140737488355328:=by omega
 clear hp hrow hI h0 hz hcb hPT
 go_enter Tryz.func37,Tryz.ntmps37
 go_wp2_with (first
  |(go_at_call 30;(with_reducible refine(HN.out _ ((Later.refl w).alloc _) _ (Zd _ _) (Nat.le_refl _)).mono ?_);rintro e w1 ⟨rfl,a0,hon⟩;have f0:=Hd a0;have y0:=Hd (ZE ((Later.refl w).alloc _) hon);clear a0 hon)
  |fail)
 obtain⟨S0,hS0⟩:∃ S0,S++Z9 1 [(l.length:Int)]=S0:=⟨_,rfl⟩
 obtain⟨L0,hL0⟩:∃ L0,(lost || !Zt 1 [(l.length:Int)])=L0:=⟨_,rfl⟩
 rw[hS0]at f0 HE t0;rw[hL0]at f0 HE;clear hS0 hL0 HN
 go_loopw [15] (λvi wr=>∃ j:Nat,j<=l.length/\vi=.int .i64 j/\PrAt wr pb (S0++bytesOf (ZF porP (l.take j))) (L0 || !ZD porP (l.take j))/\Zp pb w wr) (λvi _=>l.length - (intOf vi).toNat)
 case atStart=>exact⟨0,by omega,by simp,by simpa [ZF,ZD,bytesOf,JH] using f0.out,y0.out⟩
 case round=>
  obtain⟨j,hj,rfl,a0,hon⟩:=hrel;by_cases i0:j<l.length
  ·have v0:Later w0 wr:=(Below.trans H0.out (Only.below hon H0.out.size (λk hk=>by rw[show k=pb from hk];exact hpb)))
   obtain⟨b,o,rfl,hb,hc⟩:=Zz (j0.out.later v0) i0;have e0:=List.take_succ_eq_append_getElem i0;have hI:=HI.out _ (List.getElem_mem i0);have g0:=t0.out j hj
   obtain⟨x,hx⟩:∃ x,l[j]=x:=⟨_,rfl⟩
   rw[hx]at hc e0 hI;have HS:Hid (S0++bytesOf (ZF porP (l.take (j+1)))=(S0++bytesOf (ZF porP (l.take j)))++bytesOf (porP.b x)):=Hd (by rw[e0,Yb,ofB,Xk]);have HL:Hid ((L0 || !ZD porP (l.take (j+1)))=((L0 || !ZD porP (l.take j)) || !porP.ok x)):=Hd (by rw[e0,XR,Xb])
   obtain⟨Sj,hSj⟩:∃ Sj,S0++bytesOf (ZF porP (l.take j))=Sj:=⟨_,rfl⟩
   obtain⟨L,hL⟩:∃ L,(L0 || !ZD porP (l.take j))=L:=⟨_,rfl⟩
   rw[hSj]at HS a0 g0;rw[hL]at HL a0;have b0:=Hd a0;have d0:=Hd hon;clear hSj hL a0 hon hx e0 v0;obtain⟨x1,x2,x3,x4,x5⟩:=x;have c0:=hc 0 (by omega);have c1:=hc 1 (by omega);have c2:=hc 2 (by omega);have c3:=hc 3 (by omega);have c4:=hc 4 (by omega);have F0:=Hd (λ(w1:World) (h1:Zp pb w w1) (h2:PrAt w1 pb Sj L)=>(show Calls Tryz.prog 38 #[.agg #[.int .i64 x1,.int .i64 x2,.int .i64 x3,.int .i64 x4,.int .i64 x5],.pointer (some ⟨cb,0,none⟩)] w1 (Zy pb (Sj++bytesOf (porP.b ⟨x1,x2,x3,x4,x5⟩)) (L || !porP.ok ⟨x1,x2,x3,x4,x5⟩) w1) from ZiE w1 pb cb Sj L h2 ((h1.cell (p:=⟨cb,0,none⟩) r0.out.1 hcp).trans r0.out.2) ⟨x1,x2,x3,x4,x5⟩ hI g0));clear hc hI g0;simp only[porC,List.getElem?_cons_zero,List.getElem?_cons_succ,Nat.add_zero,Nat.mul_one]at c0 c1 c2 c3 c4
   go_wp2_with (first
    |(go_at_call 38;(with_reducible refine(F0.out _ (d0.out.alloc _) (b0.out.later ((Later.refl wr).alloc _))).mono ?_);rintro e w2 ⟨rfl,a0,hon⟩)
    |fail)
   refine⟨⟨j+1,by omega,by simp,?_,?_⟩,by simp only[intOf];omega⟩
   ·rw[HS.out,HL.out];exact a0
   ·exact d0.out.thenP (ZE ((Later.refl wr).alloc _) hon)
  ·obtain rfl:j=l.length:=by omega
   rw[List.take_of_length_le (Nat.le_refl _)]at a0;have b0:=Hd a0;clear a0
   go_wp2_with fail
   go_end0
   rw[<-C0.out,HE.out];exact⟨rfl,b0.out,hon⟩
theorem ZcE(x:Vol):(volP.b x).length<=10:=by show(Z0 1 [x.level]++Z0 2 [x.first,x.count,x.journal]).length<=10;rw[List.length_append,XZ,XZ];simp
theorem ZdT(w0 w:World)(h0:Later w0 w)(pb cb:Nat)(S:ByteArray)(lost:Bool)(hp:PrAt w pb S lost)(hpb:w0.heap.size<=pb)(hcb:w.cell? ⟨cb,0,none⟩=some (.pointer (some ⟨pb,0,none⟩)))(hcp:cb≠pb)(v:Value)(l:List Vol)(hrow:RowAt w0 4 v (l.map volC))(hI:∀ x∈l,volI x)(hz:S.size<=2305843009213693952) :
 Calls Tryz.prog 39 #[.pointer (some ⟨pb,0,none⟩),v,.func (.func 40) #[] #[.pointer (some ⟨cb,0,none⟩)]] w (Zy pb (S++bytesOf (ZY volP l)) (lost || !ZO volP l) w):=by
 obtain⟨a,cap,rfl,hl1,hl2,I0⟩:=Zl hrow;have j0:=Hd hrow;have HI:=Hd hI;have H0:=Hd h0;have z0:=hp.lt;have HN:=Hd (λ(w1:World) (h1:Later w w1) (g:Nat) (hg:w1.heap[g]?=some (.cells #[.int .i64 (l.length:Int)] 3 (0,0))) (hge:w.heap.size<=g)=>Xa w1 pb S lost (hp.later h1) 1 1 (.inl ⟨rfl,rfl⟩) [(l.length:Int)] g 1 _ _ hg rfl (by omega) (by intro n hn;rw[List.mem_singleton.1 hn];exact⟨by omega,by omega⟩) 1 rfl (by simp;omega));have r0:=Hd (And.intro (World.block_lt_of_cell? w _ hcb) hcb)
 have t0:=Hd (λ(j:Nat) (hj:j<=l.length)=>show(S++Z9 1 [(l.length:Int)]++bytesOf (ZF volP (l.take j))).size<=4611686018427380000 by
  have e1:=Ym volP 10 ZcE (l.take j);have e2:(l.take j).length<=l.length:=by rw[List.length_take];omega
  have e3:(l.take j).length*10<=l.length*10:=Nat.mul_le_mul_right _ e2;rw[ByteArray.size_append,ByteArray.size_append,Xg,show(bytesOf (ZF volP (l.take j))).size=(ZF volP (l.take j)).length by show(ZF volP (l.take j)).toArray.size=_;simp];simp only[List.length_cons,List.length_nil]
  omega)
 have HE:Hid (Zy pb (S++bytesOf (ZY volP l)) (lost || !ZO volP l) w=Zy pb (S++Z9 1 [(l.length:Int)]++bytesOf (ZF volP l)) (lost || !Zt 1 [(l.length:Int)] || !ZD volP l) w):=Hd (by
  rw[Xb,Xk,ZY,ofB];rfl)
 obtain⟨PT,hPT⟩:∃ PT,Zy pb (S++bytesOf (ZY volP l)) (lost || !ZO volP l) w=PT:=⟨_,rfl⟩
 rw[hPT];have C0:=Hd hPT;have a1:l.length<=140737488355328:=by omega
 clear hp hrow hI h0 hz hcb hPT
 go_enter Tryz.func39,Tryz.ntmps39
 go_wp2_with (first
  |(go_at_call 30;(with_reducible refine(HN.out _ ((Later.refl w).alloc _) _ (Zd _ _) (Nat.le_refl _)).mono ?_);rintro e w1 ⟨rfl,a0,hon⟩;have f0:=Hd a0;have y0:=Hd (ZE ((Later.refl w).alloc _) hon);clear a0 hon)
  |fail)
 obtain⟨S0,hS0⟩:∃ S0,S++Z9 1 [(l.length:Int)]=S0:=⟨_,rfl⟩
 obtain⟨L0,hL0⟩:∃ L0,(lost || !Zt 1 [(l.length:Int)])=L0:=⟨_,rfl⟩
 rw[hS0]at f0 HE t0;rw[hL0]at f0 HE;clear hS0 hL0 HN
 go_loopw [15] (λvi wr=>∃ j:Nat,j<=l.length/\vi=.int .i64 j/\PrAt wr pb (S0++bytesOf (ZF volP (l.take j))) (L0 || !ZD volP (l.take j))/\Zp pb w wr) (λvi _=>l.length - (intOf vi).toNat)
 case atStart=>exact⟨0,by omega,by simp,by simpa [ZF,ZD,bytesOf,JH] using f0.out,y0.out⟩
 case round=>
  obtain⟨j,hj,rfl,a0,hon⟩:=hrel;by_cases i0:j<l.length
  ·have v0:Later w0 wr:=(Below.trans H0.out (Only.below hon H0.out.size (λk hk=>by rw[show k=pb from hk];exact hpb)))
   obtain⟨b,o,rfl,hb,hc⟩:=Zz (j0.out.later v0) i0;have e0:=List.take_succ_eq_append_getElem i0;have hI:=HI.out _ (List.getElem_mem i0);have g0:=t0.out j hj
   obtain⟨x,hx⟩:∃ x,l[j]=x:=⟨_,rfl⟩
   rw[hx]at hc e0 hI;have HS:Hid (S0++bytesOf (ZF volP (l.take (j+1)))=(S0++bytesOf (ZF volP (l.take j)))++bytesOf (volP.b x)):=Hd (by rw[e0,Yb,ofB,Xk]);have HL:Hid ((L0 || !ZD volP (l.take (j+1)))=((L0 || !ZD volP (l.take j)) || !volP.ok x)):=Hd (by rw[e0,XR,Xb])
   obtain⟨Sj,hSj⟩:∃ Sj,S0++bytesOf (ZF volP (l.take j))=Sj:=⟨_,rfl⟩
   obtain⟨L,hL⟩:∃ L,(L0 || !ZD volP (l.take j))=L:=⟨_,rfl⟩
   rw[hSj]at HS a0 g0;rw[hL]at HL a0;have b0:=Hd a0;have d0:=Hd hon;clear hSj hL a0 hon hx e0 v0;obtain⟨x1,x2,x3,x4⟩:=x;have c0:=hc 0 (by omega);have c1:=hc 1 (by omega);have c2:=hc 2 (by omega);have c3:=hc 3 (by omega);have F0:=Hd (λ(w1:World) (h1:Zp pb w w1) (h2:PrAt w1 pb Sj L)=>(show Calls Tryz.prog 40 #[.agg #[.int .i64 x1,.int .i64 x2,.int .i64 x3,.int .i64 x4],.pointer (some ⟨cb,0,none⟩)] w1 (Zy pb (Sj++bytesOf (volP.b ⟨x1,x2,x3,x4⟩)) (L || !volP.ok ⟨x1,x2,x3,x4⟩) w1) from ZiD w1 pb cb Sj L h2 ((h1.cell (p:=⟨cb,0,none⟩) r0.out.1 hcp).trans r0.out.2) hcp ⟨x1,x2,x3,x4⟩ hI g0));clear hc hI g0;simp only[volC,List.getElem?_cons_zero,List.getElem?_cons_succ,Nat.add_zero,Nat.mul_one]at c0 c1 c2 c3
   go_wp2_with (first
    |(go_at_call 40;(with_reducible refine(F0.out _ (d0.out.alloc _) (b0.out.later ((Later.refl wr).alloc _))).mono ?_);rintro e w2 ⟨rfl,a0,hon⟩)
    |fail)
   refine⟨⟨j+1,by omega,by simp,?_,?_⟩,by simp only[intOf];omega⟩
   ·rw[HS.out,HL.out];exact a0
   ·exact d0.out.thenP (ZE ((Later.refl wr).alloc _) hon)
  ·obtain rfl:j=l.length:=by omega
   rw[List.take_of_length_le (Nat.le_refl _)]at a0;have b0:=Hd a0;clear a0
   go_wp2_with fail
   go_end0
   rw[<-C0.out,HE.out];exact⟨rfl,b0.out,hon⟩
theorem ZgO(x:Ru):(ruP.b x).length<=2070:=by show(Z0 1 [x.fr,x.tu,x.act]++(Yf x.pat++Yf x.wth)).length<=2070;have h1:=EH x.pat;have h2:=EH x.wth;rw[List.length_append,List.length_append,XZ];simp;omega
theorem ZfT(w0 w:World)(h0:Later w0 w)(pb cb:Nat)(S:ByteArray)(lost:Bool)(hp:PrAt w pb S lost)(hpb:w0.heap.size<=pb)(hcb:w.cell? ⟨cb,0,none⟩=some (.pointer (some ⟨pb,0,none⟩)))(hcp:cb≠pb)(v:Value)(l:List Ru)(hrow:RowAt w0 5 v (l.map ruC))(hI:∀ x∈l,ruI x)(hz:S.size<=2305843009213693952) :
 Calls Tryz.prog 41 #[.pointer (some ⟨pb,0,none⟩),v,.func (.func 42) #[] #[.pointer (some ⟨cb,0,none⟩)]] w (Zy pb (S++bytesOf (ZY ruP l)) (lost || !ZO ruP l) w):=by
 obtain⟨a,cap,rfl,hl1,hl2,I0⟩:=Zl hrow;have j0:=Hd hrow;have HI:=Hd hI;have H0:=Hd h0;have z0:=hp.lt;have HN:=Hd (λ(w1:World) (h1:Later w w1) (g:Nat) (hg:w1.heap[g]?=some (.cells #[.int .i64 (l.length:Int)] 3 (0,0))) (hge:w.heap.size<=g)=>Xa w1 pb S lost (hp.later h1) 1 1 (.inl ⟨rfl,rfl⟩) [(l.length:Int)] g 1 _ _ hg rfl (by omega) (by intro n hn;rw[List.mem_singleton.1 hn];exact⟨by omega,by omega⟩) 1 rfl (by simp;omega));have r0:=Hd (And.intro (World.block_lt_of_cell? w _ hcb) hcb)
 have t0:=Hd (λ(j:Nat) (hj:j<=l.length)=>show(S++Z9 1 [(l.length:Int)]++bytesOf (ZF ruP (l.take j))).size<=4611686018427380000 by
  have e1:=Ym ruP 2070 ZgO (l.take j);have e2:(l.take j).length<=l.length:=by rw[List.length_take];omega
  have e3:(l.take j).length*2070<=l.length*2070:=Nat.mul_le_mul_right _ e2;rw[ByteArray.size_append,ByteArray.size_append,Xg,show(bytesOf (ZF ruP (l.take j))).size=(ZF ruP (l.take j)).length by show(ZF ruP (l.take j)).toArray.size=_;simp];simp only[List.length_cons,List.length_nil]
  omega)
 have HE:Hid (Zy pb (S++bytesOf (ZY ruP l)) (lost || !ZO ruP l) w=Zy pb (S++Z9 1 [(l.length:Int)]++bytesOf (ZF ruP l)) (lost || !Zt 1 [(l.length:Int)] || !ZD ruP l) w):=Hd (by
  rw[Xb,Xk,ZY,ofB];rfl)
 obtain⟨PT,hPT⟩:∃ PT,Zy pb (S++bytesOf (ZY ruP l)) (lost || !ZO ruP l) w=PT:=⟨_,rfl⟩
 rw[hPT];have C0:=Hd hPT;have a1:l.length<=140737488355328:=by omega
 clear hp hrow hI h0 hz hcb hPT
 go_enter Tryz.func41,Tryz.ntmps41
 go_wp2_with (first
  |(go_at_call 30;(with_reducible refine(HN.out _ ((Later.refl w).alloc _) _ (Zd _ _) (Nat.le_refl _)).mono ?_);rintro e w1 ⟨rfl,a0,hon⟩;have f0:=Hd a0;have y0:=Hd (ZE ((Later.refl w).alloc _) hon);clear a0 hon)
  |fail)
 obtain⟨S0,hS0⟩:∃ S0,S++Z9 1 [(l.length:Int)]=S0:=⟨_,rfl⟩
 obtain⟨L0,hL0⟩:∃ L0,(lost || !Zt 1 [(l.length:Int)])=L0:=⟨_,rfl⟩
 rw[hS0]at f0 HE t0;rw[hL0]at f0 HE;clear hS0 hL0 HN
 go_loopw [15] (λvi wr=>∃ j:Nat,j<=l.length/\vi=.int .i64 j/\PrAt wr pb (S0++bytesOf (ZF ruP (l.take j))) (L0 || !ZD ruP (l.take j))/\Zp pb w wr) (λvi _=>l.length - (intOf vi).toNat)
 case atStart=>exact⟨0,by omega,by simp,by simpa [ZF,ZD,bytesOf,JH] using f0.out,y0.out⟩
 case round=>
  obtain⟨j,hj,rfl,a0,hon⟩:=hrel;by_cases i0:j<l.length
  ·have v0:Later w0 wr:=(Below.trans H0.out (Only.below hon H0.out.size (λk hk=>by rw[show k=pb from hk];exact hpb)))
   obtain⟨b,o,rfl,hb,hc⟩:=Zz (j0.out.later v0) i0;have e0:=List.take_succ_eq_append_getElem i0;have hI:=HI.out _ (List.getElem_mem i0);have g0:=t0.out j hj
   obtain⟨x,hx⟩:∃ x,l[j]=x:=⟨_,rfl⟩
   rw[hx]at hc e0 hI;have HS:Hid (S0++bytesOf (ZF ruP (l.take (j+1)))=(S0++bytesOf (ZF ruP (l.take j)))++bytesOf (ruP.b x)):=Hd (by rw[e0,Yb,ofB,Xk]);have HL:Hid ((L0 || !ZD ruP (l.take (j+1)))=((L0 || !ZD ruP (l.take j)) || !ruP.ok x)):=Hd (by rw[e0,XR,Xb])
   obtain⟨Sj,hSj⟩:∃ Sj,S0++bytesOf (ZF ruP (l.take j))=Sj:=⟨_,rfl⟩
   obtain⟨L,hL⟩:∃ L,(L0 || !ZD ruP (l.take j))=L:=⟨_,rfl⟩
   rw[hSj]at HS a0 g0;rw[hL]at HL a0;have b0:=Hd a0;have d0:=Hd hon;clear hSj hL a0 hon hx e0 v0;obtain⟨x1,x2,x3,x4,x5⟩:=x;have c0:=hc 0 (by omega);have c1:=hc 1 (by omega);have c2:=hc 2 (by omega);have c3:=hc 3 (by omega);have c4:=hc 4 (by omega);have F0:=Hd (λ(w1:World) (h1:Zp pb w w1) (h2:PrAt w1 pb Sj L)=>(show Calls Tryz.prog 42 #[.agg #[.int .i64 x1,.int .i64 x2,.int .i64 x3,.string x4,.string x5],.pointer (some ⟨cb,0,none⟩)] w1 (Zy pb (Sj++bytesOf (ruP.b ⟨x1,x2,x3,x4,x5⟩)) (L || !ruP.ok ⟨x1,x2,x3,x4,x5⟩) w1) from pr_ru w1 pb cb Sj L h2 ((h1.cell (p:=⟨cb,0,none⟩) r0.out.1 hcp).trans r0.out.2) hcp ⟨x1,x2,x3,x4,x5⟩ hI g0));clear hc hI g0;simp only[ruC,List.getElem?_cons_zero,List.getElem?_cons_succ,Nat.add_zero,Nat.mul_one]at c0 c1 c2 c3 c4
   go_wp2_with (first
    |(go_at_call 42;(with_reducible refine(F0.out _ (d0.out.alloc _) (b0.out.later ((Later.refl wr).alloc _))).mono ?_);rintro e w2 ⟨rfl,a0,hon⟩)
    |fail)
   refine⟨⟨j+1,by omega,by simp,?_,?_⟩,by simp only[intOf];omega⟩
   ·rw[HS.out,HL.out];exact a0
   ·exact d0.out.thenP (ZE ((Later.refl wr).alloc _) hon)
  ·obtain rfl:j=l.length:=by omega
   rw[List.take_of_length_le (Nat.le_refl _)]at a0;have b0:=Hd a0;clear a0
   go_wp2_with fail
   go_end0
   rw[<-C0.out,HE.out];exact⟨rfl,b0.out,hon⟩
theorem Zd6(x:ByteArray):(keyP.b x).length<=1030:=by have:=EH x;show(Yf x).length<=1030;omega
theorem ZdV(w0 w:World)(h0:Later w0 w)(pb:Nat)(S:ByteArray)(lost:Bool)(hp:PrAt w pb S lost)(hpb:w0.heap.size<=pb)(v:Value)(l:List ByteArray)(hrow:RowAt w0 1 v (l.map keyC))(hI:∀ x∈l,keyI x)(hz:S.size<=2305843009213693952) :
 Calls Tryz.prog 44 #[.pointer (some ⟨pb,0,none⟩),v,.func (.func 43) #[.pointer (some ⟨pb,0,none⟩)] #[]] w (Zy pb (S++bytesOf (ZY keyP l)) (lost || !ZO keyP l) w):=by
 obtain⟨a,cap,rfl,hl1,hl2,I0⟩:=Zl hrow;have j0:=Hd hrow;have HI:=Hd hI;have H0:=Hd h0;have z0:=hp.lt;have HN:=Hd (λ(w1:World) (h1:Later w w1) (g:Nat) (hg:w1.heap[g]?=some (.cells #[.int .i64 (l.length:Int)] 3 (0,0))) (hge:w.heap.size<=g)=>Xa w1 pb S lost (hp.later h1) 1 1 (.inl ⟨rfl,rfl⟩) [(l.length:Int)] g 1 _ _ hg rfl (by omega) (by intro n hn;rw[List.mem_singleton.1 hn];exact⟨by omega,by omega⟩) 1 rfl (by simp;omega))
 have t0:=Hd (λ(j:Nat) (hj:j<=l.length)=>show(S++Z9 1 [(l.length:Int)]++bytesOf (ZF keyP (l.take j))).size<=4611686018427380000 by
  have e1:=Ym keyP 1030 Zd6 (l.take j);have e2:(l.take j).length<=l.length:=by rw[List.length_take];omega
  have e3:(l.take j).length*1030<=l.length*1030:=Nat.mul_le_mul_right _ e2;rw[ByteArray.size_append,ByteArray.size_append,Xg,show(bytesOf (ZF keyP (l.take j))).size=(ZF keyP (l.take j)).length by show(ZF keyP (l.take j)).toArray.size=_;simp];simp only[List.length_cons,List.length_nil]
  omega)
 have HE:Hid (Zy pb (S++bytesOf (ZY keyP l)) (lost || !ZO keyP l) w=Zy pb (S++Z9 1 [(l.length:Int)]++bytesOf (ZF keyP l)) (lost || !Zt 1 [(l.length:Int)] || !ZD keyP l) w):=Hd (by
  rw[Xb,Xk,ZY,ofB];rfl)
 obtain⟨PT,hPT⟩:∃ PT,Zy pb (S++bytesOf (ZY keyP l)) (lost || !ZO keyP l) w=PT:=⟨_,rfl⟩
 rw[hPT];have C0:=Hd hPT;have a1:l.length<=140737488355328:=by omega
 clear hp hrow hI h0 hz hPT
 go_enter Tryz.func44,Tryz.ntmps44
 go_wp2_with (first
  |(go_at_call 30;(with_reducible refine(HN.out _ ((Later.refl w).alloc _) _ (Zd _ _) (Nat.le_refl _)).mono ?_);rintro e w1 ⟨rfl,a0,hon⟩;have f0:=Hd a0;have y0:=Hd (ZE ((Later.refl w).alloc _) hon);clear a0 hon)
  |fail)
 obtain⟨S0,hS0⟩:∃ S0,S++Z9 1 [(l.length:Int)]=S0:=⟨_,rfl⟩
 obtain⟨L0,hL0⟩:∃ L0,(lost || !Zt 1 [(l.length:Int)])=L0:=⟨_,rfl⟩
 rw[hS0]at f0 HE t0;rw[hL0]at f0 HE;clear hS0 hL0 HN
 go_loopw [15] (λvi wr=>∃ j:Nat,j<=l.length/\vi=.int .i64 j/\PrAt wr pb (S0++bytesOf (ZF keyP (l.take j))) (L0 || !ZD keyP (l.take j))/\Zp pb w wr) (λvi _=>l.length - (intOf vi).toNat)
 case atStart=>exact⟨0,by omega,by simp,by simpa [ZF,ZD,bytesOf,JH] using f0.out,y0.out⟩
 case round=>
  obtain⟨j,hj,rfl,a0,hon⟩:=hrel;by_cases i0:j<l.length
  ·have v0:Later w0 wr:=(Below.trans H0.out (Only.below hon H0.out.size (λk hk=>by rw[show k=pb from hk];exact hpb)))
   obtain⟨b,o,rfl,hb,hc⟩:=Zz (j0.out.later v0) i0;have e0:=List.take_succ_eq_append_getElem i0;have hI:=HI.out _ (List.getElem_mem i0);have g0:=t0.out j hj
   obtain⟨x,hx⟩:∃ x,l[j]=x:=⟨_,rfl⟩
   rw[hx]at hc e0 hI;have HS:Hid (S0++bytesOf (ZF keyP (l.take (j+1)))=(S0++bytesOf (ZF keyP (l.take j)))++bytesOf (keyP.b x)):=Hd (by rw[e0,Yb,ofB,Xk]);have HL:Hid ((L0 || !ZD keyP (l.take (j+1)))=((L0 || !ZD keyP (l.take j)) || !keyP.ok x)):=Hd (by rw[e0,XR,Xb])
   obtain⟨Sj,hSj⟩:∃ Sj,S0++bytesOf (ZF keyP (l.take j))=Sj:=⟨_,rfl⟩
   obtain⟨L,hL⟩:∃ L,(L0 || !ZD keyP (l.take j))=L:=⟨_,rfl⟩
   rw[hSj]at HS a0 g0;rw[hL]at HL a0;have b0:=Hd a0;have d0:=Hd hon;clear hSj hL a0 hon hx e0 v0;have c0:=hc 0 (by omega);have F0:=Hd (λ(w1:World) (h1:Zp pb w w1) (h2:PrAt w1 pb Sj L)=>(show Calls Tryz.prog 43 #[.pointer (some ⟨pb,0,none⟩),.string x] w1 (Zy pb (Sj++bytesOf (keyP.b x)) (L || !keyP.ok x) w1) from Ux w1 pb Sj L h2 x hI (by omega)));clear hc hI g0;simp only[keyC,List.getElem?_cons_zero,List.getElem?_cons_succ,Nat.add_zero,Nat.mul_one]at c0
   go_wp2_with (first
    |(go_at_call 43;(with_reducible refine(F0.out _ d0.out b0.out).mono ?_);rintro e w2 ⟨rfl,a0,hon⟩)
    |fail)
   refine⟨⟨j+1,by omega,by simp,?_,?_⟩,by simp only[intOf];omega⟩
   ·rw[HS.out,HL.out];exact a0
   ·exact d0.out.thenP hon
  ·obtain rfl:j=l.length:=by omega
   rw[List.take_of_length_le (Nat.le_refl _)]at a0;have b0:=Hd a0;clear a0
   go_wp2_with fail
   go_end0
   rw[<-C0.out,HE.out];exact⟨rfl,b0.out,hon⟩
end Go.Proofs.YtbchkjfnakabkaaGreatDoor
namespace Go.Proofs.YtbchkjfnakabkaaGreatDoor
open Go.RowKit PX PC
structure CfgI (c:Cfg):Prop where
 levels:I64 c.levels
 flows:∀ x∈c.flows,Bp x
 parts:∀ x∈c.parts,Zby x
 windows:∀ x∈c.windows,winI x
 ports:∀ x∈c.ports,porI x
 volumes:∀ x∈c.volumes,volI x
 audit:volI c.audit
 boot:I64 c.boot
 sectors:I64 c.sectors
 rules:∀ x∈c.rules,ruI x
 keys:∀ x∈c.keys,keyI x
 login:c.login.size<=9223372036854775807
 recovery:I64 c.recovery
 bound:I64 c.bound
def Zak:ByteArray:=⟨#[67,83,84,49]⟩
def JK(c:Cfg):ByteArray:=if c.laid then bytesOf c.bytes else⟨#[]⟩
def JY(c:Cfg):Int:=if c.laid then 0 else 111
theorem VZ{α:Type}(p:Lays α)(m k:Nat)(hm:∀ x,(p.b x).length<=m)(l:List α)(hl:l.length*k<=140737488355328)(hk:1<=k)(S:ByteArray)(B:Nat)(hS:S.size<=B):(S++bytesOf (ZY p l)).size<=B+(1+140737488355328*m):=by
 have h1:=ZdX p m hm l;have h2:l.length<=l.length*k:=Nat.le_mul_of_pos_right _ hk;have h3:l.length*m<=140737488355328*m:=Nat.mul_le_mul_right _ (by omega);rw[ByteArray.size_append,show(bytesOf (ZY p l)).size=(ZY p l).length by show(ZY p l).toArray.size=_;simp];omega
def S0(c:Cfg):ByteArray:=Zak
def L0(c:Cfg):Bool:=false
def S1(c:Cfg):ByteArray:=S0 c++Z9 1 [c.levels]
def L1(c:Cfg):Bool:=L0 c || !Zt 1 [c.levels]
def S2(c:Cfg):ByteArray:=S1 c++bytesOf (ZY XI c.flows)
def L2(c:Cfg):Bool:=L1 c || !ZO XI c.flows
def S3(c:Cfg):ByteArray:=S2 c++bytesOf (ZY XG c.parts)
def L3(c:Cfg):Bool:=L2 c || !ZO XG c.parts
def S4(c:Cfg):ByteArray:=S3 c++bytesOf (ZY winP c.windows)
def L4(c:Cfg):Bool:=L3 c || !ZO winP c.windows
def S5(c:Cfg):ByteArray:=S4 c++bytesOf (ZY porP c.ports)
def L5(c:Cfg):Bool:=L4 c || !ZO porP c.ports
def S6(c:Cfg):ByteArray:=S5 c++bytesOf (ZY volP c.volumes)
def L6(c:Cfg):Bool:=L5 c || !ZO volP c.volumes
def S7(c:Cfg):ByteArray:=S6 c++Z9 2 [c.audit.first,c.audit.count,c.audit.journal,c.boot,c.sectors]
def L7(c:Cfg):Bool:=L6 c || !Zt 2 [c.audit.first,c.audit.count,c.audit.journal,c.boot,c.sectors]
def S8(c:Cfg):ByteArray:=S7 c++bytesOf (ZY ruP c.rules)
def L8(c:Cfg):Bool:=L7 c || !ZO ruP c.rules
def S9(c:Cfg):ByteArray:=S8 c++bytesOf (ZY keyP c.keys)
def L9(c:Cfg):Bool:=L8 c || !ZO keyP c.keys
def S10(c:Cfg):ByteArray:=S9 c++VC c.login
def L10(c:Cfg):Bool:=L9 c || !XC c.login
def S11(c:Cfg):ByteArray:=S10 c++Z9 2 [c.recovery,c.bound]
def L11(c:Cfg):Bool:=L10 c || !Zt 2 [c.recovery,c.bound]
theorem S_all(c:Cfg):S11 c=bytesOf c.bytes:=by
 refine QX ?_;simp only[S11,S10,S9,S8,S7,S6,S5,S4,S3,S2,S1,S0,Dx,List.append_assoc];rfl
theorem L_all(c:Cfg):(L11 c || decide (c.audit.level≠0))=!c.laid:=by
 simp only[L11,L10,L9,L8,L7,L6,L5,L4,L3,L2,L1,L0,Cfg.laid,Bool.not_and,Bool.or_assoc,Bool.false_or,decide_not]
structure FewC (c:Cfg):Prop where
 flows:c.flows.length*2<=140737488355328
 parts:c.parts.length*2<=140737488355328
 windows:c.windows.length*3<=140737488355328
 ports:c.ports.length*5<=140737488355328
 volumes:c.volumes.length*4<=140737488355328
 rules:c.rules.length*5<=140737488355328
 keys:c.keys.length*1<=140737488355328
theorem CfgIn.few{w:World}{cs:List Value}{c:Cfg}(h:CfgIn w cs c):FewC c:=by
 obtain⟨vF,vP,vW,vO,vV,vR,vK,h0,h1,h2,h3,h4,h5,h6,h7⟩:=h.rows;obtain⟨_,_,_,_,_,g1⟩:=Zl h1;obtain⟨_,_,_,_,_,g2⟩:=Zl h2;obtain⟨_,_,_,_,_,g3⟩:=Zl h3;obtain⟨_,_,_,_,_,g4⟩:=Zl h4;obtain⟨_,_,_,_,_,g5⟩:=Zl h5;obtain⟨_,_,_,_,_,g6⟩:=Zl h6;obtain⟨_,_,_,_,_,g7⟩:=Zl h7;exact⟨g1,g2,g3,g4,g5,g6,g7⟩
theorem s0(c:Cfg):(S0 c).size<=4:=Nat.le_refl 4
theorem s1(c:Cfg)(h:FewC c):(S1 c).size<=6:=by
 have:=s0 c;unfold S1;rw[ByteArray.size_append,Xg];simp only[List.length_cons,List.length_nil];omega
theorem s2(c:Cfg)(h:FewC c):(S2 c).size<=562949953421319:=VZ XI 4 2 Zaw c.flows h.flows (by omega) _ _ (s1 c h)
theorem s3(c:Cfg)(h:FewC c):(S3 c).size<=1125899906842632:=VZ XG 4 2 Zaa c.parts h.parts (by omega) _ _ (s2 c h)
theorem s4(c:Cfg)(h:FewC c):(S4 c).size<=1970324836974601:=VZ winP 6 3 ZcB c.windows h.windows (by omega) _ _ (s3 c h)
theorem s5(c:Cfg)(h:FewC c):(S5 c).size<=3377699720527882:=VZ porP 10 5 Zdo c.ports h.ports (by omega) _ _ (s4 c h)
theorem s6(c:Cfg)(h:FewC c):(S6 c).size<=4785074604081163:=VZ volP 10 4 ZcE c.volumes h.volumes (by omega) _ _ (s5 c h)
theorem s7(c:Cfg)(h:FewC c):(S7 c).size<=4785074604081173:=by
 have:=s6 c h;unfold S7;rw[ByteArray.size_append,Xg];simp only[List.length_cons,List.length_nil];omega
theorem s8(c:Cfg)(h:FewC c):(S8 c).size<=296111675499610134:=VZ ruP 2070 5 ZgO c.rules h.rules (by omega) _ _ (s7 c h)
theorem s9(c:Cfg)(h:FewC c):(S9 c).size<=441071288505597975:=VZ keyP 1030 1 Zd6 c.keys h.keys (by omega) _ _ (s8 c h)
theorem s10(c:Cfg)(h:FewC c):(S10 c).size<=441071288505599001:=by
 have:=s9 c h;have:=Vk c.login;unfold S10;rw[ByteArray.size_append];omega
structure BoxC (w1:World) (p cb pb:Nat) (c:Cfg) (vF vP vW vO vV vR vK:Value):Prop where
 box:w1.cell? ⟨p,0,none⟩=some (.int .i64 c.levels)/\w1.cell? ⟨p,1,none⟩=some (vF)/\w1.cell? ⟨p,2,none⟩=some (vP)/\w1.cell? ⟨p,3,none⟩=some (vW)/\w1.cell? ⟨p,4,none⟩=some (vO)/\w1.cell? ⟨p,5,none⟩=some (vV)/\w1.cell? ⟨p,6,none⟩=some (.int .i64 c.audit.level)/\w1.cell? ⟨p,7,none⟩=some (.int .i64 c.audit.first)/\w1.cell? ⟨p,8,none⟩=some (.int .i64 c.audit.count)/\w1.cell? ⟨p,9,none⟩=some (.int .i64 c.audit.journal)/\w1.cell? ⟨p,10,none⟩=some (.int .i64 c.boot)/\w1.cell? ⟨p,11,none⟩=some (.int .i64 c.sectors)/\w1.cell? ⟨p,12,none⟩=some (vR)/\w1.cell? ⟨p,13,none⟩=some (vK)/\w1.cell? ⟨p,14,none⟩=some (.string c.login)/\w1.cell? ⟨p,15,none⟩=some (.int .i64 c.recovery)/\w1.cell? ⟨p,16,none⟩=some (.int .i64 c.bound)
 cbx:w1.cell? ⟨cb,0,none⟩=some (.pointer (some ⟨pb,0,none⟩))
theorem Zbo(w:World)(C:Array Value)(c:Cfg)(vF vP vW vO vV vR vK:Value)(hC:C=#[.int .i64 c.levels,vF,vP,vW,vO,vV,.int .i64 c.audit.level,.int .i64 c.audit.first,.int .i64 c.audit.count,.int .i64 c.audit.journal,.int .i64 c.boot,.int .i64 c.sectors,vR,vK,.string c.login,.int .i64 c.recovery,.int .i64 c.bound])(hr1:RowAt w 2 vF (c.flows.map Xx))(hr2:RowAt w 2 vP (c.parts.map XQ))(hr3:RowAt w 3 vW (c.windows.map winC))(hr4:RowAt w 5 vO (c.ports.map porC))(hr5:RowAt w 4 vV (c.volumes.map volC))(hr6:RowAt w 5 vR (c.rules.map ruC))(hr7:RowAt w 1 vK (c.keys.map keyC))(hI:CfgI c)(hF:FewC c) :
 Calls Tryz.prog 15 #[.agg C] w λe w'=>e=.returned (.tuple #[.string (JK c),.int .i64 (JY c)])/\Later w w':=by
 obtain⟨w3,hw3⟩:∃ w3,((w.alloc (.cells C 32)).alloc (.cells #[.string Zak,.bool false] 69)).alloc (.cells #[.pointer (some ⟨w.heap.size+1,0,none⟩)] 67)=w3:=⟨_,rfl⟩
 obtain⟨p,hp⟩:∃ p,w.heap.size=p:=⟨_,rfl⟩
 have I0:Later w w3:=by rw[<-hw3];exact(((Later.refl w).alloc _).alloc _).alloc _
 have r1:w3.heap[p]?=some (.cells C 32 (0,0)):=by rw[<-hw3,<-hp];exact Ze (Ze (Zd w _) _) _
 have n2:PrAt w3 (p+1) Zak false:=by unfold PrAt;rw[<-hw3,<-hp];exact Ze (Zq (by simp)) _
 have p1:w3.heap[p+2]?=some (.cells #[.pointer (some ⟨p+1,0,none⟩)] 67 (0,0)):=by rw[<-hw3,<-hp];exact Zq (by simp)
 rw[hp]at hw3
 have l0:=Hd (λ(w1:World) (h1:Zp (p+1) w3 w1)=>show BoxC w1 p (p+2) (p+1) c vF vP vW vO vV vR vK from by
  have o0:=(h1.block p (Zb r1) (by show ¬p=p+1;omega)).trans r1;have n1:=(h1.block (p+2) (Zb p1) (by show ¬p+2=p+1;omega)).trans p1;subst hC
  exact⟨⟨Za o0 0,Za o0 1,Za o0 2,Za o0 3,Za o0 4,Za o0 5,Za o0 6,Za o0 7,Za o0 8,Za o0 9,Za o0 10,Za o0 11,Za o0 12,Za o0 13,Za o0 14,Za o0 15,Za o0 16⟩,Za n1 0⟩)
 have r0:=Hd (λ(w1:World) (h1:Zp (p+1) w3 w1)=>(l0.out w1 h1).cbx);have P0:=Hd (λ(w1:World) (h1:Zp (p+1) w3 w1)=>show Later w w1 from Below.trans I0 (Only.below h1 I0.size (λk hk=>by rw[show k=p+1 from hk];omega)));have r2:=Hd hw3;have HP:=Hd hp;have H0:=Hd (λ(w1:World) (h2:PrAt w1 (p+1) (S0 c) (L0 c)) (g:Nat) (hg:w1.heap[g]?=some (.cells #[.int .i64 c.levels] 3 (0,0))) (hge:p+2<=g)=>(show Calls Tryz.prog 30 #[.pointer (some ⟨p+1,0,none⟩),.int .i64 1,.slice (some ⟨g,0,none⟩) 1 1] w1 (Zy (p+1) (S1 c) (L1 c) w1) from Xa w1 (p+1) (S0 c) (L0 c) h2 1 1 (.inl ⟨rfl,rfl⟩) [c.levels] g 1 _ _ hg rfl (by omega) (by intro n hn;rw[List.mem_singleton.1 hn];exact hI.levels) 1 rfl (by have:=s0 c;simp only[List.length_cons,List.length_nil];omega)));have H1:=Hd (λ(w1:World) (h1:Zp (p+1) w3 w1) (h2:PrAt w1 (p+1) (S1 c) (L1 c))=>(show Calls Tryz.prog 31 #[.pointer (some ⟨p+1,0,none⟩),vF,.func (.func 32) #[] #[.pointer (some ⟨p+2,0,none⟩)]] w1 (Zy (p+1) (S2 c) (L2 c) w1) from ZbO w w1 (P0.out w1 h1) (p+1) (p+2) (S1 c) (L1 c) h2 (by omega) (r0.out w1 h1) (by omega) vF c.flows hr1 hI.flows (by have:=s1 c hF;omega)));have H2:=Hd (λ(w1:World) (h1:Zp (p+1) w3 w1) (h2:PrAt w1 (p+1) (S2 c) (L2 c))=>(show Calls Tryz.prog 33 #[.pointer (some ⟨p+1,0,none⟩),vP,.func (.func 34) #[] #[.pointer (some ⟨p+2,0,none⟩)]] w1 (Zy (p+1) (S3 c) (L3 c) w1) from ZbN w w1 (P0.out w1 h1) (p+1) (p+2) (S2 c) (L2 c) h2 (by omega) (r0.out w1 h1) (by omega) vP c.parts hr2 hI.parts (by have:=s2 c hF;omega)));have H3:=Hd (λ(w1:World) (h1:Zp (p+1) w3 w1) (h2:PrAt w1 (p+1) (S3 c) (L3 c))=>(show Calls Tryz.prog 35 #[.pointer (some ⟨p+1,0,none⟩),vW,.func (.func 36) #[] #[.pointer (some ⟨p+2,0,none⟩)]] w1 (Zy (p+1) (S4 c) (L4 c) w1) from ZdS w w1 (P0.out w1 h1) (p+1) (p+2) (S3 c) (L3 c) h2 (by omega) (r0.out w1 h1) (by omega) vW c.windows hr3 hI.windows (by have:=s3 c hF;omega)));have H4:=Hd (λ(w1:World) (h1:Zp (p+1) w3 w1) (h2:PrAt w1 (p+1) (S4 c) (L4 c))=>(show Calls Tryz.prog 37 #[.pointer (some ⟨p+1,0,none⟩),vO,.func (.func 38) #[] #[.pointer (some ⟨p+2,0,none⟩)]] w1 (Zy (p+1) (S5 c) (L5 c) w1) from ZdU w w1 (P0.out w1 h1) (p+1) (p+2) (S4 c) (L4 c) h2 (by omega) (r0.out w1 h1) (by omega) vO c.ports hr4 hI.ports (by have:=s4 c hF;omega)));have H5:=Hd (λ(w1:World) (h1:Zp (p+1) w3 w1) (h2:PrAt w1 (p+1) (S5 c) (L5 c))=>(show Calls Tryz.prog 39 #[.pointer (some ⟨p+1,0,none⟩),vV,.func (.func 40) #[] #[.pointer (some ⟨p+2,0,none⟩)]] w1 (Zy (p+1) (S6 c) (L6 c) w1) from ZdT w w1 (P0.out w1 h1) (p+1) (p+2) (S5 c) (L5 c) h2 (by omega) (r0.out w1 h1) (by omega) vV c.volumes hr5 hI.volumes (by have:=s5 c hF;omega)));have H6:=Hd (λ(w1:World) (h2:PrAt w1 (p+1) (S6 c) (L6 c)) (g:Nat) (hg:w1.heap[g]?=some (.cells #[.int .i64 c.audit.first,.int .i64 c.audit.count,.int .i64 c.audit.journal,.int .i64 c.boot,.int .i64 c.sectors] 3 (0,0))) (hge:p+2<=g)=>(show Calls Tryz.prog 30 #[.pointer (some ⟨p+1,0,none⟩),.int .i64 2,.slice (some ⟨g,0,none⟩) 5 5] w1 (Zy (p+1) (S7 c) (L7 c) w1) from Xa w1 (p+1) (S6 c) (L6 c) h2 2 2 (.inr ⟨rfl,rfl⟩) [c.audit.first,c.audit.count,c.audit.journal,c.boot,c.sectors] g 5 _ _ hg rfl (by omega) (by intro n hn;have h3:=hI.audit.2;simp only[List.mem_cons,List.not_mem_nil,or_false]at hn h3;rcases hn with rfl|rfl|rfl|rfl|rfl;exact h3 _ (.inl rfl);exact h3 _ (.inr (.inl rfl));exact h3 _ (.inr (.inr rfl));exact hI.boot;exact hI.sectors) 5 rfl (by have:=s6 c hF;simp only[List.length_cons,List.length_nil];omega)));have H7:=Hd (λ(w1:World) (h1:Zp (p+1) w3 w1) (h2:PrAt w1 (p+1) (S7 c) (L7 c))=>(show Calls Tryz.prog 41 #[.pointer (some ⟨p+1,0,none⟩),vR,.func (.func 42) #[] #[.pointer (some ⟨p+2,0,none⟩)]] w1 (Zy (p+1) (S8 c) (L8 c) w1) from ZfT w w1 (P0.out w1 h1) (p+1) (p+2) (S7 c) (L7 c) h2 (by omega) (r0.out w1 h1) (by omega) vR c.rules hr6 hI.rules (by have:=s7 c hF;omega)));have H8:=Hd (λ(w1:World) (h1:Zp (p+1) w3 w1) (h2:PrAt w1 (p+1) (S8 c) (L8 c))=>(show Calls Tryz.prog 44 #[.pointer (some ⟨p+1,0,none⟩),vK,.func (.func 43) #[.pointer (some ⟨p+1,0,none⟩)] #[]] w1 (Zy (p+1) (S9 c) (L9 c) w1) from ZdV w w1 (P0.out w1 h1) (p+1) (S8 c) (L8 c) h2 (by omega) vK c.keys hr7 hI.keys (by have:=s8 c hF;omega)));have H9:=Hd (λ(w1:World) (h2:PrAt w1 (p+1) (S9 c) (L9 c))=>(show Calls Tryz.prog 43 #[.pointer (some ⟨p+1,0,none⟩),.string c.login] w1 (Zy (p+1) (S10 c) (L10 c) w1) from Ux w1 (p+1) (S9 c) (L9 c) h2 c.login hI.login (by have:=s9 c hF;omega)));have M2:=Hd (λ(w1:World) (h2:PrAt w1 (p+1) (S10 c) (L10 c)) (g:Nat) (hg:w1.heap[g]?=some (.cells #[.int .i64 c.recovery,.int .i64 c.bound] 3 (0,0))) (hge:p+2<=g)=>(show Calls Tryz.prog 30 #[.pointer (some ⟨p+1,0,none⟩),.int .i64 2,.slice (some ⟨g,0,none⟩) 2 2] w1 (Zy (p+1) (S11 c) (L11 c) w1) from Xa w1 (p+1) (S10 c) (L10 c) h2 2 2 (.inr ⟨rfl,rfl⟩) [c.recovery,c.bound] g 2 _ _ hg rfl (by omega) (by intro n hn;simp only[List.mem_cons,List.not_mem_nil,or_false]at hn;rcases hn with rfl|rfl;exact hI.recovery;exact hI.bound) 2 rfl (by have:=s10 c hF;simp only[List.length_cons,List.length_nil];omega)));have p2:=Hd (show PrAt w3 (p+1) (S0 c) (L0 c) from n2);have Z1:=Hd (Only.refl (IsPb (p+1)) w3);have J2:=Hd (S_all c);have R2:=Hd (L_all c);have R0:p+2<w3.heap.size:=Zb p1;clear hr1 hr2 hr3 hr4 hr5 hr6 hr7 hI hF n2 p1 r1 I0 hC hw3 hp
 go_enter Tryz.func15,Tryz.ntmps15
 go_upto_region 2 with fail
 rw[HP.out]
 first|rw[show(⟨#[67,83,84,49]⟩:ByteArray)=Zak from rfl]|skip
 rw[r2.out];obtain⟨⟨k0,k1,k2,k3,k4,k5,k6,k7,k8,k9,k10,k11,k12,k13,k14,k15,k16⟩,kc⟩:=l0.out w3 Z1.out;have v1:p+2<=w3.heap.size:=Nat.le_trans (Nat.le_of_lt R0) Z1.out.size
 go_upto_region 3 with(first
  |(go_at_call 30;(with_reducible refine(H0.out _ (p2.out.later ((Later.refl w3).alloc _)) _ (Zd _ _) v1).mono ?_);rintro e w4 ⟨rfl,a0,hon⟩;have K2:=Hd a0;have A1:=Hd (Z1.out.thenP (ZE ((Later.refl w3).alloc _) hon));clear a0 hon)
  |fail)
 clear k0 k1 k2 k3 k4 k5 k6 k7 k8 k9 k10 k11 k12 k13 k14 k15 k16 kc;obtain⟨⟨k0,k1,k2,k3,k4,k5,k6,k7,k8,k9,k10,k11,k12,k13,k14,k15,k16⟩,kc⟩:=l0.out w4 A1.out
 go_upto_region 4 with(first
  |(go_at_call 31;(with_reducible refine(H1.out _ A1.out K2.out).mono ?_);rintro e w5 ⟨rfl,a0,hon⟩;have N2:=Hd a0;have a2:=Hd (A1.out.thenP hon);clear a0 hon)
  |fail)
 clear k0 k1 k2 k3 k4 k5 k6 k7 k8 k9 k10 k11 k12 k13 k14 k15 k16 kc;obtain⟨⟨k0,k1,k2,k3,k4,k5,k6,k7,k8,k9,k10,k11,k12,k13,k14,k15,k16⟩,kc⟩:=l0.out w5 a2.out
 go_upto_region 5 with(first
  |(go_at_call 33;(with_reducible refine(H2.out _ a2.out N2.out).mono ?_);rintro e w6 ⟨rfl,a0,hon⟩;have W2:=Hd a0;have R1:=Hd (a2.out.thenP hon);clear a0 hon)
  |fail)
 clear k0 k1 k2 k3 k4 k5 k6 k7 k8 k9 k10 k11 k12 k13 k14 k15 k16 kc;obtain⟨⟨k0,k1,k2,k3,k4,k5,k6,k7,k8,k9,k10,k11,k12,k13,k14,k15,k16⟩,kc⟩:=l0.out w6 R1.out
 go_upto_region 6 with(first
  |(go_at_call 35;(with_reducible refine(H3.out _ R1.out W2.out).mono ?_);rintro e w7 ⟨rfl,a0,hon⟩;have z2:=Hd a0;have J1:=Hd (R1.out.thenP hon);clear a0 hon)
  |fail)
 clear k0 k1 k2 k3 k4 k5 k6 k7 k8 k9 k10 k11 k12 k13 k14 k15 k16 kc;obtain⟨⟨k0,k1,k2,k3,k4,k5,k6,k7,k8,k9,k10,k11,k12,k13,k14,k15,k16⟩,kc⟩:=l0.out w7 J1.out
 go_upto_region 7 with(first
  |(go_at_call 37;(with_reducible refine(H4.out _ J1.out z2.out).mono ?_);rintro e w8 ⟨rfl,a0,hon⟩;have I2:=Hd a0;have N1:=Hd (J1.out.thenP hon);clear a0 hon)
  |fail)
 clear k0 k1 k2 k3 k4 k5 k6 k7 k8 k9 k10 k11 k12 k13 k14 k15 k16 kc;obtain⟨⟨k0,k1,k2,k3,k4,k5,k6,k7,k8,k9,k10,k11,k12,k13,k14,k15,k16⟩,kc⟩:=l0.out w8 N1.out
 go_upto_region 8 with(first
  |(go_at_call 39;(with_reducible refine(H5.out _ N1.out I2.out).mono ?_);rintro e w9 ⟨rfl,a0,hon⟩;have v2:=Hd a0;have F1:=Hd (N1.out.thenP hon);clear a0 hon)
  |fail)
 clear k0 k1 k2 k3 k4 k5 k6 k7 k8 k9 k10 k11 k12 k13 k14 k15 k16 kc;obtain⟨⟨k0,k1,k2,k3,k4,k5,k6,k7,k8,k9,k10,k11,k12,k13,k14,k15,k16⟩,kc⟩:=l0.out w9 F1.out;have y1:p+2<=w9.heap.size:=Nat.le_trans (Nat.le_of_lt R0) F1.out.size
 go_upto_region 9 with(first
  |(go_at_call 30;(with_reducible refine(H6.out _ (v2.out.later ((Later.refl w9).alloc _)) _ (Zd _ _) y1).mono ?_);rintro e w10 ⟨rfl,a0,hon⟩;have E2:=Hd a0;have I1:=Hd (F1.out.thenP (ZE ((Later.refl w9).alloc _) hon));clear a0 hon)
  |fail)
 clear k0 k1 k2 k3 k4 k5 k6 k7 k8 k9 k10 k11 k12 k13 k14 k15 k16 kc;obtain⟨⟨k0,k1,k2,k3,k4,k5,k6,k7,k8,k9,k10,k11,k12,k13,k14,k15,k16⟩,kc⟩:=l0.out w10 I1.out
 go_upto_region 10 with(first
  |(go_at_call 41;(with_reducible refine(H7.out _ I1.out E2.out).mono ?_);rintro e w11 ⟨rfl,a0,hon⟩;have O2:=Hd a0;have C1:=Hd (I1.out.thenP hon);clear a0 hon)
  |fail)
 clear k0 k1 k2 k3 k4 k5 k6 k7 k8 k9 k10 k11 k12 k13 k14 k15 k16 kc;obtain⟨⟨k0,k1,k2,k3,k4,k5,k6,k7,k8,k9,k10,k11,k12,k13,k14,k15,k16⟩,kc⟩:=l0.out w11 C1.out
 go_upto_region 11 with(first
  |(go_at_call 44;(with_reducible refine(H8.out _ C1.out O2.out).mono ?_);rintro e w12 ⟨rfl,a0,hon⟩;have A2:=Hd a0;have l2:=Hd (C1.out.thenP hon);clear a0 hon)
  |fail)
 clear k0 k1 k2 k3 k4 k5 k6 k7 k8 k9 k10 k11 k12 k13 k14 k15 k16 kc;obtain⟨⟨k0,k1,k2,k3,k4,k5,k6,k7,k8,k9,k10,k11,k12,k13,k14,k15,k16⟩,kc⟩:=l0.out w12 l2.out
 go_upto_region 12 with(first
  |(go_at_call 43;(with_reducible refine(H9.out _ A2.out).mono ?_);rintro e w13 ⟨rfl,a0,hon⟩;have M1:=Hd a0;have T0:=Hd (l2.out.thenP hon);clear a0 hon)
  |fail)
 clear k0 k1 k2 k3 k4 k5 k6 k7 k8 k9 k10 k11 k12 k13 k14 k15 k16 kc;obtain⟨⟨k0,k1,k2,k3,k4,k5,k6,k7,k8,k9,k10,k11,k12,k13,k14,k15,k16⟩,kc⟩:=l0.out w13 T0.out;have d1:p+2<=w13.heap.size:=Nat.le_trans (Nat.le_of_lt R0) T0.out.size
 go_upto_region 13 with(first
  |(go_at_call 30;(with_reducible refine(M2.out _ (M1.out.later ((Later.refl w13).alloc _)) _ (Zd _ _) d1).mono ?_);rintro e w14 ⟨rfl,a0,hon⟩;have O1:=Hd a0;have f1:=Hd (T0.out.thenP (ZE ((Later.refl w13).alloc _) hon));clear a0 hon)
  |fail)
 clear k0 k1 k2 k3 k4 k5 k6 k7 k8 k9 k10 k11 k12 k13 k14 k15 k16 kc;obtain⟨⟨k0,k1,k2,k3,k4,k5,k6,k7,k8,k9,k10,k11,k12,k13,k14,k15,k16⟩,kc⟩:=l0.out w14 f1.out;have HL:=Hd (P0.out w14 f1.out);have b1:=Dh (L11 c) (decide (c.audit.level=0));have P1:=R2.out;have i2:=J2.out;have a0:=O1.out;rw[i2]at a0;rw[decide_not]at P1;rw[P1]at b1
 obtain⟨LL,hLL⟩:∃ LL,L11 c=LL:=⟨_,rfl⟩
 rw[hLL]at b1 a0;obtain⟨q0,q1,-, -⟩:=a0.cells;clear P1 i2 a0 hLL;rcases b1 with⟨rfl,hB⟩|⟨rfl,hA,hB⟩|⟨rfl,hA,hB⟩
 ·have n0:c.laid=false:=by simpa using hB
  have HX:Hid (JK c=⟨#[]⟩/\JY c=111):=Hd (by unfold JK JY;rw[n0];exact⟨rfl,rfl⟩);clear hB n0
  go_wp2_with fail
  go_ret2
  rw[HX.out.1,HX.out.2];exact⟨rfl,HL.out⟩
 ·have n0:c.laid=true:=by simpa using hB
  have HX:Hid (JK c=bytesOf c.bytes/\JY c=0):=Hd (by unfold JK JY;rw[n0];exact⟨rfl,rfl⟩);have P2:(c.audit.level != 0)=false:=by simpa using hA
  clear hB n0 hA
  go_wp2_with fail
  go_ret2
  rw[HX.out.1,HX.out.2];exact⟨rfl,HL.out⟩
 ·have n0:c.laid=false:=by simpa using hB
  have HX:Hid (JK c=⟨#[]⟩/\JY c=111):=Hd (by unfold JK JY;rw[n0];exact⟨rfl,rfl⟩);have P2:(c.audit.level != 0)=true:=by simpa using hA
  clear hB n0 hA
  go_wp2_with fail
  go_ret2
  rw[HX.out.1,HX.out.2];exact⟨rfl,HL.out⟩
theorem Zdn(w:World)(cs:List Value)(c:Cfg)(h:CfgIn w cs c)(hI:CfgI c) :
 Calls Tryz.prog 15 #[.agg cs.toArray] w λe w'=>e=.returned (.tuple #[.string (JK c),.int .i64 (JY c)])/\Later w w':=by
 have hF:=h.few;obtain⟨vF,vP,vW,vO,vV,vR,vK,h0,h1,h2,h3,h4,h5,h6,h7⟩:=h.rows;subst h0;exact Zbo w _ c vF vP vW vO vV vR vK rfl h1 h2 h3 h4 h5 h6 h7 hI hF
