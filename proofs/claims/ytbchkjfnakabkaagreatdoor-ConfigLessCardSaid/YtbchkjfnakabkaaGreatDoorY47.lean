import Derived.Test.YtbchkjfnakabkaaGreatDoorY23
import Derived.Deep.RegionWith
import Derived.Deep.CutRange
import Derived.Test.YtbchkjfnakabkaaGreatDoorR1b
set_option linter.unusedSimpArgs false
set_option linter.unusedVariables false
set_option maxHeartbeats 8000000
set_option maxRecDepth 100000
namespace Go.Proofs.YtbchkjfnakabkaaGreatDoor
open Go.RowKit PX PC
def PrAt(w:World)(pb:Nat)(S:ByteArray)(lost:Bool):Prop:=w.heap[pb]?=some (.cells #[.string S,.bool lost] 69 (0,0))
def IsPb(pb:Nat)(k:Nat):Prop:=k=pb
abbrev Zp(pb:Nat)(w w':World):Prop:=Only (IsPb pb) w w'
theorem PrAt.lt{w:World}{pb:Nat}{S:ByteArray}{b:Bool}(h:PrAt w pb S b):pb<w.heap.size:=Za h
theorem PrAt.later{w w':World}{pb:Nat}{S:ByteArray}{b:Bool}(h:PrAt w pb S b)(hl:Later w w'):PrAt w' pb S b:=hl.block h
theorem PrAt.cells{w:World}{pb:Nat}{S:ByteArray}{b:Bool}(h:PrAt w pb S b):w.cell? ⟨pb,0,none⟩=some (.string S)/\w.cell? ⟨pb,1,none⟩=some (.bool b)/\w.frozen? ⟨pb,0,none⟩=false/\w.frozen? ⟨pb,1,none⟩=false:=
 ⟨Zb h 0,Zb h 1,Zc h 0,Zc h 1⟩
theorem PrAt.lose{w:World}{pb:Nat}{S:ByteArray}{b:Bool}(h:PrAt w pb S b)(c:Bool):PrAt (w.setCell ⟨pb,1,none⟩ (.bool c)) pb S c:=Zf h 1 _
theorem PrAt.say{w:World}{pb:Nat}{S:ByteArray}{b:Bool}(h:PrAt w pb S b)(T:ByteArray):PrAt (w.setCell ⟨pb,0,none⟩ (.string T)) pb T b:=Zf h 0 _
theorem Only.later{r:Nat->Prop}{a b c:World}(h:Only r a b)(k:Later b c):Only r a c:=by
 refine⟨k.os.trans h.os,k.tape.trans h.tape,k.output.trans h.output,Nat.le_trans h.size k.size,λq hq hr=>?_⟩;exact(Below.block k q (Nat.lt_of_lt_of_le hq h.size)).trans (h.block q hq hr)
theorem Later.undrew{a b:World}(h:Later a.drew b):Later a b:=UD h
theorem Only.thenP{pb:Nat}{a b c:World}(h:Zp pb a b)(k:Zp pb b c):Zp pb a c:=h.trans (k.mono λq _ hq=>.inl hq)
theorem Xm(a b c:ByteArray):a++b++c=a++(b++c):=Q7 (by simp only[DH,List.append_assoc])
def Xb(k:Nat)(ns:List Int):ByteArray:=bytesOf (Z4 k ns)
theorem X3(k:Nat):∀ ns:List Int,(Z4 k ns).length=k*ns.length
 |[]=>by simp[Z4]
 |n::l=>by simp[Z4,X3 k l,XN,Nat.mul_add];omega
theorem Xi(k:Nat)(ns:List Int):(Xb k ns).size=k*ns.length:=by
 show(Z4 k ns).toArray.size=_;rw[List.size_toArray,X3]
theorem WT(k:Nat):∀ (a b:List Int),Z4 k (a++b)=Z4 k a++Z4 k b
 |[],_=>rfl
 |n::l,b=>by simp only[List.cons_append,Z4,WT k l b,List.append_assoc]
theorem ZbR(k:Nat)(a:List Int)(n:Int):Xb k (a++[n])=Xb k a++putS n k:=by
 refine Q7 ?_;rw[DH,WN];show Z4 k (a++[n])=Z4 k a++putI n k;rw[WT];simp[Z4]
theorem GI(k:Nat):∀ (a:List Int) (n:Int),Zs k (a++[n])=(Zs k a&&Yv k n)
 |[],n=>by simp[Zs]
 |m::l,n=>by simp[Zs,GI k l n,Bool.and_assoc]
theorem Zja(S:ByteArray)(k:Nat):S++Xb k []=S:=Q7 (by rw[DH];simp[Xb,bytesOf,Z4])
theorem Zce(L:Bool)(n M:Int):(L=true/\(L || !decide (0<=n/\n<M))=true)\/(L=false/\decide (n<0)=true/\(L || !decide (0<=n/\n<M))=true) \/
 (L=false/\decide (n<0)=false/\decide (M<=n)=true/\(L || !decide (0<=n/\n<M))=true)\/(L=false/\decide (n<0)=false/\decide (M<=n)=false/\(L || !decide (0<=n/\n<M))=false):=by
 cases L
 ·by_cases h0:0<=n
  ·by_cases h1:n<M
   ·exact .inr (.inr (.inr ⟨rfl,decide_eq_false (by omega),decide_eq_false (by omega),by simp[h0,h1]⟩))
   ·exact .inr (.inr (.inl ⟨rfl,decide_eq_false (by omega),decide_eq_true (by omega),by simp;omega⟩))
  ·exact .inr (.inl ⟨rfl,decide_eq_true (by omega),by simp;omega⟩)
 ·exact .inl ⟨rfl,rfl⟩
theorem Zgy(w:World)(pb:Nat)(S:ByteArray)(lost:Bool)(hp:PrAt w pb S lost)(k:Nat)(K:Int)(hkK:(k=1/\K=1)\/(k=2/\K=2))(ns:List Int)(g o cap:Nat)(hg:g≠pb)(n2:g<w.heap.size)(h64:∀ n∈ns,I64 n)
 (hc:∀ (i:Nat) n,ns[i]?=some n->w.cell? ⟨g,o+i,none⟩=some (.int .i64 n)) (hz:S.size+2*ns.length<=4611686018427387904) :
 Calls Tryz.prog 30 #[.pointer (some ⟨pb,0,none⟩),.int .i64 K,.slice (some ⟨g,o,none⟩) ns.length cap] w λe w'=>e=.returned (.tuple #[])/\PrAt w' pb (S++Xb k ns) (lost || !Zs k ns)/\Zp pb w w':=by
 have f2:=Hd hkK;have hk:k=1\/k=2:=by omega
 clear hkK;have HP:=Hd hp;have HC:=Hd hc;have z2:=Hd h64;have z0:=hp.lt;clear hp hc h64;have hlen:ns.length<=4611686018427387904:=by omega
 go_enter Tryz.func30,Tryz.ntmps30
 go_wp2_with fail
 go_loopw [10] (λvi wr=>∃ j:Nat,j<=ns.length/\vi=.int .i64 j/\PrAt wr pb (S++Xb k (ns.take j)) (lost || !Zs k (ns.take j))/\Zp pb w wr) (λvi _=>ns.length - (intOf vi).toNat)
 case atStart=>exact⟨0,by omega,by simp,by simpa [Zja,Zs] using HP.out,Only.refl _ _⟩
 case round=>
  obtain⟨j,hj,rfl,a0,hon⟩:=hrel;by_cases i0:j<ns.length
  ·obtain⟨n,hn⟩:∃ n,ns[j]?=some n:=⟨_,List.getElem?_eq_getElem i0⟩
   have e0:ns.take (j+1)=ns.take j++[n]:=by
    rw[List.take_add_one,hn];rfl
   have hI:=z2.out n (List.mem_of_getElem? hn);have hcell:wr.cell? ⟨g,o+j,none⟩=some (.int .i64 n):=(hon.cell (p:=⟨g,o+j,none⟩) n2 hg).trans (HC.out j n hn)
   obtain⟨M,hM⟩:∃ M:Int,(256:Int) ^ k=M:=⟨_,rfl⟩
   have HL:Hid ((lost || !Zs k (ns.take (j+1)))=((lost || !Zs k (ns.take j)) || !decide (0≤n∧n<M))):=Hd (by
    rw[e0,GI,Yv,hM]
    cases lost<;>cases Zs k (ns.take j)<;>rfl)
   have HS:Hid (S++Xb k (ns.take (j+1))=(S++Xb k (ns.take j))++putS n k):=Hd (by rw[e0,ZbR,Xm])
   have g0:(S++Xb k (ns.take j)).size<=4611686018427387904:=by
    rw[ByteArray.size_append,Xi,List.length_take];rcases hk with rfl|rfl<;>omega
   obtain⟨L,hL⟩:∃ L,(lost || !Zs k (ns.take j))=L:=⟨_,rfl⟩
   obtain⟨Sj,hSj⟩:∃ Sj,S++Xb k (ns.take j)=Sj:=⟨_,rfl⟩
   rw[hL]at a0 HL;rw[hSj]at a0 HS g0;have y0:=Hd hon;have l2:=WM n k;have l1:=Hd (λw1=>Zh9 w1 n hI k K (by have:=f2.out;omega) (by omega) (by omega))
   obtain⟨P,hP⟩:∃ P,putS n k=P:=⟨_,rfl⟩
   rw[hP]at HS l1 l2;have C2:P.size<=2:=by rcases hk with rfl|rfl<;>omega
   have n1:=Hd (show ¬9223372036854775807<Sj.size+P.size by omega);obtain⟨hI1,hI2⟩:=hI;clear hL hSj hon e0 hn l2 hP g0 C2
   have E2:(K=1/\M=256)\/(K=2/\M=65536):=by
    rcases f2.out with⟨rfl,rfl⟩|⟨rfl,rfl⟩
    ·exact .inl ⟨rfl,hM.symm⟩
    ·exact .inr ⟨rfl,hM.symm⟩
   clear hk hM;have a1:=Zce L n M
   obtain⟨b',hb'⟩:∃ b',(L || !decide (0<=n/\n<M))=b':=⟨_,rfl⟩
   rw[hb']at a1 HL;clear hb';obtain⟨hc0,hc1,hf0,hf1⟩:=a0.cells;have f0:=Hd a0;clear a0;rcases E2 with⟨rfl,rfl⟩|⟨rfl,rfl⟩
   all_goals
    rcases a1 with⟨rfl,hB⟩|⟨rfl,hn0,hB⟩|⟨rfl,hn0,hn1,hB⟩|⟨rfl,hn0,hn1,hB⟩
    all_goals
     rw[hB]at HL;clear hB
     go_upto_region 4 with fail
     first
      |(obtain⟨w2,hw2⟩:∃ w2,wr.setCell ⟨pb,1,none⟩ (.bool true)=w2:=⟨_,rfl⟩;rw[hw2];have j0:=f0.out.lose true)
      |(obtain⟨w2,hw2⟩:∃ w2,wr.setCell ⟨pb,1,none⟩ (.bool false)=w2:=⟨_,rfl⟩;rw[hw2];have j0:=f0.out.lose false)
     rw[hw2]at j0;have M0:Zp pb w w2:=by rw[<-hw2];exact y0.out.setCell (.inl (show IsPb pb pb from rfl)) _
     have N0:=Hd M0;clear hw2 M0 hc0 hc1 hf0 hf1;have K0:=Hd j0;obtain⟨hc0,hc1,hf0,hf1⟩:=j0.cells;have b2:=j0.lt;have q2:=n1.out;clear j0
     go_region_with (go_at_call 78;(with_reducible refine(l1.out _).mono ?_);rintro e w3 ⟨rfl,I0⟩;have T1:=Later.undrew I0;have W0:=K0.out.later T1;have f1:=N0.out.later T1;clear T1;have N1:=Hd W0;have I1:=Hd f1;obtain⟨kc0,kc1,kf0,kf1⟩:=W0.cells;clear W0 f1)
     all_goals
      go_wp2_with fail
      refine⟨⟨j+1,by omega,by simp,?_,?_⟩,by simp only[intOf];omega⟩
      ·rw[HS.out,HL.out];exact N1.out.say _
      ·exact I1.out.setCell (.inl (show IsPb pb pb from rfl)) _
  ·obtain rfl:j=ns.length:=by omega
   rw[List.take_of_length_le (Nat.le_refl _)]at a0
   go_wp2_with fail
   go_end0
   exact⟨rfl,a0,hon⟩
end Go.Proofs.YtbchkjfnakabkaaGreatDoor
namespace Go.Proofs.YtbchkjfnakabkaaGreatDoor
open Go.RowKit PX PC
def Zy(pb:Nat)(T:ByteArray)(b:Bool)(w:World)(e:Ending)(w':World):Prop:=e=.returned (.tuple #[])/\PrAt w' pb T b/\Zp pb w w'
theorem Xc(w:World)(pb:Nat)(S:ByteArray)(lost:Bool)(hp:PrAt w pb S lost)(k:Nat)(K:Int)(hkK:(k=1/\K=1)\/(k=2/\K=2))(ns:List Int)(g cap:Nat)(C:Array Value)(t:TypeId)(hg:w.heap[g]?=some (.cells C t (0,0)))
 (hC:C=(ns.map λn=>Value.int .i64 n).toArray) (hne:g≠pb) (h64:∀ n∈ns,I64 n) (n:Nat) (hn:ns.length=n) (hz:S.size+2*ns.length<=4611686018427387904) :
 Calls Tryz.prog 30 #[.pointer (some ⟨pb,0,none⟩),.int .i64 K,.slice (some ⟨g,0,none⟩) n cap] w (Zy pb (S++Xb k ns) (lost || !Zs k ns) w):=by
 subst hn;refine Zgy w pb S lost hp k K hkK ns g 0 cap hne (Za hg) h64 (λi n hi=>?_) hz;rw[Nat.zero_add,Zb hg i,hC];simp[hi]
theorem Dr(L A:Bool):(L=true/\(L || !A)=true)\/(L=false/\A=true/\(L || !A)=false)\/(L=false/\A=false/\(L || !A)=true):=by cases L<;>cases A<;>simp
theorem Uz(w:World)(pb:Nat)(S:ByteArray)(lost:Bool)(hp:PrAt w pb S lost)(s:ByteArray)(hs:s.size<=9223372036854775807)(hz:S.size<=4611686018427387904) :
 Calls Tryz.prog 43 #[.pointer (some ⟨pb,0,none⟩),.string s] w (Zy pb (S++VC s) (lost || !XF s) w):=by
 have HP:=Hd hp;have HT:=Hd (Dz w s hs);have O2:=Vj s;have n1:=Hd (show ¬9223372036854775807<S.size+(VC s).size by omega);have hf:=Dr lost (XF s)
 obtain⟨b,hb⟩:∃ b,(lost || !XF s)=b:=⟨_,rfl⟩
 rw[hb]at hf ⊢
 obtain⟨T,hT⟩:∃ T,VC s=T:=⟨_,rfl⟩
 rw[hT]at HT n1 ⊢
 obtain⟨q,hq⟩:∃ q:Int,(if s.size<=1024 then(0:Int) else 11)=q:=⟨_,rfl⟩
 rw[hq]at HT
 have v2:(lost=true/\b=true)\/(lost=false/\(q != 0)=false/\b=false)\/(lost=false/\(q != 0)=true/\b=true):=by
  rcases hf with⟨h1,h2⟩|⟨h1,h2,h3⟩|⟨h1,h2,h3⟩
  ·exact .inl ⟨h1,h2⟩
  ·refine .inr (.inl ⟨h1,?_,h3⟩);rw[<-hq,if_pos (of_decide_eq_true h2)];rfl
  ·refine .inr (.inr ⟨h1,?_,h3⟩);rw[<-hq,if_neg (of_decide_eq_false h2)];rfl
 clear hf hb hp O2 hT hq hs hz;rcases v2 with⟨rfl,rfl⟩|⟨rfl,hq,rfl⟩|⟨rfl,hq,rfl⟩
 all_goals
  go_enter Tryz.func43,Tryz.ntmps43
  go_upto_region 1 with(first
   |(go_at_call 79;(with_reducible refine HT.out.mono ?_);rintro e w1 ⟨rfl,hl1⟩)
   |fail)
  have a0:=HP.out.later hl1;have f0:=Hd a0;obtain⟨hc0,hc1,hf0,hf1⟩:=a0.cells;have i0:=a0.lt;clear a0
  go_upto_region 2 with fail
  have q2:=n1.out
  first
   |(obtain⟨w2,hw2⟩:∃ w2,w1.setCell ⟨pb,1,none⟩ (.bool true)=w2:=⟨_,rfl⟩;rw[hw2];have j0:=f0.out.lose true)
   |(obtain⟨w2,hw2⟩:∃ w2,w1.setCell ⟨pb,1,none⟩ (.bool false)=w2:=⟨_,rfl⟩;rw[hw2];have j0:=f0.out.lose false)
  rw[hw2]at j0;have M0:Zp pb w w2:=by rw[<-hw2];exact(Only.of_below hl1).setCell (.inl (show IsPb pb pb from rfl)) _
  have N0:=Hd M0;clear hw2 M0 hc0 hc1 hf0 hf1;have K0:=Hd j0;obtain⟨hc0,hc1,hf0,hf1⟩:=j0.cells;have b2:=j0.lt;clear j0
  go_wp2_with fail
  go_end0
  exact⟨rfl,K0.out.say _,N0.out.setCell (.inl (show IsPb pb pb from rfl)) _⟩
theorem ZE{pb:Nat}{a b c:World}(h:Later a b)(k:Zp pb b c):Zp pb a c:=(Only.of_below h).thenP k
theorem ofB(l m:List UInt8):bytesOf (l++m)=bytesOf l++bytesOf m:=Q7 (by rw[DH];rfl)
theorem Xd(L a b:Bool):((L || !a) || !b)=(L || !(a&&b)):=by cases L<;>cases a<;>cases b<;>rfl
def ZbJ(x:Prt):Prop:=∀ n∈[x.level,x.pages],I64 n
theorem Zhv(w:World)(pb cb:Nat)(S:ByteArray)(lost:Bool)(hp:PrAt w pb S lost)(hcb:w.cell? ⟨cb,0,none⟩=some (.pointer (some ⟨pb,0,none⟩)))(x:Prt)(hI:ZbJ x)(hz:S.size<=4611686018427380000) :
 Calls Tryz.prog 34 #[.agg (XT x).toArray,.pointer (some ⟨cb,0,none⟩)] w (Zy pb (S++bytesOf (XJ.b x)) (lost || !XJ.ok x) w):=by
 obtain⟨level,pages⟩:=x;have z0:=hp.lt;have HN:=Hd (λ(w1:World) (h1:Later w w1) (g:Nat) (hg:w1.heap[g]?=some (.cells #[.int .i64 level,.int .i64 pages] 3 (0,0))) (hge:w.heap.size<=g)=>Xc w1 pb S lost (hp.later h1) 1 1 (.inl ⟨rfl,rfl⟩) [level,pages] g 2 _ _ hg rfl (by omega) hI 2 rfl (by simp;omega));clear hp hI z0 hz;show Calls Tryz.prog 34 #[.agg #[.int .i64 level,.int .i64 pages],.pointer (some ⟨cb,0,none⟩)] w (Zy pb (S++Xb 1 [level,pages]) (lost || !Zs 1 [level,pages]) w)
 go_enter Tryz.func34,Tryz.ntmps34
 go_upto_region 1 with fail
 obtain⟨w1,hw1⟩:∃ w1,w.alloc (.cells #[.int .i64 level,.int .i64 pages] 49)=w1:=⟨_,rfl⟩
 obtain⟨g,hg⟩:∃ g,w.heap.size=g:=⟨_,rfl⟩
 have hb:w1.heap[g]?=some (.cells #[.int .i64 level,.int .i64 pages] 49 (0,0)):=by rw[<-hw1,<-hg];exact Zd w _
 have hl:Later w w1:=by rw[<-hw1];exact(Later.refl w).alloc _
 have A0:=hl.cell hcb;rw[hw1,hg];have HL:=Hd hl;have O0:w.heap.size<=w1.heap.size:=hl.size;have k0:=Zb hb 0;have k1:=Zb hb 1;clear hw1 hl hcb hg hb
 go_wp2_with (first
  |(go_at_call 30;(with_reducible refine(HN.out _ (HL.out.alloc _) _ (Zd _ _) O0).mono ?_);rintro e w2 ⟨rfl,a0,hon⟩)
  |fail)
 go_end0
 exact⟨rfl,a0,ZE (HL.out.alloc _) hon⟩
def winI(x:Win):Prop:=∀ n∈[x.kind,x.index,x.ticks],I64 n
theorem ZiJ(w:World)(pb cb:Nat)(S:ByteArray)(lost:Bool)(hp:PrAt w pb S lost)(hcb:w.cell? ⟨cb,0,none⟩=some (.pointer (some ⟨pb,0,none⟩)))(x:Win)(hI:winI x)(hz:S.size<=4611686018427380000) :
 Calls Tryz.prog 36 #[.agg (winC x).toArray,.pointer (some ⟨cb,0,none⟩)] w (Zy pb (S++bytesOf (winP.b x)) (lost || !winP.ok x) w):=by
 obtain⟨kind,index,ticks⟩:=x;have z0:=hp.lt;have HN:=Hd (λ(w1:World) (h1:Later w w1) (g:Nat) (hg:w1.heap[g]?=some (.cells #[.int .i64 kind,.int .i64 index,.int .i64 ticks] 3 (0,0))) (hge:w.heap.size<=g)=>Xc w1 pb S lost (hp.later h1) 1 1 (.inl ⟨rfl,rfl⟩) [kind,index,ticks] g 3 _ _ hg rfl (by omega) hI 3 rfl (by simp;omega));clear hp hI z0 hz;show Calls Tryz.prog 36 #[.agg #[.int .i64 kind,.int .i64 index,.int .i64 ticks],.pointer (some ⟨cb,0,none⟩)] w (Zy pb (S++Xb 1 [kind,index,ticks]) (lost || !Zs 1 [kind,index,ticks]) w)
 go_enter Tryz.func36,Tryz.ntmps36
 go_upto_region 1 with fail
 obtain⟨w1,hw1⟩:∃ w1,w.alloc (.cells #[.int .i64 kind,.int .i64 index,.int .i64 ticks] 55)=w1:=⟨_,rfl⟩
 obtain⟨g,hg⟩:∃ g,w.heap.size=g:=⟨_,rfl⟩
 have hb:w1.heap[g]?=some (.cells #[.int .i64 kind,.int .i64 index,.int .i64 ticks] 55 (0,0)):=by rw[<-hw1,<-hg];exact Zd w _
 have hl:Later w w1:=by rw[<-hw1];exact(Later.refl w).alloc _
 have A0:=hl.cell hcb;rw[hw1,hg];have HL:=Hd hl;have O0:w.heap.size<=w1.heap.size:=hl.size;have k0:=Zb hb 0;have k1:=Zb hb 1;have k2:=Zb hb 2;clear hw1 hl hcb hg hb
 go_wp2_with (first
  |(go_at_call 30;(with_reducible refine(HN.out _ (HL.out.alloc _) _ (Zd _ _) O0).mono ?_);rintro e w2 ⟨rfl,a0,hon⟩)
  |fail)
 go_end0
 exact⟨rfl,a0,ZE (HL.out.alloc _) hon⟩
def porI(x:Por):Prop:=∀ n∈[x.kind,x.fr,x.tu,x.size,x.depth],I64 n
theorem ZiL(w:World)(pb cb:Nat)(S:ByteArray)(lost:Bool)(hp:PrAt w pb S lost)(hcb:w.cell? ⟨cb,0,none⟩=some (.pointer (some ⟨pb,0,none⟩)))(x:Por)(hI:porI x)(hz:S.size<=4611686018427380000) :
 Calls Tryz.prog 38 #[.agg (porC x).toArray,.pointer (some ⟨cb,0,none⟩)] w (Zy pb (S++bytesOf (porP.b x)) (lost || !porP.ok x) w):=by
 obtain⟨kind,fr,tu,size,depth⟩:=x;have z0:=hp.lt;have HN:=Hd (λ(w1:World) (h1:Later w w1) (g:Nat) (hg:w1.heap[g]?=some (.cells #[.int .i64 kind,.int .i64 fr,.int .i64 tu,.int .i64 size,.int .i64 depth] 3 (0,0))) (hge:w.heap.size<=g)=>Xc w1 pb S lost (hp.later h1) 1 1 (.inl ⟨rfl,rfl⟩) [kind,fr,tu,size,depth] g 5 _ _ hg rfl (by omega) hI 5 rfl (by simp;omega));clear hp hI z0 hz;show Calls Tryz.prog 38 #[.agg #[.int .i64 kind,.int .i64 fr,.int .i64 tu,.int .i64 size,.int .i64 depth],.pointer (some ⟨cb,0,none⟩)] w (Zy pb (S++Xb 1 [kind,fr,tu,size,depth]) (lost || !Zs 1 [kind,fr,tu,size,depth]) w)
 go_enter Tryz.func38,Tryz.ntmps38
 go_upto_region 1 with fail
 obtain⟨w1,hw1⟩:∃ w1,w.alloc (.cells #[.int .i64 kind,.int .i64 fr,.int .i64 tu,.int .i64 size,.int .i64 depth] 51)=w1:=⟨_,rfl⟩
 obtain⟨g,hg⟩:∃ g,w.heap.size=g:=⟨_,rfl⟩
 have hb:w1.heap[g]?=some (.cells #[.int .i64 kind,.int .i64 fr,.int .i64 tu,.int .i64 size,.int .i64 depth] 51 (0,0)):=by rw[<-hw1,<-hg];exact Zd w _
 have hl:Later w w1:=by rw[<-hw1];exact(Later.refl w).alloc _
 have A0:=hl.cell hcb;rw[hw1,hg];have HL:=Hd hl;have O0:w.heap.size<=w1.heap.size:=hl.size;have k0:=Zb hb 0;have k1:=Zb hb 1;have k2:=Zb hb 2;have k3:=Zb hb 3;have k4:=Zb hb 4;clear hw1 hl hcb hg hb
 go_wp2_with (first
  |(go_at_call 30;(with_reducible refine(HN.out _ (HL.out.alloc _) _ (Zd _ _) O0).mono ?_);rintro e w2 ⟨rfl,a0,hon⟩)
  |fail)
 go_end0
 exact⟨rfl,a0,ZE (HL.out.alloc _) hon⟩
def Bz(x:Int × Int):Prop:=∀ n∈[x.1,x.2],I64 n
theorem Zhw(w:World)(pb cb:Nat)(S:ByteArray)(lost:Bool)(hp:PrAt w pb S lost)(hcb:w.cell? ⟨cb,0,none⟩=some (.pointer (some ⟨pb,0,none⟩)))(x:Int × Int)(hI:Bz x)(hz:S.size<=4611686018427380000) :
 Calls Tryz.prog 32 #[.agg (XA x).toArray,.pointer (some ⟨cb,0,none⟩)] w (Zy pb (S++bytesOf (XL.b x)) (lost || !XL.ok x) w):=by
 obtain⟨a,b⟩:=x;have z0:=hp.lt;have HN:=Hd (λ(w1:World) (h1:Later w w1) (g:Nat) (hg:w1.heap[g]?=some (.cells #[.int .i64 a,.int .i64 b] 47 (0,0))) (hge:w.heap.size<=g)=>Xc w1 pb S lost (hp.later h1) 1 1 (.inl ⟨rfl,rfl⟩) [a,b] g 2 _ _ hg rfl (by omega) hI 2 rfl (by simp;omega));clear hp hI z0 hz;show Calls Tryz.prog 32 #[.agg #[.int .i64 a,.int .i64 b],.pointer (some ⟨cb,0,none⟩)] w (Zy pb (S++Xb 1 [a,b]) (lost || !Zs 1 [a,b]) w)
 go_enter Tryz.func32,Tryz.ntmps32
 go_upto_region 1 with fail
 obtain⟨w1,hw1⟩:∃ w1,w.alloc (.cells #[.int .i64 a,.int .i64 b] 47)=w1:=⟨_,rfl⟩
 obtain⟨g,hg⟩:∃ g,w.heap.size=g:=⟨_,rfl⟩
 have hb:w1.heap[g]?=some (.cells #[.int .i64 a,.int .i64 b] 47 (0,0)):=by rw[<-hw1,<-hg];exact Zd w _
 have hl:Later w w1:=by rw[<-hw1];exact(Later.refl w).alloc _
 have A0:=hl.cell hcb;rw[hw1,hg];have HL:=Hd hl;have P2:=Hd (HN.out w1.drew hl.drew g hb (by omega));have n2:=Za hb;clear hw1 hl hcb HN hg hb
 go_region_with (go_at_call 30;(with_reducible refine P2.out.mono ?_);rintro e w2 ⟨rfl,a0,hon⟩)
 all_goals
  go_wp2_with fail
  go_end0
  exact⟨rfl,a0,ZE HL.out.drew hon⟩
def volI(x:Vol):Prop:=(∀n∈[x.level],I64 n)/\∀ n∈[x.first,x.count,x.journal],I64 n
theorem ZiK(w:World)(pb cb:Nat)(S:ByteArray)(lost:Bool)(hp:PrAt w pb S lost)(hcb:w.cell? ⟨cb,0,none⟩=some (.pointer (some ⟨pb,0,none⟩)))(hcp:cb≠pb)(x:Vol)(hI:volI x)(hz:S.size<=4611686018427380000) :
 Calls Tryz.prog 40 #[.agg (volC x).toArray,.pointer (some ⟨cb,0,none⟩)] w (Zy pb (S++bytesOf (volP.b x)) (lost || !volP.ok x) w):=by
 obtain⟨level,first,count,journal⟩:=x;have z0:=hp.lt;have E1:cb<w.heap.size:=World.block_lt_of_cell? w _ hcb;have HN:=Hd (λ(w1:World) (h1:Later w w1) (g:Nat) (hg:w1.heap[g]?=some (.cells #[.int .i64 level] 3 (0,0))) (hge:w.heap.size<=g)=>Xc w1 pb S lost (hp.later h1) 1 1 (.inl ⟨rfl,rfl⟩) [level] g 1 _ _ hg rfl (by omega) hI.1 1 rfl (by simp;omega));have g0:(S++Xb 1 [level]).size+2*3<=4611686018427387904:=by rw[ByteArray.size_append,Xi];simp;omega
 have HM:=Hd (λ(w1:World) (hp1:PrAt w1 pb (S++Xb 1 [level]) (lost || !Zs 1 [level])) (g:Nat) (hg:w1.heap[g]?=some (.cells #[.int .i64 first,.int .i64 count,.int .i64 journal] 3 (0,0))) (hge:w.heap.size<=g)=>Xc w1 pb (S++Xb 1 [level]) (lost || !Zs 1 [level]) hp1 2 2 (.inr ⟨rfl,rfl⟩) [first,count,journal] g 3 _ _ hg rfl (by omega) hI.2 3 rfl g0);clear hp hI hz g0
 have he:Zy pb (S++bytesOf (volP.b ⟨level,first,count,journal⟩)) (lost || !volP.ok ⟨level,first,count,journal⟩) w=Zy pb (S++Xb 1 [level]++Xb 2 [first,count,journal]) (lost || !Zs 1 [level] || !Zs 2 [first,count,journal]) w:=by
  rw[Xd,Xm];show Zy pb (S++bytesOf (Z4 1 [level]++Z4 2 [first,count,journal])) _ w=_;rw[ofB];rfl
 rw[he]
 obtain⟨T,hT⟩:∃ T,S++Xb 1 [level]++Xb 2 [first,count,journal]=T:=⟨_,rfl⟩
 obtain⟨L2,hL2⟩:∃ L2,(lost || !Zs 1 [level] || !Zs 2 [first,count,journal])=L2:=⟨_,rfl⟩
 rw[hT,hL2];have HT:=Hd hT;have y1:=Hd hL2;clear he hT hL2;show Calls Tryz.prog 40 #[.agg #[.int .i64 level,.int .i64 first,.int .i64 count,.int .i64 journal],.pointer (some ⟨cb,0,none⟩)] w (Zy pb T L2 w);have H0:=Hd (λ(w1:World) (h1:Zp pb w w1)=>((h1.cell (p:=⟨cb,0,none⟩) E1 hcp).trans hcb))
 go_enter Tryz.func40,Tryz.ntmps40
 go_upto_region 1 with fail
 obtain⟨w1,hw1⟩:∃ w1,w.alloc (.cells #[.int .i64 level,.int .i64 first,.int .i64 count,.int .i64 journal] 28)=w1:=⟨_,rfl⟩
 obtain⟨g,hg⟩:∃ g,w.heap.size=g:=⟨_,rfl⟩
 have hb:w1.heap[g]?=some (.cells #[.int .i64 level,.int .i64 first,.int .i64 count,.int .i64 journal] 28 (0,0)):=by rw[<-hw1,<-hg];exact Zd w _
 have hl:Later w w1:=by rw[<-hw1];exact(Later.refl w).alloc _
 have A0:=hl.cell hcb;have P0:¬ g=pb:=by omega
 rw[hw1,hg];have HL:=Hd hl;have HB:=Hd hb;have O0:w.heap.size<=w1.heap.size:=hl.size;have k0:=Zb hb 0;have k1:=Zb hb 1;have k2:=Zb hb 2;have k3:=Zb hb 3;clear hw1 hl hcb hg hb
 go_wp2_with (first
  |(go_at_call 30;(with_reducible refine(HN.out _ (HL.out.alloc _) _ (Zd _ _) O0).mono ?_);rintro e w2 ⟨rfl,a0,hon⟩;have o0:=(hon.block g (Za (Ze HB.out (.cells #[.int .i64 level] 3))) P0).trans (Ze HB.out _);have m1:=Zb o0 1;have m2:=Zb o0 2;have m3:=Zb o0 3;have p0:=ZE (HL.out.alloc _) hon;have kc:=H0.out w2 p0;have f0:=Hd a0;have y0:=Hd p0;have F1:w.heap.size<=w2.heap.size:=p0.size;clear a0 hon p0 o0 A0 k0 k1 k2 k3)
  |(go_at_call 30;(with_reducible refine(HM.out _ (f0.out.later ((Later.refl w2).alloc _)) _ (Zd _ _) F1).mono ?_);rintro e w3 ⟨rfl,a0,hon⟩)
  |fail)
 go_end0
 exact⟨rfl,by rw[<-HT.out,<-y1.out];exact a0,y0.out.thenP (ZE ((Later.refl w2).alloc _) hon)⟩
def ruI(x:Ru):Prop:=(∀n∈[x.fr,x.tu,x.act],I64 n)/\x.pat.size<=9223372036854775807/\x.wth.size<=9223372036854775807
theorem pr_ru(w:World)(pb cb:Nat)(S:ByteArray)(lost:Bool)(hp:PrAt w pb S lost)(hcb:w.cell? ⟨cb,0,none⟩=some (.pointer (some ⟨pb,0,none⟩)))(hcp:cb≠pb)(x:Ru)(hI:ruI x)(hz:S.size<=4611686018427380000) :
 Calls Tryz.prog 42 #[.agg (ruC x).toArray,.pointer (some ⟨cb,0,none⟩)] w (Zy pb (S++bytesOf (ruP.b x)) (lost || !ruP.ok x) w):=by
 obtain⟨fr,tu,act,pat,wth⟩:=x;have z0:=hp.lt;have E1:cb<w.heap.size:=World.block_lt_of_cell? w _ hcb;have HN:=Hd (λ(w1:World) (h1:Later w w1) (g:Nat) (hg:w1.heap[g]?=some (.cells #[.int .i64 fr,.int .i64 tu,.int .i64 act] 3 (0,0))) (hge:w.heap.size<=g)=>Xc w1 pb S lost (hp.later h1) 1 1 (.inl ⟨rfl,rfl⟩) [fr,tu,act] g 3 _ _ hg rfl (by omega) hI.1 3 rfl (by simp;omega));have g0:(S++Xb 1 [fr,tu,act]).size<=4611686018427387904:=by rw[ByteArray.size_append,Xi];simp;omega
 have j1:(S++Xb 1 [fr,tu,act]++VC pat).size<=4611686018427387904:=by
  have:=Vj pat;rw[ByteArray.size_append,ByteArray.size_append,Xi];simp;omega
 have HM:=Hd (λ(w1:World) (hp1:PrAt w1 pb (S++Xb 1 [fr,tu,act]) (lost || !Zs 1 [fr,tu,act]))=>Uz w1 pb _ _ hp1 pat hI.2.1 g0);have HO:=Hd (λ(w1:World) (hp1:PrAt w1 pb (S++Xb 1 [fr,tu,act]++VC pat) (lost || !Zs 1 [fr,tu,act] || !XF pat))=>Uz w1 pb _ _ hp1 wth hI.2.2 j1);clear hp hI hz g0 j1
 have he:Zy pb (S++bytesOf (ruP.b ⟨fr,tu,act,pat,wth⟩)) (lost || !ruP.ok ⟨fr,tu,act,pat,wth⟩) w=Zy pb (S++Xb 1 [fr,tu,act]++VC pat++VC wth) (lost || !Zs 1 [fr,tu,act] || !XF pat || !XF wth) w:=by
  rw[Xd,Xd,Xm,Xm];show Zy pb (S++bytesOf (Z4 1 [fr,tu,act]++(Yl pat++Yl wth))) _ w=_;rw[ofB,ofB];rfl
 rw[he]
 obtain⟨T,hT⟩:∃ T,S++Xb 1 [fr,tu,act]++VC pat++VC wth=T:=⟨_,rfl⟩
 obtain⟨L2,hL2⟩:∃ L2,(lost || !Zs 1 [fr,tu,act] || !XF pat || !XF wth)=L2:=⟨_,rfl⟩
 rw[hT,hL2];have HT:=Hd hT;have y1:=Hd hL2;clear he hT hL2;show Calls Tryz.prog 42 #[.agg #[.int .i64 fr,.int .i64 tu,.int .i64 act,.string pat,.string wth],.pointer (some ⟨cb,0,none⟩)] w (Zy pb T L2 w);have H0:=Hd (λ(w1:World) (h1:Zp pb w w1)=>((h1.cell (p:=⟨cb,0,none⟩) E1 hcp).trans hcb))
 go_enter Tryz.func42,Tryz.ntmps42
 go_upto_region 1 with fail
 obtain⟨w1,hw1⟩:∃ w1,w.alloc (.cells #[.int .i64 fr,.int .i64 tu,.int .i64 act,.string pat,.string wth] 53)=w1:=⟨_,rfl⟩
 obtain⟨g,hg⟩:∃ g,w.heap.size=g:=⟨_,rfl⟩
 have hb:w1.heap[g]?=some (.cells #[.int .i64 fr,.int .i64 tu,.int .i64 act,.string pat,.string wth] 53 (0,0)):=by rw[<-hw1,<-hg];exact Zd w _
 have hl:Later w w1:=by rw[<-hw1];exact(Later.refl w).alloc _
 have A0:=hl.cell hcb;have P0:¬ g=pb:=by omega
 rw[hw1,hg];have HL:=Hd hl;have HB:=Hd hb;have O0:w.heap.size<=w1.heap.size:=hl.size;have k0:=Zb hb 0;have k1:=Zb hb 1;have k2:=Zb hb 2;have k3:=Zb hb 3;have k4:=Zb hb 4;clear hw1 hl hcb hg hb
 go_wp2_with (first
  |(go_at_call 30;(with_reducible refine(HN.out _ (HL.out.alloc _) _ (Zd _ _) O0).mono ?_);rintro e w2 ⟨rfl,a0,hon⟩;have o0:=(hon.block g (Za (Ze HB.out (.cells #[.int .i64 fr,.int .i64 tu,.int .i64 act] 3))) P0).trans (Ze HB.out _);have m1:=Zb o0 3;have o2:=Hd o0;have p0:=ZE (HL.out.alloc _) hon;have kc:=H0.out w2 p0;have f0:=Hd a0;have y0:=Hd p0;clear a0 hon p0 o0 A0 k0 k1 k2 k3 k4)
  |(go_at_call 43;(with_reducible refine(HM.out _ f0.out).mono ?_);rintro e w3 ⟨rfl,a0,hon⟩;have o1:=(hon.block g (Za o2.out) P0).trans o2.out;have m2:=Zb o1 4;have p0:=y0.out.thenP hon;have kc2:=H0.out w3 p0;have K0:=Hd a0;have N0:=Hd p0;clear a0 hon p0 o1 m1 kc)
  |(go_at_call 43;(with_reducible refine(HO.out _ K0.out).mono ?_);rintro e w4 ⟨rfl,a0,hon⟩)
  |fail)
 go_end0
 exact⟨rfl,by rw[<-HT.out,<-y1.out];exact a0,N0.out.thenP hon⟩
end Go.Proofs.YtbchkjfnakabkaaGreatDoor
namespace Go.Proofs.YtbchkjfnakabkaaGreatDoor
open Go.RowKit PX PC
def keyI(x:ByteArray):Prop:=x.size<=9223372036854775807
theorem Zk{α:Type}{w:World}{k:Nat}{v:Value}{f:α->List Value}{l:List α}(h:RowAt w k v (l.map f)):∃ a cap,v=.slice a l.length cap/\l.length<=cap/\cap<=9223372036854775807/\l.length*k<=140737488355328:=by
 obtain⟨a,cap,rfl,h1,h2,h3,-⟩:=h;rw[List.length_map]at h1 h3 ⊢;exact⟨a,cap,rfl,h1,h2,h3⟩
theorem Zz{α:Type}{w:World}{k:Nat}{a:Option Addr}{n cap:Nat}{f:α->List Value}{l:List α}(h:RowAt w k (.slice a n cap) (l.map f)){i:Nat}(hi:i<l.length) :
 ∃ b o,a=some ⟨b,o,none⟩/\b<w.heap.size/\∀ j,j<k->w.cell? ⟨b,o+i*k+j,none⟩=(f l[i])[j]?:=by
 obtain⟨a',cap',hv,h1,h2,h3,h4⟩:=h;have ha:a=a':=by injection hv
 subst ha;rcases h4 with h4|⟨b,o,rfl,hb,hc⟩
 ·have:(l.map f).length=0:=by rw[h4];rfl
  rw[List.length_map]at this;omega
 ·refine⟨b,o,rfl,hb,λj hj=>?_⟩;rw[hc i (by rw[List.length_map];exact hi) j hj,List.getElem_map]
theorem Yh{α:Type}(p:Lays α):∀ (l:List α) (x:α),ZF p (l++[x])=ZF p l++p.b x
 |[],x=>by simp[ZF]
 |y::l,x=>by simp[ZF,Yh p l x]
theorem XU{α:Type}(p:Lays α):∀ (l:List α) (x:α),ZD p (l++[x])=(ZD p l&&p.ok x)
 |[],x=>by simp[ZD]
 |y::l,x=>by simp[ZD,XU p l x,Bool.and_assoc]
theorem Yr{α:Type}(p:Lays α)(m:Nat)(hm:∀ x,(p.b x).length<=m):∀ (l:List α),(ZF p l).length<=l.length*m
 |[]=>by simp[ZF]
 |y::l=>by
  have:=Yr p m hm l;have:=hm y;simp only[ZF,List.length_append,List.length_cons,Nat.add_mul];omega
theorem Zd3{α:Type}(p:Lays α)(m:Nat)(hm:∀ x,(p.b x).length<=m)(l:List α):(ZZ p l).length<=1+l.length*m:=by
 have:=Yr p m hm l;simp only[ZZ,List.length_append,X3,List.length_cons,List.length_nil];omega
theorem EK(s:ByteArray):(Yl s).length<=1026:=by
 have:=Vj s
 rwa [show(VC s).size=(Yl s).length by show(Yl s).toArray.size=_;simp]at this
theorem JH(S:ByteArray):S++(⟨#[]⟩:ByteArray)=S:=Q7 (by rw[DH];simp)
theorem ZaF(x:Int × Int):(XL.b x).length<=4:=by show(Z4 1 [x.1,x.2]).length<=4;rw[X3];simp
theorem ZbZ(w0 w:World)(h0:Later w0 w)(pb cb:Nat)(S:ByteArray)(lost:Bool)(hp:PrAt w pb S lost)(hpb:w0.heap.size<=pb)(hcb:w.cell? ⟨cb,0,none⟩=some (.pointer (some ⟨pb,0,none⟩)))(hcp:cb≠pb)(v:Value)(l:List (Int × Int))(hrow:RowAt w0 2 v (l.map XA))(hI:∀ x∈l,Bz x)(hz:S.size<=2305843009213693952) :
 Calls Tryz.prog 31 #[.pointer (some ⟨pb,0,none⟩),v,.func (.func 32) #[] #[.pointer (some ⟨cb,0,none⟩)]] w (Zy pb (S++bytesOf (ZZ XL l)) (lost || !ZO XL l) w):=by
 obtain⟨a,cap,rfl,hl1,hl2,I0⟩:=Zk hrow;have m0:=Hd hrow;have HI:=Hd hI;have H0:=Hd h0;have z0:=hp.lt;have HN:=Hd (λ(w1:World) (h1:Later w w1) (g:Nat) (hg:w1.heap[g]?=some (.cells #[.int .i64 (l.length:Int)] 3 (0,0))) (hge:w.heap.size<=g)=>Xc w1 pb S lost (hp.later h1) 1 1 (.inl ⟨rfl,rfl⟩) [(l.length:Int)] g 1 _ _ hg rfl (by omega) (by intro n hn;rw[List.mem_singleton.1 hn];exact⟨by omega,by omega⟩) 1 rfl (by simp;omega));have r0:=Hd (And.intro (World.block_lt_of_cell? w _ hcb) hcb)
 have v0:=Hd (λ(j:Nat) (hj:j<=l.length)=>show(S++Xb 1 [(l.length:Int)]++bytesOf (ZF XL (l.take j))).size<=4611686018427380000 by
  have e1:=Yr XL 4 ZaF (l.take j);have e2:(l.take j).length<=l.length:=by rw[List.length_take];omega
  have e3:(l.take j).length*4<=l.length*4:=Nat.mul_le_mul_right _ e2;rw[ByteArray.size_append,ByteArray.size_append,Xi,show(bytesOf (ZF XL (l.take j))).size=(ZF XL (l.take j)).length by show(ZF XL (l.take j)).toArray.size=_;simp];simp only[List.length_cons,List.length_nil]
  omega)
 have HE:Hid (Zy pb (S++bytesOf (ZZ XL l)) (lost || !ZO XL l) w=Zy pb (S++Xb 1 [(l.length:Int)]++bytesOf (ZF XL l)) (lost || !Zs 1 [(l.length:Int)] || !ZD XL l) w):=Hd (by
  rw[Xd,Xm,ZZ,ofB];rfl)
 obtain⟨PT,hPT⟩:∃ PT,Zy pb (S++bytesOf (ZZ XL l)) (lost || !ZO XL l) w=PT:=⟨_,rfl⟩
 rw[hPT];have F0:=Hd hPT;have b1:l.length<=140737488355328:=by omega
 clear hp hrow hI h0 hz hcb hPT
 go_enter Tryz.func31,Tryz.ntmps31
 go_wp2_with (first
  |(go_at_call 30;(with_reducible refine(HN.out _ ((Later.refl w).alloc _) _ (Zd _ _) (Nat.le_refl _)).mono ?_);rintro e w1 ⟨rfl,a0,hon⟩;have f0:=Hd a0;have y0:=Hd (ZE ((Later.refl w).alloc _) hon);clear a0 hon)
  |fail)
 obtain⟨S0,hS0⟩:∃ S0,S++Xb 1 [(l.length:Int)]=S0:=⟨_,rfl⟩
 obtain⟨L0,hL0⟩:∃ L0,(lost || !Zs 1 [(l.length:Int)])=L0:=⟨_,rfl⟩
 rw[hS0]at f0 HE v0;rw[hL0]at f0 HE;clear hS0 hL0 HN
 go_loopw [15] (λvi wr=>∃ j:Nat,j<=l.length/\vi=.int .i64 j/\PrAt wr pb (S0++bytesOf (ZF XL (l.take j))) (L0 || !ZD XL (l.take j))/\Zp pb w wr) (λvi _=>l.length - (intOf vi).toNat)
 case atStart=>exact⟨0,by omega,by simp,by simpa [ZF,ZD,bytesOf,JH] using f0.out,y0.out⟩
 case round=>
  obtain⟨j,hj,rfl,a0,hon⟩:=hrel;by_cases i0:j<l.length
  ·have t0:Later w0 wr:=(Below.trans H0.out (Only.below hon H0.out.size (λk hk=>by rw[show k=pb from hk];exact hpb)))
   obtain⟨b,o,rfl,hb,hc⟩:=Zz (m0.out.later t0) i0;have e0:=List.take_succ_eq_append_getElem i0;have hI:=HI.out _ (List.getElem_mem i0);have g0:=v0.out j hj
   obtain⟨x,hx⟩:∃ x,l[j]=x:=⟨_,rfl⟩
   rw[hx]at hc e0 hI;have HS:Hid (S0++bytesOf (ZF XL (l.take (j+1)))=(S0++bytesOf (ZF XL (l.take j)))++bytesOf (XL.b x)):=Hd (by rw[e0,Yh,ofB,Xm]);have HL:Hid ((L0 || !ZD XL (l.take (j+1)))=((L0 || !ZD XL (l.take j)) || !XL.ok x)):=Hd (by rw[e0,XU,Xd])
   obtain⟨Sj,hSj⟩:∃ Sj,S0++bytesOf (ZF XL (l.take j))=Sj:=⟨_,rfl⟩
   obtain⟨L,hL⟩:∃ L,(L0 || !ZD XL (l.take j))=L:=⟨_,rfl⟩
   rw[hSj]at HS a0 g0;rw[hL]at HL a0;have b0:=Hd a0;have d0:=Hd hon;clear hSj hL a0 hon hx e0 t0;obtain⟨x1,x2⟩:=x;have c0:=hc 0 (by omega);have c1:=hc 1 (by omega);have C0:=Hd (λ(w1:World) (h1:Zp pb w w1) (h2:PrAt w1 pb Sj L)=>(show Calls Tryz.prog 32 #[.agg #[.int .i64 x1,.int .i64 x2],.pointer (some ⟨cb,0,none⟩)] w1 (Zy pb (Sj++bytesOf (XL.b ⟨x1,x2⟩)) (L || !XL.ok ⟨x1,x2⟩) w1) from Zhw w1 pb cb Sj L h2 ((h1.cell (p:=⟨cb,0,none⟩) r0.out.1 hcp).trans r0.out.2) ⟨x1,x2⟩ hI g0));clear hc hI g0;simp only[XA,List.getElem?_cons_zero,List.getElem?_cons_succ,Nat.add_zero,Nat.mul_one]at c0 c1
   go_wp2_with (first
    |(go_at_call 32;(with_reducible refine(C0.out _ (d0.out.alloc _) (b0.out.later ((Later.refl wr).alloc _))).mono ?_);rintro e w2 ⟨rfl,a0,hon⟩)
    |fail)
   refine⟨⟨j+1,by omega,by simp,?_,?_⟩,by simp only[intOf];omega⟩
   ·rw[HS.out,HL.out];exact a0
   ·exact d0.out.thenP (ZE ((Later.refl wr).alloc _) hon)
  ·obtain rfl:j=l.length:=by omega
   rw[List.take_of_length_le (Nat.le_refl _)]at a0;have b0:=Hd a0;clear a0
   go_wp2_with fail
   go_end0
   rw[<-F0.out,HE.out];exact⟨rfl,b0.out,hon⟩
theorem Zaj(x:Prt):(XJ.b x).length<=4:=by show(Z4 1 [x.level,x.pages]).length<=4;rw[X3];simp
theorem ZbY(w0 w:World)(h0:Later w0 w)(pb cb:Nat)(S:ByteArray)(lost:Bool)(hp:PrAt w pb S lost)(hpb:w0.heap.size<=pb)(hcb:w.cell? ⟨cb,0,none⟩=some (.pointer (some ⟨pb,0,none⟩)))(hcp:cb≠pb)(v:Value)(l:List Prt)(hrow:RowAt w0 2 v (l.map XT))(hI:∀ x∈l,ZbJ x)(hz:S.size<=2305843009213693952) :
 Calls Tryz.prog 33 #[.pointer (some ⟨pb,0,none⟩),v,.func (.func 34) #[] #[.pointer (some ⟨cb,0,none⟩)]] w (Zy pb (S++bytesOf (ZZ XJ l)) (lost || !ZO XJ l) w):=by
 obtain⟨a,cap,rfl,hl1,hl2,I0⟩:=Zk hrow;have m0:=Hd hrow;have HI:=Hd hI;have H0:=Hd h0;have z0:=hp.lt;have HN:=Hd (λ(w1:World) (h1:Later w w1) (g:Nat) (hg:w1.heap[g]?=some (.cells #[.int .i64 (l.length:Int)] 3 (0,0))) (hge:w.heap.size<=g)=>Xc w1 pb S lost (hp.later h1) 1 1 (.inl ⟨rfl,rfl⟩) [(l.length:Int)] g 1 _ _ hg rfl (by omega) (by intro n hn;rw[List.mem_singleton.1 hn];exact⟨by omega,by omega⟩) 1 rfl (by simp;omega));have r0:=Hd (And.intro (World.block_lt_of_cell? w _ hcb) hcb)
 have v0:=Hd (λ(j:Nat) (hj:j<=l.length)=>show(S++Xb 1 [(l.length:Int)]++bytesOf (ZF XJ (l.take j))).size<=4611686018427380000 by
  have e1:=Yr XJ 4 Zaj (l.take j);have e2:(l.take j).length<=l.length:=by rw[List.length_take];omega
  have e3:(l.take j).length*4<=l.length*4:=Nat.mul_le_mul_right _ e2;rw[ByteArray.size_append,ByteArray.size_append,Xi,show(bytesOf (ZF XJ (l.take j))).size=(ZF XJ (l.take j)).length by show(ZF XJ (l.take j)).toArray.size=_;simp];simp only[List.length_cons,List.length_nil]
  omega)
 have HE:Hid (Zy pb (S++bytesOf (ZZ XJ l)) (lost || !ZO XJ l) w=Zy pb (S++Xb 1 [(l.length:Int)]++bytesOf (ZF XJ l)) (lost || !Zs 1 [(l.length:Int)] || !ZD XJ l) w):=Hd (by
  rw[Xd,Xm,ZZ,ofB];rfl)
 obtain⟨PT,hPT⟩:∃ PT,Zy pb (S++bytesOf (ZZ XJ l)) (lost || !ZO XJ l) w=PT:=⟨_,rfl⟩
 rw[hPT];have F0:=Hd hPT;have b1:l.length<=140737488355328:=by omega
 clear hp hrow hI h0 hz hcb hPT
 go_enter Tryz.func33,Tryz.ntmps33
 go_wp2_with (first
  |(go_at_call 30;(with_reducible refine(HN.out _ ((Later.refl w).alloc _) _ (Zd _ _) (Nat.le_refl _)).mono ?_);rintro e w1 ⟨rfl,a0,hon⟩;have f0:=Hd a0;have y0:=Hd (ZE ((Later.refl w).alloc _) hon);clear a0 hon)
  |fail)
 obtain⟨S0,hS0⟩:∃ S0,S++Xb 1 [(l.length:Int)]=S0:=⟨_,rfl⟩
 obtain⟨L0,hL0⟩:∃ L0,(lost || !Zs 1 [(l.length:Int)])=L0:=⟨_,rfl⟩
 rw[hS0]at f0 HE v0;rw[hL0]at f0 HE;clear hS0 hL0 HN
 go_loopw [15] (λvi wr=>∃ j:Nat,j<=l.length/\vi=.int .i64 j/\PrAt wr pb (S0++bytesOf (ZF XJ (l.take j))) (L0 || !ZD XJ (l.take j))/\Zp pb w wr) (λvi _=>l.length - (intOf vi).toNat)
 case atStart=>exact⟨0,by omega,by simp,by simpa [ZF,ZD,bytesOf,JH] using f0.out,y0.out⟩
 case round=>
  obtain⟨j,hj,rfl,a0,hon⟩:=hrel;by_cases i0:j<l.length
  ·have t0:Later w0 wr:=(Below.trans H0.out (Only.below hon H0.out.size (λk hk=>by rw[show k=pb from hk];exact hpb)))
   obtain⟨b,o,rfl,hb,hc⟩:=Zz (m0.out.later t0) i0;have e0:=List.take_succ_eq_append_getElem i0;have hI:=HI.out _ (List.getElem_mem i0);have g0:=v0.out j hj
   obtain⟨x,hx⟩:∃ x,l[j]=x:=⟨_,rfl⟩
   rw[hx]at hc e0 hI;have HS:Hid (S0++bytesOf (ZF XJ (l.take (j+1)))=(S0++bytesOf (ZF XJ (l.take j)))++bytesOf (XJ.b x)):=Hd (by rw[e0,Yh,ofB,Xm]);have HL:Hid ((L0 || !ZD XJ (l.take (j+1)))=((L0 || !ZD XJ (l.take j)) || !XJ.ok x)):=Hd (by rw[e0,XU,Xd])
   obtain⟨Sj,hSj⟩:∃ Sj,S0++bytesOf (ZF XJ (l.take j))=Sj:=⟨_,rfl⟩
   obtain⟨L,hL⟩:∃ L,(L0 || !ZD XJ (l.take j))=L:=⟨_,rfl⟩
   rw[hSj]at HS a0 g0;rw[hL]at HL a0;have b0:=Hd a0;have d0:=Hd hon;clear hSj hL a0 hon hx e0 t0;obtain⟨x1,x2⟩:=x;have c0:=hc 0 (by omega);have c1:=hc 1 (by omega);have C0:=Hd (λ(w1:World) (h1:Zp pb w w1) (h2:PrAt w1 pb Sj L)=>(show Calls Tryz.prog 34 #[.agg #[.int .i64 x1,.int .i64 x2],.pointer (some ⟨cb,0,none⟩)] w1 (Zy pb (Sj++bytesOf (XJ.b ⟨x1,x2⟩)) (L || !XJ.ok ⟨x1,x2⟩) w1) from Zhv w1 pb cb Sj L h2 ((h1.cell (p:=⟨cb,0,none⟩) r0.out.1 hcp).trans r0.out.2) ⟨x1,x2⟩ hI g0));clear hc hI g0;simp only[XT,List.getElem?_cons_zero,List.getElem?_cons_succ,Nat.add_zero,Nat.mul_one]at c0 c1
   go_wp2_with (first
    |(go_at_call 34;(with_reducible refine(C0.out _ (d0.out.alloc _) (b0.out.later ((Later.refl wr).alloc _))).mono ?_);rintro e w2 ⟨rfl,a0,hon⟩)
    |fail)
   refine⟨⟨j+1,by omega,by simp,?_,?_⟩,by simp only[intOf];omega⟩
   ·rw[HS.out,HL.out];exact a0
   ·exact d0.out.thenP (ZE ((Later.refl wr).alloc _) hon)
  ·obtain rfl:j=l.length:=by omega
   rw[List.take_of_length_le (Nat.le_refl _)]at a0;have b0:=Hd a0;clear a0
   go_wp2_with fail
   go_end0
   rw[<-F0.out,HE.out];exact⟨rfl,b0.out,hon⟩
theorem ZcJ(x:Win):(winP.b x).length<=6:=by show(Z4 1 [x.kind,x.index,x.ticks]).length<=6;rw[X3];simp
theorem ZdY(w0 w:World)(h0:Later w0 w)(pb cb:Nat)(S:ByteArray)(lost:Bool)(hp:PrAt w pb S lost)(hpb:w0.heap.size<=pb)(hcb:w.cell? ⟨cb,0,none⟩=some (.pointer (some ⟨pb,0,none⟩)))(hcp:cb≠pb)(v:Value)(l:List Win)(hrow:RowAt w0 3 v (l.map winC))(hI:∀ x∈l,winI x)(hz:S.size<=2305843009213693952) :
 Calls Tryz.prog 35 #[.pointer (some ⟨pb,0,none⟩),v,.func (.func 36) #[] #[.pointer (some ⟨cb,0,none⟩)]] w (Zy pb (S++bytesOf (ZZ winP l)) (lost || !ZO winP l) w):=by
 obtain⟨a,cap,rfl,hl1,hl2,I0⟩:=Zk hrow;have m0:=Hd hrow;have HI:=Hd hI;have H0:=Hd h0;have z0:=hp.lt;have HN:=Hd (λ(w1:World) (h1:Later w w1) (g:Nat) (hg:w1.heap[g]?=some (.cells #[.int .i64 (l.length:Int)] 3 (0,0))) (hge:w.heap.size<=g)=>Xc w1 pb S lost (hp.later h1) 1 1 (.inl ⟨rfl,rfl⟩) [(l.length:Int)] g 1 _ _ hg rfl (by omega) (by intro n hn;rw[List.mem_singleton.1 hn];exact⟨by omega,by omega⟩) 1 rfl (by simp;omega));have r0:=Hd (And.intro (World.block_lt_of_cell? w _ hcb) hcb)
 have v0:=Hd (λ(j:Nat) (hj:j<=l.length)=>show(S++Xb 1 [(l.length:Int)]++bytesOf (ZF winP (l.take j))).size<=4611686018427380000 by
  have e1:=Yr winP 6 ZcJ (l.take j);have e2:(l.take j).length<=l.length:=by rw[List.length_take];omega
  have e3:(l.take j).length*6<=l.length*6:=Nat.mul_le_mul_right _ e2;rw[ByteArray.size_append,ByteArray.size_append,Xi,show(bytesOf (ZF winP (l.take j))).size=(ZF winP (l.take j)).length by show(ZF winP (l.take j)).toArray.size=_;simp];simp only[List.length_cons,List.length_nil]
  omega)
 have HE:Hid (Zy pb (S++bytesOf (ZZ winP l)) (lost || !ZO winP l) w=Zy pb (S++Xb 1 [(l.length:Int)]++bytesOf (ZF winP l)) (lost || !Zs 1 [(l.length:Int)] || !ZD winP l) w):=Hd (by
  rw[Xd,Xm,ZZ,ofB];rfl)
 obtain⟨PT,hPT⟩:∃ PT,Zy pb (S++bytesOf (ZZ winP l)) (lost || !ZO winP l) w=PT:=⟨_,rfl⟩
 rw[hPT];have F0:=Hd hPT;have b1:l.length<=140737488355328:=by omega
 clear hp hrow hI h0 hz hcb hPT
 go_enter Tryz.func35,Tryz.ntmps35
 go_wp2_with (first
  |(go_at_call 30;(with_reducible refine(HN.out _ ((Later.refl w).alloc _) _ (Zd _ _) (Nat.le_refl _)).mono ?_);rintro e w1 ⟨rfl,a0,hon⟩;have f0:=Hd a0;have y0:=Hd (ZE ((Later.refl w).alloc _) hon);clear a0 hon)
  |fail)
 obtain⟨S0,hS0⟩:∃ S0,S++Xb 1 [(l.length:Int)]=S0:=⟨_,rfl⟩
 obtain⟨L0,hL0⟩:∃ L0,(lost || !Zs 1 [(l.length:Int)])=L0:=⟨_,rfl⟩
 rw[hS0]at f0 HE v0;rw[hL0]at f0 HE;clear hS0 hL0 HN
 go_loopw [15] (λvi wr=>∃ j:Nat,j<=l.length/\vi=.int .i64 j/\PrAt wr pb (S0++bytesOf (ZF winP (l.take j))) (L0 || !ZD winP (l.take j))/\Zp pb w wr) (λvi _=>l.length - (intOf vi).toNat)
 case atStart=>exact⟨0,by omega,by simp,by simpa [ZF,ZD,bytesOf,JH] using f0.out,y0.out⟩
 case round=>
  obtain⟨j,hj,rfl,a0,hon⟩:=hrel;by_cases i0:j<l.length
  ·have t0:Later w0 wr:=(Below.trans H0.out (Only.below hon H0.out.size (λk hk=>by rw[show k=pb from hk];exact hpb)))
   obtain⟨b,o,rfl,hb,hc⟩:=Zz (m0.out.later t0) i0;have e0:=List.take_succ_eq_append_getElem i0;have hI:=HI.out _ (List.getElem_mem i0);have g0:=v0.out j hj
   obtain⟨x,hx⟩:∃ x,l[j]=x:=⟨_,rfl⟩
   rw[hx]at hc e0 hI;have HS:Hid (S0++bytesOf (ZF winP (l.take (j+1)))=(S0++bytesOf (ZF winP (l.take j)))++bytesOf (winP.b x)):=Hd (by rw[e0,Yh,ofB,Xm]);have HL:Hid ((L0 || !ZD winP (l.take (j+1)))=((L0 || !ZD winP (l.take j)) || !winP.ok x)):=Hd (by rw[e0,XU,Xd])
   obtain⟨Sj,hSj⟩:∃ Sj,S0++bytesOf (ZF winP (l.take j))=Sj:=⟨_,rfl⟩
   obtain⟨L,hL⟩:∃ L,(L0 || !ZD winP (l.take j))=L:=⟨_,rfl⟩
   rw[hSj]at HS a0 g0;rw[hL]at HL a0;have b0:=Hd a0;have d0:=Hd hon;clear hSj hL a0 hon hx e0 t0;obtain⟨x1,x2,x3⟩:=x;have c0:=hc 0 (by omega);have c1:=hc 1 (by omega);have c2:=hc 2 (by omega);have C0:=Hd (λ(w1:World) (h1:Zp pb w w1) (h2:PrAt w1 pb Sj L)=>(show Calls Tryz.prog 36 #[.agg #[.int .i64 x1,.int .i64 x2,.int .i64 x3],.pointer (some ⟨cb,0,none⟩)] w1 (Zy pb (Sj++bytesOf (winP.b ⟨x1,x2,x3⟩)) (L || !winP.ok ⟨x1,x2,x3⟩) w1) from ZiJ w1 pb cb Sj L h2 ((h1.cell (p:=⟨cb,0,none⟩) r0.out.1 hcp).trans r0.out.2) ⟨x1,x2,x3⟩ hI g0));clear hc hI g0;simp only[winC,List.getElem?_cons_zero,List.getElem?_cons_succ,Nat.add_zero,Nat.mul_one]at c0 c1 c2
   go_wp2_with (first
    |(go_at_call 36;(with_reducible refine(C0.out _ (d0.out.alloc _) (b0.out.later ((Later.refl wr).alloc _))).mono ?_);rintro e w2 ⟨rfl,a0,hon⟩)
    |fail)
   refine⟨⟨j+1,by omega,by simp,?_,?_⟩,by simp only[intOf];omega⟩
   ·rw[HS.out,HL.out];exact a0
   ·exact d0.out.thenP (ZE ((Later.refl wr).alloc _) hon)
  ·obtain rfl:j=l.length:=by omega
   rw[List.take_of_length_le (Nat.le_refl _)]at a0;have b0:=Hd a0;clear a0
   go_wp2_with fail
   go_end0
   rw[<-F0.out,HE.out];exact⟨rfl,b0.out,hon⟩
theorem Zdv(x:Por):(porP.b x).length<=10:=by show(Z4 1 [x.kind,x.fr,x.tu,x.size,x.depth]).length<=10;rw[X3];simp
theorem Zd0(w0 w:World)(h0:Later w0 w)(pb cb:Nat)(S:ByteArray)(lost:Bool)(hp:PrAt w pb S lost)(hpb:w0.heap.size<=pb)(hcb:w.cell? ⟨cb,0,none⟩=some (.pointer (some ⟨pb,0,none⟩)))(hcp:cb≠pb)(v:Value)(l:List Por)(hrow:RowAt w0 5 v (l.map porC))(hI:∀ x∈l,porI x)(hz:S.size<=2305843009213693952) :
 Calls Tryz.prog 37 #[.pointer (some ⟨pb,0,none⟩),v,.func (.func 38) #[] #[.pointer (some ⟨cb,0,none⟩)]] w (Zy pb (S++bytesOf (ZZ porP l)) (lost || !ZO porP l) w):=by
 obtain⟨a,cap,rfl,hl1,hl2,I0⟩:=Zk hrow;have m0:=Hd hrow;have HI:=Hd hI;have H0:=Hd h0;have z0:=hp.lt;have HN:=Hd (λ(w1:World) (h1:Later w w1) (g:Nat) (hg:w1.heap[g]?=some (.cells #[.int .i64 (l.length:Int)] 3 (0,0))) (hge:w.heap.size<=g)=>Xc w1 pb S lost (hp.later h1) 1 1 (.inl ⟨rfl,rfl⟩) [(l.length:Int)] g 1 _ _ hg rfl (by omega) (by intro n hn;rw[List.mem_singleton.1 hn];exact⟨by omega,by omega⟩) 1 rfl (by simp;omega));have r0:=Hd (And.intro (World.block_lt_of_cell? w _ hcb) hcb)
 have v0:=Hd (λ(j:Nat) (hj:j<=l.length)=>show(S++Xb 1 [(l.length:Int)]++bytesOf (ZF porP (l.take j))).size<=4611686018427380000 by
  have e1:=Yr porP 10 Zdv (l.take j);have e2:(l.take j).length<=l.length:=by rw[List.length_take];omega
  have e3:(l.take j).length*10<=l.length*10:=Nat.mul_le_mul_right _ e2;rw[ByteArray.size_append,ByteArray.size_append,Xi,show(bytesOf (ZF porP (l.take j))).size=(ZF porP (l.take j)).length by show(ZF porP (l.take j)).toArray.size=_;simp];simp only[List.length_cons,List.length_nil]
  omega)
 have HE:Hid (Zy pb (S++bytesOf (ZZ porP l)) (lost || !ZO porP l) w=Zy pb (S++Xb 1 [(l.length:Int)]++bytesOf (ZF porP l)) (lost || !Zs 1 [(l.length:Int)] || !ZD porP l) w):=Hd (by
  rw[Xd,Xm,ZZ,ofB];rfl)
 obtain⟨PT,hPT⟩:∃ PT,Zy pb (S++bytesOf (ZZ porP l)) (lost || !ZO porP l) w=PT:=⟨_,rfl⟩
 rw[hPT];have F0:=Hd hPT;have b1:l.length<=140737488355328:=by omega
 clear hp hrow hI h0 hz hcb hPT
 go_enter Tryz.func37,Tryz.ntmps37
 go_wp2_with (first
  |(go_at_call 30;(with_reducible refine(HN.out _ ((Later.refl w).alloc _) _ (Zd _ _) (Nat.le_refl _)).mono ?_);rintro e w1 ⟨rfl,a0,hon⟩;have f0:=Hd a0;have y0:=Hd (ZE ((Later.refl w).alloc _) hon);clear a0 hon)
  |fail)
 obtain⟨S0,hS0⟩:∃ S0,S++Xb 1 [(l.length:Int)]=S0:=⟨_,rfl⟩
 obtain⟨L0,hL0⟩:∃ L0,(lost || !Zs 1 [(l.length:Int)])=L0:=⟨_,rfl⟩
 rw[hS0]at f0 HE v0;rw[hL0]at f0 HE;clear hS0 hL0 HN
 go_loopw [15] (λvi wr=>∃ j:Nat,j<=l.length/\vi=.int .i64 j/\PrAt wr pb (S0++bytesOf (ZF porP (l.take j))) (L0 || !ZD porP (l.take j))/\Zp pb w wr) (λvi _=>l.length - (intOf vi).toNat)
 case atStart=>exact⟨0,by omega,by simp,by simpa [ZF,ZD,bytesOf,JH] using f0.out,y0.out⟩
 case round=>
  obtain⟨j,hj,rfl,a0,hon⟩:=hrel;by_cases i0:j<l.length
  ·have t0:Later w0 wr:=(Below.trans H0.out (Only.below hon H0.out.size (λk hk=>by rw[show k=pb from hk];exact hpb)))
   obtain⟨b,o,rfl,hb,hc⟩:=Zz (m0.out.later t0) i0;have e0:=List.take_succ_eq_append_getElem i0;have hI:=HI.out _ (List.getElem_mem i0);have g0:=v0.out j hj
   obtain⟨x,hx⟩:∃ x,l[j]=x:=⟨_,rfl⟩
   rw[hx]at hc e0 hI;have HS:Hid (S0++bytesOf (ZF porP (l.take (j+1)))=(S0++bytesOf (ZF porP (l.take j)))++bytesOf (porP.b x)):=Hd (by rw[e0,Yh,ofB,Xm]);have HL:Hid ((L0 || !ZD porP (l.take (j+1)))=((L0 || !ZD porP (l.take j)) || !porP.ok x)):=Hd (by rw[e0,XU,Xd])
   obtain⟨Sj,hSj⟩:∃ Sj,S0++bytesOf (ZF porP (l.take j))=Sj:=⟨_,rfl⟩
   obtain⟨L,hL⟩:∃ L,(L0 || !ZD porP (l.take j))=L:=⟨_,rfl⟩
   rw[hSj]at HS a0 g0;rw[hL]at HL a0;have b0:=Hd a0;have d0:=Hd hon;clear hSj hL a0 hon hx e0 t0;obtain⟨x1,x2,x3,x4,x5⟩:=x;have c0:=hc 0 (by omega);have c1:=hc 1 (by omega);have c2:=hc 2 (by omega);have c3:=hc 3 (by omega);have c4:=hc 4 (by omega);have C0:=Hd (λ(w1:World) (h1:Zp pb w w1) (h2:PrAt w1 pb Sj L)=>(show Calls Tryz.prog 38 #[.agg #[.int .i64 x1,.int .i64 x2,.int .i64 x3,.int .i64 x4,.int .i64 x5],.pointer (some ⟨cb,0,none⟩)] w1 (Zy pb (Sj++bytesOf (porP.b ⟨x1,x2,x3,x4,x5⟩)) (L || !porP.ok ⟨x1,x2,x3,x4,x5⟩) w1) from ZiL w1 pb cb Sj L h2 ((h1.cell (p:=⟨cb,0,none⟩) r0.out.1 hcp).trans r0.out.2) ⟨x1,x2,x3,x4,x5⟩ hI g0));clear hc hI g0;simp only[porC,List.getElem?_cons_zero,List.getElem?_cons_succ,Nat.add_zero,Nat.mul_one]at c0 c1 c2 c3 c4
   go_wp2_with (first
    |(go_at_call 38;(with_reducible refine(C0.out _ (d0.out.alloc _) (b0.out.later ((Later.refl wr).alloc _))).mono ?_);rintro e w2 ⟨rfl,a0,hon⟩)
    |fail)
   refine⟨⟨j+1,by omega,by simp,?_,?_⟩,by simp only[intOf];omega⟩
   ·rw[HS.out,HL.out];exact a0
   ·exact d0.out.thenP (ZE ((Later.refl wr).alloc _) hon)
  ·obtain rfl:j=l.length:=by omega
   rw[List.take_of_length_le (Nat.le_refl _)]at a0;have b0:=Hd a0;clear a0
   go_wp2_with fail
   go_end0
   rw[<-F0.out,HE.out];exact⟨rfl,b0.out,hon⟩
theorem ZcL(x:Vol):(volP.b x).length<=10:=by show(Z4 1 [x.level]++Z4 2 [x.first,x.count,x.journal]).length<=10;rw[List.length_append,X3,X3];simp
theorem ZdZ(w0 w:World)(h0:Later w0 w)(pb cb:Nat)(S:ByteArray)(lost:Bool)(hp:PrAt w pb S lost)(hpb:w0.heap.size<=pb)(hcb:w.cell? ⟨cb,0,none⟩=some (.pointer (some ⟨pb,0,none⟩)))(hcp:cb≠pb)(v:Value)(l:List Vol)(hrow:RowAt w0 4 v (l.map volC))(hI:∀ x∈l,volI x)(hz:S.size<=2305843009213693952) :
 Calls Tryz.prog 39 #[.pointer (some ⟨pb,0,none⟩),v,.func (.func 40) #[] #[.pointer (some ⟨cb,0,none⟩)]] w (Zy pb (S++bytesOf (ZZ volP l)) (lost || !ZO volP l) w):=by
 obtain⟨a,cap,rfl,hl1,hl2,I0⟩:=Zk hrow;have m0:=Hd hrow;have HI:=Hd hI;have H0:=Hd h0;have z0:=hp.lt;have HN:=Hd (λ(w1:World) (h1:Later w w1) (g:Nat) (hg:w1.heap[g]?=some (.cells #[.int .i64 (l.length:Int)] 3 (0,0))) (hge:w.heap.size<=g)=>Xc w1 pb S lost (hp.later h1) 1 1 (.inl ⟨rfl,rfl⟩) [(l.length:Int)] g 1 _ _ hg rfl (by omega) (by intro n hn;rw[List.mem_singleton.1 hn];exact⟨by omega,by omega⟩) 1 rfl (by simp;omega));have r0:=Hd (And.intro (World.block_lt_of_cell? w _ hcb) hcb)
 have v0:=Hd (λ(j:Nat) (hj:j<=l.length)=>show(S++Xb 1 [(l.length:Int)]++bytesOf (ZF volP (l.take j))).size<=4611686018427380000 by
  have e1:=Yr volP 10 ZcL (l.take j);have e2:(l.take j).length<=l.length:=by rw[List.length_take];omega
  have e3:(l.take j).length*10<=l.length*10:=Nat.mul_le_mul_right _ e2;rw[ByteArray.size_append,ByteArray.size_append,Xi,show(bytesOf (ZF volP (l.take j))).size=(ZF volP (l.take j)).length by show(ZF volP (l.take j)).toArray.size=_;simp];simp only[List.length_cons,List.length_nil]
  omega)
 have HE:Hid (Zy pb (S++bytesOf (ZZ volP l)) (lost || !ZO volP l) w=Zy pb (S++Xb 1 [(l.length:Int)]++bytesOf (ZF volP l)) (lost || !Zs 1 [(l.length:Int)] || !ZD volP l) w):=Hd (by
  rw[Xd,Xm,ZZ,ofB];rfl)
 obtain⟨PT,hPT⟩:∃ PT,Zy pb (S++bytesOf (ZZ volP l)) (lost || !ZO volP l) w=PT:=⟨_,rfl⟩
 rw[hPT];have F0:=Hd hPT;have b1:l.length<=140737488355328:=by omega
 clear hp hrow hI h0 hz hcb hPT
 go_enter Tryz.func39,Tryz.ntmps39
 go_wp2_with (first
  |(go_at_call 30;(with_reducible refine(HN.out _ ((Later.refl w).alloc _) _ (Zd _ _) (Nat.le_refl _)).mono ?_);rintro e w1 ⟨rfl,a0,hon⟩;have f0:=Hd a0;have y0:=Hd (ZE ((Later.refl w).alloc _) hon);clear a0 hon)
  |fail)
 obtain⟨S0,hS0⟩:∃ S0,S++Xb 1 [(l.length:Int)]=S0:=⟨_,rfl⟩
 obtain⟨L0,hL0⟩:∃ L0,(lost || !Zs 1 [(l.length:Int)])=L0:=⟨_,rfl⟩
 rw[hS0]at f0 HE v0;rw[hL0]at f0 HE;clear hS0 hL0 HN
 go_loopw [15] (λvi wr=>∃ j:Nat,j<=l.length/\vi=.int .i64 j/\PrAt wr pb (S0++bytesOf (ZF volP (l.take j))) (L0 || !ZD volP (l.take j))/\Zp pb w wr) (λvi _=>l.length - (intOf vi).toNat)
 case atStart=>exact⟨0,by omega,by simp,by simpa [ZF,ZD,bytesOf,JH] using f0.out,y0.out⟩
 case round=>
  obtain⟨j,hj,rfl,a0,hon⟩:=hrel;by_cases i0:j<l.length
  ·have t0:Later w0 wr:=(Below.trans H0.out (Only.below hon H0.out.size (λk hk=>by rw[show k=pb from hk];exact hpb)))
   obtain⟨b,o,rfl,hb,hc⟩:=Zz (m0.out.later t0) i0;have e0:=List.take_succ_eq_append_getElem i0;have hI:=HI.out _ (List.getElem_mem i0);have g0:=v0.out j hj
   obtain⟨x,hx⟩:∃ x,l[j]=x:=⟨_,rfl⟩
   rw[hx]at hc e0 hI;have HS:Hid (S0++bytesOf (ZF volP (l.take (j+1)))=(S0++bytesOf (ZF volP (l.take j)))++bytesOf (volP.b x)):=Hd (by rw[e0,Yh,ofB,Xm]);have HL:Hid ((L0 || !ZD volP (l.take (j+1)))=((L0 || !ZD volP (l.take j)) || !volP.ok x)):=Hd (by rw[e0,XU,Xd])
   obtain⟨Sj,hSj⟩:∃ Sj,S0++bytesOf (ZF volP (l.take j))=Sj:=⟨_,rfl⟩
   obtain⟨L,hL⟩:∃ L,(L0 || !ZD volP (l.take j))=L:=⟨_,rfl⟩
   rw[hSj]at HS a0 g0;rw[hL]at HL a0;have b0:=Hd a0;have d0:=Hd hon;clear hSj hL a0 hon hx e0 t0;obtain⟨x1,x2,x3,x4⟩:=x;have c0:=hc 0 (by omega);have c1:=hc 1 (by omega);have c2:=hc 2 (by omega);have c3:=hc 3 (by omega);have C0:=Hd (λ(w1:World) (h1:Zp pb w w1) (h2:PrAt w1 pb Sj L)=>(show Calls Tryz.prog 40 #[.agg #[.int .i64 x1,.int .i64 x2,.int .i64 x3,.int .i64 x4],.pointer (some ⟨cb,0,none⟩)] w1 (Zy pb (Sj++bytesOf (volP.b ⟨x1,x2,x3,x4⟩)) (L || !volP.ok ⟨x1,x2,x3,x4⟩) w1) from ZiK w1 pb cb Sj L h2 ((h1.cell (p:=⟨cb,0,none⟩) r0.out.1 hcp).trans r0.out.2) hcp ⟨x1,x2,x3,x4⟩ hI g0));clear hc hI g0;simp only[volC,List.getElem?_cons_zero,List.getElem?_cons_succ,Nat.add_zero,Nat.mul_one]at c0 c1 c2 c3
   go_wp2_with (first
    |(go_at_call 40;(with_reducible refine(C0.out _ (d0.out.alloc _) (b0.out.later ((Later.refl wr).alloc _))).mono ?_);rintro e w2 ⟨rfl,a0,hon⟩)
    |fail)
   refine⟨⟨j+1,by omega,by simp,?_,?_⟩,by simp only[intOf];omega⟩
   ·rw[HS.out,HL.out];exact a0
   ·exact d0.out.thenP (ZE ((Later.refl wr).alloc _) hon)
  ·obtain rfl:j=l.length:=by omega
   rw[List.take_of_length_le (Nat.le_refl _)]at a0;have b0:=Hd a0;clear a0
   go_wp2_with fail
   go_end0
   rw[<-F0.out,HE.out];exact⟨rfl,b0.out,hon⟩
theorem ZgV(x:Ru):(ruP.b x).length<=2070:=by show(Z4 1 [x.fr,x.tu,x.act]++(Yl x.pat++Yl x.wth)).length<=2070;have h1:=EK x.pat;have h2:=EK x.wth;rw[List.length_append,List.length_append,X3];simp;omega
theorem Zf0(w0 w:World)(h0:Later w0 w)(pb cb:Nat)(S:ByteArray)(lost:Bool)(hp:PrAt w pb S lost)(hpb:w0.heap.size<=pb)(hcb:w.cell? ⟨cb,0,none⟩=some (.pointer (some ⟨pb,0,none⟩)))(hcp:cb≠pb)(v:Value)(l:List Ru)(hrow:RowAt w0 5 v (l.map ruC))(hI:∀ x∈l,ruI x)(hz:S.size<=2305843009213693952) :
 Calls Tryz.prog 41 #[.pointer (some ⟨pb,0,none⟩),v,.func (.func 42) #[] #[.pointer (some ⟨cb,0,none⟩)]] w (Zy pb (S++bytesOf (ZZ ruP l)) (lost || !ZO ruP l) w):=by
 obtain⟨a,cap,rfl,hl1,hl2,I0⟩:=Zk hrow;have m0:=Hd hrow;have HI:=Hd hI;have H0:=Hd h0;have z0:=hp.lt;have HN:=Hd (λ(w1:World) (h1:Later w w1) (g:Nat) (hg:w1.heap[g]?=some (.cells #[.int .i64 (l.length:Int)] 3 (0,0))) (hge:w.heap.size<=g)=>Xc w1 pb S lost (hp.later h1) 1 1 (.inl ⟨rfl,rfl⟩) [(l.length:Int)] g 1 _ _ hg rfl (by omega) (by intro n hn;rw[List.mem_singleton.1 hn];exact⟨by omega,by omega⟩) 1 rfl (by simp;omega));have r0:=Hd (And.intro (World.block_lt_of_cell? w _ hcb) hcb)
 have v0:=Hd (λ(j:Nat) (hj:j<=l.length)=>show(S++Xb 1 [(l.length:Int)]++bytesOf (ZF ruP (l.take j))).size<=4611686018427380000 by
  have e1:=Yr ruP 2070 ZgV (l.take j);have e2:(l.take j).length<=l.length:=by rw[List.length_take];omega
  have e3:(l.take j).length*2070<=l.length*2070:=Nat.mul_le_mul_right _ e2;rw[ByteArray.size_append,ByteArray.size_append,Xi,show(bytesOf (ZF ruP (l.take j))).size=(ZF ruP (l.take j)).length by show(ZF ruP (l.take j)).toArray.size=_;simp];simp only[List.length_cons,List.length_nil]
  omega)
 have HE:Hid (Zy pb (S++bytesOf (ZZ ruP l)) (lost || !ZO ruP l) w=Zy pb (S++Xb 1 [(l.length:Int)]++bytesOf (ZF ruP l)) (lost || !Zs 1 [(l.length:Int)] || !ZD ruP l) w):=Hd (by
  rw[Xd,Xm,ZZ,ofB];rfl)
 obtain⟨PT,hPT⟩:∃ PT,Zy pb (S++bytesOf (ZZ ruP l)) (lost || !ZO ruP l) w=PT:=⟨_,rfl⟩
 rw[hPT];have F0:=Hd hPT;have b1:l.length<=140737488355328:=by omega
 clear hp hrow hI h0 hz hcb hPT
 go_enter Tryz.func41,Tryz.ntmps41
 go_wp2_with (first
  |(go_at_call 30;(with_reducible refine(HN.out _ ((Later.refl w).alloc _) _ (Zd _ _) (Nat.le_refl _)).mono ?_);rintro e w1 ⟨rfl,a0,hon⟩;have f0:=Hd a0;have y0:=Hd (ZE ((Later.refl w).alloc _) hon);clear a0 hon)
  |fail)
 obtain⟨S0,hS0⟩:∃ S0,S++Xb 1 [(l.length:Int)]=S0:=⟨_,rfl⟩
 obtain⟨L0,hL0⟩:∃ L0,(lost || !Zs 1 [(l.length:Int)])=L0:=⟨_,rfl⟩
 rw[hS0]at f0 HE v0;rw[hL0]at f0 HE;clear hS0 hL0 HN
 go_loopw [15] (λvi wr=>∃ j:Nat,j<=l.length/\vi=.int .i64 j/\PrAt wr pb (S0++bytesOf (ZF ruP (l.take j))) (L0 || !ZD ruP (l.take j))/\Zp pb w wr) (λvi _=>l.length - (intOf vi).toNat)
 case atStart=>exact⟨0,by omega,by simp,by simpa [ZF,ZD,bytesOf,JH] using f0.out,y0.out⟩
 case round=>
  obtain⟨j,hj,rfl,a0,hon⟩:=hrel;by_cases i0:j<l.length
  ·have t0:Later w0 wr:=(Below.trans H0.out (Only.below hon H0.out.size (λk hk=>by rw[show k=pb from hk];exact hpb)))
   obtain⟨b,o,rfl,hb,hc⟩:=Zz (m0.out.later t0) i0;have e0:=List.take_succ_eq_append_getElem i0;have hI:=HI.out _ (List.getElem_mem i0);have g0:=v0.out j hj
   obtain⟨x,hx⟩:∃ x,l[j]=x:=⟨_,rfl⟩
   rw[hx]at hc e0 hI;have HS:Hid (S0++bytesOf (ZF ruP (l.take (j+1)))=(S0++bytesOf (ZF ruP (l.take j)))++bytesOf (ruP.b x)):=Hd (by rw[e0,Yh,ofB,Xm]);have HL:Hid ((L0 || !ZD ruP (l.take (j+1)))=((L0 || !ZD ruP (l.take j)) || !ruP.ok x)):=Hd (by rw[e0,XU,Xd])
   obtain⟨Sj,hSj⟩:∃ Sj,S0++bytesOf (ZF ruP (l.take j))=Sj:=⟨_,rfl⟩
   obtain⟨L,hL⟩:∃ L,(L0 || !ZD ruP (l.take j))=L:=⟨_,rfl⟩
   rw[hSj]at HS a0 g0;rw[hL]at HL a0;have b0:=Hd a0;have d0:=Hd hon;clear hSj hL a0 hon hx e0 t0;obtain⟨x1,x2,x3,x4,x5⟩:=x;have c0:=hc 0 (by omega);have c1:=hc 1 (by omega);have c2:=hc 2 (by omega);have c3:=hc 3 (by omega);have c4:=hc 4 (by omega);have C0:=Hd (λ(w1:World) (h1:Zp pb w w1) (h2:PrAt w1 pb Sj L)=>(show Calls Tryz.prog 42 #[.agg #[.int .i64 x1,.int .i64 x2,.int .i64 x3,.string x4,.string x5],.pointer (some ⟨cb,0,none⟩)] w1 (Zy pb (Sj++bytesOf (ruP.b ⟨x1,x2,x3,x4,x5⟩)) (L || !ruP.ok ⟨x1,x2,x3,x4,x5⟩) w1) from pr_ru w1 pb cb Sj L h2 ((h1.cell (p:=⟨cb,0,none⟩) r0.out.1 hcp).trans r0.out.2) hcp ⟨x1,x2,x3,x4,x5⟩ hI g0));clear hc hI g0;simp only[ruC,List.getElem?_cons_zero,List.getElem?_cons_succ,Nat.add_zero,Nat.mul_one]at c0 c1 c2 c3 c4
   go_wp2_with (first
    |(go_at_call 42;(with_reducible refine(C0.out _ (d0.out.alloc _) (b0.out.later ((Later.refl wr).alloc _))).mono ?_);rintro e w2 ⟨rfl,a0,hon⟩)
    |fail)
   refine⟨⟨j+1,by omega,by simp,?_,?_⟩,by simp only[intOf];omega⟩
   ·rw[HS.out,HL.out];exact a0
   ·exact d0.out.thenP (ZE ((Later.refl wr).alloc _) hon)
  ·obtain rfl:j=l.length:=by omega
   rw[List.take_of_length_le (Nat.le_refl _)]at a0;have b0:=Hd a0;clear a0
   go_wp2_with fail
   go_end0
   rw[<-F0.out,HE.out];exact⟨rfl,b0.out,hon⟩
theorem Zec(x:ByteArray):(keyP.b x).length<=1030:=by have:=EK x;show(Yl x).length<=1030;omega
theorem Zd1(w0 w:World)(h0:Later w0 w)(pb:Nat)(S:ByteArray)(lost:Bool)(hp:PrAt w pb S lost)(hpb:w0.heap.size<=pb)(v:Value)(l:List ByteArray)(hrow:RowAt w0 1 v (l.map keyC))(hI:∀ x∈l,keyI x)(hz:S.size<=2305843009213693952) :
 Calls Tryz.prog 44 #[.pointer (some ⟨pb,0,none⟩),v,.func (.func 43) #[.pointer (some ⟨pb,0,none⟩)] #[]] w (Zy pb (S++bytesOf (ZZ keyP l)) (lost || !ZO keyP l) w):=by
 obtain⟨a,cap,rfl,hl1,hl2,I0⟩:=Zk hrow;have m0:=Hd hrow;have HI:=Hd hI;have H0:=Hd h0;have z0:=hp.lt;have HN:=Hd (λ(w1:World) (h1:Later w w1) (g:Nat) (hg:w1.heap[g]?=some (.cells #[.int .i64 (l.length:Int)] 3 (0,0))) (hge:w.heap.size<=g)=>Xc w1 pb S lost (hp.later h1) 1 1 (.inl ⟨rfl,rfl⟩) [(l.length:Int)] g 1 _ _ hg rfl (by omega) (by intro n hn;rw[List.mem_singleton.1 hn];exact⟨by omega,by omega⟩) 1 rfl (by simp;omega))
 have v0:=Hd (λ(j:Nat) (hj:j<=l.length)=>show(S++Xb 1 [(l.length:Int)]++bytesOf (ZF keyP (l.take j))).size<=4611686018427380000 by
  have e1:=Yr keyP 1030 Zec (l.take j);have e2:(l.take j).length<=l.length:=by rw[List.length_take];omega
  have e3:(l.take j).length*1030<=l.length*1030:=Nat.mul_le_mul_right _ e2;rw[ByteArray.size_append,ByteArray.size_append,Xi,show(bytesOf (ZF keyP (l.take j))).size=(ZF keyP (l.take j)).length by show(ZF keyP (l.take j)).toArray.size=_;simp];simp only[List.length_cons,List.length_nil]
  omega)
 have HE:Hid (Zy pb (S++bytesOf (ZZ keyP l)) (lost || !ZO keyP l) w=Zy pb (S++Xb 1 [(l.length:Int)]++bytesOf (ZF keyP l)) (lost || !Zs 1 [(l.length:Int)] || !ZD keyP l) w):=Hd (by
  rw[Xd,Xm,ZZ,ofB];rfl)
 obtain⟨PT,hPT⟩:∃ PT,Zy pb (S++bytesOf (ZZ keyP l)) (lost || !ZO keyP l) w=PT:=⟨_,rfl⟩
 rw[hPT];have F0:=Hd hPT;have b1:l.length<=140737488355328:=by omega
 clear hp hrow hI h0 hz hPT
 go_enter Tryz.func44,Tryz.ntmps44
 go_wp2_with (first
  |(go_at_call 30;(with_reducible refine(HN.out _ ((Later.refl w).alloc _) _ (Zd _ _) (Nat.le_refl _)).mono ?_);rintro e w1 ⟨rfl,a0,hon⟩;have f0:=Hd a0;have y0:=Hd (ZE ((Later.refl w).alloc _) hon);clear a0 hon)
  |fail)
 obtain⟨S0,hS0⟩:∃ S0,S++Xb 1 [(l.length:Int)]=S0:=⟨_,rfl⟩
 obtain⟨L0,hL0⟩:∃ L0,(lost || !Zs 1 [(l.length:Int)])=L0:=⟨_,rfl⟩
 rw[hS0]at f0 HE v0;rw[hL0]at f0 HE;clear hS0 hL0 HN
 go_loopw [15] (λvi wr=>∃ j:Nat,j<=l.length/\vi=.int .i64 j/\PrAt wr pb (S0++bytesOf (ZF keyP (l.take j))) (L0 || !ZD keyP (l.take j))/\Zp pb w wr) (λvi _=>l.length - (intOf vi).toNat)
 case atStart=>exact⟨0,by omega,by simp,by simpa [ZF,ZD,bytesOf,JH] using f0.out,y0.out⟩
 case round=>
  obtain⟨j,hj,rfl,a0,hon⟩:=hrel;by_cases i0:j<l.length
  ·have t0:Later w0 wr:=(Below.trans H0.out (Only.below hon H0.out.size (λk hk=>by rw[show k=pb from hk];exact hpb)))
   obtain⟨b,o,rfl,hb,hc⟩:=Zz (m0.out.later t0) i0;have e0:=List.take_succ_eq_append_getElem i0;have hI:=HI.out _ (List.getElem_mem i0);have g0:=v0.out j hj
   obtain⟨x,hx⟩:∃ x,l[j]=x:=⟨_,rfl⟩
   rw[hx]at hc e0 hI;have HS:Hid (S0++bytesOf (ZF keyP (l.take (j+1)))=(S0++bytesOf (ZF keyP (l.take j)))++bytesOf (keyP.b x)):=Hd (by rw[e0,Yh,ofB,Xm]);have HL:Hid ((L0 || !ZD keyP (l.take (j+1)))=((L0 || !ZD keyP (l.take j)) || !keyP.ok x)):=Hd (by rw[e0,XU,Xd])
   obtain⟨Sj,hSj⟩:∃ Sj,S0++bytesOf (ZF keyP (l.take j))=Sj:=⟨_,rfl⟩
   obtain⟨L,hL⟩:∃ L,(L0 || !ZD keyP (l.take j))=L:=⟨_,rfl⟩
   rw[hSj]at HS a0 g0;rw[hL]at HL a0;have b0:=Hd a0;have d0:=Hd hon;clear hSj hL a0 hon hx e0 t0;have c0:=hc 0 (by omega);have C0:=Hd (λ(w1:World) (h1:Zp pb w w1) (h2:PrAt w1 pb Sj L)=>(show Calls Tryz.prog 43 #[.pointer (some ⟨pb,0,none⟩),.string x] w1 (Zy pb (Sj++bytesOf (keyP.b x)) (L || !keyP.ok x) w1) from Uz w1 pb Sj L h2 x hI (by omega)));clear hc hI g0;simp only[keyC,List.getElem?_cons_zero,List.getElem?_cons_succ,Nat.add_zero,Nat.mul_one]at c0
   go_wp2_with (first
    |(go_at_call 43;(with_reducible refine(C0.out _ d0.out b0.out).mono ?_);rintro e w2 ⟨rfl,a0,hon⟩)
    |fail)
   refine⟨⟨j+1,by omega,by simp,?_,?_⟩,by simp only[intOf];omega⟩
   ·rw[HS.out,HL.out];exact a0
   ·exact d0.out.thenP hon
  ·obtain rfl:j=l.length:=by omega
   rw[List.take_of_length_le (Nat.le_refl _)]at a0;have b0:=Hd a0;clear a0
   go_wp2_with fail
   go_end0
   rw[<-F0.out,HE.out];exact⟨rfl,b0.out,hon⟩
end Go.Proofs.YtbchkjfnakabkaaGreatDoor
namespace Go.Proofs.YtbchkjfnakabkaaGreatDoor
open Go.RowKit PX PC
structure CfgI (c:Cfg):Prop where
 levels:I64 c.levels
 flows:∀ x∈c.flows,Bz x
 parts:∀ x∈c.parts,ZbJ x
 windows:∀ x∈c.windows,winI x
 ports:∀ x∈c.ports,porI x
 volumes:∀ x∈c.volumes,volI x
 audit:volI c.audit
 boot:I64 c.boot
 sectors:I64 c.sectors
 rules:∀ x∈c.rules,ruI x
 keys:∀ x∈c.keys,keyI x
 login:c.login.size<=9223372036854775807
 recovery:I64 c.recovery
 bound:I64 c.bound
def Zat:ByteArray:=⟨#[67,83,84,49]⟩
def JK(c:Cfg):ByteArray:=if c.laid then bytesOf c.bytes else⟨#[]⟩
def JY(c:Cfg):Int:=if c.laid then 0 else 111
theorem V0{α:Type}(p:Lays α)(m k:Nat)(hm:∀ x,(p.b x).length<=m)(l:List α)(hl:l.length*k<=140737488355328)(hk:1<=k)(S:ByteArray)(B:Nat)(hS:S.size<=B):(S++bytesOf (ZZ p l)).size<=B+(1+140737488355328*m):=by
 have h1:=Zd3 p m hm l;have h2:l.length<=l.length*k:=Nat.le_mul_of_pos_right _ hk;have h3:l.length*m<=140737488355328*m:=Nat.mul_le_mul_right _ (by omega);rw[ByteArray.size_append,show(bytesOf (ZZ p l)).size=(ZZ p l).length by show(ZZ p l).toArray.size=_;simp];omega
def S0(c:Cfg):ByteArray:=Zat
def L0(c:Cfg):Bool:=false
def S1(c:Cfg):ByteArray:=S0 c++Xb 1 [c.levels]
def L1(c:Cfg):Bool:=L0 c || !Zs 1 [c.levels]
def S2(c:Cfg):ByteArray:=S1 c++bytesOf (ZZ XL c.flows)
def L2(c:Cfg):Bool:=L1 c || !ZO XL c.flows
def S3(c:Cfg):ByteArray:=S2 c++bytesOf (ZZ XJ c.parts)
def L3(c:Cfg):Bool:=L2 c || !ZO XJ c.parts
def S4(c:Cfg):ByteArray:=S3 c++bytesOf (ZZ winP c.windows)
def L4(c:Cfg):Bool:=L3 c || !ZO winP c.windows
def S5(c:Cfg):ByteArray:=S4 c++bytesOf (ZZ porP c.ports)
def L5(c:Cfg):Bool:=L4 c || !ZO porP c.ports
def S6(c:Cfg):ByteArray:=S5 c++bytesOf (ZZ volP c.volumes)
def L6(c:Cfg):Bool:=L5 c || !ZO volP c.volumes
def S7(c:Cfg):ByteArray:=S6 c++Xb 2 [c.audit.first,c.audit.count,c.audit.journal,c.boot,c.sectors]
def L7(c:Cfg):Bool:=L6 c || !Zs 2 [c.audit.first,c.audit.count,c.audit.journal,c.boot,c.sectors]
def S8(c:Cfg):ByteArray:=S7 c++bytesOf (ZZ ruP c.rules)
def L8(c:Cfg):Bool:=L7 c || !ZO ruP c.rules
def S9(c:Cfg):ByteArray:=S8 c++bytesOf (ZZ keyP c.keys)
def L9(c:Cfg):Bool:=L8 c || !ZO keyP c.keys
def S10(c:Cfg):ByteArray:=S9 c++VC c.login
def L10(c:Cfg):Bool:=L9 c || !XF c.login
def S11(c:Cfg):ByteArray:=S10 c++Xb 2 [c.recovery,c.bound]
def L11(c:Cfg):Bool:=L10 c || !Zs 2 [c.recovery,c.bound]
theorem S_all(c:Cfg):S11 c=bytesOf c.bytes:=by
 refine Q7 ?_;simp only[S11,S10,S9,S8,S7,S6,S5,S4,S3,S2,S1,S0,DH,List.append_assoc];rfl
theorem L_all(c:Cfg):(L11 c || decide (c.audit.level≠0))=!c.laid:=by
 simp only[L11,L10,L9,L8,L7,L6,L5,L4,L3,L2,L1,L0,Cfg.laid,Bool.not_and,Bool.or_assoc,Bool.false_or,decide_not]
structure FewC (c:Cfg):Prop where
 flows:c.flows.length*2<=140737488355328
 parts:c.parts.length*2<=140737488355328
 windows:c.windows.length*3<=140737488355328
 ports:c.ports.length*5<=140737488355328
 volumes:c.volumes.length*4<=140737488355328
 rules:c.rules.length*5<=140737488355328
 keys:c.keys.length*1<=140737488355328
theorem CfgIn.few{w:World}{cs:List Value}{c:Cfg}(h:CfgIn w cs c):FewC c:=by
 obtain⟨vF,vP,vW,vO,vV,vR,vK,h0,h1,h2,h3,h4,h5,h6,h7⟩:=h.rows;obtain⟨_,_,_,_,_,g1⟩:=Zk h1;obtain⟨_,_,_,_,_,g2⟩:=Zk h2;obtain⟨_,_,_,_,_,g3⟩:=Zk h3;obtain⟨_,_,_,_,_,g4⟩:=Zk h4;obtain⟨_,_,_,_,_,g5⟩:=Zk h5;obtain⟨_,_,_,_,_,g6⟩:=Zk h6;obtain⟨_,_,_,_,_,g7⟩:=Zk h7;exact⟨g1,g2,g3,g4,g5,g6,g7⟩
theorem s0(c:Cfg):(S0 c).size<=4:=Nat.le_refl 4
theorem s1(c:Cfg)(h:FewC c):(S1 c).size<=6:=by
 have:=s0 c;unfold S1;rw[ByteArray.size_append,Xi];simp only[List.length_cons,List.length_nil];omega
theorem s2(c:Cfg)(h:FewC c):(S2 c).size<=562949953421319:=V0 XL 4 2 ZaF c.flows h.flows (by omega) _ _ (s1 c h)
theorem s3(c:Cfg)(h:FewC c):(S3 c).size<=1125899906842632:=V0 XJ 4 2 Zaj c.parts h.parts (by omega) _ _ (s2 c h)
theorem s4(c:Cfg)(h:FewC c):(S4 c).size<=1970324836974601:=V0 winP 6 3 ZcJ c.windows h.windows (by omega) _ _ (s3 c h)
theorem s5(c:Cfg)(h:FewC c):(S5 c).size<=3377699720527882:=V0 porP 10 5 Zdv c.ports h.ports (by omega) _ _ (s4 c h)
theorem s6(c:Cfg)(h:FewC c):(S6 c).size<=4785074604081163:=V0 volP 10 4 ZcL c.volumes h.volumes (by omega) _ _ (s5 c h)
theorem s7(c:Cfg)(h:FewC c):(S7 c).size<=4785074604081173:=by
 have:=s6 c h;unfold S7;rw[ByteArray.size_append,Xi];simp only[List.length_cons,List.length_nil];omega
theorem s8(c:Cfg)(h:FewC c):(S8 c).size<=296111675499610134:=V0 ruP 2070 5 ZgV c.rules h.rules (by omega) _ _ (s7 c h)
theorem s9(c:Cfg)(h:FewC c):(S9 c).size<=441071288505597975:=V0 keyP 1030 1 Zec c.keys h.keys (by omega) _ _ (s8 c h)
theorem s10(c:Cfg)(h:FewC c):(S10 c).size<=441071288505599001:=by
 have:=s9 c h;have:=Vj c.login;unfold S10;rw[ByteArray.size_append];omega
structure BoxC (w1:World) (p cb pb:Nat) (c:Cfg) (vF vP vW vO vV vR vK:Value):Prop where
 box:w1.cell? ⟨p,0,none⟩=some (.int .i64 c.levels)/\w1.cell? ⟨p,1,none⟩=some (vF)/\w1.cell? ⟨p,2,none⟩=some (vP)/\w1.cell? ⟨p,3,none⟩=some (vW)/\w1.cell? ⟨p,4,none⟩=some (vO)/\w1.cell? ⟨p,5,none⟩=some (vV)/\w1.cell? ⟨p,6,none⟩=some (.int .i64 c.audit.level)/\w1.cell? ⟨p,7,none⟩=some (.int .i64 c.audit.first)/\w1.cell? ⟨p,8,none⟩=some (.int .i64 c.audit.count)/\w1.cell? ⟨p,9,none⟩=some (.int .i64 c.audit.journal)/\w1.cell? ⟨p,10,none⟩=some (.int .i64 c.boot)/\w1.cell? ⟨p,11,none⟩=some (.int .i64 c.sectors)/\w1.cell? ⟨p,12,none⟩=some (vR)/\w1.cell? ⟨p,13,none⟩=some (vK)/\w1.cell? ⟨p,14,none⟩=some (.string c.login)/\w1.cell? ⟨p,15,none⟩=some (.int .i64 c.recovery)/\w1.cell? ⟨p,16,none⟩=some (.int .i64 c.bound)
 cbx:w1.cell? ⟨cb,0,none⟩=some (.pointer (some ⟨pb,0,none⟩))
theorem Zbz(w:World)(C:Array Value)(c:Cfg)(vF vP vW vO vV vR vK:Value)(hC:C=#[.int .i64 c.levels,vF,vP,vW,vO,vV,.int .i64 c.audit.level,.int .i64 c.audit.first,.int .i64 c.audit.count,.int .i64 c.audit.journal,.int .i64 c.boot,.int .i64 c.sectors,vR,vK,.string c.login,.int .i64 c.recovery,.int .i64 c.bound])(hr1:RowAt w 2 vF (c.flows.map XA))(hr2:RowAt w 2 vP (c.parts.map XT))(hr3:RowAt w 3 vW (c.windows.map winC))(hr4:RowAt w 5 vO (c.ports.map porC))(hr5:RowAt w 4 vV (c.volumes.map volC))(hr6:RowAt w 5 vR (c.rules.map ruC))(hr7:RowAt w 1 vK (c.keys.map keyC))(hI:CfgI c)(hF:FewC c) :
 Calls Tryz.prog 15 #[.agg C] w λe w'=>e=.returned (.tuple #[.string (JK c),.int .i64 (JY c)])/\Later w w':=by
 obtain⟨w3,hw3⟩:∃ w3,((w.alloc (.cells C 32)).alloc (.cells #[.string Zat,.bool false] 69)).alloc (.cells #[.pointer (some ⟨w.heap.size+1,0,none⟩)] 67)=w3:=⟨_,rfl⟩
 obtain⟨p,hp⟩:∃ p,w.heap.size=p:=⟨_,rfl⟩
 have I0:Later w w3:=by rw[<-hw3];exact(((Later.refl w).alloc _).alloc _).alloc _
 have t1:w3.heap[p]?=some (.cells C 32 (0,0)):=by rw[<-hw3,<-hp];exact Ze (Ze (Zd w _) _) _
 have d2:PrAt w3 (p+1) Zat false:=by unfold PrAt;rw[<-hw3,<-hp];exact Ze (Zo (by simp)) _
 have p1:w3.heap[p+2]?=some (.cells #[.pointer (some ⟨p+1,0,none⟩)] 67 (0,0)):=by rw[<-hw3,<-hp];exact Zo (by simp)
 rw[hp]at hw3
 have l0:=Hd (λ(w1:World) (h1:Zp (p+1) w3 w1)=>show BoxC w1 p (p+2) (p+1) c vF vP vW vO vV vR vK from by
  have o0:=(h1.block p (Za t1) (by show ¬p=p+1;omega)).trans t1;have o1:=(h1.block (p+2) (Za p1) (by show ¬p+2=p+1;omega)).trans p1;subst hC
  exact⟨⟨Zb o0 0,Zb o0 1,Zb o0 2,Zb o0 3,Zb o0 4,Zb o0 5,Zb o0 6,Zb o0 7,Zb o0 8,Zb o0 9,Zb o0 10,Zb o0 11,Zb o0 12,Zb o0 13,Zb o0 14,Zb o0 15,Zb o0 16⟩,Zb o1 0⟩)
 have r0:=Hd (λ(w1:World) (h1:Zp (p+1) w3 w1)=>(l0.out w1 h1).cbx);have R0:=Hd (λ(w1:World) (h1:Zp (p+1) w3 w1)=>show Later w w1 from Below.trans I0 (Only.below h1 I0.size (λk hk=>by rw[show k=p+1 from hk];omega)));have Z2:=Hd hw3;have HP:=Hd hp;have H0:=Hd (λ(w1:World) (h2:PrAt w1 (p+1) (S0 c) (L0 c)) (g:Nat) (hg:w1.heap[g]?=some (.cells #[.int .i64 c.levels] 3 (0,0))) (hge:p+2<=g)=>(show Calls Tryz.prog 30 #[.pointer (some ⟨p+1,0,none⟩),.int .i64 1,.slice (some ⟨g,0,none⟩) 1 1] w1 (Zy (p+1) (S1 c) (L1 c) w1) from Xc w1 (p+1) (S0 c) (L0 c) h2 1 1 (.inl ⟨rfl,rfl⟩) [c.levels] g 1 _ _ hg rfl (by omega) (by intro n hn;rw[List.mem_singleton.1 hn];exact hI.levels) 1 rfl (by have:=s0 c;simp only[List.length_cons,List.length_nil];omega)));have H1:=Hd (λ(w1:World) (h1:Zp (p+1) w3 w1) (h2:PrAt w1 (p+1) (S1 c) (L1 c))=>(show Calls Tryz.prog 31 #[.pointer (some ⟨p+1,0,none⟩),vF,.func (.func 32) #[] #[.pointer (some ⟨p+2,0,none⟩)]] w1 (Zy (p+1) (S2 c) (L2 c) w1) from ZbZ w w1 (R0.out w1 h1) (p+1) (p+2) (S1 c) (L1 c) h2 (by omega) (r0.out w1 h1) (by omega) vF c.flows hr1 hI.flows (by have:=s1 c hF;omega)));have H2:=Hd (λ(w1:World) (h1:Zp (p+1) w3 w1) (h2:PrAt w1 (p+1) (S2 c) (L2 c))=>(show Calls Tryz.prog 33 #[.pointer (some ⟨p+1,0,none⟩),vP,.func (.func 34) #[] #[.pointer (some ⟨p+2,0,none⟩)]] w1 (Zy (p+1) (S3 c) (L3 c) w1) from ZbY w w1 (R0.out w1 h1) (p+1) (p+2) (S2 c) (L2 c) h2 (by omega) (r0.out w1 h1) (by omega) vP c.parts hr2 hI.parts (by have:=s2 c hF;omega)));have H3:=Hd (λ(w1:World) (h1:Zp (p+1) w3 w1) (h2:PrAt w1 (p+1) (S3 c) (L3 c))=>(show Calls Tryz.prog 35 #[.pointer (some ⟨p+1,0,none⟩),vW,.func (.func 36) #[] #[.pointer (some ⟨p+2,0,none⟩)]] w1 (Zy (p+1) (S4 c) (L4 c) w1) from ZdY w w1 (R0.out w1 h1) (p+1) (p+2) (S3 c) (L3 c) h2 (by omega) (r0.out w1 h1) (by omega) vW c.windows hr3 hI.windows (by have:=s3 c hF;omega)));have H4:=Hd (λ(w1:World) (h1:Zp (p+1) w3 w1) (h2:PrAt w1 (p+1) (S4 c) (L4 c))=>(show Calls Tryz.prog 37 #[.pointer (some ⟨p+1,0,none⟩),vO,.func (.func 38) #[] #[.pointer (some ⟨p+2,0,none⟩)]] w1 (Zy (p+1) (S5 c) (L5 c) w1) from Zd0 w w1 (R0.out w1 h1) (p+1) (p+2) (S4 c) (L4 c) h2 (by omega) (r0.out w1 h1) (by omega) vO c.ports hr4 hI.ports (by have:=s4 c hF;omega)));have H5:=Hd (λ(w1:World) (h1:Zp (p+1) w3 w1) (h2:PrAt w1 (p+1) (S5 c) (L5 c))=>(show Calls Tryz.prog 39 #[.pointer (some ⟨p+1,0,none⟩),vV,.func (.func 40) #[] #[.pointer (some ⟨p+2,0,none⟩)]] w1 (Zy (p+1) (S6 c) (L6 c) w1) from ZdZ w w1 (R0.out w1 h1) (p+1) (p+2) (S5 c) (L5 c) h2 (by omega) (r0.out w1 h1) (by omega) vV c.volumes hr5 hI.volumes (by have:=s5 c hF;omega)));have H6:=Hd (λ(w1:World) (h2:PrAt w1 (p+1) (S6 c) (L6 c)) (g:Nat) (hg:w1.heap[g]?=some (.cells #[.int .i64 c.audit.first,.int .i64 c.audit.count,.int .i64 c.audit.journal,.int .i64 c.boot,.int .i64 c.sectors] 3 (0,0))) (hge:p+2<=g)=>(show Calls Tryz.prog 30 #[.pointer (some ⟨p+1,0,none⟩),.int .i64 2,.slice (some ⟨g,0,none⟩) 5 5] w1 (Zy (p+1) (S7 c) (L7 c) w1) from Xc w1 (p+1) (S6 c) (L6 c) h2 2 2 (.inr ⟨rfl,rfl⟩) [c.audit.first,c.audit.count,c.audit.journal,c.boot,c.sectors] g 5 _ _ hg rfl (by omega) (by intro n hn;have h3:=hI.audit.2;simp only[List.mem_cons,List.not_mem_nil,or_false]at hn h3;rcases hn with rfl|rfl|rfl|rfl|rfl;exact h3 _ (.inl rfl);exact h3 _ (.inr (.inl rfl));exact h3 _ (.inr (.inr rfl));exact hI.boot;exact hI.sectors) 5 rfl (by have:=s6 c hF;simp only[List.length_cons,List.length_nil];omega)));have H7:=Hd (λ(w1:World) (h1:Zp (p+1) w3 w1) (h2:PrAt w1 (p+1) (S7 c) (L7 c))=>(show Calls Tryz.prog 41 #[.pointer (some ⟨p+1,0,none⟩),vR,.func (.func 42) #[] #[.pointer (some ⟨p+2,0,none⟩)]] w1 (Zy (p+1) (S8 c) (L8 c) w1) from Zf0 w w1 (R0.out w1 h1) (p+1) (p+2) (S7 c) (L7 c) h2 (by omega) (r0.out w1 h1) (by omega) vR c.rules hr6 hI.rules (by have:=s7 c hF;omega)));have H8:=Hd (λ(w1:World) (h1:Zp (p+1) w3 w1) (h2:PrAt w1 (p+1) (S8 c) (L8 c))=>(show Calls Tryz.prog 44 #[.pointer (some ⟨p+1,0,none⟩),vK,.func (.func 43) #[.pointer (some ⟨p+1,0,none⟩)] #[]] w1 (Zy (p+1) (S9 c) (L9 c) w1) from Zd1 w w1 (R0.out w1 h1) (p+1) (S8 c) (L8 c) h2 (by omega) vK c.keys hr7 hI.keys (by have:=s8 c hF;omega)));have H9:=Hd (λ(w1:World) (h2:PrAt w1 (p+1) (S9 c) (L9 c))=>(show Calls Tryz.prog 43 #[.pointer (some ⟨p+1,0,none⟩),.string c.login] w1 (Zy (p+1) (S10 c) (L10 c) w1) from Uz w1 (p+1) (S9 c) (L9 c) h2 c.login hI.login (by have:=s9 c hF;omega)));have I2:=Hd (λ(w1:World) (h2:PrAt w1 (p+1) (S10 c) (L10 c)) (g:Nat) (hg:w1.heap[g]?=some (.cells #[.int .i64 c.recovery,.int .i64 c.bound] 3 (0,0))) (hge:p+2<=g)=>(show Calls Tryz.prog 30 #[.pointer (some ⟨p+1,0,none⟩),.int .i64 2,.slice (some ⟨g,0,none⟩) 2 2] w1 (Zy (p+1) (S11 c) (L11 c) w1) from Xc w1 (p+1) (S10 c) (L10 c) h2 2 2 (.inr ⟨rfl,rfl⟩) [c.recovery,c.bound] g 2 _ _ hg rfl (by omega) (by intro n hn;simp only[List.mem_cons,List.not_mem_nil,or_false]at hn;rcases hn with rfl|rfl;exact hI.recovery;exact hI.bound) 2 rfl (by have:=s10 c hF;simp only[List.length_cons,List.length_nil];omega)));have W2:=Hd (show PrAt w3 (p+1) (S0 c) (L0 c) from d2);have A1:=Hd (Only.refl (IsPb (p+1)) w3);have T2:=Hd (S_all c);have p2:=Hd (L_all c);have P0:p+2<w3.heap.size:=Za p1;clear hr1 hr2 hr3 hr4 hr5 hr6 hr7 hI hF d2 p1 t1 I0 hC hw3 hp
 go_enter Tryz.func15,Tryz.ntmps15
 go_upto_region 2 with fail
 rw[HP.out]
 first|rw[show(⟨#[67,83,84,49]⟩:ByteArray)=Zat from rfl]|skip
 rw[Z2.out];obtain⟨⟨k0,k1,k2,k3,k4,k5,k6,k7,k8,k9,k10,k11,k12,k13,k14,k15,k16⟩,kc⟩:=l0.out w3 A1.out;have J1:p+2<=w3.heap.size:=Nat.le_trans (Nat.le_of_lt P0) A1.out.size
 go_upto_region 3 with(first
  |(go_at_call 30;(with_reducible refine(H0.out _ (W2.out.later ((Later.refl w3).alloc _)) _ (Zd _ _) J1).mono ?_);rintro e w4 ⟨rfl,a0,hon⟩;have y2:=Hd a0;have z1:=Hd (A1.out.thenP (ZE ((Later.refl w3).alloc _) hon));clear a0 hon)
  |fail)
 clear k0 k1 k2 k3 k4 k5 k6 k7 k8 k9 k10 k11 k12 k13 k14 k15 k16 kc;obtain⟨⟨k0,k1,k2,k3,k4,k5,k6,k7,k8,k9,k10,k11,k12,k13,k14,k15,k16⟩,kc⟩:=l0.out w4 z1.out
 go_upto_region 4 with(first
  |(go_at_call 31;(with_reducible refine(H1.out _ z1.out y2.out).mono ?_);rintro e w5 ⟨rfl,a0,hon⟩;have N2:=Hd a0;have r1:=Hd (z1.out.thenP hon);clear a0 hon)
  |fail)
 clear k0 k1 k2 k3 k4 k5 k6 k7 k8 k9 k10 k11 k12 k13 k14 k15 k16 kc;obtain⟨⟨k0,k1,k2,k3,k4,k5,k6,k7,k8,k9,k10,k11,k12,k13,k14,k15,k16⟩,kc⟩:=l0.out w5 r1.out
 go_upto_region 5 with(first
  |(go_at_call 33;(with_reducible refine(H2.out _ r1.out N2.out).mono ?_);rintro e w6 ⟨rfl,a0,hon⟩;have A2:=Hd a0;have M1:=Hd (r1.out.thenP hon);clear a0 hon)
  |fail)
 clear k0 k1 k2 k3 k4 k5 k6 k7 k8 k9 k10 k11 k12 k13 k14 k15 k16 kc;obtain⟨⟨k0,k1,k2,k3,k4,k5,k6,k7,k8,k9,k10,k11,k12,k13,k14,k15,k16⟩,kc⟩:=l0.out w6 M1.out
 go_upto_region 6 with(first
  |(go_at_call 35;(with_reducible refine(H3.out _ M1.out A2.out).mono ?_);rintro e w7 ⟨rfl,a0,hon⟩;have M2:=Hd a0;have a2:=Hd (M1.out.thenP hon);clear a0 hon)
  |fail)
 clear k0 k1 k2 k3 k4 k5 k6 k7 k8 k9 k10 k11 k12 k13 k14 k15 k16 kc;obtain⟨⟨k0,k1,k2,k3,k4,k5,k6,k7,k8,k9,k10,k11,k12,k13,k14,k15,k16⟩,kc⟩:=l0.out w7 a2.out
 go_upto_region 7 with(first
  |(go_at_call 37;(with_reducible refine(H4.out _ a2.out M2.out).mono ?_);rintro e w8 ⟨rfl,a0,hon⟩;have F2:=Hd a0;have W1:=Hd (a2.out.thenP hon);clear a0 hon)
  |fail)
 clear k0 k1 k2 k3 k4 k5 k6 k7 k8 k9 k10 k11 k12 k13 k14 k15 k16 kc;obtain⟨⟨k0,k1,k2,k3,k4,k5,k6,k7,k8,k9,k10,k11,k12,k13,k14,k15,k16⟩,kc⟩:=l0.out w8 W1.out
 go_upto_region 8 with(first
  |(go_at_call 39;(with_reducible refine(H5.out _ W1.out F2.out).mono ?_);rintro e w9 ⟨rfl,a0,hon⟩;have R2:=Hd a0;have v1:=Hd (W1.out.thenP hon);clear a0 hon)
  |fail)
 clear k0 k1 k2 k3 k4 k5 k6 k7 k8 k9 k10 k11 k12 k13 k14 k15 k16 kc;obtain⟨⟨k0,k1,k2,k3,k4,k5,k6,k7,k8,k9,k10,k11,k12,k13,k14,k15,k16⟩,kc⟩:=l0.out w9 v1.out;have C1:p+2<=w9.heap.size:=Nat.le_trans (Nat.le_of_lt P0) v1.out.size
 go_upto_region 9 with(first
  |(go_at_call 30;(with_reducible refine(H6.out _ (R2.out.later ((Later.refl w9).alloc _)) _ (Zd _ _) C1).mono ?_);rintro e w10 ⟨rfl,a0,hon⟩;have r2:=Hd a0;have O1:=Hd (v1.out.thenP (ZE ((Later.refl w9).alloc _) hon));clear a0 hon)
  |fail)
 clear k0 k1 k2 k3 k4 k5 k6 k7 k8 k9 k10 k11 k12 k13 k14 k15 k16 kc;obtain⟨⟨k0,k1,k2,k3,k4,k5,k6,k7,k8,k9,k10,k11,k12,k13,k14,k15,k16⟩,kc⟩:=l0.out w10 O1.out
 go_upto_region 10 with(first
  |(go_at_call 41;(with_reducible refine(H7.out _ O1.out r2.out).mono ?_);rintro e w11 ⟨rfl,a0,hon⟩;have t2:=Hd a0;have K1:=Hd (O1.out.thenP hon);clear a0 hon)
  |fail)
 clear k0 k1 k2 k3 k4 k5 k6 k7 k8 k9 k10 k11 k12 k13 k14 k15 k16 kc;obtain⟨⟨k0,k1,k2,k3,k4,k5,k6,k7,k8,k9,k10,k11,k12,k13,k14,k15,k16⟩,kc⟩:=l0.out w11 K1.out
 go_upto_region 11 with(first
  |(go_at_call 44;(with_reducible refine(H8.out _ K1.out t2.out).mono ?_);rintro e w12 ⟨rfl,a0,hon⟩;have J2:=Hd a0;have i2:=Hd (K1.out.thenP hon);clear a0 hon)
  |fail)
 clear k0 k1 k2 k3 k4 k5 k6 k7 k8 k9 k10 k11 k12 k13 k14 k15 k16 kc;obtain⟨⟨k0,k1,k2,k3,k4,k5,k6,k7,k8,k9,k10,k11,k12,k13,k14,k15,k16⟩,kc⟩:=l0.out w12 i2.out
 go_upto_region 12 with(first
  |(go_at_call 43;(with_reducible refine(H9.out _ J2.out).mono ?_);rintro e w13 ⟨rfl,a0,hon⟩;have R1:=Hd a0;have T0:=Hd (i2.out.thenP hon);clear a0 hon)
  |fail)
 clear k0 k1 k2 k3 k4 k5 k6 k7 k8 k9 k10 k11 k12 k13 k14 k15 k16 kc;obtain⟨⟨k0,k1,k2,k3,k4,k5,k6,k7,k8,k9,k10,k11,k12,k13,k14,k15,k16⟩,kc⟩:=l0.out w13 T0.out;have i1:p+2<=w13.heap.size:=Nat.le_trans (Nat.le_of_lt P0) T0.out.size
 go_upto_region 13 with(first
  |(go_at_call 30;(with_reducible refine(I2.out _ (R1.out.later ((Later.refl w13).alloc _)) _ (Zd _ _) i1).mono ?_);rintro e w14 ⟨rfl,a0,hon⟩;have P1:=Hd a0;have d1:=Hd (T0.out.thenP (ZE ((Later.refl w13).alloc _) hon));clear a0 hon)
  |fail)
 clear k0 k1 k2 k3 k4 k5 k6 k7 k8 k9 k10 k11 k12 k13 k14 k15 k16 kc;obtain⟨⟨k0,k1,k2,k3,k4,k5,k6,k7,k8,k9,k10,k11,k12,k13,k14,k15,k16⟩,kc⟩:=l0.out w14 d1.out;have HL:=Hd (R0.out w14 d1.out);have a1:=Dr (L11 c) (decide (c.audit.level=0));have Z1:=p2.out;have j2:=T2.out;have a0:=P1.out;rw[j2]at a0;rw[decide_not]at Z1;rw[Z1]at a1
 obtain⟨LL,hLL⟩:∃ LL,L11 c=LL:=⟨_,rfl⟩
 rw[hLL]at a1 a0;obtain⟨q0,q1,-, -⟩:=a0.cells;clear Z1 j2 a0 hLL;rcases a1 with⟨rfl,hB⟩|⟨rfl,hA,hB⟩|⟨rfl,hA,hB⟩
 ·have n0:c.laid=false:=by simpa using hB
  have HX:Hid (JK c=⟨#[]⟩/\JY c=111):=Hd (by unfold JK JY;rw[n0];exact⟨rfl,rfl⟩);clear hB n0
  go_wp2_with fail
  go_ret2
  rw[HX.out.1,HX.out.2];exact⟨rfl,HL.out⟩
 ·have n0:c.laid=true:=by simpa using hB
  have HX:Hid (JK c=bytesOf c.bytes/\JY c=0):=Hd (by unfold JK JY;rw[n0];exact⟨rfl,rfl⟩);have K2:(c.audit.level != 0)=false:=by simpa using hA
  clear hB n0 hA
  go_wp2_with fail
  go_ret2
  rw[HX.out.1,HX.out.2];exact⟨rfl,HL.out⟩
 ·have n0:c.laid=false:=by simpa using hB
  have HX:Hid (JK c=⟨#[]⟩/\JY c=111):=Hd (by unfold JK JY;rw[n0];exact⟨rfl,rfl⟩);have K2:(c.audit.level != 0)=true:=by simpa using hA
  clear hB n0 hA
  go_wp2_with fail
  go_ret2
  rw[HX.out.1,HX.out.2];exact⟨rfl,HL.out⟩
theorem Zdu(w:World)(cs:List Value)(c:Cfg)(h:CfgIn w cs c)(hI:CfgI c) :
 Calls Tryz.prog 15 #[.agg cs.toArray] w λe w'=>e=.returned (.tuple #[.string (JK c),.int .i64 (JY c)])/\Later w w':=by
 have hF:=h.few;obtain⟨vF,vP,vW,vO,vV,vR,vK,h0,h1,h2,h3,h4,h5,h6,h7⟩:=h.rows;subst h0;exact Zbz w _ c vF vP vW vO vV vR vK rfl h1 h2 h3 h4 h5 h6 h7 hI hF
end Go.Proofs.YtbchkjfnakabkaaGreatDoor
