import Derived.Test.YtbchkjfnakabkaaGreatDoorY23
import Derived.Deep.RegionWith
import Derived.Deep.CutRange
import Derived.Test.YtbchkjfnakabkaaGreatDoorR1b
set_option linter.unusedSimpArgs false
set_option linter.unusedVariables false
set_option maxHeartbeats 8000000
set_option maxRecDepth 100000
namespace Go.Proofs.YtbchkjfnakabkaaGreatDoor
open Go.RowKit PX PC
def PrAt(w:World)(pb:Nat)(S:ByteArray)(lost:Bool):Prop:=w.heap[pb]?=some (.cells #[.string S,.bool lost] 69 (0,0))
def IsPb(pb:Nat)(k:Nat):Prop:=k=pb
abbrev Zo(pb:Nat)(w w':World):Prop:=Only (IsPb pb) w w'
theorem PrAt.lt{w:World}{pb:Nat}{S:ByteArray}{b:Bool}(h:PrAt w pb S b):pb<w.heap.size:=Za h
theorem PrAt.later{w w':World}{pb:Nat}{S:ByteArray}{b:Bool}(h:PrAt w pb S b)(hl:Later w w'):PrAt w' pb S b:=hl.block h
theorem PrAt.cells{w:World}{pb:Nat}{S:ByteArray}{b:Bool}(h:PrAt w pb S b):w.cell? ⟨pb,0,none⟩=some (.string S)∧w.cell? ⟨pb,1,none⟩=some (.bool b)∧w.frozen? ⟨pb,0,none⟩=false∧w.frozen? ⟨pb,1,none⟩=false:=
 ⟨Zb h 0,Zb h 1,Zc h 0,Zc h 1⟩
theorem PrAt.lose{w:World}{pb:Nat}{S:ByteArray}{b:Bool}(h:PrAt w pb S b)(c:Bool):PrAt (w.setCell ⟨pb,1,none⟩ (.bool c)) pb S c:=Zf h 1 _
theorem PrAt.say{w:World}{pb:Nat}{S:ByteArray}{b:Bool}(h:PrAt w pb S b)(T:ByteArray):PrAt (w.setCell ⟨pb,0,none⟩ (.string T)) pb T b:=Zf h 0 _
theorem Only.later{r:Nat→Prop}{a b c:World}(h:Only r a b)(k:Later b c):Only r a c:=by
 refine⟨k.os.trans h.os,k.tape.trans h.tape,k.output.trans h.output,Nat.le_trans h.size k.size,fun q hq hr=>?_⟩;exact(Below.block k q (Nat.lt_of_lt_of_le hq h.size)).trans (h.block q hq hr)
theorem Later.undrew{a b:World}(h:Later a.drew b):Later a b:=Uq h
theorem Only.thenP{pb:Nat}{a b c:World}(h:Zo pb a b)(k:Zo pb b c):Zo pb a c:=h.trans (k.mono fun q _ hq=>.inl hq)
theorem Xj(a b c:ByteArray):a++b++c=a++(b++c):=QA (by simp only[W8,List.append_assoc])
def Z7(k:Nat)(ns:List Int):ByteArray:=bytesOf (ZZ k ns)
theorem XU(k:Nat):∀ ns:List Int,(ZZ k ns).length=k*ns.length
 |[]=>by simp[ZZ]
 |n::l=>by simp[ZZ,XU k l,XH,Nat.mul_add];omega
theorem Xf(k:Nat)(ns:List Int):(Z7 k ns).size=k*ns.length:=by
 show(ZZ k ns).toArray.size=_;rw[List.size_toArray,XU]
theorem Wj(k:Nat):∀ (a b:List Int),ZZ k (a++b)=ZZ k a++ZZ k b
 |[],_=>rfl
 |n::l,b=>by simp only[List.cons_append,ZZ,Wj k l b,List.append_assoc]
theorem Za7(k:Nat)(a:List Int)(n:Int):Z7 k (a++[n])=Z7 k a++putS n k:=by
 refine QA ?_;rw[W8,Wd];show ZZ k (a++[n])=ZZ k a++putI n k;rw[Wj];simp[ZZ]
theorem Gn(k:Nat):∀ (a:List Int) (n:Int),Zq k (a++[n])=(Zq k a&&Ym k n)
 |[],n=>by simp[Zq]
 |m::l,n=>by simp[Zq,Gn k l n,Bool.and_assoc]
theorem Zih(S:ByteArray)(k:Nat):S++Z7 k []=S:=QA (by rw[W8];simp[Z7,bytesOf,ZZ])
theorem Zbp(L:Bool)(n M:Int):(L=true∧(L || !decide (0≤n∧n<M))=true)∨(L=false∧decide (n<0)=true∧(L || !decide (0≤n∧n<M))=true) ∨
 (L=false∧decide (n<0)=false∧decide (M≤n)=true∧(L || !decide (0≤n∧n<M))=true)∨(L=false∧decide (n<0)=false∧decide (M≤n)=false∧(L || !decide (0≤n∧n<M))=false):=by
 cases L
 ·by_cases h0:0≤n
  ·by_cases h1:n<M
   ·exact .inr (.inr (.inr ⟨rfl,decide_eq_false (by omega),decide_eq_false (by omega),by simp[h0,h1]⟩))
   ·exact .inr (.inr (.inl ⟨rfl,decide_eq_false (by omega),decide_eq_true (by omega),by simp;omega⟩))
  ·exact .inr (.inl ⟨rfl,decide_eq_true (by omega),by simp;omega⟩)
 ·exact .inl ⟨rfl,rfl⟩
theorem ZfF(w:World)(pb:Nat)(S:ByteArray)(lost:Bool)(hp:PrAt w pb S lost)(k:Nat)(K:Int)(hkK:(k=1∧K=1)∨(k=2∧K=2))(ns:List Int)(g o cap:Nat)(hg:g≠pb)(hgl:g<w.heap.size)(h64:∀ n∈ns,I64 n)
 (hc:∀ (i:Nat) n,ns[i]?=some n→w.cell? ⟨g,o+i,none⟩=some (.int .i64 n)) (hz:S.size+2*ns.length≤4611686018427387904) :
 Calls Tryz.prog 30 #[.pointer (some ⟨pb,0,none⟩),.int .i64 K,.slice (some ⟨g,o,none⟩) ns.length cap] w fun e w'=>e=.returned (.tuple #[])∧PrAt w' pb (S++Z7 k ns) (lost || !Zq k ns)∧Zo pb w w':=by
 have HKK:=Hd hkK;have hk:k=1∨k=2:=by omega
 clear hkK;have HP:=Hd hp;have HC:=Hd hc;have H64:=Hd h64;have hpl:=hp.lt;clear hp hc h64;have hlen:ns.length≤4611686018427387904:=by omega
 go_enter Tryz.func30,Tryz.ntmps30
 go_wp2_with fail
 go_loopw [10] (fun vi wr=>∃ j:Nat,j≤ns.length∧vi=.int .i64 j∧PrAt wr pb (S++Z7 k (ns.take j)) (lost || !Zq k (ns.take j))∧Zo pb w wr) (fun vi _=>ns.length - (intOf vi).toNat)
 case atStart=>exact⟨0,by omega,by simp,by simpa [Zih,Zq] using HP.out,Only.refl _ _⟩
 case round=>
  obtain⟨j,hj,rfl,hpr,hon⟩:=hrel;by_cases hlt:j<ns.length
  ·obtain⟨n,hn⟩:∃ n,ns[j]?=some n:=⟨_,List.getElem?_eq_getElem hlt⟩
   have htk:ns.take (j+1)=ns.take j++[n]:=by
    rw[List.take_add_one,hn];rfl
   have hI:=H64.out n (List.mem_of_getElem? hn);have hcell:wr.cell? ⟨g,o+j,none⟩=some (.int .i64 n):=(hon.cell (p:=⟨g,o+j,none⟩) hgl hg).trans (HC.out j n hn)
   obtain⟨M,hM⟩:∃ M:Int,(256:Int) ^ k=M:=⟨_,rfl⟩
   have HL:Hid ((lost || !Zq k (ns.take (j+1)))=((lost || !Zq k (ns.take j)) || !decide (0≤n∧n<M))):=Hd (by
    rw[htk,Gn,Ym,hM]
    cases lost<;>cases Zq k (ns.take j)<;>rfl)
   have HS:Hid (S++Z7 k (ns.take (j+1))=(S++Z7 k (ns.take j))++putS n k):=Hd (by rw[htk,Za7,Xj])
   have hsz:(S++Z7 k (ns.take j)).size≤4611686018427387904:=by
    rw[ByteArray.size_append,Xf,List.length_take];rcases hk with rfl|rfl<;>omega
   obtain⟨L,hL⟩:∃ L,(lost || !Zq k (ns.take j))=L:=⟨_,rfl⟩
   obtain⟨Sj,hSj⟩:∃ Sj,S++Z7 k (ns.take j)=Sj:=⟨_,rfl⟩
   rw[hL]at hpr HL;rw[hSj]at hpr HS hsz;have HON:=Hd hon;have hpp:=Wc n k;have HPUT:=Hd (fun w1=>Zhh w1 n hI k K (by have:=HKK.out;omega) (by omega) (by omega))
   obtain⟨P,hP⟩:∃ P,putS n k=P:=⟨_,rfl⟩
   rw[hP]at HS HPUT hpp;have hP2:P.size≤2:=by rcases hk with rfl|rfl<;>omega
   have HCC:=Hd (show ¬9223372036854775807<Sj.size+P.size by omega);obtain⟨hI1,hI2⟩:=hI;clear hL hSj hon htk hn hpp hP hsz hP2
   have hkM:(K=1∧M=256)∨(K=2∧M=65536):=by
    rcases HKK.out with⟨rfl,rfl⟩|⟨rfl,rfl⟩
    ·exact .inl ⟨rfl,hM.symm⟩
    ·exact .inr ⟨rfl,hM.symm⟩
   clear hk hM;have hcs:=Zbp L n M
   obtain⟨b',hb'⟩:∃ b',(L || !decide (0≤n∧n<M))=b':=⟨_,rfl⟩
   rw[hb']at hcs HL;clear hb';obtain⟨hc0,hc1,hf0,hf1⟩:=hpr.cells;have HPR:=Hd hpr;clear hpr;rcases hkM with⟨rfl,rfl⟩|⟨rfl,rfl⟩
   all_goals
    rcases hcs with⟨rfl,hB⟩|⟨rfl,hn0,hB⟩|⟨rfl,hn0,hn1,hB⟩|⟨rfl,hn0,hn1,hB⟩
    all_goals
     rw[hB]at HL;clear hB
     go_upto_region 4 with fail
     first
      |(obtain⟨w2,hw2⟩:∃ w2,wr.setCell ⟨pb,1,none⟩ (.bool true)=w2:=⟨_,rfl⟩;rw[hw2];have hpr2:=HPR.out.lose true)
      |(obtain⟨w2,hw2⟩:∃ w2,wr.setCell ⟨pb,1,none⟩ (.bool false)=w2:=⟨_,rfl⟩;rw[hw2];have hpr2:=HPR.out.lose false)
     rw[hw2]at hpr2;have hon2:Zo pb w w2:=by rw[←hw2];exact HON.out.setCell (.inl (show IsPb pb pb from rfl)) _
     have HON2:=Hd hon2;clear hw2 hon2 hc0 hc1 hf0 hf1;have HPR2:=Hd hpr2;obtain⟨hc0,hc1,hf0,hf1⟩:=hpr2.cells;have hlt2:=hpr2.lt;have hcc:=HCC.out;clear hpr2
     go_region_with (go_at_call 78;(with_reducible refine(HPUT.out _).mono ?_);rintro e w3 ⟨rfl,hl3⟩;have hl4:=Later.undrew hl3;have hpr3:=HPR2.out.later hl4;have hon3:=HON2.out.later hl4;clear hl4;have HPR3:=Hd hpr3;have HON3:=Hd hon3;obtain⟨kc0,kc1,kf0,kf1⟩:=hpr3.cells;clear hpr3 hon3)
     all_goals
      go_wp2_with fail
      refine⟨⟨j+1,by omega,by simp,?_,?_⟩,by simp only[intOf];omega⟩
      ·rw[HS.out,HL.out];exact HPR3.out.say _
      ·exact HON3.out.setCell (.inl (show IsPb pb pb from rfl)) _
  ·obtain rfl:j=ns.length:=by omega
   rw[List.take_of_length_le (Nat.le_refl _)]at hpr
   go_wp2_with fail
   go_end0
   exact⟨rfl,hpr,hon⟩
end Go.Proofs.YtbchkjfnakabkaaGreatDoor
namespace Go.Proofs.YtbchkjfnakabkaaGreatDoor
open Go.RowKit PX PC
def Zv(pb:Nat)(T:ByteArray)(b:Bool)(w:World)(e:Ending)(w':World):Prop:=e=.returned (.tuple #[])∧PrAt w' pb T b∧Zo pb w w'
theorem Z8(w:World)(pb:Nat)(S:ByteArray)(lost:Bool)(hp:PrAt w pb S lost)(k:Nat)(K:Int)(hkK:(k=1∧K=1)∨(k=2∧K=2))(ns:List Int)(g cap:Nat)(C:Array Value)(t:TypeId)(hg:w.heap[g]?=some (.cells C t (0,0)))
 (hC:C=(ns.map fun n=>Value.int .i64 n).toArray) (hne:g≠pb) (h64:∀ n∈ns,I64 n) (n:Nat) (hn:ns.length=n) (hz:S.size+2*ns.length≤4611686018427387904) :
 Calls Tryz.prog 30 #[.pointer (some ⟨pb,0,none⟩),.int .i64 K,.slice (some ⟨g,0,none⟩) n cap] w (Zv pb (S++Z7 k ns) (lost || !Zq k ns) w):=by
 subst hn;refine ZfF w pb S lost hp k K hkK ns g 0 cap hne (Za hg) h64 (fun i n hi=>?_) hz;rw[Nat.zero_add,Zb hg i,hC];simp[hi]
theorem WN(L A:Bool):(L=true∧(L || !A)=true)∨(L=false∧A=true∧(L || !A)=false)∨(L=false∧A=false∧(L || !A)=true):=by cases L<;>cases A<;>simp
theorem Ul(w:World)(pb:Nat)(S:ByteArray)(lost:Bool)(hp:PrAt w pb S lost)(s:ByteArray)(hs:s.size≤9223372036854775807)(hz:S.size≤4611686018427387904) :
 Calls Tryz.prog 43 #[.pointer (some ⟨pb,0,none⟩),.string s] w (Zv pb (S++Vk s) (lost || !Xy s) w):=by
 have HP:=Hd hp;have HT:=Hd (WU w s hs);have hts:=JT s;have HCC:=Hd (show ¬9223372036854775807<S.size+(Vk s).size by omega);have hf:=WN lost (Xy s)
 obtain⟨b,hb⟩:∃ b,(lost || !Xy s)=b:=⟨_,rfl⟩
 rw[hb]at hf ⊢
 obtain⟨T,hT⟩:∃ T,Vk s=T:=⟨_,rfl⟩
 rw[hT]at HT HCC ⊢
 obtain⟨q,hq⟩:∃ q:Int,(if s.size≤1024 then(0:Int) else 11)=q:=⟨_,rfl⟩
 rw[hq]at HT
 have hfq:(lost=true∧b=true)∨(lost=false∧(q != 0)=false∧b=false)∨(lost=false∧(q != 0)=true∧b=true):=by
  rcases hf with⟨h1,h2⟩|⟨h1,h2,h3⟩|⟨h1,h2,h3⟩
  ·exact .inl ⟨h1,h2⟩
  ·refine .inr (.inl ⟨h1,?_,h3⟩);rw[←hq,if_pos (of_decide_eq_true h2)];rfl
  ·refine .inr (.inr ⟨h1,?_,h3⟩);rw[←hq,if_neg (of_decide_eq_false h2)];rfl
 clear hf hb hp hts hT hq hs hz;rcases hfq with⟨rfl,rfl⟩|⟨rfl,hq,rfl⟩|⟨rfl,hq,rfl⟩
 all_goals
  go_enter Tryz.func43,Tryz.ntmps43
  go_upto_region 1 with(first
   |(go_at_call 79;(with_reducible refine HT.out.mono ?_);rintro e w1 ⟨rfl,hl1⟩)
   |fail)
  have hpr:=HP.out.later hl1;have HPR:=Hd hpr;obtain⟨hc0,hc1,hf0,hf1⟩:=hpr.cells;have hlt:=hpr.lt;clear hpr
  go_upto_region 2 with fail
  have hcc:=HCC.out
  first
   |(obtain⟨w2,hw2⟩:∃ w2,w1.setCell ⟨pb,1,none⟩ (.bool true)=w2:=⟨_,rfl⟩;rw[hw2];have hpr2:=HPR.out.lose true)
   |(obtain⟨w2,hw2⟩:∃ w2,w1.setCell ⟨pb,1,none⟩ (.bool false)=w2:=⟨_,rfl⟩;rw[hw2];have hpr2:=HPR.out.lose false)
  rw[hw2]at hpr2;have hon2:Zo pb w w2:=by rw[←hw2];exact(Only.of_below hl1).setCell (.inl (show IsPb pb pb from rfl)) _
  have HON2:=Hd hon2;clear hw2 hon2 hc0 hc1 hf0 hf1;have HPR2:=Hd hpr2;obtain⟨hc0,hc1,hf0,hf1⟩:=hpr2.cells;have hlt2:=hpr2.lt;clear hpr2
  go_wp2_with fail
  go_end0
  exact⟨rfl,HPR2.out.say _,HON2.out.setCell (.inl (show IsPb pb pb from rfl)) _⟩
theorem ZB{pb:Nat}{a b c:World}(h:Later a b)(k:Zo pb b c):Zo pb a c:=(Only.of_below h).thenP k
theorem ofB(l m:List UInt8):bytesOf (l++m)=bytesOf l++bytesOf m:=QA (by rw[W8];rfl)
theorem Z9(L a b:Bool):((L || !a) || !b)=(L || !(a&&b)):=by cases L<;>cases a<;>cases b<;>rfl
def ZaZ(x:Prt):Prop:=∀ n∈[x.level,x.pages],I64 n
theorem ZgD(w:World)(pb cb:Nat)(S:ByteArray)(lost:Bool)(hp:PrAt w pb S lost)(hcb:w.cell? ⟨cb,0,none⟩=some (.pointer (some ⟨pb,0,none⟩)))(x:Prt)(hI:ZaZ x)(hz:S.size≤4611686018427380000) :
 Calls Tryz.prog 34 #[.agg (X9 x).toArray,.pointer (some ⟨cb,0,none⟩)] w (Zv pb (S++bytesOf (XD.b x)) (lost || !XD.ok x) w):=by
 obtain⟨level,pages⟩:=x;have hpl:=hp.lt;have HN:=Hd (fun(w1:World) (h1:Later w w1) (g:Nat) (hg:w1.heap[g]?=some (.cells #[.int .i64 level,.int .i64 pages] 3 (0,0))) (hge:w.heap.size≤g)=>Z8 w1 pb S lost (hp.later h1) 1 1 (.inl ⟨rfl,rfl⟩) [level,pages] g 2 _ _ hg rfl (by omega) hI 2 rfl (by simp;omega));clear hp hI hpl hz;show Calls Tryz.prog 34 #[.agg #[.int .i64 level,.int .i64 pages],.pointer (some ⟨cb,0,none⟩)] w (Zv pb (S++Z7 1 [level,pages]) (lost || !Zq 1 [level,pages]) w)
 go_enter Tryz.func34,Tryz.ntmps34
 go_upto_region 1 with fail
 obtain⟨w1,hw1⟩:∃ w1,w.alloc (.cells #[.int .i64 level,.int .i64 pages] 49)=w1:=⟨_,rfl⟩
 obtain⟨g,hg⟩:∃ g,w.heap.size=g:=⟨_,rfl⟩
 have hb:w1.heap[g]?=some (.cells #[.int .i64 level,.int .i64 pages] 49 (0,0)):=by rw[←hw1,←hg];exact Ze w _
 have hl:Later w w1:=by rw[←hw1];exact(Later.refl w).alloc _
 have hcb1:=hl.cell hcb;rw[hw1,hg];have HL:=Hd hl;have hgs:w.heap.size≤w1.heap.size:=hl.size;have k0:=Zb hb 0;have k1:=Zb hb 1;clear hw1 hl hcb hg hb
 go_wp2_with (first
  |(go_at_call 30;(with_reducible refine(HN.out _ (HL.out.alloc _) _ (Ze _ _) hgs).mono ?_);rintro e w2 ⟨rfl,hpr,hon⟩)
  |fail)
 go_end0
 exact⟨rfl,hpr,ZB (HL.out.alloc _) hon⟩
def winI(x:Win):Prop:=∀ n∈[x.kind,x.index,x.ticks],I64 n
theorem ZhR(w:World)(pb cb:Nat)(S:ByteArray)(lost:Bool)(hp:PrAt w pb S lost)(hcb:w.cell? ⟨cb,0,none⟩=some (.pointer (some ⟨pb,0,none⟩)))(x:Win)(hI:winI x)(hz:S.size≤4611686018427380000) :
 Calls Tryz.prog 36 #[.agg (winC x).toArray,.pointer (some ⟨cb,0,none⟩)] w (Zv pb (S++bytesOf (winP.b x)) (lost || !winP.ok x) w):=by
 obtain⟨kind,index,ticks⟩:=x;have hpl:=hp.lt;have HN:=Hd (fun(w1:World) (h1:Later w w1) (g:Nat) (hg:w1.heap[g]?=some (.cells #[.int .i64 kind,.int .i64 index,.int .i64 ticks] 3 (0,0))) (hge:w.heap.size≤g)=>Z8 w1 pb S lost (hp.later h1) 1 1 (.inl ⟨rfl,rfl⟩) [kind,index,ticks] g 3 _ _ hg rfl (by omega) hI 3 rfl (by simp;omega));clear hp hI hpl hz;show Calls Tryz.prog 36 #[.agg #[.int .i64 kind,.int .i64 index,.int .i64 ticks],.pointer (some ⟨cb,0,none⟩)] w (Zv pb (S++Z7 1 [kind,index,ticks]) (lost || !Zq 1 [kind,index,ticks]) w)
 go_enter Tryz.func36,Tryz.ntmps36
 go_upto_region 1 with fail
 obtain⟨w1,hw1⟩:∃ w1,w.alloc (.cells #[.int .i64 kind,.int .i64 index,.int .i64 ticks] 55)=w1:=⟨_,rfl⟩
 obtain⟨g,hg⟩:∃ g,w.heap.size=g:=⟨_,rfl⟩
 have hb:w1.heap[g]?=some (.cells #[.int .i64 kind,.int .i64 index,.int .i64 ticks] 55 (0,0)):=by rw[←hw1,←hg];exact Ze w _
 have hl:Later w w1:=by rw[←hw1];exact(Later.refl w).alloc _
 have hcb1:=hl.cell hcb;rw[hw1,hg];have HL:=Hd hl;have hgs:w.heap.size≤w1.heap.size:=hl.size;have k0:=Zb hb 0;have k1:=Zb hb 1;have k2:=Zb hb 2;clear hw1 hl hcb hg hb
 go_wp2_with (first
  |(go_at_call 30;(with_reducible refine(HN.out _ (HL.out.alloc _) _ (Ze _ _) hgs).mono ?_);rintro e w2 ⟨rfl,hpr,hon⟩)
  |fail)
 go_end0
 exact⟨rfl,hpr,ZB (HL.out.alloc _) hon⟩
def porI(x:Por):Prop:=∀ n∈[x.kind,x.fr,x.tu,x.size,x.depth],I64 n
theorem ZhT(w:World)(pb cb:Nat)(S:ByteArray)(lost:Bool)(hp:PrAt w pb S lost)(hcb:w.cell? ⟨cb,0,none⟩=some (.pointer (some ⟨pb,0,none⟩)))(x:Por)(hI:porI x)(hz:S.size≤4611686018427380000) :
 Calls Tryz.prog 38 #[.agg (porC x).toArray,.pointer (some ⟨cb,0,none⟩)] w (Zv pb (S++bytesOf (porP.b x)) (lost || !porP.ok x) w):=by
 obtain⟨kind,fr,tu,size,depth⟩:=x;have hpl:=hp.lt;have HN:=Hd (fun(w1:World) (h1:Later w w1) (g:Nat) (hg:w1.heap[g]?=some (.cells #[.int .i64 kind,.int .i64 fr,.int .i64 tu,.int .i64 size,.int .i64 depth] 3 (0,0))) (hge:w.heap.size≤g)=>Z8 w1 pb S lost (hp.later h1) 1 1 (.inl ⟨rfl,rfl⟩) [kind,fr,tu,size,depth] g 5 _ _ hg rfl (by omega) hI 5 rfl (by simp;omega));clear hp hI hpl hz;show Calls Tryz.prog 38 #[.agg #[.int .i64 kind,.int .i64 fr,.int .i64 tu,.int .i64 size,.int .i64 depth],.pointer (some ⟨cb,0,none⟩)] w (Zv pb (S++Z7 1 [kind,fr,tu,size,depth]) (lost || !Zq 1 [kind,fr,tu,size,depth]) w)
 go_enter Tryz.func38,Tryz.ntmps38
 go_upto_region 1 with fail
 obtain⟨w1,hw1⟩:∃ w1,w.alloc (.cells #[.int .i64 kind,.int .i64 fr,.int .i64 tu,.int .i64 size,.int .i64 depth] 51)=w1:=⟨_,rfl⟩
 obtain⟨g,hg⟩:∃ g,w.heap.size=g:=⟨_,rfl⟩
 have hb:w1.heap[g]?=some (.cells #[.int .i64 kind,.int .i64 fr,.int .i64 tu,.int .i64 size,.int .i64 depth] 51 (0,0)):=by rw[←hw1,←hg];exact Ze w _
 have hl:Later w w1:=by rw[←hw1];exact(Later.refl w).alloc _
 have hcb1:=hl.cell hcb;rw[hw1,hg];have HL:=Hd hl;have hgs:w.heap.size≤w1.heap.size:=hl.size;have k0:=Zb hb 0;have k1:=Zb hb 1;have k2:=Zb hb 2;have k3:=Zb hb 3;have k4:=Zb hb 4;clear hw1 hl hcb hg hb
 go_wp2_with (first
  |(go_at_call 30;(with_reducible refine(HN.out _ (HL.out.alloc _) _ (Ze _ _) hgs).mono ?_);rintro e w2 ⟨rfl,hpr,hon⟩)
  |fail)
 go_end0
 exact⟨rfl,hpr,ZB (HL.out.alloc _) hon⟩
def DV(x:Int × Int):Prop:=∀ n∈[x.1,x.2],I64 n
theorem ZgE(w:World)(pb cb:Nat)(S:ByteArray)(lost:Bool)(hp:PrAt w pb S lost)(hcb:w.cell? ⟨cb,0,none⟩=some (.pointer (some ⟨pb,0,none⟩)))(x:Int × Int)(hI:DV x)(hz:S.size≤4611686018427380000) :
 Calls Tryz.prog 32 #[.agg (Yl x).toArray,.pointer (some ⟨cb,0,none⟩)] w (Zv pb (S++bytesOf (XF.b x)) (lost || !XF.ok x) w):=by
 obtain⟨a,b⟩:=x;have hpl:=hp.lt;have HN:=Hd (fun(w1:World) (h1:Later w w1) (g:Nat) (hg:w1.heap[g]?=some (.cells #[.int .i64 a,.int .i64 b] 47 (0,0))) (hge:w.heap.size≤g)=>Z8 w1 pb S lost (hp.later h1) 1 1 (.inl ⟨rfl,rfl⟩) [a,b] g 2 _ _ hg rfl (by omega) hI 2 rfl (by simp;omega));clear hp hI hpl hz;show Calls Tryz.prog 32 #[.agg #[.int .i64 a,.int .i64 b],.pointer (some ⟨cb,0,none⟩)] w (Zv pb (S++Z7 1 [a,b]) (lost || !Zq 1 [a,b]) w)
 go_enter Tryz.func32,Tryz.ntmps32
 go_upto_region 1 with fail
 obtain⟨w1,hw1⟩:∃ w1,w.alloc (.cells #[.int .i64 a,.int .i64 b] 47)=w1:=⟨_,rfl⟩
 obtain⟨g,hg⟩:∃ g,w.heap.size=g:=⟨_,rfl⟩
 have hb:w1.heap[g]?=some (.cells #[.int .i64 a,.int .i64 b] 47 (0,0)):=by rw[←hw1,←hg];exact Ze w _
 have hl:Later w w1:=by rw[←hw1];exact(Later.refl w).alloc _
 have hcb1:=hl.cell hcb;rw[hw1,hg];have HL:=Hd hl;have HNN:=Hd (HN.out w1.drew hl.drew g hb (by omega));have hgl:=Za hb;clear hw1 hl hcb HN hg hb
 go_region_with (go_at_call 30;(with_reducible refine HNN.out.mono ?_);rintro e w2 ⟨rfl,hpr,hon⟩)
 all_goals
  go_wp2_with fail
  go_end0
  exact⟨rfl,hpr,ZB HL.out.drew hon⟩
def volI(x:Vol):Prop:=(∀n∈[x.level],I64 n)∧∀ n∈[x.first,x.count,x.journal],I64 n
theorem ZhS(w:World)(pb cb:Nat)(S:ByteArray)(lost:Bool)(hp:PrAt w pb S lost)(hcb:w.cell? ⟨cb,0,none⟩=some (.pointer (some ⟨pb,0,none⟩)))(hcp:cb≠pb)(x:Vol)(hI:volI x)(hz:S.size≤4611686018427380000) :
 Calls Tryz.prog 40 #[.agg (volC x).toArray,.pointer (some ⟨cb,0,none⟩)] w (Zv pb (S++bytesOf (volP.b x)) (lost || !volP.ok x) w):=by
 obtain⟨level,first,count,journal⟩:=x;have hpl:=hp.lt;have hcl:cb<w.heap.size:=World.block_lt_of_cell? w _ hcb;have HN:=Hd (fun(w1:World) (h1:Later w w1) (g:Nat) (hg:w1.heap[g]?=some (.cells #[.int .i64 level] 3 (0,0))) (hge:w.heap.size≤g)=>Z8 w1 pb S lost (hp.later h1) 1 1 (.inl ⟨rfl,rfl⟩) [level] g 1 _ _ hg rfl (by omega) hI.1 1 rfl (by simp;omega));have hsz:(S++Z7 1 [level]).size+2*3≤4611686018427387904:=by rw[ByteArray.size_append,Xf];simp;omega
 have HM:=Hd (fun(w1:World) (hp1:PrAt w1 pb (S++Z7 1 [level]) (lost || !Zq 1 [level])) (g:Nat) (hg:w1.heap[g]?=some (.cells #[.int .i64 first,.int .i64 count,.int .i64 journal] 3 (0,0))) (hge:w.heap.size≤g)=>Z8 w1 pb (S++Z7 1 [level]) (lost || !Zq 1 [level]) hp1 2 2 (.inr ⟨rfl,rfl⟩) [first,count,journal] g 3 _ _ hg rfl (by omega) hI.2 3 rfl hsz);clear hp hI hz hsz
 have he:Zv pb (S++bytesOf (volP.b ⟨level,first,count,journal⟩)) (lost || !volP.ok ⟨level,first,count,journal⟩) w=Zv pb (S++Z7 1 [level]++Z7 2 [first,count,journal]) (lost || !Zq 1 [level] || !Zq 2 [first,count,journal]) w:=by
  rw[Z9,Xj];show Zv pb (S++bytesOf (ZZ 1 [level]++ZZ 2 [first,count,journal])) _ w=_;rw[ofB];rfl
 rw[he]
 obtain⟨T,hT⟩:∃ T,S++Z7 1 [level]++Z7 2 [first,count,journal]=T:=⟨_,rfl⟩
 obtain⟨L2,hL2⟩:∃ L2,(lost || !Zq 1 [level] || !Zq 2 [first,count,journal])=L2:=⟨_,rfl⟩
 rw[hT,hL2];have HT:=Hd hT;have HL2:=Hd hL2;clear he hT hL2;show Calls Tryz.prog 40 #[.agg #[.int .i64 level,.int .i64 first,.int .i64 count,.int .i64 journal],.pointer (some ⟨cb,0,none⟩)] w (Zv pb T L2 w);have H0:=Hd (fun(w1:World) (h1:Zo pb w w1)=>((h1.cell (p:=⟨cb,0,none⟩) hcl hcp).trans hcb))
 go_enter Tryz.func40,Tryz.ntmps40
 go_upto_region 1 with fail
 obtain⟨w1,hw1⟩:∃ w1,w.alloc (.cells #[.int .i64 level,.int .i64 first,.int .i64 count,.int .i64 journal] 28)=w1:=⟨_,rfl⟩
 obtain⟨g,hg⟩:∃ g,w.heap.size=g:=⟨_,rfl⟩
 have hb:w1.heap[g]?=some (.cells #[.int .i64 level,.int .i64 first,.int .i64 count,.int .i64 journal] 28 (0,0)):=by rw[←hw1,←hg];exact Ze w _
 have hl:Later w w1:=by rw[←hw1];exact(Later.refl w).alloc _
 have hcb1:=hl.cell hcb;have hgp:¬ g=pb:=by omega
 rw[hw1,hg];have HL:=Hd hl;have HB:=Hd hb;have hgs:w.heap.size≤w1.heap.size:=hl.size;have k0:=Zb hb 0;have k1:=Zb hb 1;have k2:=Zb hb 2;have k3:=Zb hb 3;clear hw1 hl hcb hg hb
 go_wp2_with (first
  |(go_at_call 30;(with_reducible refine(HN.out _ (HL.out.alloc _) _ (Ze _ _) hgs).mono ?_);rintro e w2 ⟨rfl,hpr,hon⟩;have hb1:=(hon.block g (Za (Zd HB.out (.cells #[.int .i64 level] 3))) hgp).trans (Zd HB.out _);have m1:=Zb hb1 1;have m2:=Zb hb1 2;have m3:=Zb hb1 3;have hon1:=ZB (HL.out.alloc _) hon;have kc:=H0.out w2 hon1;have HPR:=Hd hpr;have HON:=Hd hon1;have hgs2:w.heap.size≤w2.heap.size:=hon1.size;clear hpr hon hon1 hb1 hcb1 k0 k1 k2 k3)
  |(go_at_call 30;(with_reducible refine(HM.out _ (HPR.out.later ((Later.refl w2).alloc _)) _ (Ze _ _) hgs2).mono ?_);rintro e w3 ⟨rfl,hpr,hon⟩)
  |fail)
 go_end0
 exact⟨rfl,by rw[←HT.out,←HL2.out];exact hpr,HON.out.thenP (ZB ((Later.refl w2).alloc _) hon)⟩
def ruI(x:Ru):Prop:=(∀n∈[x.fr,x.tu,x.act],I64 n)∧x.pat.size≤9223372036854775807∧x.wth.size≤9223372036854775807
theorem pr_ru(w:World)(pb cb:Nat)(S:ByteArray)(lost:Bool)(hp:PrAt w pb S lost)(hcb:w.cell? ⟨cb,0,none⟩=some (.pointer (some ⟨pb,0,none⟩)))(hcp:cb≠pb)(x:Ru)(hI:ruI x)(hz:S.size≤4611686018427380000) :
 Calls Tryz.prog 42 #[.agg (ruC x).toArray,.pointer (some ⟨cb,0,none⟩)] w (Zv pb (S++bytesOf (ruP.b x)) (lost || !ruP.ok x) w):=by
 obtain⟨fr,tu,act,pat,wth⟩:=x;have hpl:=hp.lt;have hcl:cb<w.heap.size:=World.block_lt_of_cell? w _ hcb;have HN:=Hd (fun(w1:World) (h1:Later w w1) (g:Nat) (hg:w1.heap[g]?=some (.cells #[.int .i64 fr,.int .i64 tu,.int .i64 act] 3 (0,0))) (hge:w.heap.size≤g)=>Z8 w1 pb S lost (hp.later h1) 1 1 (.inl ⟨rfl,rfl⟩) [fr,tu,act] g 3 _ _ hg rfl (by omega) hI.1 3 rfl (by simp;omega));have hsz:(S++Z7 1 [fr,tu,act]).size≤4611686018427387904:=by rw[ByteArray.size_append,Xf];simp;omega
 have hsz2:(S++Z7 1 [fr,tu,act]++Vk pat).size≤4611686018427387904:=by
  have:=JT pat;rw[ByteArray.size_append,ByteArray.size_append,Xf];simp;omega
 have HM:=Hd (fun(w1:World) (hp1:PrAt w1 pb (S++Z7 1 [fr,tu,act]) (lost || !Zq 1 [fr,tu,act]))=>Ul w1 pb _ _ hp1 pat hI.2.1 hsz);have HO:=Hd (fun(w1:World) (hp1:PrAt w1 pb (S++Z7 1 [fr,tu,act]++Vk pat) (lost || !Zq 1 [fr,tu,act] || !Xy pat))=>Ul w1 pb _ _ hp1 wth hI.2.2 hsz2);clear hp hI hz hsz hsz2
 have he:Zv pb (S++bytesOf (ruP.b ⟨fr,tu,act,pat,wth⟩)) (lost || !ruP.ok ⟨fr,tu,act,pat,wth⟩) w=Zv pb (S++Z7 1 [fr,tu,act]++Vk pat++Vk wth) (lost || !Zq 1 [fr,tu,act] || !Xy pat || !Xy wth) w:=by
  rw[Z9,Z9,Xj,Xj];show Zv pb (S++bytesOf (ZZ 1 [fr,tu,act]++(Yb pat++Yb wth))) _ w=_;rw[ofB,ofB];rfl
 rw[he]
 obtain⟨T,hT⟩:∃ T,S++Z7 1 [fr,tu,act]++Vk pat++Vk wth=T:=⟨_,rfl⟩
 obtain⟨L2,hL2⟩:∃ L2,(lost || !Zq 1 [fr,tu,act] || !Xy pat || !Xy wth)=L2:=⟨_,rfl⟩
 rw[hT,hL2];have HT:=Hd hT;have HL2:=Hd hL2;clear he hT hL2;show Calls Tryz.prog 42 #[.agg #[.int .i64 fr,.int .i64 tu,.int .i64 act,.string pat,.string wth],.pointer (some ⟨cb,0,none⟩)] w (Zv pb T L2 w);have H0:=Hd (fun(w1:World) (h1:Zo pb w w1)=>((h1.cell (p:=⟨cb,0,none⟩) hcl hcp).trans hcb))
 go_enter Tryz.func42,Tryz.ntmps42
 go_upto_region 1 with fail
 obtain⟨w1,hw1⟩:∃ w1,w.alloc (.cells #[.int .i64 fr,.int .i64 tu,.int .i64 act,.string pat,.string wth] 53)=w1:=⟨_,rfl⟩
 obtain⟨g,hg⟩:∃ g,w.heap.size=g:=⟨_,rfl⟩
 have hb:w1.heap[g]?=some (.cells #[.int .i64 fr,.int .i64 tu,.int .i64 act,.string pat,.string wth] 53 (0,0)):=by rw[←hw1,←hg];exact Ze w _
 have hl:Later w w1:=by rw[←hw1];exact(Later.refl w).alloc _
 have hcb1:=hl.cell hcb;have hgp:¬ g=pb:=by omega
 rw[hw1,hg];have HL:=Hd hl;have HB:=Hd hb;have hgs:w.heap.size≤w1.heap.size:=hl.size;have k0:=Zb hb 0;have k1:=Zb hb 1;have k2:=Zb hb 2;have k3:=Zb hb 3;have k4:=Zb hb 4;clear hw1 hl hcb hg hb
 go_wp2_with (first
  |(go_at_call 30;(with_reducible refine(HN.out _ (HL.out.alloc _) _ (Ze _ _) hgs).mono ?_);rintro e w2 ⟨rfl,hpr,hon⟩;have hb1:=(hon.block g (Za (Zd HB.out (.cells #[.int .i64 fr,.int .i64 tu,.int .i64 act] 3))) hgp).trans (Zd HB.out _);have m1:=Zb hb1 3;have HB1:=Hd hb1;have hon1:=ZB (HL.out.alloc _) hon;have kc:=H0.out w2 hon1;have HPR:=Hd hpr;have HON:=Hd hon1;clear hpr hon hon1 hb1 hcb1 k0 k1 k2 k3 k4)
  |(go_at_call 43;(with_reducible refine(HM.out _ HPR.out).mono ?_);rintro e w3 ⟨rfl,hpr,hon⟩;have hb2:=(hon.block g (Za HB1.out) hgp).trans HB1.out;have m2:=Zb hb2 4;have hon1:=HON.out.thenP hon;have kc2:=H0.out w3 hon1;have HPR2:=Hd hpr;have HON2:=Hd hon1;clear hpr hon hon1 hb2 m1 kc)
  |(go_at_call 43;(with_reducible refine(HO.out _ HPR2.out).mono ?_);rintro e w4 ⟨rfl,hpr,hon⟩)
  |fail)
 go_end0
 exact⟨rfl,by rw[←HT.out,←HL2.out];exact hpr,HON2.out.thenP hon⟩
end Go.Proofs.YtbchkjfnakabkaaGreatDoor
namespace Go.Proofs.YtbchkjfnakabkaaGreatDoor
open Go.RowKit PX PC
def keyI(x:ByteArray):Prop:=x.size≤9223372036854775807
theorem Zm{α:Type}{w:World}{k:Nat}{v:Value}{f:α→List Value}{l:List α}(h:RowAt w k v (l.map f)):∃ a cap,v=.slice a l.length cap∧l.length≤cap∧cap≤9223372036854775807∧l.length*k≤140737488355328:=by
 obtain⟨a,cap,rfl,h1,h2,h3,-⟩:=h;rw[List.length_map]at h1 h3 ⊢;exact⟨a,cap,rfl,h1,h2,h3⟩
theorem ZG{α:Type}{w:World}{k:Nat}{a:Option Addr}{n cap:Nat}{f:α→List Value}{l:List α}(h:RowAt w k (.slice a n cap) (l.map f)){i:Nat}(hi:i<l.length) :
 ∃ b o,a=some ⟨b,o,none⟩∧b<w.heap.size∧∀ j,j<k→w.cell? ⟨b,o+i*k+j,none⟩=(f l[i])[j]?:=by
 obtain⟨a',cap',hv,h1,h2,h3,h4⟩:=h;have ha:a=a':=by injection hv
 subst ha;rcases h4 with h4|⟨b,o,rfl,hb,hc⟩
 ·have:(l.map f).length=0:=by rw[h4];rfl
  rw[List.length_map]at this;omega
 ·refine⟨b,o,rfl,hb,fun j hj=>?_⟩;rw[hc i (by rw[List.length_map];exact hi) j hj,List.getElem_map]
theorem X6{α:Type}(p:Lays α):∀ (l:List α) (x:α),ZD p (l++[x])=ZD p l++p.b x
 |[],x=>by simp[ZD]
 |y::l,x=>by simp[ZD,X6 p l x]
theorem XN{α:Type}(p:Lays α):∀ (l:List α) (x:α),ZA p (l++[x])=(ZA p l&&p.ok x)
 |[],x=>by simp[ZA]
 |y::l,x=>by simp[ZA,XN p l x,Bool.and_assoc]
theorem Yg{α:Type}(p:Lays α)(m:Nat)(hm:∀ x,(p.b x).length≤m):∀ (l:List α),(ZD p l).length≤l.length*m
 |[]=>by simp[ZD]
 |y::l=>by
  have:=Yg p m hm l;have:=hm y;simp only[ZD,List.length_append,List.length_cons,Nat.add_mul];omega
theorem Zdi{α:Type}(p:Lays α)(m:Nat)(hm:∀ x,(p.b x).length≤m)(l:List α):(ZX p l).length≤1+l.length*m:=by
 have:=Yg p m hm l;simp only[ZX,List.length_append,XU,List.length_cons,List.length_nil];omega
theorem Eu(s:ByteArray):(Yb s).length≤1026:=by
 have:=JT s
 rwa [show(Vk s).size=(Yb s).length by show(Yb s).toArray.size=_;simp]at this
theorem Js(S:ByteArray):S++(⟨#[]⟩:ByteArray)=S:=QA (by rw[W8];simp)
theorem BY(x:Int × Int):(XF.b x).length≤4:=by show(ZZ 1 [x.1,x.2]).length≤4;rw[XU];simp
theorem Zbe(w0 w:World)(h0:Later w0 w)(pb cb:Nat)(S:ByteArray)(lost:Bool)(hp:PrAt w pb S lost)(hpb:w0.heap.size≤pb)(hcb:w.cell? ⟨cb,0,none⟩=some (.pointer (some ⟨pb,0,none⟩)))(hcp:cb≠pb)(v:Value)(l:List (Int × Int))(hrow:RowAt w0 2 v (l.map Yl))(hI:∀ x∈l,DV x)(hz:S.size≤2305843009213693952) :
 Calls Tryz.prog 31 #[.pointer (some ⟨pb,0,none⟩),v,.func (.func 32) #[] #[.pointer (some ⟨cb,0,none⟩)]] w (Zv pb (S++bytesOf (ZX XF l)) (lost || !ZM XF l) w):=by
 obtain⟨a,cap,rfl,hl1,hl2,hl3⟩:=Zm hrow;have HROW:=Hd hrow;have HI:=Hd hI;have H0:=Hd h0;have hpl:=hp.lt;have HN:=Hd (fun(w1:World) (h1:Later w w1) (g:Nat) (hg:w1.heap[g]?=some (.cells #[.int .i64 (l.length:Int)] 3 (0,0))) (hge:w.heap.size≤g)=>Z8 w1 pb S lost (hp.later h1) 1 1 (.inl ⟨rfl,rfl⟩) [(l.length:Int)] g 1 _ _ hg rfl (by omega) (by intro n hn;rw[List.mem_singleton.1 hn];exact⟨by omega,by omega⟩) 1 rfl (by simp;omega));have HCB:=Hd (And.intro (World.block_lt_of_cell? w _ hcb) hcb)
 have HSZ:=Hd (fun(j:Nat) (hj:j≤l.length)=>show(S++Z7 1 [(l.length:Int)]++bytesOf (ZD XF (l.take j))).size≤4611686018427380000 by
  have e1:=Yg XF 4 BY (l.take j);have e2:(l.take j).length≤l.length:=by rw[List.length_take];omega
  have e3:(l.take j).length*4≤l.length*4:=Nat.mul_le_mul_right _ e2;rw[ByteArray.size_append,ByteArray.size_append,Xf,show(bytesOf (ZD XF (l.take j))).size=(ZD XF (l.take j)).length by show(ZD XF (l.take j)).toArray.size=_;simp];simp only[List.length_cons,List.length_nil]
  omega)
 have HE:Hid (Zv pb (S++bytesOf (ZX XF l)) (lost || !ZM XF l) w=Zv pb (S++Z7 1 [(l.length:Int)]++bytesOf (ZD XF l)) (lost || !Zq 1 [(l.length:Int)] || !ZA XF l) w):=Hd (by
  rw[Z9,Xj,ZX,ofB];rfl)
 obtain⟨PT,hPT⟩:∃ PT,Zv pb (S++bytesOf (ZX XF l)) (lost || !ZM XF l) w=PT:=⟨_,rfl⟩
 rw[hPT];have HPT:=Hd hPT;have hll:l.length≤140737488355328:=by omega
 clear hp hrow hI h0 hz hcb hPT
 go_enter Tryz.func31,Tryz.ntmps31
 go_wp2_with (first
  |(go_at_call 30;(with_reducible refine(HN.out _ ((Later.refl w).alloc _) _ (Ze _ _) (Nat.le_refl _)).mono ?_);rintro e w1 ⟨rfl,hpr,hon⟩;have HPR:=Hd hpr;have HON:=Hd (ZB ((Later.refl w).alloc _) hon);clear hpr hon)
  |fail)
 obtain⟨S0,hS0⟩:∃ S0,S++Z7 1 [(l.length:Int)]=S0:=⟨_,rfl⟩
 obtain⟨L0,hL0⟩:∃ L0,(lost || !Zq 1 [(l.length:Int)])=L0:=⟨_,rfl⟩
 rw[hS0]at HPR HE HSZ;rw[hL0]at HPR HE;clear hS0 hL0 HN
 go_loopw [15] (fun vi wr=>∃ j:Nat,j≤l.length∧vi=.int .i64 j∧PrAt wr pb (S0++bytesOf (ZD XF (l.take j))) (L0 || !ZA XF (l.take j))∧Zo pb w wr) (fun vi _=>l.length - (intOf vi).toNat)
 case atStart=>exact⟨0,by omega,by simp,by simpa [ZD,ZA,bytesOf,Js] using HPR.out,HON.out⟩
 case round=>
  obtain⟨j,hj,rfl,hpr,hon⟩:=hrel;by_cases hlt:j<l.length
  ·have hbw:Later w0 wr:=(Below.trans H0.out (Only.below hon H0.out.size (fun k hk=>by rw[show k=pb from hk];exact hpb)))
   obtain⟨b,o,rfl,hb,hc⟩:=ZG (HROW.out.later hbw) hlt;have htk:=List.take_succ_eq_append_getElem hlt;have hI:=HI.out _ (List.getElem_mem hlt);have hsz:=HSZ.out j hj
   obtain⟨x,hx⟩:∃ x,l[j]=x:=⟨_,rfl⟩
   rw[hx]at hc htk hI;have HS:Hid (S0++bytesOf (ZD XF (l.take (j+1)))=(S0++bytesOf (ZD XF (l.take j)))++bytesOf (XF.b x)):=Hd (by rw[htk,X6,ofB,Xj]);have HL:Hid ((L0 || !ZA XF (l.take (j+1)))=((L0 || !ZA XF (l.take j)) || !XF.ok x)):=Hd (by rw[htk,XN,Z9])
   obtain⟨Sj,hSj⟩:∃ Sj,S0++bytesOf (ZD XF (l.take j))=Sj:=⟨_,rfl⟩
   obtain⟨L,hL⟩:∃ L,(L0 || !ZA XF (l.take j))=L:=⟨_,rfl⟩
   rw[hSj]at HS hpr hsz;rw[hL]at HL hpr;have HPRR:=Hd hpr;have HONN:=Hd hon;clear hSj hL hpr hon hx htk hbw;obtain⟨x1,x2⟩:=x;have c0:=hc 0 (by omega);have c1:=hc 1 (by omega);have HCL:=Hd (fun(w1:World) (h1:Zo pb w w1) (h2:PrAt w1 pb Sj L)=>(show Calls Tryz.prog 32 #[.agg #[.int .i64 x1,.int .i64 x2],.pointer (some ⟨cb,0,none⟩)] w1 (Zv pb (Sj++bytesOf (XF.b ⟨x1,x2⟩)) (L || !XF.ok ⟨x1,x2⟩) w1) from ZgE w1 pb cb Sj L h2 ((h1.cell (p:=⟨cb,0,none⟩) HCB.out.1 hcp).trans HCB.out.2) ⟨x1,x2⟩ hI hsz));clear hc hI hsz;simp only[Yl,List.getElem?_cons_zero,List.getElem?_cons_succ,Nat.add_zero,Nat.mul_one]at c0 c1
   go_wp2_with (first
    |(go_at_call 32;(with_reducible refine(HCL.out _ (HONN.out.alloc _) (HPRR.out.later ((Later.refl wr).alloc _))).mono ?_);rintro e w2 ⟨rfl,hpr,hon⟩)
    |fail)
   refine⟨⟨j+1,by omega,by simp,?_,?_⟩,by simp only[intOf];omega⟩
   ·rw[HS.out,HL.out];exact hpr
   ·exact HONN.out.thenP (ZB ((Later.refl wr).alloc _) hon)
  ·obtain rfl:j=l.length:=by omega
   rw[List.take_of_length_le (Nat.le_refl _)]at hpr;have HPRR:=Hd hpr;clear hpr
   go_wp2_with fail
   go_end0
   rw[←HPT.out,HE.out];exact⟨rfl,HPRR.out,hon⟩
theorem BE(x:Prt):(XD.b x).length≤4:=by show(ZZ 1 [x.level,x.pages]).length≤4;rw[XU];simp
theorem Zbd(w0 w:World)(h0:Later w0 w)(pb cb:Nat)(S:ByteArray)(lost:Bool)(hp:PrAt w pb S lost)(hpb:w0.heap.size≤pb)(hcb:w.cell? ⟨cb,0,none⟩=some (.pointer (some ⟨pb,0,none⟩)))(hcp:cb≠pb)(v:Value)(l:List Prt)(hrow:RowAt w0 2 v (l.map X9))(hI:∀ x∈l,ZaZ x)(hz:S.size≤2305843009213693952) :
 Calls Tryz.prog 33 #[.pointer (some ⟨pb,0,none⟩),v,.func (.func 34) #[] #[.pointer (some ⟨cb,0,none⟩)]] w (Zv pb (S++bytesOf (ZX XD l)) (lost || !ZM XD l) w):=by
 obtain⟨a,cap,rfl,hl1,hl2,hl3⟩:=Zm hrow;have HROW:=Hd hrow;have HI:=Hd hI;have H0:=Hd h0;have hpl:=hp.lt;have HN:=Hd (fun(w1:World) (h1:Later w w1) (g:Nat) (hg:w1.heap[g]?=some (.cells #[.int .i64 (l.length:Int)] 3 (0,0))) (hge:w.heap.size≤g)=>Z8 w1 pb S lost (hp.later h1) 1 1 (.inl ⟨rfl,rfl⟩) [(l.length:Int)] g 1 _ _ hg rfl (by omega) (by intro n hn;rw[List.mem_singleton.1 hn];exact⟨by omega,by omega⟩) 1 rfl (by simp;omega));have HCB:=Hd (And.intro (World.block_lt_of_cell? w _ hcb) hcb)
 have HSZ:=Hd (fun(j:Nat) (hj:j≤l.length)=>show(S++Z7 1 [(l.length:Int)]++bytesOf (ZD XD (l.take j))).size≤4611686018427380000 by
  have e1:=Yg XD 4 BE (l.take j);have e2:(l.take j).length≤l.length:=by rw[List.length_take];omega
  have e3:(l.take j).length*4≤l.length*4:=Nat.mul_le_mul_right _ e2;rw[ByteArray.size_append,ByteArray.size_append,Xf,show(bytesOf (ZD XD (l.take j))).size=(ZD XD (l.take j)).length by show(ZD XD (l.take j)).toArray.size=_;simp];simp only[List.length_cons,List.length_nil]
  omega)
 have HE:Hid (Zv pb (S++bytesOf (ZX XD l)) (lost || !ZM XD l) w=Zv pb (S++Z7 1 [(l.length:Int)]++bytesOf (ZD XD l)) (lost || !Zq 1 [(l.length:Int)] || !ZA XD l) w):=Hd (by
  rw[Z9,Xj,ZX,ofB];rfl)
 obtain⟨PT,hPT⟩:∃ PT,Zv pb (S++bytesOf (ZX XD l)) (lost || !ZM XD l) w=PT:=⟨_,rfl⟩
 rw[hPT];have HPT:=Hd hPT;have hll:l.length≤140737488355328:=by omega
 clear hp hrow hI h0 hz hcb hPT
 go_enter Tryz.func33,Tryz.ntmps33
 go_wp2_with (first
  |(go_at_call 30;(with_reducible refine(HN.out _ ((Later.refl w).alloc _) _ (Ze _ _) (Nat.le_refl _)).mono ?_);rintro e w1 ⟨rfl,hpr,hon⟩;have HPR:=Hd hpr;have HON:=Hd (ZB ((Later.refl w).alloc _) hon);clear hpr hon)
  |fail)
 obtain⟨S0,hS0⟩:∃ S0,S++Z7 1 [(l.length:Int)]=S0:=⟨_,rfl⟩
 obtain⟨L0,hL0⟩:∃ L0,(lost || !Zq 1 [(l.length:Int)])=L0:=⟨_,rfl⟩
 rw[hS0]at HPR HE HSZ;rw[hL0]at HPR HE;clear hS0 hL0 HN
 go_loopw [15] (fun vi wr=>∃ j:Nat,j≤l.length∧vi=.int .i64 j∧PrAt wr pb (S0++bytesOf (ZD XD (l.take j))) (L0 || !ZA XD (l.take j))∧Zo pb w wr) (fun vi _=>l.length - (intOf vi).toNat)
 case atStart=>exact⟨0,by omega,by simp,by simpa [ZD,ZA,bytesOf,Js] using HPR.out,HON.out⟩
 case round=>
  obtain⟨j,hj,rfl,hpr,hon⟩:=hrel;by_cases hlt:j<l.length
  ·have hbw:Later w0 wr:=(Below.trans H0.out (Only.below hon H0.out.size (fun k hk=>by rw[show k=pb from hk];exact hpb)))
   obtain⟨b,o,rfl,hb,hc⟩:=ZG (HROW.out.later hbw) hlt;have htk:=List.take_succ_eq_append_getElem hlt;have hI:=HI.out _ (List.getElem_mem hlt);have hsz:=HSZ.out j hj
   obtain⟨x,hx⟩:∃ x,l[j]=x:=⟨_,rfl⟩
   rw[hx]at hc htk hI;have HS:Hid (S0++bytesOf (ZD XD (l.take (j+1)))=(S0++bytesOf (ZD XD (l.take j)))++bytesOf (XD.b x)):=Hd (by rw[htk,X6,ofB,Xj]);have HL:Hid ((L0 || !ZA XD (l.take (j+1)))=((L0 || !ZA XD (l.take j)) || !XD.ok x)):=Hd (by rw[htk,XN,Z9])
   obtain⟨Sj,hSj⟩:∃ Sj,S0++bytesOf (ZD XD (l.take j))=Sj:=⟨_,rfl⟩
   obtain⟨L,hL⟩:∃ L,(L0 || !ZA XD (l.take j))=L:=⟨_,rfl⟩
   rw[hSj]at HS hpr hsz;rw[hL]at HL hpr;have HPRR:=Hd hpr;have HONN:=Hd hon;clear hSj hL hpr hon hx htk hbw;obtain⟨x1,x2⟩:=x;have c0:=hc 0 (by omega);have c1:=hc 1 (by omega);have HCL:=Hd (fun(w1:World) (h1:Zo pb w w1) (h2:PrAt w1 pb Sj L)=>(show Calls Tryz.prog 34 #[.agg #[.int .i64 x1,.int .i64 x2],.pointer (some ⟨cb,0,none⟩)] w1 (Zv pb (Sj++bytesOf (XD.b ⟨x1,x2⟩)) (L || !XD.ok ⟨x1,x2⟩) w1) from ZgD w1 pb cb Sj L h2 ((h1.cell (p:=⟨cb,0,none⟩) HCB.out.1 hcp).trans HCB.out.2) ⟨x1,x2⟩ hI hsz));clear hc hI hsz;simp only[X9,List.getElem?_cons_zero,List.getElem?_cons_succ,Nat.add_zero,Nat.mul_one]at c0 c1
   go_wp2_with (first
    |(go_at_call 34;(with_reducible refine(HCL.out _ (HONN.out.alloc _) (HPRR.out.later ((Later.refl wr).alloc _))).mono ?_);rintro e w2 ⟨rfl,hpr,hon⟩)
    |fail)
   refine⟨⟨j+1,by omega,by simp,?_,?_⟩,by simp only[intOf];omega⟩
   ·rw[HS.out,HL.out];exact hpr
   ·exact HONN.out.thenP (ZB ((Later.refl wr).alloc _) hon)
  ·obtain rfl:j=l.length:=by omega
   rw[List.take_of_length_le (Nat.le_refl _)]at hpr;have HPRR:=Hd hpr;clear hpr
   go_wp2_with fail
   go_end0
   rw[←HPT.out,HE.out];exact⟨rfl,HPRR.out,hon⟩
theorem ZbV(x:Win):(winP.b x).length≤6:=by show(ZZ 1 [x.kind,x.index,x.ticks]).length≤6;rw[XU];simp
theorem Zdd(w0 w:World)(h0:Later w0 w)(pb cb:Nat)(S:ByteArray)(lost:Bool)(hp:PrAt w pb S lost)(hpb:w0.heap.size≤pb)(hcb:w.cell? ⟨cb,0,none⟩=some (.pointer (some ⟨pb,0,none⟩)))(hcp:cb≠pb)(v:Value)(l:List Win)(hrow:RowAt w0 3 v (l.map winC))(hI:∀ x∈l,winI x)(hz:S.size≤2305843009213693952) :
 Calls Tryz.prog 35 #[.pointer (some ⟨pb,0,none⟩),v,.func (.func 36) #[] #[.pointer (some ⟨cb,0,none⟩)]] w (Zv pb (S++bytesOf (ZX winP l)) (lost || !ZM winP l) w):=by
 obtain⟨a,cap,rfl,hl1,hl2,hl3⟩:=Zm hrow;have HROW:=Hd hrow;have HI:=Hd hI;have H0:=Hd h0;have hpl:=hp.lt;have HN:=Hd (fun(w1:World) (h1:Later w w1) (g:Nat) (hg:w1.heap[g]?=some (.cells #[.int .i64 (l.length:Int)] 3 (0,0))) (hge:w.heap.size≤g)=>Z8 w1 pb S lost (hp.later h1) 1 1 (.inl ⟨rfl,rfl⟩) [(l.length:Int)] g 1 _ _ hg rfl (by omega) (by intro n hn;rw[List.mem_singleton.1 hn];exact⟨by omega,by omega⟩) 1 rfl (by simp;omega));have HCB:=Hd (And.intro (World.block_lt_of_cell? w _ hcb) hcb)
 have HSZ:=Hd (fun(j:Nat) (hj:j≤l.length)=>show(S++Z7 1 [(l.length:Int)]++bytesOf (ZD winP (l.take j))).size≤4611686018427380000 by
  have e1:=Yg winP 6 ZbV (l.take j);have e2:(l.take j).length≤l.length:=by rw[List.length_take];omega
  have e3:(l.take j).length*6≤l.length*6:=Nat.mul_le_mul_right _ e2;rw[ByteArray.size_append,ByteArray.size_append,Xf,show(bytesOf (ZD winP (l.take j))).size=(ZD winP (l.take j)).length by show(ZD winP (l.take j)).toArray.size=_;simp];simp only[List.length_cons,List.length_nil]
  omega)
 have HE:Hid (Zv pb (S++bytesOf (ZX winP l)) (lost || !ZM winP l) w=Zv pb (S++Z7 1 [(l.length:Int)]++bytesOf (ZD winP l)) (lost || !Zq 1 [(l.length:Int)] || !ZA winP l) w):=Hd (by
  rw[Z9,Xj,ZX,ofB];rfl)
 obtain⟨PT,hPT⟩:∃ PT,Zv pb (S++bytesOf (ZX winP l)) (lost || !ZM winP l) w=PT:=⟨_,rfl⟩
 rw[hPT];have HPT:=Hd hPT;have hll:l.length≤140737488355328:=by omega
 clear hp hrow hI h0 hz hcb hPT
 go_enter Tryz.func35,Tryz.ntmps35
 go_wp2_with (first
  |(go_at_call 30;(with_reducible refine(HN.out _ ((Later.refl w).alloc _) _ (Ze _ _) (Nat.le_refl _)).mono ?_);rintro e w1 ⟨rfl,hpr,hon⟩;have HPR:=Hd hpr;have HON:=Hd (ZB ((Later.refl w).alloc _) hon);clear hpr hon)
  |fail)
 obtain⟨S0,hS0⟩:∃ S0,S++Z7 1 [(l.length:Int)]=S0:=⟨_,rfl⟩
 obtain⟨L0,hL0⟩:∃ L0,(lost || !Zq 1 [(l.length:Int)])=L0:=⟨_,rfl⟩
 rw[hS0]at HPR HE HSZ;rw[hL0]at HPR HE;clear hS0 hL0 HN
 go_loopw [15] (fun vi wr=>∃ j:Nat,j≤l.length∧vi=.int .i64 j∧PrAt wr pb (S0++bytesOf (ZD winP (l.take j))) (L0 || !ZA winP (l.take j))∧Zo pb w wr) (fun vi _=>l.length - (intOf vi).toNat)
 case atStart=>exact⟨0,by omega,by simp,by simpa [ZD,ZA,bytesOf,Js] using HPR.out,HON.out⟩
 case round=>
  obtain⟨j,hj,rfl,hpr,hon⟩:=hrel;by_cases hlt:j<l.length
  ·have hbw:Later w0 wr:=(Below.trans H0.out (Only.below hon H0.out.size (fun k hk=>by rw[show k=pb from hk];exact hpb)))
   obtain⟨b,o,rfl,hb,hc⟩:=ZG (HROW.out.later hbw) hlt;have htk:=List.take_succ_eq_append_getElem hlt;have hI:=HI.out _ (List.getElem_mem hlt);have hsz:=HSZ.out j hj
   obtain⟨x,hx⟩:∃ x,l[j]=x:=⟨_,rfl⟩
   rw[hx]at hc htk hI;have HS:Hid (S0++bytesOf (ZD winP (l.take (j+1)))=(S0++bytesOf (ZD winP (l.take j)))++bytesOf (winP.b x)):=Hd (by rw[htk,X6,ofB,Xj]);have HL:Hid ((L0 || !ZA winP (l.take (j+1)))=((L0 || !ZA winP (l.take j)) || !winP.ok x)):=Hd (by rw[htk,XN,Z9])
   obtain⟨Sj,hSj⟩:∃ Sj,S0++bytesOf (ZD winP (l.take j))=Sj:=⟨_,rfl⟩
   obtain⟨L,hL⟩:∃ L,(L0 || !ZA winP (l.take j))=L:=⟨_,rfl⟩
   rw[hSj]at HS hpr hsz;rw[hL]at HL hpr;have HPRR:=Hd hpr;have HONN:=Hd hon;clear hSj hL hpr hon hx htk hbw;obtain⟨x1,x2,x3⟩:=x;have c0:=hc 0 (by omega);have c1:=hc 1 (by omega);have c2:=hc 2 (by omega);have HCL:=Hd (fun(w1:World) (h1:Zo pb w w1) (h2:PrAt w1 pb Sj L)=>(show Calls Tryz.prog 36 #[.agg #[.int .i64 x1,.int .i64 x2,.int .i64 x3],.pointer (some ⟨cb,0,none⟩)] w1 (Zv pb (Sj++bytesOf (winP.b ⟨x1,x2,x3⟩)) (L || !winP.ok ⟨x1,x2,x3⟩) w1) from ZhR w1 pb cb Sj L h2 ((h1.cell (p:=⟨cb,0,none⟩) HCB.out.1 hcp).trans HCB.out.2) ⟨x1,x2,x3⟩ hI hsz));clear hc hI hsz;simp only[winC,List.getElem?_cons_zero,List.getElem?_cons_succ,Nat.add_zero,Nat.mul_one]at c0 c1 c2
   go_wp2_with (first
    |(go_at_call 36;(with_reducible refine(HCL.out _ (HONN.out.alloc _) (HPRR.out.later ((Later.refl wr).alloc _))).mono ?_);rintro e w2 ⟨rfl,hpr,hon⟩)
    |fail)
   refine⟨⟨j+1,by omega,by simp,?_,?_⟩,by simp only[intOf];omega⟩
   ·rw[HS.out,HL.out];exact hpr
   ·exact HONN.out.thenP (ZB ((Later.refl wr).alloc _) hon)
  ·obtain rfl:j=l.length:=by omega
   rw[List.take_of_length_le (Nat.le_refl _)]at hpr;have HPRR:=Hd hpr;clear hpr
   go_wp2_with fail
   go_end0
   rw[←HPT.out,HE.out];exact⟨rfl,HPRR.out,hon⟩
theorem ZcF(x:Por):(porP.b x).length≤10:=by show(ZZ 1 [x.kind,x.fr,x.tu,x.size,x.depth]).length≤10;rw[XU];simp
theorem Zdf(w0 w:World)(h0:Later w0 w)(pb cb:Nat)(S:ByteArray)(lost:Bool)(hp:PrAt w pb S lost)(hpb:w0.heap.size≤pb)(hcb:w.cell? ⟨cb,0,none⟩=some (.pointer (some ⟨pb,0,none⟩)))(hcp:cb≠pb)(v:Value)(l:List Por)(hrow:RowAt w0 5 v (l.map porC))(hI:∀ x∈l,porI x)(hz:S.size≤2305843009213693952) :
 Calls Tryz.prog 37 #[.pointer (some ⟨pb,0,none⟩),v,.func (.func 38) #[] #[.pointer (some ⟨cb,0,none⟩)]] w (Zv pb (S++bytesOf (ZX porP l)) (lost || !ZM porP l) w):=by
 obtain⟨a,cap,rfl,hl1,hl2,hl3⟩:=Zm hrow;have HROW:=Hd hrow;have HI:=Hd hI;have H0:=Hd h0;have hpl:=hp.lt;have HN:=Hd (fun(w1:World) (h1:Later w w1) (g:Nat) (hg:w1.heap[g]?=some (.cells #[.int .i64 (l.length:Int)] 3 (0,0))) (hge:w.heap.size≤g)=>Z8 w1 pb S lost (hp.later h1) 1 1 (.inl ⟨rfl,rfl⟩) [(l.length:Int)] g 1 _ _ hg rfl (by omega) (by intro n hn;rw[List.mem_singleton.1 hn];exact⟨by omega,by omega⟩) 1 rfl (by simp;omega));have HCB:=Hd (And.intro (World.block_lt_of_cell? w _ hcb) hcb)
 have HSZ:=Hd (fun(j:Nat) (hj:j≤l.length)=>show(S++Z7 1 [(l.length:Int)]++bytesOf (ZD porP (l.take j))).size≤4611686018427380000 by
  have e1:=Yg porP 10 ZcF (l.take j);have e2:(l.take j).length≤l.length:=by rw[List.length_take];omega
  have e3:(l.take j).length*10≤l.length*10:=Nat.mul_le_mul_right _ e2;rw[ByteArray.size_append,ByteArray.size_append,Xf,show(bytesOf (ZD porP (l.take j))).size=(ZD porP (l.take j)).length by show(ZD porP (l.take j)).toArray.size=_;simp];simp only[List.length_cons,List.length_nil]
  omega)
 have HE:Hid (Zv pb (S++bytesOf (ZX porP l)) (lost || !ZM porP l) w=Zv pb (S++Z7 1 [(l.length:Int)]++bytesOf (ZD porP l)) (lost || !Zq 1 [(l.length:Int)] || !ZA porP l) w):=Hd (by
  rw[Z9,Xj,ZX,ofB];rfl)
 obtain⟨PT,hPT⟩:∃ PT,Zv pb (S++bytesOf (ZX porP l)) (lost || !ZM porP l) w=PT:=⟨_,rfl⟩
 rw[hPT];have HPT:=Hd hPT;have hll:l.length≤140737488355328:=by omega
 clear hp hrow hI h0 hz hcb hPT
 go_enter Tryz.func37,Tryz.ntmps37
 go_wp2_with (first
  |(go_at_call 30;(with_reducible refine(HN.out _ ((Later.refl w).alloc _) _ (Ze _ _) (Nat.le_refl _)).mono ?_);rintro e w1 ⟨rfl,hpr,hon⟩;have HPR:=Hd hpr;have HON:=Hd (ZB ((Later.refl w).alloc _) hon);clear hpr hon)
  |fail)
 obtain⟨S0,hS0⟩:∃ S0,S++Z7 1 [(l.length:Int)]=S0:=⟨_,rfl⟩
 obtain⟨L0,hL0⟩:∃ L0,(lost || !Zq 1 [(l.length:Int)])=L0:=⟨_,rfl⟩
 rw[hS0]at HPR HE HSZ;rw[hL0]at HPR HE;clear hS0 hL0 HN
 go_loopw [15] (fun vi wr=>∃ j:Nat,j≤l.length∧vi=.int .i64 j∧PrAt wr pb (S0++bytesOf (ZD porP (l.take j))) (L0 || !ZA porP (l.take j))∧Zo pb w wr) (fun vi _=>l.length - (intOf vi).toNat)
 case atStart=>exact⟨0,by omega,by simp,by simpa [ZD,ZA,bytesOf,Js] using HPR.out,HON.out⟩
 case round=>
  obtain⟨j,hj,rfl,hpr,hon⟩:=hrel;by_cases hlt:j<l.length
  ·have hbw:Later w0 wr:=(Below.trans H0.out (Only.below hon H0.out.size (fun k hk=>by rw[show k=pb from hk];exact hpb)))
   obtain⟨b,o,rfl,hb,hc⟩:=ZG (HROW.out.later hbw) hlt;have htk:=List.take_succ_eq_append_getElem hlt;have hI:=HI.out _ (List.getElem_mem hlt);have hsz:=HSZ.out j hj
   obtain⟨x,hx⟩:∃ x,l[j]=x:=⟨_,rfl⟩
   rw[hx]at hc htk hI;have HS:Hid (S0++bytesOf (ZD porP (l.take (j+1)))=(S0++bytesOf (ZD porP (l.take j)))++bytesOf (porP.b x)):=Hd (by rw[htk,X6,ofB,Xj]);have HL:Hid ((L0 || !ZA porP (l.take (j+1)))=((L0 || !ZA porP (l.take j)) || !porP.ok x)):=Hd (by rw[htk,XN,Z9])
   obtain⟨Sj,hSj⟩:∃ Sj,S0++bytesOf (ZD porP (l.take j))=Sj:=⟨_,rfl⟩
   obtain⟨L,hL⟩:∃ L,(L0 || !ZA porP (l.take j))=L:=⟨_,rfl⟩
   rw[hSj]at HS hpr hsz;rw[hL]at HL hpr;have HPRR:=Hd hpr;have HONN:=Hd hon;clear hSj hL hpr hon hx htk hbw;obtain⟨x1,x2,x3,x4,x5⟩:=x;have c0:=hc 0 (by omega);have c1:=hc 1 (by omega);have c2:=hc 2 (by omega);have c3:=hc 3 (by omega);have c4:=hc 4 (by omega);have HCL:=Hd (fun(w1:World) (h1:Zo pb w w1) (h2:PrAt w1 pb Sj L)=>(show Calls Tryz.prog 38 #[.agg #[.int .i64 x1,.int .i64 x2,.int .i64 x3,.int .i64 x4,.int .i64 x5],.pointer (some ⟨cb,0,none⟩)] w1 (Zv pb (Sj++bytesOf (porP.b ⟨x1,x2,x3,x4,x5⟩)) (L || !porP.ok ⟨x1,x2,x3,x4,x5⟩) w1) from ZhT w1 pb cb Sj L h2 ((h1.cell (p:=⟨cb,0,none⟩) HCB.out.1 hcp).trans HCB.out.2) ⟨x1,x2,x3,x4,x5⟩ hI hsz));clear hc hI hsz;simp only[porC,List.getElem?_cons_zero,List.getElem?_cons_succ,Nat.add_zero,Nat.mul_one]at c0 c1 c2 c3 c4
   go_wp2_with (first
    |(go_at_call 38;(with_reducible refine(HCL.out _ (HONN.out.alloc _) (HPRR.out.later ((Later.refl wr).alloc _))).mono ?_);rintro e w2 ⟨rfl,hpr,hon⟩)
    |fail)
   refine⟨⟨j+1,by omega,by simp,?_,?_⟩,by simp only[intOf];omega⟩
   ·rw[HS.out,HL.out];exact hpr
   ·exact HONN.out.thenP (ZB ((Later.refl wr).alloc _) hon)
  ·obtain rfl:j=l.length:=by omega
   rw[List.take_of_length_le (Nat.le_refl _)]at hpr;have HPRR:=Hd hpr;clear hpr
   go_wp2_with fail
   go_end0
   rw[←HPT.out,HE.out];exact⟨rfl,HPRR.out,hon⟩
theorem ZbX(x:Vol):(volP.b x).length≤10:=by show(ZZ 1 [x.level]++ZZ 2 [x.first,x.count,x.journal]).length≤10;rw[List.length_append,XU,XU];simp
theorem Zde(w0 w:World)(h0:Later w0 w)(pb cb:Nat)(S:ByteArray)(lost:Bool)(hp:PrAt w pb S lost)(hpb:w0.heap.size≤pb)(hcb:w.cell? ⟨cb,0,none⟩=some (.pointer (some ⟨pb,0,none⟩)))(hcp:cb≠pb)(v:Value)(l:List Vol)(hrow:RowAt w0 4 v (l.map volC))(hI:∀ x∈l,volI x)(hz:S.size≤2305843009213693952) :
 Calls Tryz.prog 39 #[.pointer (some ⟨pb,0,none⟩),v,.func (.func 40) #[] #[.pointer (some ⟨cb,0,none⟩)]] w (Zv pb (S++bytesOf (ZX volP l)) (lost || !ZM volP l) w):=by
 obtain⟨a,cap,rfl,hl1,hl2,hl3⟩:=Zm hrow;have HROW:=Hd hrow;have HI:=Hd hI;have H0:=Hd h0;have hpl:=hp.lt;have HN:=Hd (fun(w1:World) (h1:Later w w1) (g:Nat) (hg:w1.heap[g]?=some (.cells #[.int .i64 (l.length:Int)] 3 (0,0))) (hge:w.heap.size≤g)=>Z8 w1 pb S lost (hp.later h1) 1 1 (.inl ⟨rfl,rfl⟩) [(l.length:Int)] g 1 _ _ hg rfl (by omega) (by intro n hn;rw[List.mem_singleton.1 hn];exact⟨by omega,by omega⟩) 1 rfl (by simp;omega));have HCB:=Hd (And.intro (World.block_lt_of_cell? w _ hcb) hcb)
 have HSZ:=Hd (fun(j:Nat) (hj:j≤l.length)=>show(S++Z7 1 [(l.length:Int)]++bytesOf (ZD volP (l.take j))).size≤4611686018427380000 by
  have e1:=Yg volP 10 ZbX (l.take j);have e2:(l.take j).length≤l.length:=by rw[List.length_take];omega
  have e3:(l.take j).length*10≤l.length*10:=Nat.mul_le_mul_right _ e2;rw[ByteArray.size_append,ByteArray.size_append,Xf,show(bytesOf (ZD volP (l.take j))).size=(ZD volP (l.take j)).length by show(ZD volP (l.take j)).toArray.size=_;simp];simp only[List.length_cons,List.length_nil]
  omega)
 have HE:Hid (Zv pb (S++bytesOf (ZX volP l)) (lost || !ZM volP l) w=Zv pb (S++Z7 1 [(l.length:Int)]++bytesOf (ZD volP l)) (lost || !Zq 1 [(l.length:Int)] || !ZA volP l) w):=Hd (by
  rw[Z9,Xj,ZX,ofB];rfl)
 obtain⟨PT,hPT⟩:∃ PT,Zv pb (S++bytesOf (ZX volP l)) (lost || !ZM volP l) w=PT:=⟨_,rfl⟩
 rw[hPT];have HPT:=Hd hPT;have hll:l.length≤140737488355328:=by omega
 clear hp hrow hI h0 hz hcb hPT
 go_enter Tryz.func39,Tryz.ntmps39
 go_wp2_with (first
  |(go_at_call 30;(with_reducible refine(HN.out _ ((Later.refl w).alloc _) _ (Ze _ _) (Nat.le_refl _)).mono ?_);rintro e w1 ⟨rfl,hpr,hon⟩;have HPR:=Hd hpr;have HON:=Hd (ZB ((Later.refl w).alloc _) hon);clear hpr hon)
  |fail)
 obtain⟨S0,hS0⟩:∃ S0,S++Z7 1 [(l.length:Int)]=S0:=⟨_,rfl⟩
 obtain⟨L0,hL0⟩:∃ L0,(lost || !Zq 1 [(l.length:Int)])=L0:=⟨_,rfl⟩
 rw[hS0]at HPR HE HSZ;rw[hL0]at HPR HE;clear hS0 hL0 HN
 go_loopw [15] (fun vi wr=>∃ j:Nat,j≤l.length∧vi=.int .i64 j∧PrAt wr pb (S0++bytesOf (ZD volP (l.take j))) (L0 || !ZA volP (l.take j))∧Zo pb w wr) (fun vi _=>l.length - (intOf vi).toNat)
 case atStart=>exact⟨0,by omega,by simp,by simpa [ZD,ZA,bytesOf,Js] using HPR.out,HON.out⟩
 case round=>
  obtain⟨j,hj,rfl,hpr,hon⟩:=hrel;by_cases hlt:j<l.length
  ·have hbw:Later w0 wr:=(Below.trans H0.out (Only.below hon H0.out.size (fun k hk=>by rw[show k=pb from hk];exact hpb)))
   obtain⟨b,o,rfl,hb,hc⟩:=ZG (HROW.out.later hbw) hlt;have htk:=List.take_succ_eq_append_getElem hlt;have hI:=HI.out _ (List.getElem_mem hlt);have hsz:=HSZ.out j hj
   obtain⟨x,hx⟩:∃ x,l[j]=x:=⟨_,rfl⟩
   rw[hx]at hc htk hI;have HS:Hid (S0++bytesOf (ZD volP (l.take (j+1)))=(S0++bytesOf (ZD volP (l.take j)))++bytesOf (volP.b x)):=Hd (by rw[htk,X6,ofB,Xj]);have HL:Hid ((L0 || !ZA volP (l.take (j+1)))=((L0 || !ZA volP (l.take j)) || !volP.ok x)):=Hd (by rw[htk,XN,Z9])
   obtain⟨Sj,hSj⟩:∃ Sj,S0++bytesOf (ZD volP (l.take j))=Sj:=⟨_,rfl⟩
   obtain⟨L,hL⟩:∃ L,(L0 || !ZA volP (l.take j))=L:=⟨_,rfl⟩
   rw[hSj]at HS hpr hsz;rw[hL]at HL hpr;have HPRR:=Hd hpr;have HONN:=Hd hon;clear hSj hL hpr hon hx htk hbw;obtain⟨x1,x2,x3,x4⟩:=x;have c0:=hc 0 (by omega);have c1:=hc 1 (by omega);have c2:=hc 2 (by omega);have c3:=hc 3 (by omega);have HCL:=Hd (fun(w1:World) (h1:Zo pb w w1) (h2:PrAt w1 pb Sj L)=>(show Calls Tryz.prog 40 #[.agg #[.int .i64 x1,.int .i64 x2,.int .i64 x3,.int .i64 x4],.pointer (some ⟨cb,0,none⟩)] w1 (Zv pb (Sj++bytesOf (volP.b ⟨x1,x2,x3,x4⟩)) (L || !volP.ok ⟨x1,x2,x3,x4⟩) w1) from ZhS w1 pb cb Sj L h2 ((h1.cell (p:=⟨cb,0,none⟩) HCB.out.1 hcp).trans HCB.out.2) hcp ⟨x1,x2,x3,x4⟩ hI hsz));clear hc hI hsz;simp only[volC,List.getElem?_cons_zero,List.getElem?_cons_succ,Nat.add_zero,Nat.mul_one]at c0 c1 c2 c3
   go_wp2_with (first
    |(go_at_call 40;(with_reducible refine(HCL.out _ (HONN.out.alloc _) (HPRR.out.later ((Later.refl wr).alloc _))).mono ?_);rintro e w2 ⟨rfl,hpr,hon⟩)
    |fail)
   refine⟨⟨j+1,by omega,by simp,?_,?_⟩,by simp only[intOf];omega⟩
   ·rw[HS.out,HL.out];exact hpr
   ·exact HONN.out.thenP (ZB ((Later.refl wr).alloc _) hon)
  ·obtain rfl:j=l.length:=by omega
   rw[List.take_of_length_le (Nat.le_refl _)]at hpr;have HPRR:=Hd hpr;clear hpr
   go_wp2_with fail
   go_end0
   rw[←HPT.out,HE.out];exact⟨rfl,HPRR.out,hon⟩
theorem Zf2(x:Ru):(ruP.b x).length≤2070:=by show(ZZ 1 [x.fr,x.tu,x.act]++(Yb x.pat++Yb x.wth)).length≤2070;have h1:=Eu x.pat;have h2:=Eu x.wth;rw[List.length_append,List.length_append,XU];simp;omega
theorem Ze7(w0 w:World)(h0:Later w0 w)(pb cb:Nat)(S:ByteArray)(lost:Bool)(hp:PrAt w pb S lost)(hpb:w0.heap.size≤pb)(hcb:w.cell? ⟨cb,0,none⟩=some (.pointer (some ⟨pb,0,none⟩)))(hcp:cb≠pb)(v:Value)(l:List Ru)(hrow:RowAt w0 5 v (l.map ruC))(hI:∀ x∈l,ruI x)(hz:S.size≤2305843009213693952) :
 Calls Tryz.prog 41 #[.pointer (some ⟨pb,0,none⟩),v,.func (.func 42) #[] #[.pointer (some ⟨cb,0,none⟩)]] w (Zv pb (S++bytesOf (ZX ruP l)) (lost || !ZM ruP l) w):=by
 obtain⟨a,cap,rfl,hl1,hl2,hl3⟩:=Zm hrow;have HROW:=Hd hrow;have HI:=Hd hI;have H0:=Hd h0;have hpl:=hp.lt;have HN:=Hd (fun(w1:World) (h1:Later w w1) (g:Nat) (hg:w1.heap[g]?=some (.cells #[.int .i64 (l.length:Int)] 3 (0,0))) (hge:w.heap.size≤g)=>Z8 w1 pb S lost (hp.later h1) 1 1 (.inl ⟨rfl,rfl⟩) [(l.length:Int)] g 1 _ _ hg rfl (by omega) (by intro n hn;rw[List.mem_singleton.1 hn];exact⟨by omega,by omega⟩) 1 rfl (by simp;omega));have HCB:=Hd (And.intro (World.block_lt_of_cell? w _ hcb) hcb)
 have HSZ:=Hd (fun(j:Nat) (hj:j≤l.length)=>show(S++Z7 1 [(l.length:Int)]++bytesOf (ZD ruP (l.take j))).size≤4611686018427380000 by
  have e1:=Yg ruP 2070 Zf2 (l.take j);have e2:(l.take j).length≤l.length:=by rw[List.length_take];omega
  have e3:(l.take j).length*2070≤l.length*2070:=Nat.mul_le_mul_right _ e2;rw[ByteArray.size_append,ByteArray.size_append,Xf,show(bytesOf (ZD ruP (l.take j))).size=(ZD ruP (l.take j)).length by show(ZD ruP (l.take j)).toArray.size=_;simp];simp only[List.length_cons,List.length_nil]
  omega)
 have HE:Hid (Zv pb (S++bytesOf (ZX ruP l)) (lost || !ZM ruP l) w=Zv pb (S++Z7 1 [(l.length:Int)]++bytesOf (ZD ruP l)) (lost || !Zq 1 [(l.length:Int)] || !ZA ruP l) w):=Hd (by
  rw[Z9,Xj,ZX,ofB];rfl)
 obtain⟨PT,hPT⟩:∃ PT,Zv pb (S++bytesOf (ZX ruP l)) (lost || !ZM ruP l) w=PT:=⟨_,rfl⟩
 rw[hPT];have HPT:=Hd hPT;have hll:l.length≤140737488355328:=by omega
 clear hp hrow hI h0 hz hcb hPT
 go_enter Tryz.func41,Tryz.ntmps41
 go_wp2_with (first
  |(go_at_call 30;(with_reducible refine(HN.out _ ((Later.refl w).alloc _) _ (Ze _ _) (Nat.le_refl _)).mono ?_);rintro e w1 ⟨rfl,hpr,hon⟩;have HPR:=Hd hpr;have HON:=Hd (ZB ((Later.refl w).alloc _) hon);clear hpr hon)
  |fail)
 obtain⟨S0,hS0⟩:∃ S0,S++Z7 1 [(l.length:Int)]=S0:=⟨_,rfl⟩
 obtain⟨L0,hL0⟩:∃ L0,(lost || !Zq 1 [(l.length:Int)])=L0:=⟨_,rfl⟩
 rw[hS0]at HPR HE HSZ;rw[hL0]at HPR HE;clear hS0 hL0 HN
 go_loopw [15] (fun vi wr=>∃ j:Nat,j≤l.length∧vi=.int .i64 j∧PrAt wr pb (S0++bytesOf (ZD ruP (l.take j))) (L0 || !ZA ruP (l.take j))∧Zo pb w wr) (fun vi _=>l.length - (intOf vi).toNat)
 case atStart=>exact⟨0,by omega,by simp,by simpa [ZD,ZA,bytesOf,Js] using HPR.out,HON.out⟩
 case round=>
  obtain⟨j,hj,rfl,hpr,hon⟩:=hrel;by_cases hlt:j<l.length
  ·have hbw:Later w0 wr:=(Below.trans H0.out (Only.below hon H0.out.size (fun k hk=>by rw[show k=pb from hk];exact hpb)))
   obtain⟨b,o,rfl,hb,hc⟩:=ZG (HROW.out.later hbw) hlt;have htk:=List.take_succ_eq_append_getElem hlt;have hI:=HI.out _ (List.getElem_mem hlt);have hsz:=HSZ.out j hj
   obtain⟨x,hx⟩:∃ x,l[j]=x:=⟨_,rfl⟩
   rw[hx]at hc htk hI;have HS:Hid (S0++bytesOf (ZD ruP (l.take (j+1)))=(S0++bytesOf (ZD ruP (l.take j)))++bytesOf (ruP.b x)):=Hd (by rw[htk,X6,ofB,Xj]);have HL:Hid ((L0 || !ZA ruP (l.take (j+1)))=((L0 || !ZA ruP (l.take j)) || !ruP.ok x)):=Hd (by rw[htk,XN,Z9])
   obtain⟨Sj,hSj⟩:∃ Sj,S0++bytesOf (ZD ruP (l.take j))=Sj:=⟨_,rfl⟩
   obtain⟨L,hL⟩:∃ L,(L0 || !ZA ruP (l.take j))=L:=⟨_,rfl⟩
   rw[hSj]at HS hpr hsz;rw[hL]at HL hpr;have HPRR:=Hd hpr;have HONN:=Hd hon;clear hSj hL hpr hon hx htk hbw;obtain⟨x1,x2,x3,x4,x5⟩:=x;have c0:=hc 0 (by omega);have c1:=hc 1 (by omega);have c2:=hc 2 (by omega);have c3:=hc 3 (by omega);have c4:=hc 4 (by omega);have HCL:=Hd (fun(w1:World) (h1:Zo pb w w1) (h2:PrAt w1 pb Sj L)=>(show Calls Tryz.prog 42 #[.agg #[.int .i64 x1,.int .i64 x2,.int .i64 x3,.string x4,.string x5],.pointer (some ⟨cb,0,none⟩)] w1 (Zv pb (Sj++bytesOf (ruP.b ⟨x1,x2,x3,x4,x5⟩)) (L || !ruP.ok ⟨x1,x2,x3,x4,x5⟩) w1) from pr_ru w1 pb cb Sj L h2 ((h1.cell (p:=⟨cb,0,none⟩) HCB.out.1 hcp).trans HCB.out.2) hcp ⟨x1,x2,x3,x4,x5⟩ hI hsz));clear hc hI hsz;simp only[ruC,List.getElem?_cons_zero,List.getElem?_cons_succ,Nat.add_zero,Nat.mul_one]at c0 c1 c2 c3 c4
   go_wp2_with (first
    |(go_at_call 42;(with_reducible refine(HCL.out _ (HONN.out.alloc _) (HPRR.out.later ((Later.refl wr).alloc _))).mono ?_);rintro e w2 ⟨rfl,hpr,hon⟩)
    |fail)
   refine⟨⟨j+1,by omega,by simp,?_,?_⟩,by simp only[intOf];omega⟩
   ·rw[HS.out,HL.out];exact hpr
   ·exact HONN.out.thenP (ZB ((Later.refl wr).alloc _) hon)
  ·obtain rfl:j=l.length:=by omega
   rw[List.take_of_length_le (Nat.le_refl _)]at hpr;have HPRR:=Hd hpr;clear hpr
   go_wp2_with fail
   go_end0
   rw[←HPT.out,HE.out];exact⟨rfl,HPRR.out,hon⟩
theorem Zdr(x:ByteArray):(keyP.b x).length≤1030:=by have:=Eu x;show(Yb x).length≤1030;omega
theorem Zdg(w0 w:World)(h0:Later w0 w)(pb:Nat)(S:ByteArray)(lost:Bool)(hp:PrAt w pb S lost)(hpb:w0.heap.size≤pb)(v:Value)(l:List ByteArray)(hrow:RowAt w0 1 v (l.map keyC))(hI:∀ x∈l,keyI x)(hz:S.size≤2305843009213693952) :
 Calls Tryz.prog 44 #[.pointer (some ⟨pb,0,none⟩),v,.func (.func 43) #[.pointer (some ⟨pb,0,none⟩)] #[]] w (Zv pb (S++bytesOf (ZX keyP l)) (lost || !ZM keyP l) w):=by
 obtain⟨a,cap,rfl,hl1,hl2,hl3⟩:=Zm hrow;have HROW:=Hd hrow;have HI:=Hd hI;have H0:=Hd h0;have hpl:=hp.lt;have HN:=Hd (fun(w1:World) (h1:Later w w1) (g:Nat) (hg:w1.heap[g]?=some (.cells #[.int .i64 (l.length:Int)] 3 (0,0))) (hge:w.heap.size≤g)=>Z8 w1 pb S lost (hp.later h1) 1 1 (.inl ⟨rfl,rfl⟩) [(l.length:Int)] g 1 _ _ hg rfl (by omega) (by intro n hn;rw[List.mem_singleton.1 hn];exact⟨by omega,by omega⟩) 1 rfl (by simp;omega))
 have HSZ:=Hd (fun(j:Nat) (hj:j≤l.length)=>show(S++Z7 1 [(l.length:Int)]++bytesOf (ZD keyP (l.take j))).size≤4611686018427380000 by
  have e1:=Yg keyP 1030 Zdr (l.take j);have e2:(l.take j).length≤l.length:=by rw[List.length_take];omega
  have e3:(l.take j).length*1030≤l.length*1030:=Nat.mul_le_mul_right _ e2;rw[ByteArray.size_append,ByteArray.size_append,Xf,show(bytesOf (ZD keyP (l.take j))).size=(ZD keyP (l.take j)).length by show(ZD keyP (l.take j)).toArray.size=_;simp];simp only[List.length_cons,List.length_nil]
  omega)
 have HE:Hid (Zv pb (S++bytesOf (ZX keyP l)) (lost || !ZM keyP l) w=Zv pb (S++Z7 1 [(l.length:Int)]++bytesOf (ZD keyP l)) (lost || !Zq 1 [(l.length:Int)] || !ZA keyP l) w):=Hd (by
  rw[Z9,Xj,ZX,ofB];rfl)
 obtain⟨PT,hPT⟩:∃ PT,Zv pb (S++bytesOf (ZX keyP l)) (lost || !ZM keyP l) w=PT:=⟨_,rfl⟩
 rw[hPT];have HPT:=Hd hPT;have hll:l.length≤140737488355328:=by omega
 clear hp hrow hI h0 hz hPT
 go_enter Tryz.func44,Tryz.ntmps44
 go_wp2_with (first
  |(go_at_call 30;(with_reducible refine(HN.out _ ((Later.refl w).alloc _) _ (Ze _ _) (Nat.le_refl _)).mono ?_);rintro e w1 ⟨rfl,hpr,hon⟩;have HPR:=Hd hpr;have HON:=Hd (ZB ((Later.refl w).alloc _) hon);clear hpr hon)
  |fail)
 obtain⟨S0,hS0⟩:∃ S0,S++Z7 1 [(l.length:Int)]=S0:=⟨_,rfl⟩
 obtain⟨L0,hL0⟩:∃ L0,(lost || !Zq 1 [(l.length:Int)])=L0:=⟨_,rfl⟩
 rw[hS0]at HPR HE HSZ;rw[hL0]at HPR HE;clear hS0 hL0 HN
 go_loopw [15] (fun vi wr=>∃ j:Nat,j≤l.length∧vi=.int .i64 j∧PrAt wr pb (S0++bytesOf (ZD keyP (l.take j))) (L0 || !ZA keyP (l.take j))∧Zo pb w wr) (fun vi _=>l.length - (intOf vi).toNat)
 case atStart=>exact⟨0,by omega,by simp,by simpa [ZD,ZA,bytesOf,Js] using HPR.out,HON.out⟩
 case round=>
  obtain⟨j,hj,rfl,hpr,hon⟩:=hrel;by_cases hlt:j<l.length
  ·have hbw:Later w0 wr:=(Below.trans H0.out (Only.below hon H0.out.size (fun k hk=>by rw[show k=pb from hk];exact hpb)))
   obtain⟨b,o,rfl,hb,hc⟩:=ZG (HROW.out.later hbw) hlt;have htk:=List.take_succ_eq_append_getElem hlt;have hI:=HI.out _ (List.getElem_mem hlt);have hsz:=HSZ.out j hj
   obtain⟨x,hx⟩:∃ x,l[j]=x:=⟨_,rfl⟩
   rw[hx]at hc htk hI;have HS:Hid (S0++bytesOf (ZD keyP (l.take (j+1)))=(S0++bytesOf (ZD keyP (l.take j)))++bytesOf (keyP.b x)):=Hd (by rw[htk,X6,ofB,Xj]);have HL:Hid ((L0 || !ZA keyP (l.take (j+1)))=((L0 || !ZA keyP (l.take j)) || !keyP.ok x)):=Hd (by rw[htk,XN,Z9])
   obtain⟨Sj,hSj⟩:∃ Sj,S0++bytesOf (ZD keyP (l.take j))=Sj:=⟨_,rfl⟩
   obtain⟨L,hL⟩:∃ L,(L0 || !ZA keyP (l.take j))=L:=⟨_,rfl⟩
   rw[hSj]at HS hpr hsz;rw[hL]at HL hpr;have HPRR:=Hd hpr;have HONN:=Hd hon;clear hSj hL hpr hon hx htk hbw;have c0:=hc 0 (by omega);have HCL:=Hd (fun(w1:World) (h1:Zo pb w w1) (h2:PrAt w1 pb Sj L)=>(show Calls Tryz.prog 43 #[.pointer (some ⟨pb,0,none⟩),.string x] w1 (Zv pb (Sj++bytesOf (keyP.b x)) (L || !keyP.ok x) w1) from Ul w1 pb Sj L h2 x hI (by omega)));clear hc hI hsz;simp only[keyC,List.getElem?_cons_zero,List.getElem?_cons_succ,Nat.add_zero,Nat.mul_one]at c0
   go_wp2_with (first
    |(go_at_call 43;(with_reducible refine(HCL.out _ HONN.out HPRR.out).mono ?_);rintro e w2 ⟨rfl,hpr,hon⟩)
    |fail)
   refine⟨⟨j+1,by omega,by simp,?_,?_⟩,by simp only[intOf];omega⟩
   ·rw[HS.out,HL.out];exact hpr
   ·exact HONN.out.thenP hon
  ·obtain rfl:j=l.length:=by omega
   rw[List.take_of_length_le (Nat.le_refl _)]at hpr;have HPRR:=Hd hpr;clear hpr
   go_wp2_with fail
   go_end0
   rw[←HPT.out,HE.out];exact⟨rfl,HPRR.out,hon⟩
end Go.Proofs.YtbchkjfnakabkaaGreatDoor
namespace Go.Proofs.YtbchkjfnakabkaaGreatDoor
open Go.RowKit PX PC
structure CfgI (c:Cfg):Prop where
 levels:I64 c.levels
 flows:∀ x∈c.flows,DV x
 parts:∀ x∈c.parts,ZaZ x
 windows:∀ x∈c.windows,winI x
 ports:∀ x∈c.ports,porI x
 volumes:∀ x∈c.volumes,volI x
 audit:volI c.audit
 boot:I64 c.boot
 sectors:I64 c.sectors
 rules:∀ x∈c.rules,ruI x
 keys:∀ x∈c.keys,keyI x
 login:c.login.size≤9223372036854775807
 recovery:I64 c.recovery
 bound:I64 c.bound
def BO:ByteArray:=⟨#[67,83,84,49]⟩
def Jv(c:Cfg):ByteArray:=if c.laid then bytesOf c.bytes else⟨#[]⟩
def JI(c:Cfg):Int:=if c.laid then 0 else 111
theorem VI{α:Type}(p:Lays α)(m k:Nat)(hm:∀ x,(p.b x).length≤m)(l:List α)(hl:l.length*k≤140737488355328)(hk:1≤k)(S:ByteArray)(B:Nat)(hS:S.size≤B):(S++bytesOf (ZX p l)).size≤B+(1+140737488355328*m):=by
 have h1:=Zdi p m hm l;have h2:l.length≤l.length*k:=Nat.le_mul_of_pos_right _ hk;have h3:l.length*m≤140737488355328*m:=Nat.mul_le_mul_right _ (by omega);rw[ByteArray.size_append,show(bytesOf (ZX p l)).size=(ZX p l).length by show(ZX p l).toArray.size=_;simp];omega
def S0(c:Cfg):ByteArray:=BO
def L0(c:Cfg):Bool:=false
def S1(c:Cfg):ByteArray:=S0 c++Z7 1 [c.levels]
def L1(c:Cfg):Bool:=L0 c || !Zq 1 [c.levels]
def S2(c:Cfg):ByteArray:=S1 c++bytesOf (ZX XF c.flows)
def L2(c:Cfg):Bool:=L1 c || !ZM XF c.flows
def S3(c:Cfg):ByteArray:=S2 c++bytesOf (ZX XD c.parts)
def L3(c:Cfg):Bool:=L2 c || !ZM XD c.parts
def S4(c:Cfg):ByteArray:=S3 c++bytesOf (ZX winP c.windows)
def L4(c:Cfg):Bool:=L3 c || !ZM winP c.windows
def S5(c:Cfg):ByteArray:=S4 c++bytesOf (ZX porP c.ports)
def L5(c:Cfg):Bool:=L4 c || !ZM porP c.ports
def S6(c:Cfg):ByteArray:=S5 c++bytesOf (ZX volP c.volumes)
def L6(c:Cfg):Bool:=L5 c || !ZM volP c.volumes
def S7(c:Cfg):ByteArray:=S6 c++Z7 2 [c.audit.first,c.audit.count,c.audit.journal,c.boot,c.sectors]
def L7(c:Cfg):Bool:=L6 c || !Zq 2 [c.audit.first,c.audit.count,c.audit.journal,c.boot,c.sectors]
def S8(c:Cfg):ByteArray:=S7 c++bytesOf (ZX ruP c.rules)
def L8(c:Cfg):Bool:=L7 c || !ZM ruP c.rules
def S9(c:Cfg):ByteArray:=S8 c++bytesOf (ZX keyP c.keys)
def L9(c:Cfg):Bool:=L8 c || !ZM keyP c.keys
def S10(c:Cfg):ByteArray:=S9 c++Vk c.login
def L10(c:Cfg):Bool:=L9 c || !Xy c.login
def S11(c:Cfg):ByteArray:=S10 c++Z7 2 [c.recovery,c.bound]
def L11(c:Cfg):Bool:=L10 c || !Zq 2 [c.recovery,c.bound]
theorem S_all(c:Cfg):S11 c=bytesOf c.bytes:=by
 refine QA ?_;simp only[S11,S10,S9,S8,S7,S6,S5,S4,S3,S2,S1,S0,W8,List.append_assoc];rfl
theorem L_all(c:Cfg):(L11 c || decide (c.audit.level≠0))=!c.laid:=by
 simp only[L11,L10,L9,L8,L7,L6,L5,L4,L3,L2,L1,L0,Cfg.laid,Bool.not_and,Bool.or_assoc,Bool.false_or,decide_not]
structure FewC (c:Cfg):Prop where
 flows:c.flows.length*2≤140737488355328
 parts:c.parts.length*2≤140737488355328
 windows:c.windows.length*3≤140737488355328
 ports:c.ports.length*5≤140737488355328
 volumes:c.volumes.length*4≤140737488355328
 rules:c.rules.length*5≤140737488355328
 keys:c.keys.length*1≤140737488355328
theorem CfgIn.few{w:World}{cs:List Value}{c:Cfg}(h:CfgIn w cs c):FewC c:=by
 obtain⟨vF,vP,vW,vO,vV,vR,vK,h0,h1,h2,h3,h4,h5,h6,h7⟩:=h.rows;obtain⟨_,_,_,_,_,g1⟩:=Zm h1;obtain⟨_,_,_,_,_,g2⟩:=Zm h2;obtain⟨_,_,_,_,_,g3⟩:=Zm h3;obtain⟨_,_,_,_,_,g4⟩:=Zm h4;obtain⟨_,_,_,_,_,g5⟩:=Zm h5;obtain⟨_,_,_,_,_,g6⟩:=Zm h6;obtain⟨_,_,_,_,_,g7⟩:=Zm h7;exact⟨g1,g2,g3,g4,g5,g6,g7⟩
theorem s0(c:Cfg):(S0 c).size≤4:=Nat.le_refl 4
theorem s1(c:Cfg)(h:FewC c):(S1 c).size≤6:=by
 have:=s0 c;unfold S1;rw[ByteArray.size_append,Xf];simp only[List.length_cons,List.length_nil];omega
theorem s2(c:Cfg)(h:FewC c):(S2 c).size≤562949953421319:=VI XF 4 2 BY c.flows h.flows (by omega) _ _ (s1 c h)
theorem s3(c:Cfg)(h:FewC c):(S3 c).size≤1125899906842632:=VI XD 4 2 BE c.parts h.parts (by omega) _ _ (s2 c h)
theorem s4(c:Cfg)(h:FewC c):(S4 c).size≤1970324836974601:=VI winP 6 3 ZbV c.windows h.windows (by omega) _ _ (s3 c h)
theorem s5(c:Cfg)(h:FewC c):(S5 c).size≤3377699720527882:=VI porP 10 5 ZcF c.ports h.ports (by omega) _ _ (s4 c h)
theorem s6(c:Cfg)(h:FewC c):(S6 c).size≤4785074604081163:=VI volP 10 4 ZbX c.volumes h.volumes (by omega) _ _ (s5 c h)
theorem s7(c:Cfg)(h:FewC c):(S7 c).size≤4785074604081173:=by
 have:=s6 c h;unfold S7;rw[ByteArray.size_append,Xf];simp only[List.length_cons,List.length_nil];omega
theorem s8(c:Cfg)(h:FewC c):(S8 c).size≤296111675499610134:=VI ruP 2070 5 Zf2 c.rules h.rules (by omega) _ _ (s7 c h)
theorem s9(c:Cfg)(h:FewC c):(S9 c).size≤441071288505597975:=VI keyP 1030 1 Zdr c.keys h.keys (by omega) _ _ (s8 c h)
theorem s10(c:Cfg)(h:FewC c):(S10 c).size≤441071288505599001:=by
 have:=s9 c h;have:=JT c.login;unfold S10;rw[ByteArray.size_append];omega
structure BoxC (w1:World) (p cb pb:Nat) (c:Cfg) (vF vP vW vO vV vR vK:Value):Prop where
 box:w1.cell? ⟨p,0,none⟩=some (.int .i64 c.levels)∧w1.cell? ⟨p,1,none⟩=some (vF)∧w1.cell? ⟨p,2,none⟩=some (vP)∧w1.cell? ⟨p,3,none⟩=some (vW)∧w1.cell? ⟨p,4,none⟩=some (vO)∧w1.cell? ⟨p,5,none⟩=some (vV)∧w1.cell? ⟨p,6,none⟩=some (.int .i64 c.audit.level)∧w1.cell? ⟨p,7,none⟩=some (.int .i64 c.audit.first)∧w1.cell? ⟨p,8,none⟩=some (.int .i64 c.audit.count)∧w1.cell? ⟨p,9,none⟩=some (.int .i64 c.audit.journal)∧w1.cell? ⟨p,10,none⟩=some (.int .i64 c.boot)∧w1.cell? ⟨p,11,none⟩=some (.int .i64 c.sectors)∧w1.cell? ⟨p,12,none⟩=some (vR)∧w1.cell? ⟨p,13,none⟩=some (vK)∧w1.cell? ⟨p,14,none⟩=some (.string c.login)∧w1.cell? ⟨p,15,none⟩=some (.int .i64 c.recovery)∧w1.cell? ⟨p,16,none⟩=some (.int .i64 c.bound)
 cbx:w1.cell? ⟨cb,0,none⟩=some (.pointer (some ⟨pb,0,none⟩))
theorem ZaP(w:World)(C:Array Value)(c:Cfg)(vF vP vW vO vV vR vK:Value)(hC:C=#[.int .i64 c.levels,vF,vP,vW,vO,vV,.int .i64 c.audit.level,.int .i64 c.audit.first,.int .i64 c.audit.count,.int .i64 c.audit.journal,.int .i64 c.boot,.int .i64 c.sectors,vR,vK,.string c.login,.int .i64 c.recovery,.int .i64 c.bound])(hr1:RowAt w 2 vF (c.flows.map Yl))(hr2:RowAt w 2 vP (c.parts.map X9))(hr3:RowAt w 3 vW (c.windows.map winC))(hr4:RowAt w 5 vO (c.ports.map porC))(hr5:RowAt w 4 vV (c.volumes.map volC))(hr6:RowAt w 5 vR (c.rules.map ruC))(hr7:RowAt w 1 vK (c.keys.map keyC))(hI:CfgI c)(hF:FewC c) :
 Calls Tryz.prog 15 #[.agg C] w fun e w'=>e=.returned (.tuple #[.string (Jv c),.int .i64 (JI c)])∧Later w w':=by
 obtain⟨w3,hw3⟩:∃ w3,((w.alloc (.cells C 32)).alloc (.cells #[.string BO,.bool false] 69)).alloc (.cells #[.pointer (some ⟨w.heap.size+1,0,none⟩)] 67)=w3:=⟨_,rfl⟩
 obtain⟨p,hp⟩:∃ p,w.heap.size=p:=⟨_,rfl⟩
 have hl3:Later w w3:=by rw[←hw3];exact(((Later.refl w).alloc _).alloc _).alloc _
 have hbp:w3.heap[p]?=some (.cells C 32 (0,0)):=by rw[←hw3,←hp];exact Zd (Zd (Ze w _) _) _
 have hbb:PrAt w3 (p+1) BO false:=by unfold PrAt;rw[←hw3,←hp];exact Zd (Zt (by simp)) _
 have hbc:w3.heap[p+2]?=some (.cells #[.pointer (some ⟨p+1,0,none⟩)] 67 (0,0)):=by rw[←hw3,←hp];exact Zt (by simp)
 rw[hp]at hw3
 have HBOX:=Hd (fun(w1:World) (h1:Zo (p+1) w3 w1)=>show BoxC w1 p (p+2) (p+1) c vF vP vW vO vV vR vK from by
  have hb1:=(h1.block p (Za hbp) (by show ¬p=p+1;omega)).trans hbp;have hb2:=(h1.block (p+2) (Za hbc) (by show ¬p+2=p+1;omega)).trans hbc;subst hC
  exact⟨⟨Zb hb1 0,Zb hb1 1,Zb hb1 2,Zb hb1 3,Zb hb1 4,Zb hb1 5,Zb hb1 6,Zb hb1 7,Zb hb1 8,Zb hb1 9,Zb hb1 10,Zb hb1 11,Zb hb1 12,Zb hb1 13,Zb hb1 14,Zb hb1 15,Zb hb1 16⟩,Zb hb2 0⟩)
 have HCB:=Hd (fun(w1:World) (h1:Zo (p+1) w3 w1)=>(HBOX.out w1 h1).cbx);have HLT:=Hd (fun(w1:World) (h1:Zo (p+1) w3 w1)=>show Later w w1 from Below.trans hl3 (Only.below h1 hl3.size (fun k hk=>by rw[show k=p+1 from hk];omega)));have HW3:=Hd hw3;have HP:=Hd hp;have H0:=Hd (fun(w1:World) (h2:PrAt w1 (p+1) (S0 c) (L0 c)) (g:Nat) (hg:w1.heap[g]?=some (.cells #[.int .i64 c.levels] 3 (0,0))) (hge:p+2≤g)=>(show Calls Tryz.prog 30 #[.pointer (some ⟨p+1,0,none⟩),.int .i64 1,.slice (some ⟨g,0,none⟩) 1 1] w1 (Zv (p+1) (S1 c) (L1 c) w1) from Z8 w1 (p+1) (S0 c) (L0 c) h2 1 1 (.inl ⟨rfl,rfl⟩) [c.levels] g 1 _ _ hg rfl (by omega) (by intro n hn;rw[List.mem_singleton.1 hn];exact hI.levels) 1 rfl (by have:=s0 c;simp only[List.length_cons,List.length_nil];omega)));have H1:=Hd (fun(w1:World) (h1:Zo (p+1) w3 w1) (h2:PrAt w1 (p+1) (S1 c) (L1 c))=>(show Calls Tryz.prog 31 #[.pointer (some ⟨p+1,0,none⟩),vF,.func (.func 32) #[] #[.pointer (some ⟨p+2,0,none⟩)]] w1 (Zv (p+1) (S2 c) (L2 c) w1) from Zbe w w1 (HLT.out w1 h1) (p+1) (p+2) (S1 c) (L1 c) h2 (by omega) (HCB.out w1 h1) (by omega) vF c.flows hr1 hI.flows (by have:=s1 c hF;omega)));have H2:=Hd (fun(w1:World) (h1:Zo (p+1) w3 w1) (h2:PrAt w1 (p+1) (S2 c) (L2 c))=>(show Calls Tryz.prog 33 #[.pointer (some ⟨p+1,0,none⟩),vP,.func (.func 34) #[] #[.pointer (some ⟨p+2,0,none⟩)]] w1 (Zv (p+1) (S3 c) (L3 c) w1) from Zbd w w1 (HLT.out w1 h1) (p+1) (p+2) (S2 c) (L2 c) h2 (by omega) (HCB.out w1 h1) (by omega) vP c.parts hr2 hI.parts (by have:=s2 c hF;omega)));have H3:=Hd (fun(w1:World) (h1:Zo (p+1) w3 w1) (h2:PrAt w1 (p+1) (S3 c) (L3 c))=>(show Calls Tryz.prog 35 #[.pointer (some ⟨p+1,0,none⟩),vW,.func (.func 36) #[] #[.pointer (some ⟨p+2,0,none⟩)]] w1 (Zv (p+1) (S4 c) (L4 c) w1) from Zdd w w1 (HLT.out w1 h1) (p+1) (p+2) (S3 c) (L3 c) h2 (by omega) (HCB.out w1 h1) (by omega) vW c.windows hr3 hI.windows (by have:=s3 c hF;omega)));have H4:=Hd (fun(w1:World) (h1:Zo (p+1) w3 w1) (h2:PrAt w1 (p+1) (S4 c) (L4 c))=>(show Calls Tryz.prog 37 #[.pointer (some ⟨p+1,0,none⟩),vO,.func (.func 38) #[] #[.pointer (some ⟨p+2,0,none⟩)]] w1 (Zv (p+1) (S5 c) (L5 c) w1) from Zdf w w1 (HLT.out w1 h1) (p+1) (p+2) (S4 c) (L4 c) h2 (by omega) (HCB.out w1 h1) (by omega) vO c.ports hr4 hI.ports (by have:=s4 c hF;omega)));have H5:=Hd (fun(w1:World) (h1:Zo (p+1) w3 w1) (h2:PrAt w1 (p+1) (S5 c) (L5 c))=>(show Calls Tryz.prog 39 #[.pointer (some ⟨p+1,0,none⟩),vV,.func (.func 40) #[] #[.pointer (some ⟨p+2,0,none⟩)]] w1 (Zv (p+1) (S6 c) (L6 c) w1) from Zde w w1 (HLT.out w1 h1) (p+1) (p+2) (S5 c) (L5 c) h2 (by omega) (HCB.out w1 h1) (by omega) vV c.volumes hr5 hI.volumes (by have:=s5 c hF;omega)));have H6:=Hd (fun(w1:World) (h2:PrAt w1 (p+1) (S6 c) (L6 c)) (g:Nat) (hg:w1.heap[g]?=some (.cells #[.int .i64 c.audit.first,.int .i64 c.audit.count,.int .i64 c.audit.journal,.int .i64 c.boot,.int .i64 c.sectors] 3 (0,0))) (hge:p+2≤g)=>(show Calls Tryz.prog 30 #[.pointer (some ⟨p+1,0,none⟩),.int .i64 2,.slice (some ⟨g,0,none⟩) 5 5] w1 (Zv (p+1) (S7 c) (L7 c) w1) from Z8 w1 (p+1) (S6 c) (L6 c) h2 2 2 (.inr ⟨rfl,rfl⟩) [c.audit.first,c.audit.count,c.audit.journal,c.boot,c.sectors] g 5 _ _ hg rfl (by omega) (by intro n hn;have h3:=hI.audit.2;simp only[List.mem_cons,List.not_mem_nil,or_false]at hn h3;rcases hn with rfl|rfl|rfl|rfl|rfl;exact h3 _ (.inl rfl);exact h3 _ (.inr (.inl rfl));exact h3 _ (.inr (.inr rfl));exact hI.boot;exact hI.sectors) 5 rfl (by have:=s6 c hF;simp only[List.length_cons,List.length_nil];omega)));have H7:=Hd (fun(w1:World) (h1:Zo (p+1) w3 w1) (h2:PrAt w1 (p+1) (S7 c) (L7 c))=>(show Calls Tryz.prog 41 #[.pointer (some ⟨p+1,0,none⟩),vR,.func (.func 42) #[] #[.pointer (some ⟨p+2,0,none⟩)]] w1 (Zv (p+1) (S8 c) (L8 c) w1) from Ze7 w w1 (HLT.out w1 h1) (p+1) (p+2) (S7 c) (L7 c) h2 (by omega) (HCB.out w1 h1) (by omega) vR c.rules hr6 hI.rules (by have:=s7 c hF;omega)));have H8:=Hd (fun(w1:World) (h1:Zo (p+1) w3 w1) (h2:PrAt w1 (p+1) (S8 c) (L8 c))=>(show Calls Tryz.prog 44 #[.pointer (some ⟨p+1,0,none⟩),vK,.func (.func 43) #[.pointer (some ⟨p+1,0,none⟩)] #[]] w1 (Zv (p+1) (S9 c) (L9 c) w1) from Zdg w w1 (HLT.out w1 h1) (p+1) (S8 c) (L8 c) h2 (by omega) vK c.keys hr7 hI.keys (by have:=s8 c hF;omega)));have H9:=Hd (fun(w1:World) (h2:PrAt w1 (p+1) (S9 c) (L9 c))=>(show Calls Tryz.prog 43 #[.pointer (some ⟨p+1,0,none⟩),.string c.login] w1 (Zv (p+1) (S10 c) (L10 c) w1) from Ul w1 (p+1) (S9 c) (L9 c) h2 c.login hI.login (by have:=s9 c hF;omega)));have H10:=Hd (fun(w1:World) (h2:PrAt w1 (p+1) (S10 c) (L10 c)) (g:Nat) (hg:w1.heap[g]?=some (.cells #[.int .i64 c.recovery,.int .i64 c.bound] 3 (0,0))) (hge:p+2≤g)=>(show Calls Tryz.prog 30 #[.pointer (some ⟨p+1,0,none⟩),.int .i64 2,.slice (some ⟨g,0,none⟩) 2 2] w1 (Zv (p+1) (S11 c) (L11 c) w1) from Z8 w1 (p+1) (S10 c) (L10 c) h2 2 2 (.inr ⟨rfl,rfl⟩) [c.recovery,c.bound] g 2 _ _ hg rfl (by omega) (by intro n hn;simp only[List.mem_cons,List.not_mem_nil,or_false]at hn;rcases hn with rfl|rfl;exact hI.recovery;exact hI.bound) 2 rfl (by have:=s10 c hF;simp only[List.length_cons,List.length_nil];omega)));have HE0:=Hd (show PrAt w3 (p+1) (S0 c) (L0 c) from hbb);have HO0:=Hd (Only.refl (IsPb (p+1)) w3);have HSA:=Hd (S_all c);have HLA:=Hd (L_all c);have hgp:p+2<w3.heap.size:=Za hbc;clear hr1 hr2 hr3 hr4 hr5 hr6 hr7 hI hF hbb hbc hbp hl3 hC hw3 hp
 go_enter Tryz.func15,Tryz.ntmps15
 go_upto_region 2 with fail
 rw[HP.out]
 first|rw[show(⟨#[67,83,84,49]⟩:ByteArray)=BO from rfl]|skip
 rw[HW3.out];obtain⟨⟨k0,k1,k2,k3,k4,k5,k6,k7,k8,k9,k10,k11,k12,k13,k14,k15,k16⟩,kc⟩:=HBOX.out w3 HO0.out;have hgs0:p+2≤w3.heap.size:=Nat.le_trans (Nat.le_of_lt hgp) HO0.out.size
 go_upto_region 3 with(first
  |(go_at_call 30;(with_reducible refine(H0.out _ (HE0.out.later ((Later.refl w3).alloc _)) _ (Ze _ _) hgs0).mono ?_);rintro e w4 ⟨rfl,hpr,hon⟩;have HE1:=Hd hpr;have HO1:=Hd (HO0.out.thenP (ZB ((Later.refl w3).alloc _) hon));clear hpr hon)
  |fail)
 clear k0 k1 k2 k3 k4 k5 k6 k7 k8 k9 k10 k11 k12 k13 k14 k15 k16 kc;obtain⟨⟨k0,k1,k2,k3,k4,k5,k6,k7,k8,k9,k10,k11,k12,k13,k14,k15,k16⟩,kc⟩:=HBOX.out w4 HO1.out
 go_upto_region 4 with(first
  |(go_at_call 31;(with_reducible refine(H1.out _ HO1.out HE1.out).mono ?_);rintro e w5 ⟨rfl,hpr,hon⟩;have HE2:=Hd hpr;have HO2:=Hd (HO1.out.thenP hon);clear hpr hon)
  |fail)
 clear k0 k1 k2 k3 k4 k5 k6 k7 k8 k9 k10 k11 k12 k13 k14 k15 k16 kc;obtain⟨⟨k0,k1,k2,k3,k4,k5,k6,k7,k8,k9,k10,k11,k12,k13,k14,k15,k16⟩,kc⟩:=HBOX.out w5 HO2.out
 go_upto_region 5 with(first
  |(go_at_call 33;(with_reducible refine(H2.out _ HO2.out HE2.out).mono ?_);rintro e w6 ⟨rfl,hpr,hon⟩;have HE3:=Hd hpr;have HO3:=Hd (HO2.out.thenP hon);clear hpr hon)
  |fail)
 clear k0 k1 k2 k3 k4 k5 k6 k7 k8 k9 k10 k11 k12 k13 k14 k15 k16 kc;obtain⟨⟨k0,k1,k2,k3,k4,k5,k6,k7,k8,k9,k10,k11,k12,k13,k14,k15,k16⟩,kc⟩:=HBOX.out w6 HO3.out
 go_upto_region 6 with(first
  |(go_at_call 35;(with_reducible refine(H3.out _ HO3.out HE3.out).mono ?_);rintro e w7 ⟨rfl,hpr,hon⟩;have HE4:=Hd hpr;have HO4:=Hd (HO3.out.thenP hon);clear hpr hon)
  |fail)
 clear k0 k1 k2 k3 k4 k5 k6 k7 k8 k9 k10 k11 k12 k13 k14 k15 k16 kc;obtain⟨⟨k0,k1,k2,k3,k4,k5,k6,k7,k8,k9,k10,k11,k12,k13,k14,k15,k16⟩,kc⟩:=HBOX.out w7 HO4.out
 go_upto_region 7 with(first
  |(go_at_call 37;(with_reducible refine(H4.out _ HO4.out HE4.out).mono ?_);rintro e w8 ⟨rfl,hpr,hon⟩;have HE5:=Hd hpr;have HO5:=Hd (HO4.out.thenP hon);clear hpr hon)
  |fail)
 clear k0 k1 k2 k3 k4 k5 k6 k7 k8 k9 k10 k11 k12 k13 k14 k15 k16 kc;obtain⟨⟨k0,k1,k2,k3,k4,k5,k6,k7,k8,k9,k10,k11,k12,k13,k14,k15,k16⟩,kc⟩:=HBOX.out w8 HO5.out
 go_upto_region 8 with(first
  |(go_at_call 39;(with_reducible refine(H5.out _ HO5.out HE5.out).mono ?_);rintro e w9 ⟨rfl,hpr,hon⟩;have HE6:=Hd hpr;have HO6:=Hd (HO5.out.thenP hon);clear hpr hon)
  |fail)
 clear k0 k1 k2 k3 k4 k5 k6 k7 k8 k9 k10 k11 k12 k13 k14 k15 k16 kc;obtain⟨⟨k0,k1,k2,k3,k4,k5,k6,k7,k8,k9,k10,k11,k12,k13,k14,k15,k16⟩,kc⟩:=HBOX.out w9 HO6.out;have hgs6:p+2≤w9.heap.size:=Nat.le_trans (Nat.le_of_lt hgp) HO6.out.size
 go_upto_region 9 with(first
  |(go_at_call 30;(with_reducible refine(H6.out _ (HE6.out.later ((Later.refl w9).alloc _)) _ (Ze _ _) hgs6).mono ?_);rintro e w10 ⟨rfl,hpr,hon⟩;have HE7:=Hd hpr;have HO7:=Hd (HO6.out.thenP (ZB ((Later.refl w9).alloc _) hon));clear hpr hon)
  |fail)
 clear k0 k1 k2 k3 k4 k5 k6 k7 k8 k9 k10 k11 k12 k13 k14 k15 k16 kc;obtain⟨⟨k0,k1,k2,k3,k4,k5,k6,k7,k8,k9,k10,k11,k12,k13,k14,k15,k16⟩,kc⟩:=HBOX.out w10 HO7.out
 go_upto_region 10 with(first
  |(go_at_call 41;(with_reducible refine(H7.out _ HO7.out HE7.out).mono ?_);rintro e w11 ⟨rfl,hpr,hon⟩;have HE8:=Hd hpr;have HO8:=Hd (HO7.out.thenP hon);clear hpr hon)
  |fail)
 clear k0 k1 k2 k3 k4 k5 k6 k7 k8 k9 k10 k11 k12 k13 k14 k15 k16 kc;obtain⟨⟨k0,k1,k2,k3,k4,k5,k6,k7,k8,k9,k10,k11,k12,k13,k14,k15,k16⟩,kc⟩:=HBOX.out w11 HO8.out
 go_upto_region 11 with(first
  |(go_at_call 44;(with_reducible refine(H8.out _ HO8.out HE8.out).mono ?_);rintro e w12 ⟨rfl,hpr,hon⟩;have HE9:=Hd hpr;have HO9:=Hd (HO8.out.thenP hon);clear hpr hon)
  |fail)
 clear k0 k1 k2 k3 k4 k5 k6 k7 k8 k9 k10 k11 k12 k13 k14 k15 k16 kc;obtain⟨⟨k0,k1,k2,k3,k4,k5,k6,k7,k8,k9,k10,k11,k12,k13,k14,k15,k16⟩,kc⟩:=HBOX.out w12 HO9.out
 go_upto_region 12 with(first
  |(go_at_call 43;(with_reducible refine(H9.out _ HE9.out).mono ?_);rintro e w13 ⟨rfl,hpr,hon⟩;have HE10:=Hd hpr;have HO10:=Hd (HO9.out.thenP hon);clear hpr hon)
  |fail)
 clear k0 k1 k2 k3 k4 k5 k6 k7 k8 k9 k10 k11 k12 k13 k14 k15 k16 kc;obtain⟨⟨k0,k1,k2,k3,k4,k5,k6,k7,k8,k9,k10,k11,k12,k13,k14,k15,k16⟩,kc⟩:=HBOX.out w13 HO10.out;have hgs10:p+2≤w13.heap.size:=Nat.le_trans (Nat.le_of_lt hgp) HO10.out.size
 go_upto_region 13 with(first
  |(go_at_call 30;(with_reducible refine(H10.out _ (HE10.out.later ((Later.refl w13).alloc _)) _ (Ze _ _) hgs10).mono ?_);rintro e w14 ⟨rfl,hpr,hon⟩;have HE11:=Hd hpr;have HO11:=Hd (HO10.out.thenP (ZB ((Later.refl w13).alloc _) hon));clear hpr hon)
  |fail)
 clear k0 k1 k2 k3 k4 k5 k6 k7 k8 k9 k10 k11 k12 k13 k14 k15 k16 kc;obtain⟨⟨k0,k1,k2,k3,k4,k5,k6,k7,k8,k9,k10,k11,k12,k13,k14,k15,k16⟩,kc⟩:=HBOX.out w14 HO11.out;have HL:=Hd (HLT.out w14 HO11.out);have hcs:=WN (L11 c) (decide (c.audit.level=0));have hla:=HLA.out;have hsa:=HSA.out;have hpr:=HE11.out;rw[hsa]at hpr;rw[decide_not]at hla;rw[hla]at hcs
 obtain⟨LL,hLL⟩:∃ LL,L11 c=LL:=⟨_,rfl⟩
 rw[hLL]at hcs hpr;obtain⟨q0,q1,-, -⟩:=hpr.cells;clear hla hsa hpr hLL;rcases hcs with⟨rfl,hB⟩|⟨rfl,hA,hB⟩|⟨rfl,hA,hB⟩
 ·have hlaid:c.laid=false:=by simpa using hB
  have HX:Hid (Jv c=⟨#[]⟩∧JI c=111):=Hd (by unfold Jv JI;rw[hlaid];exact⟨rfl,rfl⟩);clear hB hlaid
  go_wp2_with fail
  go_ret2
  rw[HX.out.1,HX.out.2];exact⟨rfl,HL.out⟩
 ·have hlaid:c.laid=true:=by simpa using hB
  have HX:Hid (Jv c=bytesOf c.bytes∧JI c=0):=Hd (by unfold Jv JI;rw[hlaid];exact⟨rfl,rfl⟩);have hA2:(c.audit.level != 0)=false:=by simpa using hA
  clear hB hlaid hA
  go_wp2_with fail
  go_ret2
  rw[HX.out.1,HX.out.2];exact⟨rfl,HL.out⟩
 ·have hlaid:c.laid=false:=by simpa using hB
  have HX:Hid (Jv c=⟨#[]⟩∧JI c=111):=Hd (by unfold Jv JI;rw[hlaid];exact⟨rfl,rfl⟩);have hA2:(c.audit.level != 0)=true:=by simpa using hA
  clear hB hlaid hA
  go_wp2_with fail
  go_ret2
  rw[HX.out.1,HX.out.2];exact⟨rfl,HL.out⟩
theorem ZcE(w:World)(cs:List Value)(c:Cfg)(h:CfgIn w cs c)(hI:CfgI c) :
 Calls Tryz.prog 15 #[.agg cs.toArray] w fun e w'=>e=.returned (.tuple #[.string (Jv c),.int .i64 (JI c)])∧Later w w':=by
 have hF:=h.few;obtain⟨vF,vP,vW,vO,vV,vR,vK,h0,h1,h2,h3,h4,h5,h6,h7⟩:=h.rows;subst h0;exact ZaP w _ c vF vP vW vO vV vR vK rfl h1 h2 h3 h4 h5 h6 h7 hI hF
end Go.Proofs.YtbchkjfnakabkaaGreatDoor
