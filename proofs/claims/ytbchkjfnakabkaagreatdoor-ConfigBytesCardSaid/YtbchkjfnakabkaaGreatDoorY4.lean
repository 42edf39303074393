/- The walks of the printer's num and text. -/
import Derived.Test.YtbchkjfnakabkaaGreatDoorY23
import Derived.Deep.RegionWith
import Derived.Deep.CutRange
import Derived.Test.YtbchkjfnakabkaaGreatDoorR1b
set_option linter.unusedSimpArgs false
set_option linter.unusedVariables false
namespace Go.Proofs.YtbchkjfnakabkaaGreatDoor
open Go.RowKit PX PC
def PrAt (w:World) (pb:Nat) (S:ByteArray) (lost:Bool):Prop:=w.heap[pb]?=some (.cells #[.string S,.bool lost] 69 (0,0))
def IsPb (pb:Nat) (k:Nat):Prop:=k=pb
abbrev OnlyP (pb:Nat) (w w':World):Prop:=Only (IsPb pb) w w'
theorem PrAt.lt {w:World} {pb:Nat} {S:ByteArray} {b:Bool} (h:PrAt w pb S b):pb<w.heap.size:=lt_of_block h
theorem PrAt.later {w w':World} {pb:Nat} {S:ByteArray} {b:Bool} (h:PrAt w pb S b) (hl:Later w w'):PrAt w' pb S b:=hl.block h
theorem PrAt.cells {w:World} {pb:Nat} {S:ByteArray} {b:Bool} (h:PrAt w pb S b):w.cell? ⟨pb,0,none⟩=some (.string S)∧w.cell? ⟨pb,1,none⟩=some (.bool b)∧w.frozen? ⟨pb,0,none⟩=false∧w.frozen? ⟨pb,1,none⟩=false:=
 ⟨cell_of_block h 0,cell_of_block h 1,free_of_block h 0,free_of_block h 1⟩
theorem PrAt.lose {w:World} {pb:Nat} {S:ByteArray} {b:Bool} (h:PrAt w pb S b) (c:Bool):PrAt (w.setCell ⟨pb,1,none⟩ (.bool c)) pb S c:=setCell_block h 1 _
theorem PrAt.say {w:World} {pb:Nat} {S:ByteArray} {b:Bool} (h:PrAt w pb S b) (T:ByteArray):PrAt (w.setCell ⟨pb,0,none⟩ (.string T)) pb T b:=setCell_block h 0 _
theorem Only.later {r:Nat→Prop} {a b c:World} (h:Only r a b) (k:Later b c):Only r a c:=by
 refine⟨k.os.trans h.os,k.tape.trans h.tape,k.output.trans h.output,Nat.le_trans h.size k.size,fun q hq hr=>?_⟩
 exact (Below.block k q (Nat.lt_of_lt_of_le hq h.size)).trans (h.block q hq hr)
theorem Later.undrew {a b:World} (h:Later a.drew b):Later a b:=below_of_drew h
theorem Only.thenP {pb:Nat} {a b c:World} (h:OnlyP pb a b) (k:OnlyP pb b c):OnlyP pb a c:=h.trans (k.mono fun q _ hq=>.inl hq)
theorem ba_assoc (a b c:ByteArray):a++b++c=a++(b++c):=baExt (by simp only [baApp,List.append_assoc])
def numsS (k:Nat) (ns:List Int):ByteArray:=bytesOf (numsB k ns)
theorem numsB_len (k:Nat):∀ ns:List Int,(numsB k ns).length=k*ns.length
 | []=>by simp [numsB]
 | n::l=>by simp [numsB,numsB_len k l,putI_len,Nat.mul_add];omega
theorem numsS_size (k:Nat) (ns:List Int):(numsS k ns).size=k*ns.length:=by
 show (numsB k ns).toArray.size=_
 rw [List.size_toArray,numsB_len]
theorem numsB_app (k:Nat):∀ (a b:List Int),numsB k (a++b)=numsB k a++numsB k b
 | [],_=>rfl
 | n::l,b=>by simp only [List.cons_append,numsB,numsB_app k l b,List.append_assoc]
theorem numsS_snoc (k:Nat) (a:List Int) (n:Int):numsS k (a++[n])=numsS k a++putS n k:=by
 refine baExt ?_
 rw [baApp,putS_list]
 show numsB k (a++[n])=numsB k a++putI n k
 rw [numsB_app];simp [numsB]
theorem allFit_snoc (k:Nat):∀ (a:List Int) (n:Int),allFit k (a++[n])=(allFit k a&&fitsB k n)
 | [],n=>by simp [allFit]
 | m::l,n=>by simp [allFit,allFit_snoc k l n,Bool.and_assoc]
theorem ba_nil (S:ByteArray) (k:Nat):S++numsS k []=S:=baExt (by rw [baApp];simp [numsS,bytesOf,numsB])
theorem fits_cases (L:Bool) (n M:Int):(L=true∧(L || !decide (0≤n∧n<M))=true)∨(L=false∧decide (n<0)=true∧(L || !decide (0≤n∧n<M))=true) ∨
 (L=false∧decide (n<0)=false∧decide (M≤n)=true∧(L || !decide (0≤n∧n<M))=true)∨(L=false∧decide (n<0)=false∧decide (M≤n)=false∧(L || !decide (0≤n∧n<M))=false):=by
 cases L
 ·by_cases h0:0≤n
  ·by_cases h1:n<M
   ·exact .inr (.inr (.inr ⟨rfl,decide_eq_false (by omega),decide_eq_false (by omega),by simp [h0,h1]⟩))
   ·exact .inr (.inr (.inl ⟨rfl,decide_eq_false (by omega),decide_eq_true (by omega),by simp;omega⟩))
  ·exact .inr (.inl ⟨rfl,decide_eq_true (by omega),by simp;omega⟩)
 ·exact .inl ⟨rfl,rfl⟩
set_option maxRecDepth 100000 in
set_option maxHeartbeats 4000000 in
theorem cnum_any (w:World) (pb:Nat) (S:ByteArray) (lost:Bool) (hp:PrAt w pb S lost) (k:Nat) (K:Int) (hkK:(k=1∧K=1)∨(k=2∧K=2)) (ns:List Int) (g o cap:Nat) (hg:g≠pb) (hgl:g<w.heap.size) (h64:∀ n∈ns,I64 n)
 (hc:∀ (i:Nat) n,ns[i]?=some n→w.cell? ⟨g,o+i,none⟩=some (.int .i64 n)) (hz:S.size+2*ns.length≤4611686018427387904) :
 Calls Tryz.prog 30 #[.pointer (some ⟨pb,0,none⟩),.int .i64 K,.slice (some ⟨g,o,none⟩) ns.length cap] w fun e w'=>e=.returned (.tuple #[])∧PrAt w' pb (S++numsS k ns) (lost || !allFit k ns)∧OnlyP pb w w':=by
 have HKK:=Lib.hid hkK
 have hk:k=1∨k=2:=by omega
 clear hkK
 have HP:=Lib.hid hp
 have HC:=Lib.hid hc
 have H64:=Lib.hid h64
 have hpl:=hp.lt
 clear hp hc h64
 have hlen:ns.length≤4611686018427387904:=by omega
 go_enter Tryz.func30,Tryz.ntmps30
 go_wp2_with fail
 go_loopw [10] (fun vi wr=>∃ j:Nat,j≤ns.length∧vi=.int .i64 j∧PrAt wr pb (S++numsS k (ns.take j)) (lost || !allFit k (ns.take j))∧OnlyP pb w wr) (fun vi _=>ns.length - (intOf vi).toNat)
 case atStart=>exact⟨0,by omega,by simp,by simpa [ba_nil,allFit] using HP.out,Only.refl _ _⟩
 case round=>
  obtain ⟨j,hj,rfl,hpr,hon⟩:=hrel
  by_cases hlt:j<ns.length
  ·obtain ⟨n,hn⟩:∃ n,ns[j]?=some n:=⟨_,List.getElem?_eq_getElem hlt⟩
   have htk:ns.take (j+1)=ns.take j++[n]:=by
    rw [List.take_add_one,hn];rfl
   have hI:=H64.out n (List.mem_of_getElem? hn)
   have hcell:wr.cell? ⟨g,o+j,none⟩=some (.int .i64 n):=(hon.cell (p:=⟨g,o+j,none⟩) hgl hg).trans (HC.out j n hn)
   obtain ⟨M,hM⟩:∃ M:Int,(256:Int) ^ k=M:=⟨_,rfl⟩
   have HL:Hid ((lost || !allFit k (ns.take (j+1)))=((lost || !allFit k (ns.take j)) || !decide (0≤n∧n<M))):=Lib.hid (by
    rw [htk,allFit_snoc,fitsB,hM]
    cases lost<;>cases allFit k (ns.take j)<;>rfl)
   have HS:Hid (S++numsS k (ns.take (j+1))=(S++numsS k (ns.take j))++putS n k):=Lib.hid (by rw [htk,numsS_snoc,ba_assoc])
   have hsz:(S++numsS k (ns.take j)).size≤4611686018427387904:=by
    rw [ByteArray.size_append,numsS_size,List.length_take]
    rcases hk with rfl | rfl<;>omega
   obtain ⟨L,hL⟩:∃ L,(lost || !allFit k (ns.take j))=L:=⟨_,rfl⟩
   obtain ⟨Sj,hSj⟩:∃ Sj,S++numsS k (ns.take j)=Sj:=⟨_,rfl⟩
   rw [hL] at hpr HL
   rw [hSj] at hpr HS hsz
   have HON:=Lib.hid hon
   have hpp:=putS_size n k
   have HPUT:=Lib.hid (fun w1=>cput_at w1 n hI k K (by have:=HKK.out;omega) (by omega) (by omega))
   obtain ⟨P,hP⟩:∃ P,putS n k=P:=⟨_,rfl⟩
   rw [hP] at HS HPUT hpp
   have hP2:P.size≤2:=by rcases hk with rfl | rfl<;>omega
   have HCC:=Lib.hid (show ¬9223372036854775807<Sj.size+P.size by omega)
   obtain ⟨hI1,hI2⟩:=hI
   clear hL hSj hon htk hn hpp hP hsz hP2
   have hkM:(K=1∧M=256)∨(K=2∧M=65536):=by
    rcases HKK.out with ⟨rfl,rfl⟩ | ⟨rfl,rfl⟩
    ·exact .inl ⟨rfl,hM.symm⟩
    ·exact .inr ⟨rfl,hM.symm⟩
   clear hk hM
   have hcs:=fits_cases L n M
   obtain ⟨b',hb'⟩:∃ b',(L || !decide (0≤n∧n<M))=b':=⟨_,rfl⟩
   rw [hb'] at hcs HL
   clear hb'
   obtain ⟨hc0,hc1,hf0,hf1⟩:=hpr.cells
   have HPR:=Lib.hid hpr
   clear hpr
   rcases hkM with ⟨rfl,rfl⟩ | ⟨rfl,rfl⟩
   all_goals
    rcases hcs with ⟨rfl,hB⟩ | ⟨rfl,hn0,hB⟩ | ⟨rfl,hn0,hn1,hB⟩ | ⟨rfl,hn0,hn1,hB⟩
    all_goals
     rw [hB] at HL
     clear hB
     go_upto_region 4 with fail
     first
      | (obtain ⟨w2,hw2⟩:∃ w2,wr.setCell ⟨pb,1,none⟩ (.bool true)=w2:=⟨_,rfl⟩;rw [hw2];have hpr2:=HPR.out.lose true)
      | (obtain ⟨w2,hw2⟩:∃ w2,wr.setCell ⟨pb,1,none⟩ (.bool false)=w2:=⟨_,rfl⟩;rw [hw2];have hpr2:=HPR.out.lose false)
     rw [hw2] at hpr2
     have hon2:OnlyP pb w w2:=by rw [←hw2];exact HON.out.setCell (.inl (show IsPb pb pb from rfl)) _
     have HON2:=Lib.hid hon2
     clear hw2 hon2 hc0 hc1 hf0 hf1
     have HPR2:=Lib.hid hpr2
     obtain ⟨hc0,hc1,hf0,hf1⟩:=hpr2.cells
     have hlt2:=hpr2.lt
     have hcc:=HCC.out
     clear hpr2
     go_region_with (go_at_call 78;(with_reducible refine (HPUT.out _).mono ?_);rintro e w3 ⟨rfl,hl3⟩;have hl4:=Later.undrew hl3;have hpr3:=HPR2.out.later hl4;have hon3:=HON2.out.later hl4;clear hl4;have HPR3:=Lib.hid hpr3;have HON3:=Lib.hid hon3;obtain ⟨kc0,kc1,kf0,kf1⟩:=hpr3.cells;clear hpr3 hon3)
     all_goals
      go_wp2_with fail
      refine⟨⟨j+1,by omega,by simp,?_,?_⟩,by simp only [intOf];omega⟩
      ·rw [HS.out,HL.out]
       exact HPR3.out.say _
      ·exact HON3.out.setCell (.inl (show IsPb pb pb from rfl)) _
  ·obtain rfl:j=ns.length:=by omega
   rw [List.take_of_length_le (Nat.le_refl _)] at hpr
   go_wp2_with fail
   go_end0
   exact⟨rfl,hpr,hon⟩
end Go.Proofs.YtbchkjfnakabkaaGreatDoor
