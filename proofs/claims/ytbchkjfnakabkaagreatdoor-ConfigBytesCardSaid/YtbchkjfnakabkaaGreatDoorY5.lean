/- The walks of the printer's text, of Print's closures and of its lists. (Printed by gen_y5.py.) -/
import Derived.Test.YtbchkjfnakabkaaGreatDoorY4
set_option linter.unusedSimpArgs false
set_option linter.unusedVariables false
namespace Go.Proofs.YtbchkjfnakabkaaGreatDoor
open Go.RowKit PX PC
def PrPost (pb:Nat) (T:ByteArray) (b:Bool) (w:World) (e:Ending) (w':World):Prop:=e=.returned (.tuple #[])∧PrAt w' pb T b∧OnlyP pb w w'
theorem cnum_post (w:World) (pb:Nat) (S:ByteArray) (lost:Bool) (hp:PrAt w pb S lost) (k:Nat) (K:Int) (hkK:(k=1∧K=1)∨(k=2∧K=2)) (ns:List Int) (g cap:Nat) (C:Array Value) (t:TypeId) (hg:w.heap[g]?=some (.cells C t (0,0)))
 (hC:C=(ns.map fun n=>Value.int .i64 n).toArray) (hne:g≠pb) (h64:∀ n∈ns,I64 n) (n:Nat) (hn:ns.length=n) (hz:S.size+2*ns.length≤4611686018427387904) :
 Calls Tryz.prog 30 #[.pointer (some ⟨pb,0,none⟩),.int .i64 K,.slice (some ⟨g,0,none⟩) n cap] w (PrPost pb (S++numsS k ns) (lost || !allFit k ns) w):=by
 subst hn
 refine cnum_any w pb S lost hp k K hkK ns g 0 cap hne (lt_of_block hg) h64 (fun i n hi=>?_) hz
 rw [Nat.zero_add,cell_of_block hg i,hC]
 simp [hi]
theorem fits_lost (L A:Bool):(L=true∧(L || !A)=true)∨(L=false∧A=true∧(L || !A)=false)∨(L=false∧A=false∧(L || !A)=true):=by cases L<;>cases A<;>simp
set_option maxRecDepth 100000 in
set_option maxHeartbeats 2000000 in
theorem ctext_any (w:World) (pb:Nat) (S:ByteArray) (lost:Bool) (hp:PrAt w pb S lost) (s:ByteArray) (hs:s.size≤9223372036854775807) (hz:S.size≤4611686018427387904) :
 Calls Tryz.prog 43 #[.pointer (some ⟨pb,0,none⟩),.string s] w (PrPost pb (S++textS s) (lost || !textOK s) w):=by
 have HP:=Lib.hid hp
 have HT:=Lib.hid (cputText_any w s hs)
 have hts:=textS_size s
 have HCC:=Lib.hid (show ¬9223372036854775807<S.size+(textS s).size by omega)
 have hf:=fits_lost lost (textOK s)
 obtain ⟨b,hb⟩:∃ b,(lost || !textOK s)=b:=⟨_,rfl⟩
 rw [hb] at hf ⊢
 obtain ⟨T,hT⟩:∃ T,textS s=T:=⟨_,rfl⟩
 rw [hT] at HT HCC ⊢
 obtain ⟨q,hq⟩:∃ q:Int,(if s.size≤1024 then (0:Int) else 11)=q:=⟨_,rfl⟩
 rw [hq] at HT
 have hfq:(lost=true∧b=true)∨(lost=false∧(q != 0)=false∧b=false)∨(lost=false∧(q != 0)=true∧b=true):=by
  rcases hf with ⟨h1,h2⟩ | ⟨h1,h2,h3⟩ | ⟨h1,h2,h3⟩
  ·exact .inl ⟨h1,h2⟩
  ·refine .inr (.inl ⟨h1,?_,h3⟩)
   rw [←hq,if_pos (of_decide_eq_true h2)];rfl
  ·refine .inr (.inr ⟨h1,?_,h3⟩)
   rw [←hq,if_neg (of_decide_eq_false h2)];rfl
 clear hf hb hp hts hT hq hs hz
 rcases hfq with ⟨rfl,rfl⟩ | ⟨rfl,hq,rfl⟩ | ⟨rfl,hq,rfl⟩
 all_goals
  go_enter Tryz.func43,Tryz.ntmps43
  go_upto_region 1 with (first
   | (go_at_call 79;(with_reducible refine HT.out.mono ?_);rintro e w1 ⟨rfl,hl1⟩)
   | fail)
  have hpr:=HP.out.later hl1
  have HPR:=Lib.hid hpr
  obtain ⟨hc0,hc1,hf0,hf1⟩:=hpr.cells
  have hlt:=hpr.lt
  clear hpr
  go_upto_region 2 with fail
  have hcc:=HCC.out
  first
   | (obtain ⟨w2,hw2⟩:∃ w2,w1.setCell ⟨pb,1,none⟩ (.bool true)=w2:=⟨_,rfl⟩;rw [hw2];have hpr2:=HPR.out.lose true)
   | (obtain ⟨w2,hw2⟩:∃ w2,w1.setCell ⟨pb,1,none⟩ (.bool false)=w2:=⟨_,rfl⟩;rw [hw2];have hpr2:=HPR.out.lose false)
  rw [hw2] at hpr2
  have hon2:OnlyP pb w w2:=by rw [←hw2];exact (Only.of_below hl1).setCell (.inl (show IsPb pb pb from rfl)) _
  have HON2:=Lib.hid hon2
  clear hw2 hon2 hc0 hc1 hf0 hf1
  have HPR2:=Lib.hid hpr2
  obtain ⟨hc0,hc1,hf0,hf1⟩:=hpr2.cells
  have hlt2:=hpr2.lt
  clear hpr2
  go_wp2_with fail
  go_end0
  exact⟨rfl,HPR2.out.say _,HON2.out.setCell (.inl (show IsPb pb pb from rfl)) _⟩
theorem later_only {pb:Nat} {a b c:World} (h:Later a b) (k:OnlyP pb b c):OnlyP pb a c:=(Only.of_below h).thenP k
theorem ofB (l m:List UInt8):bytesOf (l++m)=bytesOf l++bytesOf m:=baExt (by rw [baApp];rfl)
theorem bool_join (L a b:Bool):((L || !a) || !b)=(L || !(a&&b)):=by cases L<;>cases a<;>cases b<;>rfl
def partI (x:Prt):Prop:=∀ n∈[x.level,x.pages],I64 n
set_option maxRecDepth 100000 in
set_option maxHeartbeats 1000000 in
theorem pr_part (w:World) (pb cb:Nat) (S:ByteArray) (lost:Bool) (hp:PrAt w pb S lost) (hcb:w.cell? ⟨cb,0,none⟩=some (.pointer (some ⟨pb,0,none⟩))) (x:Prt) (hI:partI x) (hz:S.size≤4611686018427380000) :
 Calls Tryz.prog 34 #[.agg (partC x).toArray,.pointer (some ⟨cb,0,none⟩)] w (PrPost pb (S++bytesOf (partP.b x)) (lost || !partP.ok x) w):=by
 obtain ⟨level,pages⟩:=x
 have hpl:=hp.lt
 have HN:=Lib.hid (fun (w1:World) (h1:Later w w1) (g:Nat) (hg:w1.heap[g]?=some (.cells #[.int .i64 level,.int .i64 pages] 3 (0,0))) (hge:w.heap.size≤g)=>cnum_post w1 pb S lost (hp.later h1) 1 1 (.inl ⟨rfl,rfl⟩) [level,pages] g 2 _ _ hg rfl (by omega) hI 2 rfl (by simp;omega))
 clear hp hI hpl hz
 show Calls Tryz.prog 34 #[.agg #[.int .i64 level,.int .i64 pages],.pointer (some ⟨cb,0,none⟩)] w (PrPost pb (S++numsS 1 [level,pages]) (lost || !allFit 1 [level,pages]) w)
 go_enter Tryz.func34,Tryz.ntmps34
 go_upto_region 1 with fail
 obtain ⟨w1,hw1⟩:∃ w1,w.alloc (.cells #[.int .i64 level,.int .i64 pages] 49)=w1:=⟨_,rfl⟩
 obtain ⟨g,hg⟩:∃ g,w.heap.size=g:=⟨_,rfl⟩
 have hb:w1.heap[g]?=some (.cells #[.int .i64 level,.int .i64 pages] 49 (0,0)):=by rw [←hw1,←hg];exact alloc_block w _
 have hl:Later w w1:=by rw [←hw1];exact (Later.refl w).alloc _
 have hcb1:=hl.cell hcb
 rw [hw1,hg]
 have HL:=Lib.hid hl
 have hgs:w.heap.size≤w1.heap.size:=hl.size
 have k0:=cell_of_block hb 0
 have k1:=cell_of_block hb 1
 clear hw1 hl hcb hg hb
 go_wp2_with (first
  | (go_at_call 30;(with_reducible refine (HN.out _ (HL.out.alloc _) _ (alloc_block _ _) hgs).mono ?_);rintro e w2 ⟨rfl,hpr,hon⟩)
  | fail)
 go_end0
 exact⟨rfl,hpr,later_only (HL.out.alloc _) hon⟩
def winI (x:Win):Prop:=∀ n∈[x.kind,x.index,x.ticks],I64 n
set_option maxRecDepth 100000 in
set_option maxHeartbeats 1000000 in
theorem pr_win (w:World) (pb cb:Nat) (S:ByteArray) (lost:Bool) (hp:PrAt w pb S lost) (hcb:w.cell? ⟨cb,0,none⟩=some (.pointer (some ⟨pb,0,none⟩))) (x:Win) (hI:winI x) (hz:S.size≤4611686018427380000) :
 Calls Tryz.prog 36 #[.agg (winC x).toArray,.pointer (some ⟨cb,0,none⟩)] w (PrPost pb (S++bytesOf (winP.b x)) (lost || !winP.ok x) w):=by
 obtain ⟨kind,index,ticks⟩:=x
 have hpl:=hp.lt
 have HN:=Lib.hid (fun (w1:World) (h1:Later w w1) (g:Nat) (hg:w1.heap[g]?=some (.cells #[.int .i64 kind,.int .i64 index,.int .i64 ticks] 3 (0,0))) (hge:w.heap.size≤g)=>cnum_post w1 pb S lost (hp.later h1) 1 1 (.inl ⟨rfl,rfl⟩) [kind,index,ticks] g 3 _ _ hg rfl (by omega) hI 3 rfl (by simp;omega))
 clear hp hI hpl hz
 show Calls Tryz.prog 36 #[.agg #[.int .i64 kind,.int .i64 index,.int .i64 ticks],.pointer (some ⟨cb,0,none⟩)] w (PrPost pb (S++numsS 1 [kind,index,ticks]) (lost || !allFit 1 [kind,index,ticks]) w)
 go_enter Tryz.func36,Tryz.ntmps36
 go_upto_region 1 with fail
 obtain ⟨w1,hw1⟩:∃ w1,w.alloc (.cells #[.int .i64 kind,.int .i64 index,.int .i64 ticks] 55)=w1:=⟨_,rfl⟩
 obtain ⟨g,hg⟩:∃ g,w.heap.size=g:=⟨_,rfl⟩
 have hb:w1.heap[g]?=some (.cells #[.int .i64 kind,.int .i64 index,.int .i64 ticks] 55 (0,0)):=by rw [←hw1,←hg];exact alloc_block w _
 have hl:Later w w1:=by rw [←hw1];exact (Later.refl w).alloc _
 have hcb1:=hl.cell hcb
 rw [hw1,hg]
 have HL:=Lib.hid hl
 have hgs:w.heap.size≤w1.heap.size:=hl.size
 have k0:=cell_of_block hb 0
 have k1:=cell_of_block hb 1
 have k2:=cell_of_block hb 2
 clear hw1 hl hcb hg hb
 go_wp2_with (first
  | (go_at_call 30;(with_reducible refine (HN.out _ (HL.out.alloc _) _ (alloc_block _ _) hgs).mono ?_);rintro e w2 ⟨rfl,hpr,hon⟩)
  | fail)
 go_end0
 exact⟨rfl,hpr,later_only (HL.out.alloc _) hon⟩
def porI (x:Por):Prop:=∀ n∈[x.kind,x.fr,x.tu,x.size,x.depth],I64 n
set_option maxRecDepth 100000 in
set_option maxHeartbeats 1000000 in
theorem pr_por (w:World) (pb cb:Nat) (S:ByteArray) (lost:Bool) (hp:PrAt w pb S lost) (hcb:w.cell? ⟨cb,0,none⟩=some (.pointer (some ⟨pb,0,none⟩))) (x:Por) (hI:porI x) (hz:S.size≤4611686018427380000) :
 Calls Tryz.prog 38 #[.agg (porC x).toArray,.pointer (some ⟨cb,0,none⟩)] w (PrPost pb (S++bytesOf (porP.b x)) (lost || !porP.ok x) w):=by
 obtain ⟨kind,fr,tu,size,depth⟩:=x
 have hpl:=hp.lt
 have HN:=Lib.hid (fun (w1:World) (h1:Later w w1) (g:Nat) (hg:w1.heap[g]?=some (.cells #[.int .i64 kind,.int .i64 fr,.int .i64 tu,.int .i64 size,.int .i64 depth] 3 (0,0))) (hge:w.heap.size≤g)=>cnum_post w1 pb S lost (hp.later h1) 1 1 (.inl ⟨rfl,rfl⟩) [kind,fr,tu,size,depth] g 5 _ _ hg rfl (by omega) hI 5 rfl (by simp;omega))
 clear hp hI hpl hz
 show Calls Tryz.prog 38 #[.agg #[.int .i64 kind,.int .i64 fr,.int .i64 tu,.int .i64 size,.int .i64 depth],.pointer (some ⟨cb,0,none⟩)] w (PrPost pb (S++numsS 1 [kind,fr,tu,size,depth]) (lost || !allFit 1 [kind,fr,tu,size,depth]) w)
 go_enter Tryz.func38,Tryz.ntmps38
 go_upto_region 1 with fail
 obtain ⟨w1,hw1⟩:∃ w1,w.alloc (.cells #[.int .i64 kind,.int .i64 fr,.int .i64 tu,.int .i64 size,.int .i64 depth] 51)=w1:=⟨_,rfl⟩
 obtain ⟨g,hg⟩:∃ g,w.heap.size=g:=⟨_,rfl⟩
 have hb:w1.heap[g]?=some (.cells #[.int .i64 kind,.int .i64 fr,.int .i64 tu,.int .i64 size,.int .i64 depth] 51 (0,0)):=by rw [←hw1,←hg];exact alloc_block w _
 have hl:Later w w1:=by rw [←hw1];exact (Later.refl w).alloc _
 have hcb1:=hl.cell hcb
 rw [hw1,hg]
 have HL:=Lib.hid hl
 have hgs:w.heap.size≤w1.heap.size:=hl.size
 have k0:=cell_of_block hb 0
 have k1:=cell_of_block hb 1
 have k2:=cell_of_block hb 2
 have k3:=cell_of_block hb 3
 have k4:=cell_of_block hb 4
 clear hw1 hl hcb hg hb
 go_wp2_with (first
  | (go_at_call 30;(with_reducible refine (HN.out _ (HL.out.alloc _) _ (alloc_block _ _) hgs).mono ?_);rintro e w2 ⟨rfl,hpr,hon⟩)
  | fail)
 go_end0
 exact⟨rfl,hpr,later_only (HL.out.alloc _) hon⟩
def flowI (x:Int × Int):Prop:=∀ n∈[x.1,x.2],I64 n
set_option maxRecDepth 100000 in
set_option maxHeartbeats 1000000 in
theorem pr_flow (w:World) (pb cb:Nat) (S:ByteArray) (lost:Bool) (hp:PrAt w pb S lost) (hcb:w.cell? ⟨cb,0,none⟩=some (.pointer (some ⟨pb,0,none⟩))) (x:Int × Int) (hI:flowI x) (hz:S.size≤4611686018427380000) :
 Calls Tryz.prog 32 #[.agg (flowC x).toArray,.pointer (some ⟨cb,0,none⟩)] w (PrPost pb (S++bytesOf (flowP.b x)) (lost || !flowP.ok x) w):=by
 obtain ⟨a,b⟩:=x
 have hpl:=hp.lt
 have HN:=Lib.hid (fun (w1:World) (h1:Later w w1) (g:Nat) (hg:w1.heap[g]?=some (.cells #[.int .i64 a,.int .i64 b] 47 (0,0))) (hge:w.heap.size≤g)=>cnum_post w1 pb S lost (hp.later h1) 1 1 (.inl ⟨rfl,rfl⟩) [a,b] g 2 _ _ hg rfl (by omega) hI 2 rfl (by simp;omega))
 clear hp hI hpl hz
 show Calls Tryz.prog 32 #[.agg #[.int .i64 a,.int .i64 b],.pointer (some ⟨cb,0,none⟩)] w (PrPost pb (S++numsS 1 [a,b]) (lost || !allFit 1 [a,b]) w)
 go_enter Tryz.func32,Tryz.ntmps32
 go_upto_region 1 with fail
 obtain ⟨w1,hw1⟩:∃ w1,w.alloc (.cells #[.int .i64 a,.int .i64 b] 47)=w1:=⟨_,rfl⟩
 obtain ⟨g,hg⟩:∃ g,w.heap.size=g:=⟨_,rfl⟩
 have hb:w1.heap[g]?=some (.cells #[.int .i64 a,.int .i64 b] 47 (0,0)):=by rw [←hw1,←hg];exact alloc_block w _
 have hl:Later w w1:=by rw [←hw1];exact (Later.refl w).alloc _
 have hcb1:=hl.cell hcb
 rw [hw1,hg]
 have HL:=Lib.hid hl
 have HNN:=Lib.hid (HN.out w1.drew hl.drew g hb (by omega))
 have hgl:=lt_of_block hb
 clear hw1 hl hcb HN hg hb
 go_region_with (go_at_call 30;(with_reducible refine HNN.out.mono ?_);rintro e w2 ⟨rfl,hpr,hon⟩)
 all_goals
  go_wp2_with fail
  go_end0
  exact⟨rfl,hpr,later_only HL.out.drew hon⟩
def volI (x:Vol):Prop:=(∀n∈[x.level],I64 n)∧∀ n∈[x.first,x.count,x.journal],I64 n
set_option maxRecDepth 100000 in
set_option maxHeartbeats 1000000 in
theorem pr_vol (w:World) (pb cb:Nat) (S:ByteArray) (lost:Bool) (hp:PrAt w pb S lost) (hcb:w.cell? ⟨cb,0,none⟩=some (.pointer (some ⟨pb,0,none⟩))) (hcp:cb≠pb) (x:Vol) (hI:volI x) (hz:S.size≤4611686018427380000) :
 Calls Tryz.prog 40 #[.agg (volC x).toArray,.pointer (some ⟨cb,0,none⟩)] w (PrPost pb (S++bytesOf (volP.b x)) (lost || !volP.ok x) w):=by
 obtain ⟨level,first,count,journal⟩:=x
 have hpl:=hp.lt
 have hcl:cb<w.heap.size:=World.block_lt_of_cell? w _ hcb
 have HN:=Lib.hid (fun (w1:World) (h1:Later w w1) (g:Nat) (hg:w1.heap[g]?=some (.cells #[.int .i64 level] 3 (0,0))) (hge:w.heap.size≤g)=>cnum_post w1 pb S lost (hp.later h1) 1 1 (.inl ⟨rfl,rfl⟩) [level] g 1 _ _ hg rfl (by omega) hI.1 1 rfl (by simp;omega))
 have hsz:(S++numsS 1 [level]).size+2*3≤4611686018427387904:=by rw [ByteArray.size_append,numsS_size];simp;omega
 have HM:=Lib.hid (fun (w1:World) (hp1:PrAt w1 pb (S++numsS 1 [level]) (lost || !allFit 1 [level])) (g:Nat) (hg:w1.heap[g]?=some (.cells #[.int .i64 first,.int .i64 count,.int .i64 journal] 3 (0,0))) (hge:w.heap.size≤g)=>cnum_post w1 pb (S++numsS 1 [level]) (lost || !allFit 1 [level]) hp1 2 2 (.inr ⟨rfl,rfl⟩) [first,count,journal] g 3 _ _ hg rfl (by omega) hI.2 3 rfl hsz)
 clear hp hI hz hsz
 have he:PrPost pb (S++bytesOf (volP.b ⟨level,first,count,journal⟩)) (lost || !volP.ok ⟨level,first,count,journal⟩) w=PrPost pb (S++numsS 1 [level]++numsS 2 [first,count,journal]) (lost || !allFit 1 [level] || !allFit 2 [first,count,journal]) w:=by
  rw [bool_join,ba_assoc]
  show PrPost pb (S++bytesOf (numsB 1 [level]++numsB 2 [first,count,journal])) _ w=_
  rw [ofB];rfl
 rw [he]
 obtain ⟨T,hT⟩:∃ T,S++numsS 1 [level]++numsS 2 [first,count,journal]=T:=⟨_,rfl⟩
 obtain ⟨L2,hL2⟩:∃ L2,(lost || !allFit 1 [level] || !allFit 2 [first,count,journal])=L2:=⟨_,rfl⟩
 rw [hT,hL2]
 have HT:=Lib.hid hT
 have HL2:=Lib.hid hL2
 clear he hT hL2
 show Calls Tryz.prog 40 #[.agg #[.int .i64 level,.int .i64 first,.int .i64 count,.int .i64 journal],.pointer (some ⟨cb,0,none⟩)] w (PrPost pb T L2 w)
 have H0:=Lib.hid (fun (w1:World) (h1:OnlyP pb w w1)=>((h1.cell (p:=⟨cb,0,none⟩) hcl hcp).trans hcb))
 go_enter Tryz.func40,Tryz.ntmps40
 go_upto_region 1 with fail
 obtain ⟨w1,hw1⟩:∃ w1,w.alloc (.cells #[.int .i64 level,.int .i64 first,.int .i64 count,.int .i64 journal] 28)=w1:=⟨_,rfl⟩
 obtain ⟨g,hg⟩:∃ g,w.heap.size=g:=⟨_,rfl⟩
 have hb:w1.heap[g]?=some (.cells #[.int .i64 level,.int .i64 first,.int .i64 count,.int .i64 journal] 28 (0,0)):=by rw [←hw1,←hg];exact alloc_block w _
 have hl:Later w w1:=by rw [←hw1];exact (Later.refl w).alloc _
 have hcb1:=hl.cell hcb
 have hgp:¬ g=pb:=by omega
 rw [hw1,hg]
 have HL:=Lib.hid hl
 have HB:=Lib.hid hb
 have hgs:w.heap.size≤w1.heap.size:=hl.size
 have k0:=cell_of_block hb 0
 have k1:=cell_of_block hb 1
 have k2:=cell_of_block hb 2
 have k3:=cell_of_block hb 3
 clear hw1 hl hcb hg hb
 go_wp2_with (first
  | (go_at_call 30;(with_reducible refine (HN.out _ (HL.out.alloc _) _ (alloc_block _ _) hgs).mono ?_);rintro e w2 ⟨rfl,hpr,hon⟩;have hb1:=(hon.block g (lt_of_block (alloc_old HB.out (.cells #[.int .i64 level] 3))) hgp).trans (alloc_old HB.out _);have m1:=cell_of_block hb1 1;have m2:=cell_of_block hb1 2;have m3:=cell_of_block hb1 3;have hon1:=later_only (HL.out.alloc _) hon;have kc:=H0.out w2 hon1;have HPR:=Lib.hid hpr;have HON:=Lib.hid hon1;have hgs2:w.heap.size≤w2.heap.size:=hon1.size;clear hpr hon hon1 hb1 hcb1 k0 k1 k2 k3)
  | (go_at_call 30;(with_reducible refine (HM.out _ (HPR.out.later ((Later.refl w2).alloc _)) _ (alloc_block _ _) hgs2).mono ?_);rintro e w3 ⟨rfl,hpr,hon⟩)
  | fail)
 go_end0
 exact⟨rfl,by rw [←HT.out,←HL2.out];exact hpr,HON.out.thenP (later_only ((Later.refl w2).alloc _) hon)⟩
def ruI (x:Ru):Prop:=(∀n∈[x.fr,x.tu,x.act],I64 n)∧x.pat.size≤9223372036854775807∧x.wth.size≤9223372036854775807
set_option maxRecDepth 100000 in
set_option maxHeartbeats 1000000 in
theorem pr_ru (w:World) (pb cb:Nat) (S:ByteArray) (lost:Bool) (hp:PrAt w pb S lost) (hcb:w.cell? ⟨cb,0,none⟩=some (.pointer (some ⟨pb,0,none⟩))) (hcp:cb≠pb) (x:Ru) (hI:ruI x) (hz:S.size≤4611686018427380000) :
 Calls Tryz.prog 42 #[.agg (ruC x).toArray,.pointer (some ⟨cb,0,none⟩)] w (PrPost pb (S++bytesOf (ruP.b x)) (lost || !ruP.ok x) w):=by
 obtain ⟨fr,tu,act,pat,wth⟩:=x
 have hpl:=hp.lt
 have hcl:cb<w.heap.size:=World.block_lt_of_cell? w _ hcb
 have HN:=Lib.hid (fun (w1:World) (h1:Later w w1) (g:Nat) (hg:w1.heap[g]?=some (.cells #[.int .i64 fr,.int .i64 tu,.int .i64 act] 3 (0,0))) (hge:w.heap.size≤g)=>cnum_post w1 pb S lost (hp.later h1) 1 1 (.inl ⟨rfl,rfl⟩) [fr,tu,act] g 3 _ _ hg rfl (by omega) hI.1 3 rfl (by simp;omega))
 have hsz:(S++numsS 1 [fr,tu,act]).size≤4611686018427387904:=by rw [ByteArray.size_append,numsS_size];simp;omega
 have hsz2:(S++numsS 1 [fr,tu,act]++textS pat).size≤4611686018427387904:=by
  have:=textS_size pat
  rw [ByteArray.size_append,ByteArray.size_append,numsS_size];simp;omega
 have HM:=Lib.hid (fun (w1:World) (hp1:PrAt w1 pb (S++numsS 1 [fr,tu,act]) (lost || !allFit 1 [fr,tu,act]))=>ctext_any w1 pb _ _ hp1 pat hI.2.1 hsz)
 have HO:=Lib.hid (fun (w1:World) (hp1:PrAt w1 pb (S++numsS 1 [fr,tu,act]++textS pat) (lost || !allFit 1 [fr,tu,act] || !textOK pat))=>ctext_any w1 pb _ _ hp1 wth hI.2.2 hsz2)
 clear hp hI hz hsz hsz2
 have he:PrPost pb (S++bytesOf (ruP.b ⟨fr,tu,act,pat,wth⟩)) (lost || !ruP.ok ⟨fr,tu,act,pat,wth⟩) w=PrPost pb (S++numsS 1 [fr,tu,act]++textS pat++textS wth) (lost || !allFit 1 [fr,tu,act] || !textOK pat || !textOK wth) w:=by
  rw [bool_join,bool_join,ba_assoc,ba_assoc]
  show PrPost pb (S++bytesOf (numsB 1 [fr,tu,act]++(textB pat++textB wth))) _ w=_
  rw [ofB,ofB];rfl
 rw [he]
 obtain ⟨T,hT⟩:∃ T,S++numsS 1 [fr,tu,act]++textS pat++textS wth=T:=⟨_,rfl⟩
 obtain ⟨L2,hL2⟩:∃ L2,(lost || !allFit 1 [fr,tu,act] || !textOK pat || !textOK wth)=L2:=⟨_,rfl⟩
 rw [hT,hL2]
 have HT:=Lib.hid hT
 have HL2:=Lib.hid hL2
 clear he hT hL2
 show Calls Tryz.prog 42 #[.agg #[.int .i64 fr,.int .i64 tu,.int .i64 act,.string pat,.string wth],.pointer (some ⟨cb,0,none⟩)] w (PrPost pb T L2 w)
 have H0:=Lib.hid (fun (w1:World) (h1:OnlyP pb w w1)=>((h1.cell (p:=⟨cb,0,none⟩) hcl hcp).trans hcb))
 go_enter Tryz.func42,Tryz.ntmps42
 go_upto_region 1 with fail
 obtain ⟨w1,hw1⟩:∃ w1,w.alloc (.cells #[.int .i64 fr,.int .i64 tu,.int .i64 act,.string pat,.string wth] 53)=w1:=⟨_,rfl⟩
 obtain ⟨g,hg⟩:∃ g,w.heap.size=g:=⟨_,rfl⟩
 have hb:w1.heap[g]?=some (.cells #[.int .i64 fr,.int .i64 tu,.int .i64 act,.string pat,.string wth] 53 (0,0)):=by rw [←hw1,←hg];exact alloc_block w _
 have hl:Later w w1:=by rw [←hw1];exact (Later.refl w).alloc _
 have hcb1:=hl.cell hcb
 have hgp:¬ g=pb:=by omega
 rw [hw1,hg]
 have HL:=Lib.hid hl
 have HB:=Lib.hid hb
 have hgs:w.heap.size≤w1.heap.size:=hl.size
 have k0:=cell_of_block hb 0
 have k1:=cell_of_block hb 1
 have k2:=cell_of_block hb 2
 have k3:=cell_of_block hb 3
 have k4:=cell_of_block hb 4
 clear hw1 hl hcb hg hb
 go_wp2_with (first
  | (go_at_call 30;(with_reducible refine (HN.out _ (HL.out.alloc _) _ (alloc_block _ _) hgs).mono ?_);rintro e w2 ⟨rfl,hpr,hon⟩;have hb1:=(hon.block g (lt_of_block (alloc_old HB.out (.cells #[.int .i64 fr,.int .i64 tu,.int .i64 act] 3))) hgp).trans (alloc_old HB.out _);have m1:=cell_of_block hb1 3;have HB1:=Lib.hid hb1;have hon1:=later_only (HL.out.alloc _) hon;have kc:=H0.out w2 hon1;have HPR:=Lib.hid hpr;have HON:=Lib.hid hon1;clear hpr hon hon1 hb1 hcb1 k0 k1 k2 k3 k4)
  | (go_at_call 43;(with_reducible refine (HM.out _ HPR.out).mono ?_);rintro e w3 ⟨rfl,hpr,hon⟩;have hb2:=(hon.block g (lt_of_block HB1.out) hgp).trans HB1.out;have m2:=cell_of_block hb2 4;have hon1:=HON.out.thenP hon;have kc2:=H0.out w3 hon1;have HPR2:=Lib.hid hpr;have HON2:=Lib.hid hon1;clear hpr hon hon1 hb2 m1 kc)
  | (go_at_call 43;(with_reducible refine (HO.out _ HPR2.out).mono ?_);rintro e w4 ⟨rfl,hpr,hon⟩)
  | fail)
 go_end0
 exact⟨rfl,by rw [←HT.out,←HL2.out];exact hpr,HON2.out.thenP hon⟩
end Go.Proofs.YtbchkjfnakabkaaGreatDoor
