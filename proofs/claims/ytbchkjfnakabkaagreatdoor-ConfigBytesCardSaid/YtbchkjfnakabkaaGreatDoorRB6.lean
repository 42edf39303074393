/- The walk of the document's Print. (Printed by gen_rb6.py.) -/
import Derived.Test.YtbchkjfnakabkaaGreatDoorRBx
import Derived.StillTailTactics
import Derived.Deep.RegionHeld3
set_option linter.unusedSimpArgs false
set_option linter.unusedVariables false
namespace Go.Proofs.YtbchkjfnakabkaaGreatDoor
open Go.RowKit PX PC
theorem rpart {w:World} {g:Nat} {T:TypeId} {C:Array Value} (hg:w.heap[g]?=some (.cells C T (0,0))) (o cap:Nat) (l:List Int) (hl:l.length≤cap) (hc:cap≤255) (h:∀ i n,l[i]?=some n→C[o+i]?=some (.int .i64 n)):RowAt w 1 (.slice (some ⟨g,o,none⟩) l.length cap) (l.map intC):=by
 refine⟨some ⟨g,o,none⟩,cap,by rw [List.length_map],by rw [List.length_map];exact hl,by omega,by rw [List.length_map];omega,.inr ⟨g,o,rfl,lt_of_block hg,fun i hi j hj=>?_⟩⟩
 obtain rfl:j=0:=by omega
 rw [List.length_map] at hi
 rw [cell_of_block hg,List.getElem_map,Nat.mul_one,Nat.add_zero,h i _ (List.getElem?_eq_getElem hi)]
 rfl
theorem rlit {w:World} {g:Nat} {l:List Int} {n:Nat} {T:TypeId} {C:Array Value} (hg:w.heap[g]?=some (.cells C T (0,0))) (hC:C=(l.map (Value.int .i64)).toArray) (hn:l.length=n) (h255:n≤255):RowAt w 1 (.slice (some ⟨g,0,none⟩) n n) (l.map intC):=by
 subst hn hC
 refine rpart hg 0 l.length l (Nat.le_refl _) h255 fun i n h=>?_
 simp [h]
theorem rfits_lit (k:Nat) (K:Int) (hK:(k=1∧K=1)∨(k=2∧K=2)) (w:World) (g n:Nat) (l:List Int) (T:TypeId) (hg:w.heap[g]?=some (.cells (l.map (Value.int .i64)).toArray T (0,0))) (hn:l.length=n) (h255:n≤255) (hI:∀ x∈l,I64 x) :
 Calls Tryz.prog 45 #[.int .i64 K,.slice (some ⟨g,0,none⟩) n n] w fun e w'=>e=.returned (.bool (allFit k l))∧Later w w':=by
 have h:=rlit hg rfl hn h255
 rcases hK with ⟨rfl,rfl⟩ | ⟨rfl,rfl⟩
 ·exact rfits_any w 1 (.inl rfl) _ l h hI
 ·exact rfits_any w 2 (.inr rfl) _ l h hI
theorem rnums_row (k:Nat) (K:Int) (hK:(k=1∧K=1)∨(k=2∧K=2)) (w:World) (v:Value) (l:List Int) (h:RowAt w 1 v (l.map intC)) (h255:l.length≤255) (hI:∀ x∈l,I64 x) :
 Calls Tryz.prog 46 #[.int .i64 K,v] w fun e w'=>e=.returned (.string (numsS k l))∧Later w w':=by
 rcases hK with ⟨rfl,rfl⟩ | ⟨rfl,rfl⟩
 ·exact rnums_any w 1 (.inl rfl) _ l h hI (by omega)
 ·exact rnums_any w 2 (.inr rfl) _ l h hI (by omega)
theorem rnums_lit (k:Nat) (K:Int) (hK:(k=1∧K=1)∨(k=2∧K=2)) (w:World) (g n:Nat) (l:List Int) (T:TypeId) (hg:w.heap[g]?=some (.cells (l.map (Value.int .i64)).toArray T (0,0))) (hn:l.length=n) (h255:n≤255) (hI:∀ x∈l,I64 x) :
 Calls Tryz.prog 46 #[.int .i64 K,.slice (some ⟨g,0,none⟩) n n] w fun e w'=>e=.returned (.string (numsS k l))∧Later w w':=
 rnums_row k K hK w _ l (rlit hg rfl hn h255) (by omega) hI
theorem eb_size {α:Type} (p:Lays α) (m k:Nat) (hm:∀ x,(p.b x).length≤m) (l:List α) (hl:l.length*k≤140737488355328) (hk:1≤k) (S:ByteArray) (B:Nat) (hS:S.size≤B) (j:Nat):(S++bytesOf (eachB p (l.take j))).size≤B+140737488355328*m:=by
 have h1:=eachB_len p m hm (l.take j)
 have h2:l.length≤l.length*k:=Nat.le_mul_of_pos_right _ hk
 have h4:(l.take j).length≤l.length:=by rw [List.length_take];omega
 have h3:(l.take j).length*m≤140737488355328*m:=Nat.mul_le_mul_right _ (by omega)
 rw [ByteArray.size_append,show (bytesOf (eachB p (l.take j))).size=(eachB p (l.take j)).length by show (eachB p (l.take j)).toArray.size=_;simp]
 omega
theorem eb_step {α:Type} (p:Lays α) (l:List α) (S:ByteArray) (j:Nat) (hj:j<l.length):S++bytesOf (eachB p (l.take (j+1)))=(S++bytesOf (eachB p (l.take j)))++bytesOf (p.b l[j]):=by
 rw [take_succ_snoc hj,eachB_snoc,ofB,ba_assoc]
theorem ok_step {α:Type} (p:Lays α) (l:List α) (b:Bool) (j:Nat) (hj:j<l.length):(b&&eachOK p (l.take (j+1)))=((b&&eachOK p (l.take j))&&p.ok l[j]):=by
 rw [take_succ_snoc hj,eachOK_snoc,Bool.and_assoc]
theorem ru_b (S:ByteArray) (a b c:Int) (x y:ByteArray):S++bytesOf (ruP.b ⟨a,b,c,x,y⟩)=S++(numsS 1 [a,b,c]++textS x++textS y):=by
 rw [ba_assoc,show bytesOf (ruP.b ⟨a,b,c,x,y⟩)=bytesOf (numsB 1 [a,b,c]++(textB x++textB y)) from rfl,ofB,ofB]
 rfl
def U0 (c:Cfg):ByteArray:=magicS++numsS 1 [c.levels,(c.flows.length:Int)]
def E0 (c:Cfg):ByteArray:=U0 c++bytesOf (eachB flowP c.flows)
def U1 (c:Cfg):ByteArray:=E0 c++numsS 1 [(c.parts.length:Int)]
def E1 (c:Cfg):ByteArray:=U1 c++bytesOf (eachB partP c.parts)
def U2 (c:Cfg):ByteArray:=E1 c++numsS 1 [(c.windows.length:Int)]
def E2 (c:Cfg):ByteArray:=U2 c++bytesOf (eachB winP c.windows)
def U3 (c:Cfg):ByteArray:=E2 c++numsS 1 [(c.ports.length:Int)]
def E3 (c:Cfg):ByteArray:=U3 c++bytesOf (eachB porP c.ports)
def U4 (c:Cfg):ByteArray:=E3 c++numsS 1 [(c.volumes.length:Int)]
def E4 (c:Cfg):ByteArray:=U4 c++bytesOf (eachB volP c.volumes)
def U5 (c:Cfg):ByteArray:=E4 c++(numsS 2 [c.audit.first,c.audit.count,c.audit.journal,c.boot,c.sectors]++numsS 1 [(c.rules.length:Int)])
def E5 (c:Cfg):ByteArray:=U5 c++bytesOf (eachB ruP c.rules)
def U6 (c:Cfg):ByteArray:=E5 c++numsS 1 [(c.keys.length:Int)]
def E6 (c:Cfg):ByteArray:=U6 c++bytesOf (eachB keyP c.keys)
def U7 (c:Cfg):ByteArray:=(E6 c++textS c.login)++numsS 2 [c.recovery,c.bound]
theorem U_all (c:Cfg):U7 c=bytesOf c.bytes:=by
 refine baExt ?_
 simp only [U7,E6,U6,E5,U5,E4,U4,E3,U3,E2,U2,E1,U1,E0,U0,baApp,List.append_assoc]
 simp only [numsS,bytesOf,Cfg.bytes,listB,numsB,textS,magicS,magic,List.append_assoc,List.append_nil,List.nil_append,List.cons_append]
theorem u0 (c:Cfg) (h:FewC c):(U0 c).size≤6:=by unfold U0;rw [ByteArray.size_append,numsS_size];exact Nat.le_refl 6
theorem e0 (c:Cfg) (h:FewC c) (j:Nat):(U0 c++bytesOf (eachB flowP (c.flows.take j))).size≤562949953421318:=eb_size flowP 4 2 flow_len c.flows h.flows (by omega) _ _ (u0 c h) j
theorem e0f (c:Cfg) (h:FewC c):(E0 c).size≤562949953421318:=by have:=e0 c h c.flows.length;rwa [List.take_length] at this
theorem u1 (c:Cfg) (h:FewC c):(U1 c).size≤562949953421329:=by have:=e0f c h;unfold U1;simp only [ByteArray.size_append,numsS_size,List.length_cons,List.length_nil];omega
theorem e1 (c:Cfg) (h:FewC c) (j:Nat):(U1 c++bytesOf (eachB partP (c.parts.take j))).size≤1125899906842641:=eb_size partP 4 2 part_len c.parts h.parts (by omega) _ _ (u1 c h) j
theorem e1f (c:Cfg) (h:FewC c):(E1 c).size≤1125899906842641:=by have:=e1 c h c.parts.length;rwa [List.take_length] at this
theorem u2 (c:Cfg) (h:FewC c):(U2 c).size≤1125899906842652:=by have:=e1f c h;unfold U2;simp only [ByteArray.size_append,numsS_size,List.length_cons,List.length_nil];omega
theorem e2 (c:Cfg) (h:FewC c) (j:Nat):(U2 c++bytesOf (eachB winP (c.windows.take j))).size≤1970324836974620:=eb_size winP 6 3 win_len c.windows h.windows (by omega) _ _ (u2 c h) j
theorem e2f (c:Cfg) (h:FewC c):(E2 c).size≤1970324836974620:=by have:=e2 c h c.windows.length;rwa [List.take_length] at this
theorem u3 (c:Cfg) (h:FewC c):(U3 c).size≤1970324836974631:=by have:=e2f c h;unfold U3;simp only [ByteArray.size_append,numsS_size,List.length_cons,List.length_nil];omega
theorem e3 (c:Cfg) (h:FewC c) (j:Nat):(U3 c++bytesOf (eachB porP (c.ports.take j))).size≤3377699720527911:=eb_size porP 10 5 por_len c.ports h.ports (by omega) _ _ (u3 c h) j
theorem e3f (c:Cfg) (h:FewC c):(E3 c).size≤3377699720527911:=by have:=e3 c h c.ports.length;rwa [List.take_length] at this
theorem u4 (c:Cfg) (h:FewC c):(U4 c).size≤3377699720527922:=by have:=e3f c h;unfold U4;simp only [ByteArray.size_append,numsS_size,List.length_cons,List.length_nil];omega
theorem e4 (c:Cfg) (h:FewC c) (j:Nat):(U4 c++bytesOf (eachB volP (c.volumes.take j))).size≤4785074604081202:=eb_size volP 10 4 vol_len c.volumes h.volumes (by omega) _ _ (u4 c h) j
theorem e4f (c:Cfg) (h:FewC c):(E4 c).size≤4785074604081202:=by have:=e4 c h c.volumes.length;rwa [List.take_length] at this
theorem u5 (c:Cfg) (h:FewC c):(U5 c).size≤4785074604081213:=by have:=e4f c h;unfold U5;simp only [ByteArray.size_append,numsS_size,List.length_cons,List.length_nil];omega
theorem e5 (c:Cfg) (h:FewC c) (j:Nat):(U5 c++bytesOf (eachB ruP (c.rules.take j))).size≤296111675499610173:=eb_size ruP 2070 5 ru_len c.rules h.rules (by omega) _ _ (u5 c h) j
theorem e5f (c:Cfg) (h:FewC c):(E5 c).size≤296111675499610173:=by have:=e5 c h c.rules.length;rwa [List.take_length] at this
theorem u6 (c:Cfg) (h:FewC c):(U6 c).size≤296111675499610184:=by have:=e5f c h;unfold U6;simp only [ByteArray.size_append,numsS_size,List.length_cons,List.length_nil];omega
theorem e6 (c:Cfg) (h:FewC c) (j:Nat):(U6 c++bytesOf (eachB keyP (c.keys.take j))).size≤441071288505598024:=eb_size keyP 1030 1 key_len c.keys h.keys (by omega) _ _ (u6 c h) j
theorem e6f (c:Cfg) (h:FewC c):(E6 c).size≤441071288505598024:=by have:=e6 c h c.keys.length;rwa [List.take_length] at this
theorem laid_doc (c:Cfg):((((((((((allFit 1 [c.levels,(c.flows.length:Int),(c.parts.length:Int),(c.windows.length:Int),(c.ports.length:Int),(c.volumes.length:Int),(c.rules.length:Int),(c.keys.length:Int)]&&allFit 2 [c.audit.first,c.audit.count,c.audit.journal,c.boot,c.sectors,c.recovery,c.bound])&&decide (c.audit.level=0))&&eachOK flowP c.flows)&&eachOK partP c.parts)&&eachOK winP c.windows)&&eachOK porP c.ports)&&eachOK volP c.volumes)&&eachOK ruP c.rules)&&eachOK keyP c.keys)&&textOK c.login)=c.laid:=by
 rw [Bool.eq_iff_iff]
 simp only [Cfg.laid,listOK,allFit,Bool.and_eq_true,Bool.and_true,and_true,decide_eq_true_eq,and_assoc]
 constructor
 ·rintro ⟨a0,a1,a2,a3,a4,a5,a6,a7,b1,b2,b3,b4,b5,b6,b7,d,f1,f2,f3,f4,f5,f6,f7,t⟩
  exact⟨a0,a1,f1,a2,f2,a3,f3,a4,f4,a5,f5,b1,b2,b3,b4,b5,a6,f6,a7,f7,t,b6,b7,d⟩
 ·rintro ⟨a0,a1,f1,a2,f2,a3,f3,a4,f4,a5,f5,b1,b2,b3,b4,b5,a6,f6,a7,f7,t,b6,b7,d⟩
  exact⟨a0,a1,a2,a3,a4,a5,a6,a7,b1,b2,b3,b4,b5,b6,b7,d,f1,f2,f3,f4,f5,f6,f7,t⟩
set_option maxRecDepth 100000 in
set_option maxHeartbeats 16000000 in
theorem rprint_core (w:World) (C:Array Value) (c:Cfg) (vF vP vW vO vV vR vK:Value) (hC:C=#[.int .i64 c.levels,vF,vP,vW,vO,vV,.int .i64 c.audit.level,.int .i64 c.audit.first,.int .i64 c.audit.count,.int .i64 c.audit.journal,.int .i64 c.boot,.int .i64 c.sectors,vR,vK,.string c.login,.int .i64 c.recovery,.int .i64 c.bound]) (hr1:RowAt w 2 vF (c.flows.map flowC)) (hr2:RowAt w 2 vP (c.parts.map partC)) (hr3:RowAt w 3 vW (c.windows.map winC)) (hr4:RowAt w 5 vO (c.ports.map porC)) (hr5:RowAt w 4 vV (c.volumes.map volC)) (hr6:RowAt w 5 vR (c.rules.map ruC)) (hr7:RowAt w 1 vK (c.keys.map keyC)) (hI:CfgI c) (hF:FewC c) :
 Calls Tryz.prog 16 #[.agg C] w fun e w'=>e=.returned (.tuple #[.string (printS c),.int .i64 (printE c)])∧Later w w':=by
 obtain ⟨aF,pF,rfl,g01,g02,g03⟩:=row_val hr1
 obtain ⟨aP,pP,rfl,g11,g12,g13⟩:=row_val hr2
 obtain ⟨aW,pW,rfl,g21,g22,g23⟩:=row_val hr3
 obtain ⟨aO,pO,rfl,g31,g32,g33⟩:=row_val hr4
 obtain ⟨aV,pV,rfl,g41,g42,g43⟩:=row_val hr5
 obtain ⟨aR,pR,rfl,g51,g52,g53⟩:=row_val hr6
 obtain ⟨aK,pK,rfl,g61,g62,g63⟩:=row_val hr7
 obtain ⟨nF,hnF⟩:∃ n,c.flows.length=n:=⟨_,rfl⟩
 rw [hnF] at hC g01 g03
 obtain ⟨nP,hnP⟩:∃ n,c.parts.length=n:=⟨_,rfl⟩
 rw [hnP] at hC g11 g13
 obtain ⟨nW,hnW⟩:∃ n,c.windows.length=n:=⟨_,rfl⟩
 rw [hnW] at hC g21 g23
 obtain ⟨nO,hnO⟩:∃ n,c.ports.length=n:=⟨_,rfl⟩
 rw [hnO] at hC g31 g33
 obtain ⟨nV,hnV⟩:∃ n,c.volumes.length=n:=⟨_,rfl⟩
 rw [hnV] at hC g41 g43
 obtain ⟨nR,hnR⟩:∃ n,c.rules.length=n:=⟨_,rfl⟩
 rw [hnR] at hC g51 g53
 obtain ⟨nK,hnK⟩:∃ n,c.keys.length=n:=⟨_,rfl⟩
 rw [hnK] at hC g61 g63
 subst hC
 obtain ⟨p,hp⟩:∃ p,w.heap.size=p:=⟨_,rfl⟩
 obtain ⟨w1,hw1⟩:∃ w1,w.alloc (.cells #[.int .i64 c.levels,.slice aF nF pF,.slice aP nP pP,.slice aW nW pW,.slice aO nO pO,.slice aV nV pV,.int .i64 c.audit.level,.int .i64 c.audit.first,.int .i64 c.audit.count,.int .i64 c.audit.journal,.int .i64 c.boot,.int .i64 c.sectors,.slice aR nR pR,.slice aK nK pK,.string c.login,.int .i64 c.recovery,.int .i64 c.bound] 32)=w1:=⟨_,rfl⟩
 have hl1:Later w w1:=by rw [←hw1];exact (Later.refl w).alloc _
 have hb1:w1.heap[p]?=some (.cells #[.int .i64 c.levels,.slice aF nF pF,.slice aP nP pP,.slice aW nW pW,.slice aO nO pO,.slice aV nV pV,.int .i64 c.audit.level,.int .i64 c.audit.first,.int .i64 c.audit.count,.int .i64 c.audit.journal,.int .i64 c.boot,.int .i64 c.sectors,.slice aR nR pR,.slice aK nK pK,.string c.login,.int .i64 c.recovery,.int .i64 c.bound] 32 (0,0)):=by rw [←hw1,←hp];exact alloc_block w _
 have HB:=Lib.hid (fun (w':World) (h:Later w1 w')=>h.block hb1)
 have HLW:=Lib.hid (fun (w':World) (h:Later w1 w')=>hl1.trans h)
 have HRF:=Lib.hid (fun (w':World) (h:Later w1 w')=>(show RowAt w' 2 (.slice aF nF pF) (c.flows.map flowC) by rw [←hnF];exact hr1.later (hl1.trans h)))
 have HNF:=Lib.hid hnF
 have HRP:=Lib.hid (fun (w':World) (h:Later w1 w')=>(show RowAt w' 2 (.slice aP nP pP) (c.parts.map partC) by rw [←hnP];exact hr2.later (hl1.trans h)))
 have HNP:=Lib.hid hnP
 have HRW:=Lib.hid (fun (w':World) (h:Later w1 w')=>(show RowAt w' 3 (.slice aW nW pW) (c.windows.map winC) by rw [←hnW];exact hr3.later (hl1.trans h)))
 have HNW:=Lib.hid hnW
 have HRO:=Lib.hid (fun (w':World) (h:Later w1 w')=>(show RowAt w' 5 (.slice aO nO pO) (c.ports.map porC) by rw [←hnO];exact hr4.later (hl1.trans h)))
 have HNO:=Lib.hid hnO
 have HRV:=Lib.hid (fun (w':World) (h:Later w1 w')=>(show RowAt w' 4 (.slice aV nV pV) (c.volumes.map volC) by rw [←hnV];exact hr5.later (hl1.trans h)))
 have HNV:=Lib.hid hnV
 have HRR:=Lib.hid (fun (w':World) (h:Later w1 w')=>(show RowAt w' 5 (.slice aR nR pR) (c.rules.map ruC) by rw [←hnR];exact hr6.later (hl1.trans h)))
 have HNR:=Lib.hid hnR
 have HRK:=Lib.hid (fun (w':World) (h:Later w1 w')=>(show RowAt w' 1 (.slice aK nK pK) (c.keys.map keyC) by rw [←hnK];exact hr7.later (hl1.trans h)))
 have HNK:=Lib.hid hnK
 have HI8:Hid (∀x∈[c.levels,(c.flows.length:Int),(c.parts.length:Int),(c.windows.length:Int),(c.ports.length:Int),(c.volumes.length:Int),(c.rules.length:Int),(c.keys.length:Int)],I64 x):=Lib.hid (by
  intro x hx
  simp only [List.mem_cons,List.not_mem_nil,or_false,hnF,hnP,hnW,hnO,hnV,hnR,hnK] at hx
  rcases hx with rfl | rfl | rfl | rfl | rfl | rfl | rfl | rfl
  ·exact hI.levels
  all_goals exact⟨by omega,by omega⟩)
 have HI7:Hid (∀x∈[c.audit.first,c.audit.count,c.audit.journal,c.boot,c.sectors,c.recovery,c.bound],I64 x):=Lib.hid (by
  intro x hx
  simp only [List.mem_cons,List.not_mem_nil,or_false] at hx
  rcases hx with rfl | rfl | rfl | rfl | rfl | rfl | rfl
  ·exact hI.audit.2 _ (by simp)
  ·exact hI.audit.2 _ (by simp)
  ·exact hI.audit.2 _ (by simp)
  ·exact hI.boot
  ·exact hI.sectors
  ·exact hI.recovery
  ·exact hI.bound)
 have HII:=Lib.hid hI
 have HFF:=Lib.hid hF
 have HN1F:Hid (∀x∈[(nF:Int)],I64 x):=Lib.hid (by intro x hx;rw [List.mem_singleton.1 hx];exact⟨by omega,by omega⟩)
 have HN1P:Hid (∀x∈[(nP:Int)],I64 x):=Lib.hid (by intro x hx;rw [List.mem_singleton.1 hx];exact⟨by omega,by omega⟩)
 have HN1W:Hid (∀x∈[(nW:Int)],I64 x):=Lib.hid (by intro x hx;rw [List.mem_singleton.1 hx];exact⟨by omega,by omega⟩)
 have HN1O:Hid (∀x∈[(nO:Int)],I64 x):=Lib.hid (by intro x hx;rw [List.mem_singleton.1 hx];exact⟨by omega,by omega⟩)
 have HN1V:Hid (∀x∈[(nV:Int)],I64 x):=Lib.hid (by intro x hx;rw [List.mem_singleton.1 hx];exact⟨by omega,by omega⟩)
 have HN1R:Hid (∀x∈[(nR:Int)],I64 x):=Lib.hid (by intro x hx;rw [List.mem_singleton.1 hx];exact⟨by omega,by omega⟩)
 have HN1K:Hid (∀x∈[(nK:Int)],I64 x):=Lib.hid (by intro x hx;rw [List.mem_singleton.1 hx];exact⟨by omega,by omega⟩)
 obtain ⟨PT,hPT⟩:∃ PT,(fun (e:Ending) (w':World)=>e=.returned (.tuple #[.string (printS c),.int .i64 (printE c)])∧Later w w')=PT:=⟨_,rfl⟩
 rw [hPT]
 have HPT:=Lib.hid hPT
 have HW1:=Lib.hid hw1
 have HP:=Lib.hid hp
 obtain ⟨k0,hk0⟩:∃ k,((allFit 1 [c.levels,(c.flows.length:Int),(c.parts.length:Int),(c.windows.length:Int),(c.ports.length:Int),(c.volumes.length:Int),(c.rules.length:Int),(c.keys.length:Int)]&&allFit 2 [c.audit.first,c.audit.count,c.audit.journal,c.boot,c.sectors,c.recovery,c.bound])&&decide (c.audit.level=0))=k:=⟨_,rfl⟩
 have HK0:=Lib.hid hk0
 clear hPT hw1 hp hb1 hl1 hI hF hk0 hr1 hr2 hr3 hr4 hr5 hr6 hr7 hnF hnP hnW hnO hnV hnR hnK g01 g02 g11 g12 g21 g22 g31 g32 g41 g42 g51 g52 g61 g62
 have HF8:=Lib.hid HI8.out
 rw [HNF.out,HNP.out,HNW.out,HNO.out,HNV.out,HNR.out,HNK.out] at HF8
 have HC8:=Lib.hid (fun (w':World) (g:Nat) (hg:w'.heap[g]?=some (.cells #[.int .i64 c.levels,.int .i64 (nF:Int),.int .i64 (nP:Int),.int .i64 (nW:Int),.int .i64 (nO:Int),.int .i64 (nV:Int),.int .i64 (nR:Int),.int .i64 (nK:Int)] 3 (0,0)))=>(show Calls Tryz.prog 45 #[.int .i64 1,.slice (some ⟨g,0,none⟩) 8 8] w' (fun e w2=>e=.returned (.bool (allFit 1 [c.levels,(nF:Int),(nP:Int),(nW:Int),(nO:Int),(nV:Int),(nR:Int),(nK:Int)]))∧Later w' w2) from rfits_lit 1 1 (by decide) w' g 8 [c.levels,(nF:Int),(nP:Int),(nW:Int),(nO:Int),(nV:Int),(nR:Int),(nK:Int)] _ hg rfl (by decide) HF8.out))
 have HC7:=Lib.hid (fun (w':World) (g:Nat) (hg:w'.heap[g]?=some (.cells #[.int .i64 c.audit.first,.int .i64 c.audit.count,.int .i64 c.audit.journal,.int .i64 c.boot,.int .i64 c.sectors,.int .i64 c.recovery,.int .i64 c.bound] 3 (0,0)))=>(show Calls Tryz.prog 45 #[.int .i64 2,.slice (some ⟨g,0,none⟩) 7 7] w' (fun e w2=>e=.returned (.bool (allFit 2 [c.audit.first,c.audit.count,c.audit.journal,c.boot,c.sectors,c.recovery,c.bound]))∧Later w' w2) from rfits_lit 2 2 (by decide) w' g 7 [c.audit.first,c.audit.count,c.audit.journal,c.boot,c.sectors,c.recovery,c.bound] _ hg rfl (by decide) HI7.out))
 have HC2:=Lib.hid (fun (w':World) (g:Nat) (hg:w'.heap[g]?=some (.cells #[.int .i64 c.levels,.int .i64 (nF:Int)] 3 (0,0)))=>(show Calls Tryz.prog 46 #[.int .i64 1,.slice (some ⟨g,0,none⟩) 2 2] w' (fun e w2=>e=.returned (.string (numsS 1 [c.levels,(nF:Int)]))∧Later w' w2) from rnums_lit 1 1 (by decide) w' g 2 [c.levels,(nF:Int)] _ hg rfl (by decide) (fun x hx=>HF8.out x (by simp only [List.mem_cons,List.not_mem_nil,or_false] at hx ⊢;rcases hx with h | h;exact .inl h;exact .inr (.inl h)))))
 obtain ⟨b8,hb8⟩:∃ b,allFit 1 [c.levels,(nF:Int),(nP:Int),(nW:Int),(nO:Int),(nV:Int),(nR:Int),(nK:Int)]=b:=⟨_,rfl⟩
 obtain ⟨b7,hb7⟩:∃ b,allFit 2 [c.audit.first,c.audit.count,c.audit.journal,c.boot,c.sectors,c.recovery,c.bound]=b:=⟨_,rfl⟩
 rw [hb8] at HC8
 rw [hb7] at HC7
 have HB87:=Lib.hid (show (b8&&b7&&decide (c.audit.level=0))=k0 by rw [←HK0.out,HNF.out,HNP.out,HNW.out,HNO.out,HNV.out,HNR.out,HNK.out,hb8,hb7])
 obtain ⟨N0,hN0⟩:∃ s,numsS 1 [c.levels,(nF:Int)]=s:=⟨_,rfl⟩
 rw [hN0] at HC2
 have HU0:=Lib.hid (show (⟨#[67,83,84,49]⟩:ByteArray)++N0=U0 c by unfold U0;rw [HNF.out,hN0];rfl)
 have hs0:N0.size=2:=by rw [←hN0,numsS_size];rfl
 have hc0:¬ 9223372036854775807<(⟨#[67,83,84,49]⟩:ByteArray).size+N0.size:=by rw [show (⟨#[67,83,84,49]⟩:ByteArray).size=4 from rfl];omega
 clear hb8 hb7 hN0 hs0
 go_enter Tryz.func16,Tryz.ntmps16
 go_upto_region 1 with fail
 rw [HP.out,HW1.out]
 have r1:=Later.refl w1
 have kb0:=cell_of_block (HB.out _ r1) 0
 have kb1:=cell_of_block (HB.out _ r1) 1
 have kb2:=cell_of_block (HB.out _ r1) 2
 have kb3:=cell_of_block (HB.out _ r1) 3
 have kb4:=cell_of_block (HB.out _ r1) 4
 have kb5:=cell_of_block (HB.out _ r1) 5
 have kb6:=cell_of_block (HB.out _ r1) 6
 have kb7:=cell_of_block (HB.out _ r1) 7
 have kb8:=cell_of_block (HB.out _ r1) 8
 have kb9:=cell_of_block (HB.out _ r1) 9
 have kb10:=cell_of_block (HB.out _ r1) 10
 have kb11:=cell_of_block (HB.out _ r1) 11
 have kb12:=cell_of_block (HB.out _ r1) 12
 have kb13:=cell_of_block (HB.out _ r1) 13
 have kb14:=cell_of_block (HB.out _ r1) 14
 have kb15:=cell_of_block (HB.out _ r1) 15
 have kb16:=cell_of_block (HB.out _ r1) 16
 go_upto_region 2 with (first
  | (go_at_call 45;(with_reducible refine (HC8.out _ _ (alloc_block _ _)).mono ?_);rintro e w2 ⟨rfl,hl2⟩)
  | fail)
 have r2:Later w1 w2:=(by repeat (first | assumption | exact Later.refl _ | refine Later.drew ?_ | refine Later.alloc ?_ _ | refine Later.trans ?_ (by assumption)))
 clear kb0 kb1 kb2 kb3 kb4 kb5 kb6 kb7 kb8 kb9 kb10 kb11 kb12 kb13 kb14 kb15 kb16 hl2 r1
 have kb0:=cell_of_block (HB.out _ r2) 0
 have kb1:=cell_of_block (HB.out _ r2) 1
 have kb2:=cell_of_block (HB.out _ r2) 2
 have kb3:=cell_of_block (HB.out _ r2) 3
 have kb4:=cell_of_block (HB.out _ r2) 4
 have kb5:=cell_of_block (HB.out _ r2) 5
 have kb6:=cell_of_block (HB.out _ r2) 6
 have kb7:=cell_of_block (HB.out _ r2) 7
 have kb8:=cell_of_block (HB.out _ r2) 8
 have kb9:=cell_of_block (HB.out _ r2) 9
 have kb10:=cell_of_block (HB.out _ r2) 10
 have kb11:=cell_of_block (HB.out _ r2) 11
 have kb12:=cell_of_block (HB.out _ r2) 12
 have kb13:=cell_of_block (HB.out _ r2) 13
 have kb14:=cell_of_block (HB.out _ r2) 14
 have kb15:=cell_of_block (HB.out _ r2) 15
 have kb16:=cell_of_block (HB.out _ r2) 16
 go_upto_region 3 with fail
 clear kb0 kb1 kb2 kb3 kb4 kb5 kb6 kb7 kb8 kb9 kb10 kb11 kb12 kb13 kb14 kb15 kb16
 obtain ⟨ga,hga⟩:∃ g,w2.heap.size=g:=⟨_,rfl⟩
 obtain ⟨w3,hw3⟩:∃ x,w2.alloc (.cells #[.int .i64 c.audit.first,.int .i64 c.audit.count,.int .i64 c.audit.journal,.int .i64 c.boot,.int .i64 c.sectors,.int .i64 c.recovery,.int .i64 c.bound] 3)=x:=⟨_,rfl⟩
 rw [hga,hw3]
 have ha3:w3.heap[ga]?=some (.cells #[.int .i64 c.audit.first,.int .i64 c.audit.count,.int .i64 c.audit.journal,.int .i64 c.boot,.int .i64 c.sectors,.int .i64 c.recovery,.int .i64 c.bound] 3 (0,0)):=by rw [←hw3];exact alloc_at hga
 have r3:Later w1 w3:=by rw [←hw3];exact r2.alloc _
 clear hw3 hga r2
 have kb6:=cell_of_block (HB.out _ r3) 6
 go_cut [4] from 74 to 84 (fun v wx=>v=.bool k0∧Later w3 wx)
 case first=>
  cases b8
  ·go_wp2_with fail
   go_meet
   case rel=>exact⟨by rw [←HB87.out];rfl,Later.refl _⟩
  ·cases b7
   ·go_wp2_with (first
     | (go_at_call 45;(with_reducible refine (HC7.out _ _ ha3).mono ?_);rintro e w4 ⟨rfl,hl4⟩;have kc6:=hl4.cell kb6)
     | fail)
    go_meet
    case rel=>exact⟨by rw [←HB87.out];rfl,hl4⟩
   ·go_wp2_with (first
     | (go_at_call 45;(with_reducible refine (HC7.out _ _ ha3).mono ?_);rintro e w4 ⟨rfl,hl4⟩;have kc6:=hl4.cell kb6)
     | fail)
    go_meet
    case rel=>exact⟨by rw [←HB87.out];simp only [Bool.true_and];congr 1,hl4⟩
 case rest=>
  obtain ⟨rfl,hl4⟩:=hcut
  obtain ⟨w4,hw4⟩:∃ x,wc=x:=⟨_,rfl⟩
  rw [hw4] at hl4 ⊢
  have r4:Later w1 w4:=r3.trans hl4
  have HA3:=Lib.hid (fun (w':World) (h:Later w4 w')=>(hl4.trans h).block ha3)
  clear hw4 ha3 hl4 r3 kb6
  have kb0:=cell_of_block (HB.out _ r4) 0
  have kb1:=cell_of_block (HB.out _ r4) 1
  go_wp2_with (first
   | (go_at_call 46;(with_reducible refine (HC2.out _ _ (alloc_block _ _)).mono ?_);rintro e w5 ⟨rfl,hl5⟩)
   | fail)
  rw [HU0.out]
  have r5:Later w4 w5:=(by repeat (first | assumption | exact Later.refl _ | refine Later.drew ?_ | refine Later.alloc ?_ _ | refine Later.trans ?_ (by assumption)))
  have HL4:=Lib.hid r4
  clear kb0 kb1 hl5 hc0 r4
  have hk0:=HK0.out
  obtain ⟨T0,hT0⟩:∃ T,U0 c=T:=⟨_,rfl⟩
  have HT0:=Lib.hid hT0
  rw [hT0]
  clear hT0 hk0
  go_loopw [4,6,7] (fun vok vs vi wr=>∃ j:Nat,j≤nF∧vok=.bool (k0&&eachOK flowP (c.flows.take j))∧vs=.string (T0++bytesOf (eachB flowP (c.flows.take j)))∧vi=.int .i64 (j:Int)∧Later w4 wr) (fun _ _ vi _=>nF - (intOf vi).toNat)
  case atStart=>exact⟨0,by omega,by simp [eachOK],by simp only [List.take_zero,eachB];rw [show bytesOf []=(⟨#[]⟩:ByteArray) from rfl,ba_empty],rfl,r5⟩
  case round=>
   clear r5
   obtain ⟨j,hj,rfl,rfl,rfl,hl⟩:=hrel
   have hlw:=HL4.out.trans hl
   have hrow:=HRF.out _ hlw
   have kb:=cell_of_block (HB.out _ hlw) 1
   by_cases hlt:j<nF
   ·as_aux_lemma=>
     obtain ⟨b,o,hao,hb',hcc⟩:=row_at hrow (show j<c.flows.length by rw [HNF.out];exact hlt)
     have HOK:=Lib.hid (ok_step flowP c.flows k0 j (by rw [HNF.out];exact hlt))
     have HST:=Lib.hid (eb_step flowP c.flows T0 j (by rw [HNF.out];exact hlt))
     have hxi:=HII.out.flows (c.flows[j]'(by rw [HNF.out];exact hlt)) (List.getElem_mem _)
     have hsz:=e0 c HFF.out j
     rw [HT0.out] at hsz
     obtain ⟨x,hx⟩:∃ x,c.flows[j]'(by rw [HNF.out];exact hlt)=x:=⟨_,rfl⟩
     rw [hx] at hcc HOK HST hxi
     rw [hao] at kb
     clear hx hao hrow hb'
     obtain ⟨bk,hbk⟩:∃ b,(k0&&eachOK flowP (c.flows.take j))=b:=⟨_,rfl⟩
     obtain ⟨S,hS⟩:∃ S,T0++bytesOf (eachB flowP (c.flows.take j))=S:=⟨_,rfl⟩
     rw [hbk] at HOK ⊢
     rw [hS] at HST hsz ⊢
     clear hbk hS
     obtain ⟨x0,x1⟩:=x
     have e0:=hcc 0 (by omega)
     have e1:=hcc 1 (by omega)
     simp only [flowC,List.getElem?_cons_zero,List.getElem?_cons_succ,Nat.add_zero] at e0 e1
     clear hcc
     have HCF:=Lib.hid (fun (w':World) (g:Nat) (hg:w'.heap[g]?=some (.cells #[.int .i64 x0,.int .i64 x1] 3 (0,0)))=>(show Calls Tryz.prog 45 #[.int .i64 1,.slice (some ⟨g,0,none⟩) 2 2] w' (fun e w2=>e=.returned (.bool (allFit 1 [x0,x1]))∧Later w' w2) from rfits_lit 1 1 (by decide) w' g 2 [x0,x1] _ hg rfl (by decide) hxi))
     have HCN:=Lib.hid (fun (w':World) (g:Nat) (hg:w'.heap[g]?=some (.cells #[.int .i64 x0,.int .i64 x1] 3 (0,0)))=>(show Calls Tryz.prog 46 #[.int .i64 1,.slice (some ⟨g,0,none⟩) 2 2] w' (fun e w2=>e=.returned (.string (numsS 1 [x0,x1]))∧Later w' w2) from rnums_lit 1 1 (by decide) w' g 2 [x0,x1] _ hg rfl (by decide) hxi))
     obtain ⟨f1,hf1⟩:∃ b,allFit 1 [x0,x1]=b:=⟨_,rfl⟩
     obtain ⟨N1,hN1⟩:∃ s,numsS 1 [x0,x1]=s:=⟨_,rfl⟩
     have HOK2:=Lib.hid (show (k0&&eachOK flowP (c.flows.take (j+1)))=(bk&&f1) by rw [HOK.out,←hf1];rfl)
     have HST2:=Lib.hid (show T0++bytesOf (eachB flowP (c.flows.take (j+1)))=S++N1 by rw [HST.out,←hN1];rfl)
     rw [hf1] at HCF
     rw [hN1] at HCN
     have hs1:N1.size=2:=by rw [←hN1,numsS_size];rfl
     have hcat:¬ 9223372036854775807<S.size+N1.size:=by omega
     clear hxi hf1 hN1 HOK HST hs1 hsz
     go_upto_region 8 with fail
     go_still_tail 12,(by kernel_rfl)
     change wpList _ _ _ _ _ wr.drew
     have kd:wr.drew.cell? ⟨p,1,none⟩=_:=kb
     have ed0:wr.drew.cell? _=_:=e0
     have ed1:wr.drew.cell? _=_:=e1
     obtain ⟨wd,hwd⟩:∃ x,wr.drew=x:=⟨_,rfl⟩
     have hld:Later w4 wd:=by rw [←hwd];exact hl.drew
     rw [hwd] at kd ed0 ed1 ⊢
     clear hwd kb hl hlw e0 e1
     go_upto_region 9 with fail
     clear kd ed0 ed1
     obtain ⟨gl,hgl⟩:∃ g,wd.heap.size=g:=⟨_,rfl⟩
     obtain ⟨wl,hwl⟩:∃ y,wd.alloc (.cells #[.int .i64 x0,.int .i64 x1] 3)=y:=⟨_,rfl⟩
     rw [hgl,hwl]
     have hbl:wl.heap[gl]?=some (.cells #[.int .i64 x0,.int .i64 x1] 3 (0,0)):=by rw [←hwl];exact alloc_at hgl
     have hl:Later w4 wl:=by rw [←hwl];exact hld.alloc _
     clear hwl hgl hld
     cases bk
     ·go_wp2_with (first
       | (go_at_call 46;(with_reducible refine (HCN.out _ _ hbl).mono ?_);rintro e wn ⟨rfl,hln⟩)
       | fail)
      exact⟨⟨j+1,by omega,by rw [HOK2.out];rfl,by rw [HST2.out],by simp,(by repeat (first | assumption | exact Later.refl _ | refine Later.drew ?_ | refine Later.alloc ?_ _ | refine Later.trans ?_ (by assumption)))⟩,by simp only [intOf];omega⟩
     ·go_wp2_with (first
       | (go_at_call 45;(with_reducible refine (HCF.out _ _ hbl).mono ?_);rintro e wm ⟨rfl,hlm⟩;have hbm:=hlm.block hbl)
       | (go_at_call 46;(with_reducible refine (HCN.out _ _ hbm).mono ?_);rintro e wn ⟨rfl,hln⟩)
       | fail)
      exact⟨⟨j+1,by omega,by rw [HOK2.out];rfl,by rw [HST2.out],by simp,(by repeat (first | assumption | exact Later.refl _ | refine Later.drew ?_ | refine Later.alloc ?_ _ | refine Later.trans ?_ (by assumption)))⟩,by simp only [intOf];omega⟩
   ·obtain rfl:j=nF:=by omega
    have hall:c.flows.take j=c.flows:=List.take_of_length_le (by rw [HNF.out];exact Nat.le_refl _)
    rw [hall]
    obtain ⟨k1,hk1⟩:∃ b,(k0&&eachOK flowP c.flows)=b:=⟨_,rfl⟩
    have HK1:=Lib.hid hk1
    rw [hk1]
    obtain ⟨D0,hD0⟩:∃ T,E0 c=T:=⟨_,rfl⟩
    have hde:T0++bytesOf (eachB flowP c.flows)=D0:=by rw [←hD0,←HT0.out];rfl
    have hsz:=e0f c HFF.out
    rw [hD0] at hsz
    have HD0:=Lib.hid hD0
    rw [hde]
    clear hall hk1 hD0 hde hrow hlt
    have kb2:=cell_of_block (HB.out _ hlw) 2
    have HC1:=Lib.hid (fun (w':World) (g:Nat) (hg:w'.heap[g]?=some (.cells #[.int .i64 (nP:Int)] 3 (0,0)))=>(show Calls Tryz.prog 46 #[.int .i64 1,.slice (some ⟨g,0,none⟩) 1 1] w' (fun e w2=>e=.returned (.string (numsS 1 [(nP:Int)]))∧Later w' w2) from rnums_lit 1 1 (by decide) w' g 1 [(nP:Int)] _ hg rfl (by decide) HN1P.out))
    obtain ⟨N1,hN1⟩:∃ s,numsS 1 [(nP:Int)]=s:=⟨_,rfl⟩
    rw [hN1] at HC1
    have hs1:N1.size=1:=by rw [←hN1,numsS_size];rfl
    have hcat:¬ 9223372036854775807<D0.size+N1.size:=by omega
    have hu:D0++N1=U1 c:=by unfold U1;rw [HD0.out,HNP.out,hN1]
    obtain ⟨T1,hT1⟩:∃ T,U1 c=T:=⟨_,rfl⟩
    rw [hT1] at hu
    have HU:=Lib.hid hu
    have HT1:=Lib.hid hT1
    clear hN1 hs1 hu hT1 hsz
    obtain ⟨wa,hwa⟩:∃ x,wr=x:=⟨_,rfl⟩
    rw [hwa] at hl hlw kb kb2 ⊢
    clear hwa
    go_wp2_with (first
     | (go_at_call 46;(with_reducible refine (HC1.out _ _ (alloc_block _ _)).mono ?_);rintro e w5 ⟨rfl,hl5⟩)
     | fail)
    rw [HU.out]
    have r5:Later w4 w5:=(by repeat (first | assumption | exact Later.refl _ | refine Later.drew ?_ | refine Later.alloc ?_ _ | refine Later.trans ?_ (by assumption)))
    clear kb kb2 hl5 hcat HU HC1 hlw hl HD0
    go_loopw [4,6,9] (fun vok vs vi wr=>∃ j:Nat,j≤nP∧vok=.bool (k1&&eachOK partP (c.parts.take j))∧vs=.string (T1++bytesOf (eachB partP (c.parts.take j)))∧vi=.int .i64 (j:Int)∧Later w4 wr) (fun _ _ vi _=>nP - (intOf vi).toNat)
    case atStart=>exact⟨0,by omega,by simp [eachOK],by simp only [List.take_zero,eachB];rw [show bytesOf []=(⟨#[]⟩:ByteArray) from rfl,ba_empty],rfl,r5⟩
    case round=>
     clear r5
     obtain ⟨j,hj,rfl,rfl,rfl,hl⟩:=hrel
     have hlw:=HL4.out.trans hl
     have hrow:=HRP.out _ hlw
     have kb:=cell_of_block (HB.out _ hlw) 2
     by_cases hlt:j<nP
     ·as_aux_lemma=>
       obtain ⟨b,o,hao,hb',hcc⟩:=row_at hrow (show j<c.parts.length by rw [HNP.out];exact hlt)
       have HOK:=Lib.hid (ok_step partP c.parts k1 j (by rw [HNP.out];exact hlt))
       have HST:=Lib.hid (eb_step partP c.parts T1 j (by rw [HNP.out];exact hlt))
       have hxi:=HII.out.parts (c.parts[j]'(by rw [HNP.out];exact hlt)) (List.getElem_mem _)
       have hsz:=e1 c HFF.out j
       rw [HT1.out] at hsz
       obtain ⟨x,hx⟩:∃ x,c.parts[j]'(by rw [HNP.out];exact hlt)=x:=⟨_,rfl⟩
       rw [hx] at hcc HOK HST hxi
       rw [hao] at kb
       clear hx hao hrow hb'
       obtain ⟨bk,hbk⟩:∃ b,(k1&&eachOK partP (c.parts.take j))=b:=⟨_,rfl⟩
       obtain ⟨S,hS⟩:∃ S,T1++bytesOf (eachB partP (c.parts.take j))=S:=⟨_,rfl⟩
       rw [hbk] at HOK ⊢
       rw [hS] at HST hsz ⊢
       clear hbk hS
       obtain ⟨x0,x1⟩:=x
       have e0:=hcc 0 (by omega)
       have e1:=hcc 1 (by omega)
       simp only [partC,List.getElem?_cons_zero,List.getElem?_cons_succ,Nat.add_zero] at e0 e1
       clear hcc
       have HCF:=Lib.hid (fun (w':World) (g:Nat) (hg:w'.heap[g]?=some (.cells #[.int .i64 x0,.int .i64 x1] 3 (0,0)))=>(show Calls Tryz.prog 45 #[.int .i64 1,.slice (some ⟨g,0,none⟩) 2 2] w' (fun e w2=>e=.returned (.bool (allFit 1 [x0,x1]))∧Later w' w2) from rfits_lit 1 1 (by decide) w' g 2 [x0,x1] _ hg rfl (by decide) hxi))
       have HCN:=Lib.hid (fun (w':World) (g:Nat) (hg:w'.heap[g]?=some (.cells #[.int .i64 x0,.int .i64 x1] 3 (0,0)))=>(show Calls Tryz.prog 46 #[.int .i64 1,.slice (some ⟨g,0,none⟩) 2 2] w' (fun e w2=>e=.returned (.string (numsS 1 [x0,x1]))∧Later w' w2) from rnums_lit 1 1 (by decide) w' g 2 [x0,x1] _ hg rfl (by decide) hxi))
       obtain ⟨f1,hf1⟩:∃ b,allFit 1 [x0,x1]=b:=⟨_,rfl⟩
       obtain ⟨N1,hN1⟩:∃ s,numsS 1 [x0,x1]=s:=⟨_,rfl⟩
       have HOK2:=Lib.hid (show (k1&&eachOK partP (c.parts.take (j+1)))=(bk&&f1) by rw [HOK.out,←hf1];rfl)
       have HST2:=Lib.hid (show T1++bytesOf (eachB partP (c.parts.take (j+1)))=S++N1 by rw [HST.out,←hN1];rfl)
       rw [hf1] at HCF
       rw [hN1] at HCN
       have hs1:N1.size=2:=by rw [←hN1,numsS_size];rfl
       have hcat:¬ 9223372036854775807<S.size+N1.size:=by omega
       clear hxi hf1 hN1 HOK HST hs1 hsz
       go_upto_region 15 with fail
       go_still_tail 12,(by kernel_rfl)
       change wpList _ _ _ _ _ wr.drew
       have kd:wr.drew.cell? ⟨p,2,none⟩=_:=kb
       have ed0:wr.drew.cell? _=_:=e0
       have ed1:wr.drew.cell? _=_:=e1
       obtain ⟨wd,hwd⟩:∃ x,wr.drew=x:=⟨_,rfl⟩
       have hld:Later w4 wd:=by rw [←hwd];exact hl.drew
       rw [hwd] at kd ed0 ed1 ⊢
       clear hwd kb hl hlw e0 e1
       go_upto_region 16 with fail
       clear kd ed0 ed1
       obtain ⟨gl,hgl⟩:∃ g,wd.heap.size=g:=⟨_,rfl⟩
       obtain ⟨wl,hwl⟩:∃ y,wd.alloc (.cells #[.int .i64 x0,.int .i64 x1] 3)=y:=⟨_,rfl⟩
       rw [hgl,hwl]
       have hbl:wl.heap[gl]?=some (.cells #[.int .i64 x0,.int .i64 x1] 3 (0,0)):=by rw [←hwl];exact alloc_at hgl
       have hl:Later w4 wl:=by rw [←hwl];exact hld.alloc _
       clear hwl hgl hld
       cases bk
       ·go_wp2_with (first
         | (go_at_call 46;(with_reducible refine (HCN.out _ _ hbl).mono ?_);rintro e wn ⟨rfl,hln⟩)
         | fail)
        exact⟨⟨j+1,by omega,by rw [HOK2.out];rfl,by rw [HST2.out],by simp,(by repeat (first | assumption | exact Later.refl _ | refine Later.drew ?_ | refine Later.alloc ?_ _ | refine Later.trans ?_ (by assumption)))⟩,by simp only [intOf];omega⟩
       ·go_wp2_with (first
         | (go_at_call 45;(with_reducible refine (HCF.out _ _ hbl).mono ?_);rintro e wm ⟨rfl,hlm⟩;have hbm:=hlm.block hbl)
         | (go_at_call 46;(with_reducible refine (HCN.out _ _ hbm).mono ?_);rintro e wn ⟨rfl,hln⟩)
         | fail)
        exact⟨⟨j+1,by omega,by rw [HOK2.out];rfl,by rw [HST2.out],by simp,(by repeat (first | assumption | exact Later.refl _ | refine Later.drew ?_ | refine Later.alloc ?_ _ | refine Later.trans ?_ (by assumption)))⟩,by simp only [intOf];omega⟩
     ·obtain rfl:j=nP:=by omega
      have hall:c.parts.take j=c.parts:=List.take_of_length_le (by rw [HNP.out];exact Nat.le_refl _)
      rw [hall]
      obtain ⟨k2,hk2⟩:∃ b,(k1&&eachOK partP c.parts)=b:=⟨_,rfl⟩
      have HK2:=Lib.hid hk2
      rw [hk2]
      obtain ⟨D1,hD1⟩:∃ T,E1 c=T:=⟨_,rfl⟩
      have hde:T1++bytesOf (eachB partP c.parts)=D1:=by rw [←hD1,←HT1.out];rfl
      have hsz:=e1f c HFF.out
      rw [hD1] at hsz
      have HD1:=Lib.hid hD1
      rw [hde]
      clear hall hk2 hD1 hde hrow hlt
      have kb2:=cell_of_block (HB.out _ hlw) 3
      have HC1:=Lib.hid (fun (w':World) (g:Nat) (hg:w'.heap[g]?=some (.cells #[.int .i64 (nW:Int)] 3 (0,0)))=>(show Calls Tryz.prog 46 #[.int .i64 1,.slice (some ⟨g,0,none⟩) 1 1] w' (fun e w2=>e=.returned (.string (numsS 1 [(nW:Int)]))∧Later w' w2) from rnums_lit 1 1 (by decide) w' g 1 [(nW:Int)] _ hg rfl (by decide) HN1W.out))
      obtain ⟨N1,hN1⟩:∃ s,numsS 1 [(nW:Int)]=s:=⟨_,rfl⟩
      rw [hN1] at HC1
      have hs1:N1.size=1:=by rw [←hN1,numsS_size];rfl
      have hcat:¬ 9223372036854775807<D1.size+N1.size:=by omega
      have hu:D1++N1=U2 c:=by unfold U2;rw [HD1.out,HNW.out,hN1]
      obtain ⟨T2,hT2⟩:∃ T,U2 c=T:=⟨_,rfl⟩
      rw [hT2] at hu
      have HU:=Lib.hid hu
      have HT2:=Lib.hid hT2
      clear hN1 hs1 hu hT2 hsz
      obtain ⟨wa,hwa⟩:∃ x,wr=x:=⟨_,rfl⟩
      rw [hwa] at hl hlw kb kb2 ⊢
      clear hwa
      go_wp2_with (first
       | (go_at_call 46;(with_reducible refine (HC1.out _ _ (alloc_block _ _)).mono ?_);rintro e w5 ⟨rfl,hl5⟩)
       | fail)
      rw [HU.out]
      have r5:Later w4 w5:=(by repeat (first | assumption | exact Later.refl _ | refine Later.drew ?_ | refine Later.alloc ?_ _ | refine Later.trans ?_ (by assumption)))
      clear kb kb2 hl5 hcat HU HC1 hlw hl HD1
      go_loopw [4,6,11] (fun vok vs vi wr=>∃ j:Nat,j≤nW∧vok=.bool (k2&&eachOK winP (c.windows.take j))∧vs=.string (T2++bytesOf (eachB winP (c.windows.take j)))∧vi=.int .i64 (j:Int)∧Later w4 wr) (fun _ _ vi _=>nW - (intOf vi).toNat)
      case atStart=>exact⟨0,by omega,by simp [eachOK],by simp only [List.take_zero,eachB];rw [show bytesOf []=(⟨#[]⟩:ByteArray) from rfl,ba_empty],rfl,r5⟩
      case round=>
       clear r5
       obtain ⟨j,hj,rfl,rfl,rfl,hl⟩:=hrel
       have hlw:=HL4.out.trans hl
       have hrow:=HRW.out _ hlw
       have kb:=cell_of_block (HB.out _ hlw) 3
       by_cases hlt:j<nW
       ·obtain ⟨b,o,hao,hb',hcc⟩:=row_at hrow (show j<c.windows.length by rw [HNW.out];exact hlt)
        have HOK:=Lib.hid (ok_step winP c.windows k2 j (by rw [HNW.out];exact hlt))
        have HST:=Lib.hid (eb_step winP c.windows T2 j (by rw [HNW.out];exact hlt))
        have hxi:=HII.out.windows (c.windows[j]'(by rw [HNW.out];exact hlt)) (List.getElem_mem _)
        have hsz:=e2 c HFF.out j
        rw [HT2.out] at hsz
        obtain ⟨x,hx⟩:∃ x,c.windows[j]'(by rw [HNW.out];exact hlt)=x:=⟨_,rfl⟩
        rw [hx] at hcc HOK HST hxi
        rw [hao] at kb
        clear hx hao hrow hb'
        obtain ⟨bk,hbk⟩:∃ b,(k2&&eachOK winP (c.windows.take j))=b:=⟨_,rfl⟩
        obtain ⟨S,hS⟩:∃ S,T2++bytesOf (eachB winP (c.windows.take j))=S:=⟨_,rfl⟩
        rw [hbk] at HOK ⊢
        rw [hS] at HST hsz ⊢
        clear hbk hS
        obtain ⟨x0,x1,x2⟩:=x
        have e0:=hcc 0 (by omega)
        have e1:=hcc 1 (by omega)
        have e2:=hcc 2 (by omega)
        simp only [winC,List.getElem?_cons_zero,List.getElem?_cons_succ,Nat.add_zero] at e0 e1 e2
        clear hcc
        have HCF:=Lib.hid (fun (w':World) (g:Nat) (hg:w'.heap[g]?=some (.cells #[.int .i64 x0,.int .i64 x1,.int .i64 x2] 3 (0,0)))=>(show Calls Tryz.prog 45 #[.int .i64 1,.slice (some ⟨g,0,none⟩) 3 3] w' (fun e w2=>e=.returned (.bool (allFit 1 [x0,x1,x2]))∧Later w' w2) from rfits_lit 1 1 (by decide) w' g 3 [x0,x1,x2] _ hg rfl (by decide) hxi))
        have HCN:=Lib.hid (fun (w':World) (g:Nat) (hg:w'.heap[g]?=some (.cells #[.int .i64 x0,.int .i64 x1,.int .i64 x2] 3 (0,0)))=>(show Calls Tryz.prog 46 #[.int .i64 1,.slice (some ⟨g,0,none⟩) 3 3] w' (fun e w2=>e=.returned (.string (numsS 1 [x0,x1,x2]))∧Later w' w2) from rnums_lit 1 1 (by decide) w' g 3 [x0,x1,x2] _ hg rfl (by decide) hxi))
        obtain ⟨f1,hf1⟩:∃ b,allFit 1 [x0,x1,x2]=b:=⟨_,rfl⟩
        obtain ⟨N1,hN1⟩:∃ s,numsS 1 [x0,x1,x2]=s:=⟨_,rfl⟩
        have HOK2:=Lib.hid (show (k2&&eachOK winP (c.windows.take (j+1)))=(bk&&f1) by rw [HOK.out,←hf1];rfl)
        have HST2:=Lib.hid (show T2++bytesOf (eachB winP (c.windows.take (j+1)))=S++N1 by rw [HST.out,←hN1];rfl)
        rw [hf1] at HCF
        rw [hN1] at HCN
        have hs1:N1.size=3:=by rw [←hN1,numsS_size];rfl
        have hcat:¬ 9223372036854775807<S.size+N1.size:=by omega
        clear hxi hf1 hN1 HOK HST hs1 hsz
        go_upto_region 22 with fail
        go_still_tail 18,(by kernel_rfl)
        change wpList _ _ _ _ _ wr.drew
        have kd:wr.drew.cell? ⟨p,3,none⟩=_:=kb
        have ed0:wr.drew.cell? _=_:=e0
        have ed1:wr.drew.cell? _=_:=e1
        have ed2:wr.drew.cell? _=_:=e2
        obtain ⟨wd,hwd⟩:∃ x,wr.drew=x:=⟨_,rfl⟩
        have hld:Later w4 wd:=by rw [←hwd];exact hl.drew
        rw [hwd] at kd ed0 ed1 ed2 ⊢
        clear hwd kb hl hlw e0 e1 e2
        go_upto_region 23 with fail
        clear kd ed0 ed1 ed2
        obtain ⟨gl,hgl⟩:∃ g,wd.heap.size=g:=⟨_,rfl⟩
        obtain ⟨wl,hwl⟩:∃ y,wd.alloc (.cells #[.int .i64 x0,.int .i64 x1,.int .i64 x2] 3)=y:=⟨_,rfl⟩
        rw [hgl,hwl]
        have hbl:wl.heap[gl]?=some (.cells #[.int .i64 x0,.int .i64 x1,.int .i64 x2] 3 (0,0)):=by rw [←hwl];exact alloc_at hgl
        have hl:Later w4 wl:=by rw [←hwl];exact hld.alloc _
        clear hwl hgl hld
        cases bk
        ·go_wp2_with (first
          | (go_at_call 46;(with_reducible refine (HCN.out _ _ hbl).mono ?_);rintro e wn ⟨rfl,hln⟩)
          | fail)
         exact⟨⟨j+1,by omega,by rw [HOK2.out];rfl,by rw [HST2.out],by simp,(by repeat (first | assumption | exact Later.refl _ | refine Later.drew ?_ | refine Later.alloc ?_ _ | refine Later.trans ?_ (by assumption)))⟩,by simp only [intOf];omega⟩
        ·go_wp2_with (first
          | (go_at_call 45;(with_reducible refine (HCF.out _ _ hbl).mono ?_);rintro e wm ⟨rfl,hlm⟩;have hbm:=hlm.block hbl)
          | (go_at_call 46;(with_reducible refine (HCN.out _ _ hbm).mono ?_);rintro e wn ⟨rfl,hln⟩)
          | fail)
         exact⟨⟨j+1,by omega,by rw [HOK2.out];rfl,by rw [HST2.out],by simp,(by repeat (first | assumption | exact Later.refl _ | refine Later.drew ?_ | refine Later.alloc ?_ _ | refine Later.trans ?_ (by assumption)))⟩,by simp only [intOf];omega⟩
       ·obtain rfl:j=nW:=by omega
        have hall:c.windows.take j=c.windows:=List.take_of_length_le (by rw [HNW.out];exact Nat.le_refl _)
        rw [hall]
        obtain ⟨k3,hk3⟩:∃ b,(k2&&eachOK winP c.windows)=b:=⟨_,rfl⟩
        have HK3:=Lib.hid hk3
        rw [hk3]
        obtain ⟨D2,hD2⟩:∃ T,E2 c=T:=⟨_,rfl⟩
        have hde:T2++bytesOf (eachB winP c.windows)=D2:=by rw [←hD2,←HT2.out];rfl
        have hsz:=e2f c HFF.out
        rw [hD2] at hsz
        have HD2:=Lib.hid hD2
        rw [hde]
        clear hall hk3 hD2 hde hrow hlt
        have kb2:=cell_of_block (HB.out _ hlw) 4
        have HC1:=Lib.hid (fun (w':World) (g:Nat) (hg:w'.heap[g]?=some (.cells #[.int .i64 (nO:Int)] 3 (0,0)))=>(show Calls Tryz.prog 46 #[.int .i64 1,.slice (some ⟨g,0,none⟩) 1 1] w' (fun e w2=>e=.returned (.string (numsS 1 [(nO:Int)]))∧Later w' w2) from rnums_lit 1 1 (by decide) w' g 1 [(nO:Int)] _ hg rfl (by decide) HN1O.out))
        obtain ⟨N1,hN1⟩:∃ s,numsS 1 [(nO:Int)]=s:=⟨_,rfl⟩
        rw [hN1] at HC1
        have hs1:N1.size=1:=by rw [←hN1,numsS_size];rfl
        have hcat:¬ 9223372036854775807<D2.size+N1.size:=by omega
        have hu:D2++N1=U3 c:=by unfold U3;rw [HD2.out,HNO.out,hN1]
        obtain ⟨T3,hT3⟩:∃ T,U3 c=T:=⟨_,rfl⟩
        rw [hT3] at hu
        have HU:=Lib.hid hu
        have HT3:=Lib.hid hT3
        clear hN1 hs1 hu hT3 hsz
        obtain ⟨wa,hwa⟩:∃ x,wr=x:=⟨_,rfl⟩
        rw [hwa] at hl hlw kb kb2 ⊢
        clear hwa
        go_wp2_with (first
         | (go_at_call 46;(with_reducible refine (HC1.out _ _ (alloc_block _ _)).mono ?_);rintro e w5 ⟨rfl,hl5⟩)
         | fail)
        rw [HU.out]
        have r5:Later w4 w5:=(by repeat (first | assumption | exact Later.refl _ | refine Later.drew ?_ | refine Later.alloc ?_ _ | refine Later.trans ?_ (by assumption)))
        clear kb kb2 hl5 hcat HU HC1 hlw hl HD2
        go_loopw [4,6,13] (fun vok vs vi wr=>∃ j:Nat,j≤nO∧vok=.bool (k3&&eachOK porP (c.ports.take j))∧vs=.string (T3++bytesOf (eachB porP (c.ports.take j)))∧vi=.int .i64 (j:Int)∧Later w4 wr) (fun _ _ vi _=>nO - (intOf vi).toNat)
        case atStart=>exact⟨0,by omega,by simp [eachOK],by simp only [List.take_zero,eachB];rw [show bytesOf []=(⟨#[]⟩:ByteArray) from rfl,ba_empty],rfl,r5⟩
        case round=>
         clear r5
         obtain ⟨j,hj,rfl,rfl,rfl,hl⟩:=hrel
         have hlw:=HL4.out.trans hl
         have hrow:=HRO.out _ hlw
         have kb:=cell_of_block (HB.out _ hlw) 4
         by_cases hlt:j<nO
         ·obtain ⟨b,o,hao,hb',hcc⟩:=row_at hrow (show j<c.ports.length by rw [HNO.out];exact hlt)
          have HOK:=Lib.hid (ok_step porP c.ports k3 j (by rw [HNO.out];exact hlt))
          have HST:=Lib.hid (eb_step porP c.ports T3 j (by rw [HNO.out];exact hlt))
          have hxi:=HII.out.ports (c.ports[j]'(by rw [HNO.out];exact hlt)) (List.getElem_mem _)
          have hsz:=e3 c HFF.out j
          rw [HT3.out] at hsz
          obtain ⟨x,hx⟩:∃ x,c.ports[j]'(by rw [HNO.out];exact hlt)=x:=⟨_,rfl⟩
          rw [hx] at hcc HOK HST hxi
          rw [hao] at kb
          clear hx hao hrow hb'
          obtain ⟨bk,hbk⟩:∃ b,(k3&&eachOK porP (c.ports.take j))=b:=⟨_,rfl⟩
          obtain ⟨S,hS⟩:∃ S,T3++bytesOf (eachB porP (c.ports.take j))=S:=⟨_,rfl⟩
          rw [hbk] at HOK ⊢
          rw [hS] at HST hsz ⊢
          clear hbk hS
          obtain ⟨x0,x1,x2,x3,x4⟩:=x
          have e0:=hcc 0 (by omega)
          have e1:=hcc 1 (by omega)
          have e2:=hcc 2 (by omega)
          have e3:=hcc 3 (by omega)
          have e4:=hcc 4 (by omega)
          simp only [porC,List.getElem?_cons_zero,List.getElem?_cons_succ,Nat.add_zero] at e0 e1 e2 e3 e4
          clear hcc
          have HCF:=Lib.hid (fun (w':World) (g:Nat) (hg:w'.heap[g]?=some (.cells #[.int .i64 x0,.int .i64 x1,.int .i64 x2,.int .i64 x3,.int .i64 x4] 3 (0,0)))=>(show Calls Tryz.prog 45 #[.int .i64 1,.slice (some ⟨g,0,none⟩) 5 5] w' (fun e w2=>e=.returned (.bool (allFit 1 [x0,x1,x2,x3,x4]))∧Later w' w2) from rfits_lit 1 1 (by decide) w' g 5 [x0,x1,x2,x3,x4] _ hg rfl (by decide) hxi))
          have HCN:=Lib.hid (fun (w':World) (g:Nat) (hg:w'.heap[g]?=some (.cells #[.int .i64 x0,.int .i64 x1,.int .i64 x2,.int .i64 x3,.int .i64 x4] 3 (0,0)))=>(show Calls Tryz.prog 46 #[.int .i64 1,.slice (some ⟨g,0,none⟩) 5 5] w' (fun e w2=>e=.returned (.string (numsS 1 [x0,x1,x2,x3,x4]))∧Later w' w2) from rnums_lit 1 1 (by decide) w' g 5 [x0,x1,x2,x3,x4] _ hg rfl (by decide) hxi))
          obtain ⟨f1,hf1⟩:∃ b,allFit 1 [x0,x1,x2,x3,x4]=b:=⟨_,rfl⟩
          obtain ⟨N1,hN1⟩:∃ s,numsS 1 [x0,x1,x2,x3,x4]=s:=⟨_,rfl⟩
          have HOK2:=Lib.hid (show (k3&&eachOK porP (c.ports.take (j+1)))=(bk&&f1) by rw [HOK.out,←hf1];rfl)
          have HST2:=Lib.hid (show T3++bytesOf (eachB porP (c.ports.take (j+1)))=S++N1 by rw [HST.out,←hN1];rfl)
          rw [hf1] at HCF
          rw [hN1] at HCN
          have hs1:N1.size=5:=by rw [←hN1,numsS_size];rfl
          have hcat:¬ 9223372036854775807<S.size+N1.size:=by omega
          clear hxi hf1 hN1 HOK HST hs1 hsz
          go_upto_region 30 with fail
          clear e0
          clear e1
          clear e2
          clear e3
          clear e4
          clear kb hlw
          obtain ⟨bx,hbx⟩:∃ g,wr.heap.size=g:=⟨_,rfl⟩
          obtain ⟨wy,hwy⟩:∃ y,wr.alloc (.cells #[.int .i64 x0,.int .i64 x1,.int .i64 x2,.int .i64 x3,.int .i64 x4] 51)=y:=⟨_,rfl⟩
          rw [hbx,hwy]
          have hby:wy.heap[bx]?=some (.cells #[.int .i64 x0,.int .i64 x1,.int .i64 x2,.int .i64 x3,.int .i64 x4] 51 (0,0)):=by rw [←hwy];exact alloc_at hbx
          have hly:Later w4 wy:=by rw [←hwy];exact hl.alloc _
          clear hwy hbx hl
          have q0:=cell_of_block hby 0
          have q1:=cell_of_block hby 1
          have q2:=cell_of_block hby 2
          have q3:=cell_of_block hby 3
          have q4:=cell_of_block hby 4
          go_upto_region 31 with fail
          clear q0 q1 q2 q3 q4
          obtain ⟨gl,hgl⟩:∃ g,wy.heap.size=g:=⟨_,rfl⟩
          obtain ⟨wl,hwl⟩:∃ y,wy.alloc (.cells #[.int .i64 x0,.int .i64 x1,.int .i64 x2,.int .i64 x3,.int .i64 x4] 3)=y:=⟨_,rfl⟩
          rw [hgl,hwl]
          have hbl:wl.heap[gl]?=some (.cells #[.int .i64 x0,.int .i64 x1,.int .i64 x2,.int .i64 x3,.int .i64 x4] 3 (0,0)):=by rw [←hwl];exact alloc_at hgl
          have hl:Later w4 wl:=by rw [←hwl];exact hly.alloc _
          clear hwl hgl hly hby
          cases bk
          ·go_wp2_with (first
            | (go_at_call 46;(with_reducible refine (HCN.out _ _ hbl).mono ?_);rintro e wn ⟨rfl,hln⟩)
            | fail)
           exact⟨⟨j+1,by omega,by rw [HOK2.out];rfl,by rw [HST2.out],by simp,(by repeat (first | assumption | exact Later.refl _ | refine Later.drew ?_ | refine Later.alloc ?_ _ | refine Later.trans ?_ (by assumption)))⟩,by simp only [intOf];omega⟩
          ·go_wp2_with (first
            | (go_at_call 45;(with_reducible refine (HCF.out _ _ hbl).mono ?_);rintro e wm ⟨rfl,hlm⟩;have hbm:=hlm.block hbl)
            | (go_at_call 46;(with_reducible refine (HCN.out _ _ hbm).mono ?_);rintro e wn ⟨rfl,hln⟩)
            | fail)
           exact⟨⟨j+1,by omega,by rw [HOK2.out];rfl,by rw [HST2.out],by simp,(by repeat (first | assumption | exact Later.refl _ | refine Later.drew ?_ | refine Later.alloc ?_ _ | refine Later.trans ?_ (by assumption)))⟩,by simp only [intOf];omega⟩
         ·obtain rfl:j=nO:=by omega
          have hall:c.ports.take j=c.ports:=List.take_of_length_le (by rw [HNO.out];exact Nat.le_refl _)
          rw [hall]
          obtain ⟨k4,hk4⟩:∃ b,(k3&&eachOK porP c.ports)=b:=⟨_,rfl⟩
          have HK4:=Lib.hid hk4
          rw [hk4]
          obtain ⟨D3,hD3⟩:∃ T,E3 c=T:=⟨_,rfl⟩
          have hde:T3++bytesOf (eachB porP c.ports)=D3:=by rw [←hD3,←HT3.out];rfl
          have hsz:=e3f c HFF.out
          rw [hD3] at hsz
          have HD3:=Lib.hid hD3
          rw [hde]
          clear hall hk4 hD3 hde hrow hlt
          have kb2:=cell_of_block (HB.out _ hlw) 5
          have HC1:=Lib.hid (fun (w':World) (g:Nat) (hg:w'.heap[g]?=some (.cells #[.int .i64 (nV:Int)] 3 (0,0)))=>(show Calls Tryz.prog 46 #[.int .i64 1,.slice (some ⟨g,0,none⟩) 1 1] w' (fun e w2=>e=.returned (.string (numsS 1 [(nV:Int)]))∧Later w' w2) from rnums_lit 1 1 (by decide) w' g 1 [(nV:Int)] _ hg rfl (by decide) HN1V.out))
          obtain ⟨N1,hN1⟩:∃ s,numsS 1 [(nV:Int)]=s:=⟨_,rfl⟩
          rw [hN1] at HC1
          have hs1:N1.size=1:=by rw [←hN1,numsS_size];rfl
          have hcat:¬ 9223372036854775807<D3.size+N1.size:=by omega
          have hu:D3++N1=U4 c:=by unfold U4;rw [HD3.out,HNV.out,hN1]
          obtain ⟨T4,hT4⟩:∃ T,U4 c=T:=⟨_,rfl⟩
          rw [hT4] at hu
          have HU:=Lib.hid hu
          have HT4:=Lib.hid hT4
          clear hN1 hs1 hu hT4 hsz
          obtain ⟨wa,hwa⟩:∃ x,wr=x:=⟨_,rfl⟩
          rw [hwa] at hl hlw kb kb2 ⊢
          clear hwa
          go_wp2_with (first
           | (go_at_call 46;(with_reducible refine (HC1.out _ _ (alloc_block _ _)).mono ?_);rintro e w5 ⟨rfl,hl5⟩)
           | fail)
          rw [HU.out]
          have r5:Later w4 w5:=(by repeat (first | assumption | exact Later.refl _ | refine Later.drew ?_ | refine Later.alloc ?_ _ | refine Later.trans ?_ (by assumption)))
          clear kb kb2 hl5 hcat HU HC1 hlw hl HD3
          go_loopw [4,6,16] (fun vok vs vi wr=>∃ j:Nat,j≤nV∧vok=.bool (k4&&eachOK volP (c.volumes.take j))∧vs=.string (T4++bytesOf (eachB volP (c.volumes.take j)))∧vi=.int .i64 (j:Int)∧Later w4 wr) (fun _ _ vi _=>nV - (intOf vi).toNat)
          case atStart=>exact⟨0,by omega,by simp [eachOK],by simp only [List.take_zero,eachB];rw [show bytesOf []=(⟨#[]⟩:ByteArray) from rfl,ba_empty],rfl,r5⟩
          case round=>
           clear r5
           obtain ⟨j,hj,rfl,rfl,rfl,hl⟩:=hrel
           have hlw:=HL4.out.trans hl
           have hrow:=HRV.out _ hlw
           have kb:=cell_of_block (HB.out _ hlw) 5
           by_cases hlt:j<nV
           ·as_aux_lemma=>
             obtain ⟨b,o,hao,hb',hcc⟩:=row_at hrow (show j<c.volumes.length by rw [HNV.out];exact hlt)
             have HOK:=Lib.hid (ok_step volP c.volumes k4 j (by rw [HNV.out];exact hlt))
             have HST:=Lib.hid (eb_step volP c.volumes T4 j (by rw [HNV.out];exact hlt))
             have hxi:=HII.out.volumes (c.volumes[j]'(by rw [HNV.out];exact hlt)) (List.getElem_mem _)
             have hsz:=e4 c HFF.out j
             rw [HT4.out] at hsz
             obtain ⟨x,hx⟩:∃ x,c.volumes[j]'(by rw [HNV.out];exact hlt)=x:=⟨_,rfl⟩
             rw [hx] at hcc HOK HST hxi
             rw [hao] at kb
             clear hx hao hrow hb'
             obtain ⟨bk,hbk⟩:∃ b,(k4&&eachOK volP (c.volumes.take j))=b:=⟨_,rfl⟩
             obtain ⟨S,hS⟩:∃ S,T4++bytesOf (eachB volP (c.volumes.take j))=S:=⟨_,rfl⟩
             rw [hbk] at HOK ⊢
             rw [hS] at HST hsz ⊢
             clear hbk hS
             obtain ⟨x0,x1,x2,x3⟩:=x
             have e0:=hcc 0 (by omega)
             have e1:=hcc 1 (by omega)
             have e2:=hcc 2 (by omega)
             have e3:=hcc 3 (by omega)
             simp only [volC,List.getElem?_cons_zero,List.getElem?_cons_succ,Nat.add_zero] at e0 e1 e2 e3
             clear hcc
             have HI1:=Lib.hid hxi.1
             have HI3:=Lib.hid hxi.2
             have HCF1:=Lib.hid (fun (w':World) (g:Nat) (hg:w'.heap[g]?=some (.cells #[.int .i64 x0] 3 (0,0)))=>(show Calls Tryz.prog 45 #[.int .i64 1,.slice (some ⟨g,0,none⟩) 1 1] w' (fun e w2=>e=.returned (.bool (allFit 1 [x0]))∧Later w' w2) from rfits_lit 1 1 (by decide) w' g 1 [x0] _ hg rfl (by decide) HI1.out))
             have HCF2:=Lib.hid (fun (w':World) (g:Nat) (hg:w'.heap[g]?=some (.cells #[.int .i64 x1,.int .i64 x2,.int .i64 x3] 3 (0,0)))=>(show Calls Tryz.prog 45 #[.int .i64 2,.slice (some ⟨g,0,none⟩) 3 3] w' (fun e w2=>e=.returned (.bool (allFit 2 [x1,x2,x3]))∧Later w' w2) from rfits_lit 2 2 (by decide) w' g 3 [x1,x2,x3] _ hg rfl (by decide) HI3.out))
             have HCN1:=Lib.hid (fun (w':World) (g:Nat) (hg:w'.heap[g]?=some (.cells #[.int .i64 x0] 3 (0,0)))=>(show Calls Tryz.prog 46 #[.int .i64 1,.slice (some ⟨g,0,none⟩) 1 1] w' (fun e w2=>e=.returned (.string (numsS 1 [x0]))∧Later w' w2) from rnums_lit 1 1 (by decide) w' g 1 [x0] _ hg rfl (by decide) HI1.out))
             have HCN2:=Lib.hid (fun (w':World) (g:Nat) (hg:w'.heap[g]?=some (.cells #[.int .i64 x1,.int .i64 x2,.int .i64 x3] 3 (0,0)))=>(show Calls Tryz.prog 46 #[.int .i64 2,.slice (some ⟨g,0,none⟩) 3 3] w' (fun e w2=>e=.returned (.string (numsS 2 [x1,x2,x3]))∧Later w' w2) from rnums_lit 2 2 (by decide) w' g 3 [x1,x2,x3] _ hg rfl (by decide) HI3.out))
             obtain ⟨f1,hf1⟩:∃ b,allFit 1 [x0]=b:=⟨_,rfl⟩
             obtain ⟨f2,hf2⟩:∃ b,allFit 2 [x1,x2,x3]=b:=⟨_,rfl⟩
             obtain ⟨N1,hN1⟩:∃ s,numsS 1 [x0]=s:=⟨_,rfl⟩
             obtain ⟨N2,hN2⟩:∃ s,numsS 2 [x1,x2,x3]=s:=⟨_,rfl⟩
             have HOK2:=Lib.hid (show (k4&&eachOK volP (c.volumes.take (j+1)))=(bk&&(f1&&f2)) by rw [HOK.out,←hf1,←hf2];rfl)
             have HST2:=Lib.hid (show T4++bytesOf (eachB volP (c.volumes.take (j+1)))=S++(N1++N2) by rw [HST.out,←hN1,←hN2];unfold numsS;rw [←ofB];rfl)
             rw [hf1] at HCF1
             rw [hf2] at HCF2
             rw [hN1] at HCN1
             rw [hN2] at HCN2
             have hs1:N1.size=1:=by rw [←hN1,numsS_size];rfl
             have hs2:N2.size=6:=by rw [←hN2,numsS_size];rfl
             have hcat1:¬ 9223372036854775807<N1.size+N2.size:=by omega
             have hcat:¬ 9223372036854775807<S.size+(N1++N2).size:=by rw [ByteArray.size_append];omega
             have hcat3:¬ 9223372036854775807<S.size+(N1.size+N2.size):=by omega
             clear hxi hf1 hN1 hf2 hN2 HOK HST hs1 hs2 hsz
             go_upto_region 38 with fail
             clear e0 e1 e2 e3 kb hlw
             obtain ⟨bx,hbx⟩:∃ g,wr.heap.size=g:=⟨_,rfl⟩
             obtain ⟨wy,hwy⟩:∃ y,wr.alloc (.cells #[.int .i64 x0,.int .i64 x1,.int .i64 x2,.int .i64 x3] 28)=y:=⟨_,rfl⟩
             rw [hbx,hwy]
             have hby:wy.heap[bx]?=some (.cells #[.int .i64 x0,.int .i64 x1,.int .i64 x2,.int .i64 x3] 28 (0,0)):=by rw [←hwy];exact alloc_at hbx
             have hly:Later w4 wy:=by rw [←hwy];exact hl.alloc _
             clear hwy hbx hl
             have q0:=cell_of_block hby 0
             have q1:=cell_of_block hby 1
             have q2:=cell_of_block hby 2
             have q3:=cell_of_block hby 3
             go_upto_region 39 with fail
             obtain ⟨gl,hgl⟩:∃ g,wy.heap.size=g:=⟨_,rfl⟩
             obtain ⟨wl,hwl⟩:∃ y,wy.alloc (.cells #[.int .i64 x1,.int .i64 x2,.int .i64 x3] 3)=y:=⟨_,rfl⟩
             rw [hgl,hwl]
             have hbl:wl.heap[gl]?=some (.cells #[.int .i64 x1,.int .i64 x2,.int .i64 x3] 3 (0,0)):=by rw [←hwl];exact alloc_at hgl
             have hwyl:Later wy wl:=by rw [←hwl];exact (Later.refl wy).alloc _
             have hl:Later w4 wl:=hly.trans hwyl
             clear hwl hgl hly hby
             have ql:=(show Later wy wl from ((by repeat (first | assumption | exact Later.refl _ | refine Later.drew ?_ | refine Later.alloc ?_ _ | refine Later.trans ?_ (by assumption))))).cell q0
             clear q0 q1 q2 q3 hwyl
             cases bk
             ·go_wp2_with (first
               | (go_at_call 46;(with_reducible refine (HCN1.out _ _ (alloc_block _ _)).mono ?_);rintro e wo ⟨rfl,hlo⟩;have hbo:=(show Later wl wo from (by repeat (first | assumption | exact Later.refl _ | refine Later.drew ?_ | refine Later.alloc ?_ _ | refine Later.trans ?_ (by assumption)))).block hbl)
               | (go_at_call 46;(with_reducible refine (HCN2.out _ _ hbo).mono ?_);rintro e wp ⟨rfl,hlp⟩)
               | fail)
              exact⟨⟨j+1,by omega,by rw [HOK2.out];rfl,by rw [HST2.out],by simp,(by repeat (first | assumption | exact Later.refl _ | refine Later.drew ?_ | refine Later.alloc ?_ _ | refine Later.trans ?_ (by assumption)))⟩,by simp only [intOf];omega⟩
             ·cases f1
              ·go_wp2_with (first
                | (go_at_call 45;(with_reducible refine (HCF1.out _ _ (alloc_block _ _)).mono ?_);rintro e wm ⟨rfl,hlm⟩;have qm:=(show Later wl wm from (by repeat (first | assumption | exact Later.refl _ | refine Later.drew ?_ | refine Later.alloc ?_ _ | refine Later.trans ?_ (by assumption)))).cell ql)
                | (go_at_call 46;(with_reducible refine (HCN1.out _ _ (alloc_block _ _)).mono ?_);rintro e wo ⟨rfl,hlo⟩;have hbo:=(show Later wl wo from (by repeat (first | assumption | exact Later.refl _ | refine Later.drew ?_ | refine Later.alloc ?_ _ | refine Later.trans ?_ (by assumption)))).block hbl)
                | (go_at_call 46;(with_reducible refine (HCN2.out _ _ hbo).mono ?_);rintro e wp ⟨rfl,hlp⟩)
                | fail)
               exact⟨⟨j+1,by omega,by rw [HOK2.out];rfl,by rw [HST2.out],by simp,(by repeat (first | assumption | exact Later.refl _ | refine Later.drew ?_ | refine Later.alloc ?_ _ | refine Later.trans ?_ (by assumption)))⟩,by simp only [intOf];omega⟩
              ·go_wp2_with (first
                | (go_at_call 45;(with_reducible refine (HCF1.out _ _ (alloc_block _ _)).mono ?_);rintro e wm ⟨rfl,hlm⟩;have hbm:=(show Later wl wm from (by repeat (first | assumption | exact Later.refl _ | refine Later.drew ?_ | refine Later.alloc ?_ _ | refine Later.trans ?_ (by assumption)))).block hbl)
                | (go_at_call 45;(with_reducible refine (HCF2.out _ _ hbm).mono ?_);rintro e wn ⟨rfl,hln⟩;have qm:=(show Later wl wn from (by repeat (first | assumption | exact Later.refl _ | refine Later.drew ?_ | refine Later.alloc ?_ _ | refine Later.trans ?_ (by assumption)))).cell ql)
                | (go_at_call 46;(with_reducible refine (HCN1.out _ _ (alloc_block _ _)).mono ?_);rintro e wo ⟨rfl,hlo⟩;have hbo:=(show Later wl wo from (by repeat (first | assumption | exact Later.refl _ | refine Later.drew ?_ | refine Later.alloc ?_ _ | refine Later.trans ?_ (by assumption)))).block hbl)
                | (go_at_call 46;(with_reducible refine (HCN2.out _ _ hbo).mono ?_);rintro e wp ⟨rfl,hlp⟩)
                | fail)
               exact⟨⟨j+1,by omega,by rw [HOK2.out];rfl,by rw [HST2.out],by simp,(by repeat (first | assumption | exact Later.refl _ | refine Later.drew ?_ | refine Later.alloc ?_ _ | refine Later.trans ?_ (by assumption)))⟩,by simp only [intOf];omega⟩
           ·obtain rfl:j=nV:=by omega
            have hall:c.volumes.take j=c.volumes:=List.take_of_length_le (by rw [HNV.out];exact Nat.le_refl _)
            rw [hall]
            obtain ⟨k5,hk5⟩:∃ b,(k4&&eachOK volP c.volumes)=b:=⟨_,rfl⟩
            have HK5:=Lib.hid hk5
            rw [hk5]
            obtain ⟨D4,hD4⟩:∃ T,E4 c=T:=⟨_,rfl⟩
            have hde:T4++bytesOf (eachB volP c.volumes)=D4:=by rw [←hD4,←HT4.out];rfl
            have hsz:=e4f c HFF.out
            rw [hD4] at hsz
            have HD4:=Lib.hid hD4
            rw [hde]
            clear hall hk5 hD4 hde hrow hlt
            have kb2:=cell_of_block (HB.out _ hlw) 12
            have HC1:=Lib.hid (fun (w':World) (g:Nat) (hg:w'.heap[g]?=some (.cells #[.int .i64 (nR:Int)] 3 (0,0)))=>(show Calls Tryz.prog 46 #[.int .i64 1,.slice (some ⟨g,0,none⟩) 1 1] w' (fun e w2=>e=.returned (.string (numsS 1 [(nR:Int)]))∧Later w' w2) from rnums_lit 1 1 (by decide) w' g 1 [(nR:Int)] _ hg rfl (by decide) HN1R.out))
            have HC5:=Lib.hid (fun (w':World) (h:Later w4 w')=>(show Calls Tryz.prog 46 #[.int .i64 2,.slice (some ⟨ga,0,none⟩) 5 7] w' (fun e w2=>e=.returned (.string (numsS 2 [c.audit.first,c.audit.count,c.audit.journal,c.boot,c.sectors]))∧Later w' w2) from
             rnums_row 2 2 (by decide) w' _ [c.audit.first,c.audit.count,c.audit.journal,c.boot,c.sectors] (rpart (HA3.out _ h) 0 7 [c.audit.first,c.audit.count,c.audit.journal,c.boot,c.sectors] (by simp) (by omega) (by intro i n hi;rcases i with _ | _ | _ | _ | _ | i<;>first | (cases hi;rfl) | cases hi)) (by simp) (fun x hx=>HI7.out x (by simp only [List.mem_cons,List.not_mem_nil,or_false] at hx ⊢;rcases hx with h | h | h | h | h<;>simp [h]))))
            obtain ⟨N1,hN1⟩:∃ s,numsS 1 [(nR:Int)]=s:=⟨_,rfl⟩
            obtain ⟨N5,hN5⟩:∃ s,numsS 2 [c.audit.first,c.audit.count,c.audit.journal,c.boot,c.sectors]=s:=⟨_,rfl⟩
            rw [hN1] at HC1
            rw [hN5] at HC5
            have hs1:N1.size=1:=by rw [←hN1,numsS_size];rfl
            have hs5:N5.size=10:=by rw [←hN5,numsS_size];rfl
            have hcat1:¬ 9223372036854775807<N5.size+N1.size:=by omega
            have hcat:¬ 9223372036854775807<D4.size+(N5++N1).size:=by rw [ByteArray.size_append];omega
            have hcat0:¬ 9223372036854775807<D4.size+(N5.size+N1.size):=by omega
            have hu:D4++(N5++N1)=U5 c:=by unfold U5;rw [HD4.out,HNR.out,hN1,hN5]
            obtain ⟨T5,hT5⟩:∃ T,U5 c=T:=⟨_,rfl⟩
            rw [hT5] at hu
            have HU:=Lib.hid hu
            have HT5:=Lib.hid hT5
            clear hN1 hs1 hN5 hs5 hu hT5 hsz
            obtain ⟨wa,hwa⟩:∃ x,wr=x:=⟨_,rfl⟩
            rw [hwa] at hl hlw kb kb2 ⊢
            clear hwa
            have HLA:=Lib.hid hl
            have HLB:=Lib.hid hlw
            go_upto_region 41 with fail
            go_cut [6] from 285 to 295 (fun v wx=>v=.string T5∧Later wa wx)
            case first=>
             as_aux_lemma=>
              have HSX:=Lib.hid (fun (w':World) (h:Later w4 w')=>(show w'.cell? ⟨p,12,none⟩=some (.slice aR nR pR) from cell_of_block (HB.out w' (HL4.out.trans h)) 12))
              go_region_held3 (fun w'=>w'.cell? ⟨p,12,none⟩=some (.slice aR nR pR)) (exact HSX.out _ (by repeat (first | assumption | exact Later.refl _ | refine Later.drew ?_ | refine Later.alloc ?_ _ | refine Later.trans ?_ (by assumption))))
               (first
                | (go_at_call 46;(with_reducible refine (HC5.out _ (by repeat (first | assumption | exact Later.refl _ | refine Later.drew ?_ | refine Later.alloc ?_ _ | refine Later.trans ?_ (by assumption)))).mono ?_);rintro e wx ⟨rfl,hlx⟩)
                | (go_at_call 46;(with_reducible refine (HC1.out _ _ (by first | exact alloc_block _ _ | exact drew_block (alloc_block _ _) | exact Later.block hlx (alloc_block _ _) | exact Later.block hlx (drew_block (alloc_block _ _)))).mono ?_);rintro e wz ⟨rfl,hlz⟩)
                | fail)
              all_goals
               go_wp2_with fail
               go_meet
               case rel=>exact⟨by rw [HU.out],(by repeat (first | assumption | exact Later.refl _ | refine Later.drew ?_ | refine Later.alloc ?_ _ | refine Later.trans ?_ (by assumption)))⟩
            case rest=>
             obtain ⟨rfl,hl5⟩:=hcut
             obtain ⟨w5,hw5⟩:∃ x,wc=x:=⟨_,rfl⟩
             rw [hw5] at hl5 ⊢
             have r5:Later w4 w5:=HLA.out.trans hl5
             clear hw5 hl5 hcat hcat0 hcat1 HU HC1 HC5 hlw hl HD4 kb kb2 HLA HLB
             go_wp2_with fail
             go_loopw [4,6,19] (fun vok vs vi wr=>∃ j:Nat,j≤nR∧vok=.bool (k5&&eachOK ruP (c.rules.take j))∧vs=.string (T5++bytesOf (eachB ruP (c.rules.take j)))∧vi=.int .i64 (j:Int)∧Later w4 wr) (fun _ _ vi _=>nR - (intOf vi).toNat)
             case atStart=>exact⟨0,by omega,by simp [eachOK],by simp only [List.take_zero,eachB];rw [show bytesOf []=(⟨#[]⟩:ByteArray) from rfl,ba_empty],rfl,r5⟩
             case round=>
              clear r5
              obtain ⟨j,hj,rfl,rfl,rfl,hl⟩:=hrel
              have hlw:=HL4.out.trans hl
              have hrow:=HRR.out _ hlw
              have kb:=cell_of_block (HB.out _ hlw) 12
              by_cases hlt:j<nR
              ·as_aux_lemma=>
                obtain ⟨b,o,hao,hb',hcc⟩:=row_at hrow (show j<c.rules.length by rw [HNR.out];exact hlt)
                have HOK:=Lib.hid (ok_step ruP c.rules k5 j (by rw [HNR.out];exact hlt))
                have HST:=Lib.hid (eb_step ruP c.rules T5 j (by rw [HNR.out];exact hlt))
                have hxi:=HII.out.rules (c.rules[j]'(by rw [HNR.out];exact hlt)) (List.getElem_mem _)
                have hsz:=e5 c HFF.out j
                rw [HT5.out] at hsz
                obtain ⟨x,hx⟩:∃ x,c.rules[j]'(by rw [HNR.out];exact hlt)=x:=⟨_,rfl⟩
                rw [hx] at hcc HOK HST hxi
                rw [hao] at kb
                clear hx hao hrow hb'
                obtain ⟨bk,hbk⟩:∃ b,(k5&&eachOK ruP (c.rules.take j))=b:=⟨_,rfl⟩
                obtain ⟨S,hS⟩:∃ S,T5++bytesOf (eachB ruP (c.rules.take j))=S:=⟨_,rfl⟩
                rw [hbk] at HOK ⊢
                rw [hS] at HST hsz ⊢
                clear hbk hS
                obtain ⟨x0,x1,x2,x3,x4⟩:=x
                have e0:=hcc 0 (by omega)
                have e1:=hcc 1 (by omega)
                have e2:=hcc 2 (by omega)
                have e3:=hcc 3 (by omega)
                have e4:=hcc 4 (by omega)
                simp only [ruC,List.getElem?_cons_zero,List.getElem?_cons_succ,Nat.add_zero] at e0 e1 e2 e3 e4
                clear hcc
                have HI1:=Lib.hid hxi.1
                have HCF:=Lib.hid (fun (w':World) (g:Nat) (hg:w'.heap[g]?=some (.cells #[.int .i64 x0,.int .i64 x1,.int .i64 x2] 3 (0,0)))=>(show Calls Tryz.prog 45 #[.int .i64 1,.slice (some ⟨g,0,none⟩) 3 3] w' (fun e w2=>e=.returned (.bool (allFit 1 [x0,x1,x2]))∧Later w' w2) from rfits_lit 1 1 (by decide) w' g 3 [x0,x1,x2] _ hg rfl (by decide) HI1.out))
                have HCN:=Lib.hid (fun (w':World) (g:Nat) (hg:w'.heap[g]?=some (.cells #[.int .i64 x0,.int .i64 x1,.int .i64 x2] 3 (0,0)))=>(show Calls Tryz.prog 46 #[.int .i64 1,.slice (some ⟨g,0,none⟩) 3 3] w' (fun e w2=>e=.returned (.string (numsS 1 [x0,x1,x2]))∧Later w' w2) from rnums_lit 1 1 (by decide) w' g 3 [x0,x1,x2] _ hg rfl (by decide) HI1.out))
                have HX3:=Lib.hid (fun (w':World)=>rtext_any w' x3 hxi.2.1)
                have HX4:=Lib.hid (fun (w':World)=>rtext_any w' x4 hxi.2.2)
                obtain ⟨f1,hf1⟩:∃ b,allFit 1 [x0,x1,x2]=b:=⟨_,rfl⟩
                obtain ⟨N1,hN1⟩:∃ s,numsS 1 [x0,x1,x2]=s:=⟨_,rfl⟩
                have hs3:=textS_size x3
                have hs4:=textS_size x4
                obtain ⟨P3,hP3⟩:∃ s,textS x3=s:=⟨_,rfl⟩
                obtain ⟨P4,hP4⟩:∃ s,textS x4=s:=⟨_,rfl⟩
                obtain ⟨o3,ho3⟩:∃ s,textOK x3=s:=⟨_,rfl⟩
                obtain ⟨o4,ho4⟩:∃ s,textOK x4=s:=⟨_,rfl⟩
                have HOK2:=Lib.hid (show (k5&&eachOK ruP (c.rules.take (j+1)))=(bk&&(f1&&(o3&&o4))) by rw [HOK.out,←hf1,←ho3,←ho4];rfl)
                have HST2:=Lib.hid (show T5++bytesOf (eachB ruP (c.rules.take (j+1)))=S++(N1++P3++P4) by rw [HST.out,←hN1,←hP3,←hP4];exact ru_b S x0 x1 x2 x3 x4)
                rw [hf1] at HCF
                rw [hN1] at HCN
                rw [hP3,ho3] at HX3
                rw [hP4,ho4] at HX4
                rw [hP3] at hs3
                rw [hP4] at hs4
                have hs1:N1.size=3:=by rw [←hN1,numsS_size];rfl
                have hcat1:¬ 9223372036854775807<N1.size+P3.size:=by omega
                have hcat2:¬ 9223372036854775807<(N1++P3).size+P4.size:=by rw [ByteArray.size_append];omega
                have hcat:¬ 9223372036854775807<S.size+(N1++P3++P4).size:=by rw [ByteArray.size_append,ByteArray.size_append];omega
                have hcat3:¬ 9223372036854775807<N1.size+P3.size+P4.size:=by omega
                have hcat4:¬ 9223372036854775807<S.size+(N1.size+P3.size+P4.size):=by omega
                clear hxi hf1 hN1 hP3 hP4 ho3 ho4 HOK HST hs1 hs3 hs4 hsz
                go_upto_region 46 with fail
                clear e0 e1 e2 e3 e4 kb hlw
                obtain ⟨bx,hbx⟩:∃ g,wr.heap.size=g:=⟨_,rfl⟩
                obtain ⟨wy,hwy⟩:∃ y,wr.alloc (.cells #[.int .i64 x0,.int .i64 x1,.int .i64 x2,.string x3,.string x4] 53)=y:=⟨_,rfl⟩
                rw [hbx,hwy]
                have hby:wy.heap[bx]?=some (.cells #[.int .i64 x0,.int .i64 x1,.int .i64 x2,.string x3,.string x4] 53 (0,0)):=by rw [←hwy];exact alloc_at hbx
                have hly:Later w4 wy:=by rw [←hwy];exact hl.alloc _
                clear hwy hbx hl
                have q0:=cell_of_block hby 0
                have q1:=cell_of_block hby 1
                have q2:=cell_of_block hby 2
                have q3:=cell_of_block hby 3
                have q4:=cell_of_block hby 4
                go_upto_region 47 with fail
                obtain ⟨gl,hgl⟩:∃ g,wy.heap.size=g:=⟨_,rfl⟩
                obtain ⟨wl,hwl⟩:∃ y,wy.alloc (.cells #[.int .i64 x0,.int .i64 x1,.int .i64 x2] 3)=y:=⟨_,rfl⟩
                rw [hgl,hwl]
                have hbl:wl.heap[gl]?=some (.cells #[.int .i64 x0,.int .i64 x1,.int .i64 x2] 3 (0,0)):=by rw [←hwl];exact alloc_at hgl
                have hwyl:Later wy wl:=by rw [←hwl];exact (Later.refl wy).alloc _
                have hl:Later w4 wl:=hly.trans hwyl
                clear hwl hgl hly hby
                have q3l:=(show Later wy wl from ((by repeat (first | assumption | exact Later.refl _ | refine Later.drew ?_ | refine Later.alloc ?_ _ | refine Later.trans ?_ (by assumption))))).cell q3
                have q4l:=(show Later wy wl from ((by repeat (first | assumption | exact Later.refl _ | refine Later.drew ?_ | refine Later.alloc ?_ _ | refine Later.trans ?_ (by assumption))))).cell q4
                clear q0 q1 q2 q3 q4 hwyl
                go_upto_region 49 with (first
                 | (go_at_call 47;(with_reducible refine (HX3.out _).mono ?_);rintro e ws ⟨rfl,hls⟩;have q4s:=hls.cell q4l)
                 | (go_at_call 47;(with_reducible refine (HX4.out _).mono ?_);rintro e wt ⟨rfl,hlt2⟩)
                 | fail)
                have hbt:=(show Later wl wt from (by repeat (first | assumption | exact Later.refl _ | refine Later.drew ?_ | refine Later.alloc ?_ _ | refine Later.trans ?_ (by assumption)))).block hbl
                have hl9:Later w4 wt:=(by repeat (first | assumption | exact Later.refl _ | refine Later.drew ?_ | refine Later.alloc ?_ _ | refine Later.trans ?_ (by assumption)))
                clear hls hlt2 q3l q4l q4s hl hbl
                cases bk
                ·go_wp2_with (first
                  | (go_at_call 45;(with_reducible refine (HCF.out _ _ hbt).mono ?_);rintro e wm ⟨rfl,hlm⟩;have hbm:=hlm.block hbt)
                  | (go_at_call 46;(with_reducible refine (HCN.out _ _ hbt).mono ?_);rintro e wn ⟨rfl,hln⟩)
                  | fail)
                 exact⟨⟨j+1,by omega,by rw [HOK2.out];rfl,by rw [HST2.out],by simp,(by repeat (first | assumption | exact Later.refl _ | refine Later.drew ?_ | refine Later.alloc ?_ _ | refine Later.trans ?_ (by assumption)))⟩,by simp only [intOf];omega⟩
                ·cases f1
                 ·go_wp2_with (first
                   | (go_at_call 45;(with_reducible refine (HCF.out _ _ hbt).mono ?_);rintro e wm ⟨rfl,hlm⟩;have hbm:=hlm.block hbt)
                   | (go_at_call 46;(with_reducible refine (HCN.out _ _ hbm).mono ?_);rintro e wn ⟨rfl,hln⟩)
                   | fail)
                  exact⟨⟨j+1,by omega,by rw [HOK2.out];rfl,by rw [HST2.out],by simp,(by repeat (first | assumption | exact Later.refl _ | refine Later.drew ?_ | refine Later.alloc ?_ _ | refine Later.trans ?_ (by assumption)))⟩,by simp only [intOf];omega⟩
                 ·cases o3
                  ·go_wp2_with (first
                    | (go_at_call 45;(with_reducible refine (HCF.out _ _ hbt).mono ?_);rintro e wm ⟨rfl,hlm⟩;have hbm:=hlm.block hbt)
                    | (go_at_call 46;(with_reducible refine (HCN.out _ _ hbm).mono ?_);rintro e wn ⟨rfl,hln⟩)
                    | fail)
                   exact⟨⟨j+1,by omega,by rw [HOK2.out];rfl,by rw [HST2.out],by simp,(by repeat (first | assumption | exact Later.refl _ | refine Later.drew ?_ | refine Later.alloc ?_ _ | refine Later.trans ?_ (by assumption)))⟩,by simp only [intOf];omega⟩
                  ·go_wp2_with (first
                    | (go_at_call 45;(with_reducible refine (HCF.out _ _ hbt).mono ?_);rintro e wm ⟨rfl,hlm⟩;have hbm:=hlm.block hbt)
                    | (go_at_call 46;(with_reducible refine (HCN.out _ _ hbm).mono ?_);rintro e wn ⟨rfl,hln⟩)
                    | fail)
                   exact⟨⟨j+1,by omega,by rw [HOK2.out];rfl,by rw [HST2.out],by simp,(by repeat (first | assumption | exact Later.refl _ | refine Later.drew ?_ | refine Later.alloc ?_ _ | refine Later.trans ?_ (by assumption)))⟩,by simp only [intOf];omega⟩
              ·obtain rfl:j=nR:=by omega
               have hall:c.rules.take j=c.rules:=List.take_of_length_le (by rw [HNR.out];exact Nat.le_refl _)
               rw [hall]
               obtain ⟨k6,hk6⟩:∃ b,(k5&&eachOK ruP c.rules)=b:=⟨_,rfl⟩
               have HK6:=Lib.hid hk6
               rw [hk6]
               obtain ⟨D5,hD5⟩:∃ T,E5 c=T:=⟨_,rfl⟩
               have hde:T5++bytesOf (eachB ruP c.rules)=D5:=by rw [←hD5,←HT5.out];rfl
               have hsz:=e5f c HFF.out
               rw [hD5] at hsz
               have HD5:=Lib.hid hD5
               rw [hde]
               clear hall hk6 hD5 hde hrow hlt
               have kb2:=cell_of_block (HB.out _ hlw) 13
               have HC1:=Lib.hid (fun (w':World) (g:Nat) (hg:w'.heap[g]?=some (.cells #[.int .i64 (nK:Int)] 3 (0,0)))=>(show Calls Tryz.prog 46 #[.int .i64 1,.slice (some ⟨g,0,none⟩) 1 1] w' (fun e w2=>e=.returned (.string (numsS 1 [(nK:Int)]))∧Later w' w2) from rnums_lit 1 1 (by decide) w' g 1 [(nK:Int)] _ hg rfl (by decide) HN1K.out))
               obtain ⟨N1,hN1⟩:∃ s,numsS 1 [(nK:Int)]=s:=⟨_,rfl⟩
               rw [hN1] at HC1
               have hs1:N1.size=1:=by rw [←hN1,numsS_size];rfl
               have hcat:¬ 9223372036854775807<D5.size+N1.size:=by omega
               have hu:D5++N1=U6 c:=by unfold U6;rw [HD5.out,HNK.out,hN1]
               obtain ⟨T6,hT6⟩:∃ T,U6 c=T:=⟨_,rfl⟩
               rw [hT6] at hu
               have HU:=Lib.hid hu
               have HT6:=Lib.hid hT6
               clear hN1 hs1 hu hT6 hsz
               obtain ⟨wa,hwa⟩:∃ x,wr=x:=⟨_,rfl⟩
               rw [hwa] at hl hlw kb kb2 ⊢
               clear hwa
               go_wp2_with (first
                | (go_at_call 46;(with_reducible refine (HC1.out _ _ (alloc_block _ _)).mono ?_);rintro e w5 ⟨rfl,hl5⟩)
                | fail)
               rw [HU.out]
               have r5:Later w4 w5:=(by repeat (first | assumption | exact Later.refl _ | refine Later.drew ?_ | refine Later.alloc ?_ _ | refine Later.trans ?_ (by assumption)))
               clear kb kb2 hl5 hcat HU HC1 hlw hl HD5
               go_loopw [4,6,26] (fun vok vs vi wr=>∃ j:Nat,j≤nK∧vok=.bool (k6&&eachOK keyP (c.keys.take j))∧vs=.string (T6++bytesOf (eachB keyP (c.keys.take j)))∧vi=.int .i64 (j:Int)∧Later w4 wr) (fun _ _ vi _=>nK - (intOf vi).toNat)
               case atStart=>exact⟨0,by omega,by simp [eachOK],by simp only [List.take_zero,eachB];rw [show bytesOf []=(⟨#[]⟩:ByteArray) from rfl,ba_empty],rfl,r5⟩
               case round=>
                clear r5
                obtain ⟨j,hj,rfl,rfl,rfl,hl⟩:=hrel
                have hlw:=HL4.out.trans hl
                have hrow:=HRK.out _ hlw
                have kb:=cell_of_block (HB.out _ hlw) 13
                by_cases hlt:j<nK
                ·as_aux_lemma=>
                  obtain ⟨b,o,hao,hb',hcc⟩:=row_at hrow (show j<c.keys.length by rw [HNK.out];exact hlt)
                  have HOK:=Lib.hid (ok_step keyP c.keys k6 j (by rw [HNK.out];exact hlt))
                  have HST:=Lib.hid (eb_step keyP c.keys T6 j (by rw [HNK.out];exact hlt))
                  have hxi:=HII.out.keys (c.keys[j]'(by rw [HNK.out];exact hlt)) (List.getElem_mem _)
                  have hsz:=e6 c HFF.out j
                  rw [HT6.out] at hsz
                  obtain ⟨x,hx⟩:∃ x,c.keys[j]'(by rw [HNK.out];exact hlt)=x:=⟨_,rfl⟩
                  rw [hx] at hcc HOK HST hxi
                  rw [hao] at kb
                  clear hx hao hrow hb'
                  obtain ⟨bk,hbk⟩:∃ b,(k6&&eachOK keyP (c.keys.take j))=b:=⟨_,rfl⟩
                  obtain ⟨S,hS⟩:∃ S,T6++bytesOf (eachB keyP (c.keys.take j))=S:=⟨_,rfl⟩
                  rw [hbk] at HOK ⊢
                  rw [hS] at HST hsz ⊢
                  clear hbk hS
                  obtain ⟨x0,hx0⟩:∃ y,y=x:=⟨_,rfl⟩
                  subst hx0
                  have e0:=hcc 0 (by omega)
                  simp only [keyC,List.getElem?_cons_zero,List.getElem?_cons_succ,Nat.add_zero,Nat.mul_one] at e0
                  clear hcc
                  have HX:=Lib.hid (fun (w':World)=>rtext_any w' x0 hxi)
                  have hs3:=textS_size x0
                  obtain ⟨P3,hP3⟩:∃ s,textS x0=s:=⟨_,rfl⟩
                  obtain ⟨o3,ho3⟩:∃ s,textOK x0=s:=⟨_,rfl⟩
                  have HOK2:=Lib.hid (show (k6&&eachOK keyP (c.keys.take (j+1)))=(bk&&o3) by rw [HOK.out,←ho3];rfl)
                  have HST2:=Lib.hid (show T6++bytesOf (eachB keyP (c.keys.take (j+1)))=S++P3 by rw [HST.out,←hP3];rfl)
                  rw [hP3,ho3] at HX
                  rw [hP3] at hs3
                  have hcat:¬ 9223372036854775807<S.size+P3.size:=by omega
                  clear hxi hP3 ho3 HOK HST hs3 hsz
                  cases bk
                  all_goals
                   go_wp2_with (first
                    | (go_at_call 47;(with_reducible refine (HX.out _).mono ?_);rintro e ws ⟨rfl,hls⟩)
                    | fail)
                   exact⟨⟨j+1,by omega,by rw [HOK2.out];rfl,by rw [HST2.out],by simp,(by repeat (first | assumption | exact Later.refl _ | refine Later.drew ?_ | refine Later.alloc ?_ _ | refine Later.trans ?_ (by assumption)))⟩,by simp only [intOf];omega⟩
                ·obtain rfl:j=nK:=by omega
                 have hall:c.keys.take j=c.keys:=List.take_of_length_le (by rw [HNK.out];exact Nat.le_refl _)
                 rw [hall]
                 obtain ⟨k7,hk7⟩:∃ b,(k6&&eachOK keyP c.keys)=b:=⟨_,rfl⟩
                 have HK7:=Lib.hid hk7
                 rw [hk7]
                 obtain ⟨D6,hD6⟩:∃ T,E6 c=T:=⟨_,rfl⟩
                 have hde:T6++bytesOf (eachB keyP c.keys)=D6:=by rw [←hD6,←HT6.out];rfl
                 have hsz:=e6f c HFF.out
                 rw [hD6] at hsz
                 have HD6:=Lib.hid hD6
                 rw [hde]
                 clear hall hk7 hD6 hde hrow hlt
                 have HLZ:=Lib.hid hl
                 have kb2:=cell_of_block (HB.out _ hlw) 14
                 have HX:=Lib.hid (fun (w':World)=>rtext_any w' c.login HII.out.login)
                 have hs3:=textS_size c.login
                 obtain ⟨PL,hPL⟩:∃ s,textS c.login=s:=⟨_,rfl⟩
                 obtain ⟨oL,hoL⟩:∃ s,textOK c.login=s:=⟨_,rfl⟩
                 have HLD:=Lib.hid (show (k7&&oL)=c.laid by have:=laid_doc c;rw [HK0.out,HK1.out,HK2.out,HK3.out,HK4.out,HK5.out,HK6.out,HK7.out,hoL] at this;exact this)
                 have HC2:=Lib.hid (fun (w':World) (h:Later w4 w')=>(show Calls Tryz.prog 46 #[.int .i64 2,.slice (some ⟨ga,5,none⟩) 2 2] w' (fun e w2=>e=.returned (.string (numsS 2 [c.recovery,c.bound]))∧Later w' w2) from
                  rnums_row 2 2 (by decide) w' _ [c.recovery,c.bound] (rpart (HA3.out _ h) 5 2 [c.recovery,c.bound] (by simp) (by omega) (by intro i n hi;rcases i with _ | _ | i<;>first | (cases hi;rfl) | cases hi)) (by simp) (fun x hx=>HI7.out x (by simp only [List.mem_cons,List.not_mem_nil,or_false] at hx ⊢;rcases hx with h | h<;>simp [h]))))
                 obtain ⟨N2,hN2⟩:∃ s,numsS 2 [c.recovery,c.bound]=s:=⟨_,rfl⟩
                 rw [hN2] at HC2
                 have hs2:N2.size=4:=by rw [←hN2,numsS_size];rfl
                 have HU7:=Lib.hid (show (D6++PL)++N2=bytesOf c.bytes by rw [←U_all,←HD6.out,←hPL,←hN2];rfl)
                 rw [hPL,hoL] at HX
                 rw [hPL] at hs3
                 have hcat1:¬ 9223372036854775807<D6.size+PL.size:=by omega
                 have hcat:¬ 9223372036854775807<(D6++PL).size+N2.size:=by rw [ByteArray.size_append];omega
                 have hcat3:¬ 9223372036854775807<D6.size+PL.size+N2.size:=by omega
                 clear hPL hoL hN2 hs2 hs3 hsz
                 obtain ⟨wa,hwa⟩:∃ x,wr=x:=⟨_,rfl⟩
                 rw [hwa] at hl hlw kb kb2 ⊢
                 clear hwa
                 have HWA:=Lib.hid (HLW.out _ hlw)
                 have HNO:=Lib.hid (fun (h:c.laid=false)=>(show printS c=⟨#[]⟩∧printE c=111 by unfold printS printE;rw [h];exact⟨rfl,rfl⟩))
                 have HYES:=Lib.hid (fun (h:c.laid=true)=>(show printS c=bytesOf c.bytes∧printE c=0 by unfold printS printE;rw [h];exact⟨rfl,rfl⟩))
                 cases k7
                 ·have hx:=Lib.hid (HNO.out HLD.out.symm)
                  go_wp2_with (first
                   | (go_at_call 47;(with_reducible refine (HX.out _).mono ?_);rintro e ws ⟨rfl,hls⟩)
                   | fail)
                  rw [←HPT.out]
                  have hz:=HWA.out
                  exact⟨by rw [hx.out.1,hx.out.2];first | done | rfl,(by repeat (first | assumption | exact Later.refl _ | refine Later.drew ?_ | refine Later.alloc ?_ _ | refine Later.trans ?_ (by assumption)))⟩
                 ·cases oL
                  ·have hx:=Lib.hid (HNO.out HLD.out.symm)
                   go_wp2_with (first
                    | (go_at_call 47;(with_reducible refine (HX.out _).mono ?_);rintro e ws ⟨rfl,hls⟩)
                    | fail)
                   rw [←HPT.out]
                   have hz:=HWA.out
                   exact⟨by rw [hx.out.1,hx.out.2];first | done | rfl,(by repeat (first | assumption | exact Later.refl _ | refine Later.drew ?_ | refine Later.alloc ?_ _ | refine Later.trans ?_ (by assumption)))⟩
                  ·have hx:=Lib.hid (HYES.out HLD.out.symm)
                   go_wp2_with (first
                    | (go_at_call 47;(with_reducible refine (HX.out _).mono ?_);rintro e ws ⟨rfl,hls⟩;have HLX:=Lib.hid (hl.trans hls))
                    | (go_at_call 46;(with_reducible refine (HC2.out _ HLX.out).mono ?_);rintro e wt ⟨rfl,hlt2⟩)
                    | fail)
                   rw [←HPT.out]
                   have hz:=HWA.out
                   exact⟨by rw [hx.out.1,hx.out.2,←HU7.out];first | done | rfl,HWA.out.trans (hls.trans hlt2)⟩
end Go.Proofs.YtbchkjfnakabkaaGreatDoor
