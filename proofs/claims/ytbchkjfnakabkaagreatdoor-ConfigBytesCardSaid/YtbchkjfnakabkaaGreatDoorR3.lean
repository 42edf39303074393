/- R3, merged: Piece. -/
import Derived.Test.YtbchkjfnakabkaaGreatDoorR2
set_option linter.unusedSimpArgs false
set_option linter.unusedVariables false
namespace Go.Proofs.YtbchkjfnakabkaaGreatDoor
open Go.RowKit PX
def repA (m n:Int) (hb:Nat) (X:RxA):RxA:=.node 3 m n 0 0 0 0 (some ⟨hb,0,none⟩) 1 [X]
theorem repA_bare (m n:Int) (hb:Nat) (X:RxA):(repA m n hb X).bare=.rep m n X.bare:=by simp [repA,RxA.bare,Rx.rep,bareAll]
theorem repA_in {w:World} {m n:Int} {hb:Nat} {X:RxA} (hm:0≤m∧m≤15) (hn:-1≤n∧n≤15) (hX:X.In w w.heap.size) (hh:w.heap[hb]?=some (.cells (cellsA X) 141 (0,0))):(repA m n hb X).In w w.heap.size:=by
 have hlt:=lt_of_block hh
 simp only [repA,RxA.In]
 refine⟨⟨⟨by omega,by omega⟩,⟨by omega,by omega⟩,⟨by omega,by omega⟩,⟨by omega,by omega⟩,⟨by omega,by omega⟩,⟨by omega,by omega⟩,⟨by omega,by omega⟩⟩,by simp,by unfold maxLen;omega,by simp,.inr ⟨hb,0,rfl,hlt,?_⟩⟩
 simp only [InL,and_true]
 refine⟨fun j hj=>?_,hX⟩
 rw [cell_of_block hh]
 simp [cellsA]
theorem repA_blocks (m n:Int) (hb:Nat) (X:RxA):∀ b∈(repA m n hb X).blocks,b=hb∨b∈X.blocks:=by
 intro b h
 simpa [repA,RxA.blocks,blocksAll] using h
theorem kept_in {w1 wk:World} {B:Nat} {X:RxA} (hX:X.In w1 w1.heap.size) (hB:∀ b∈X.blocks,B≤b∧b<w1.heap.size) (hblock:∀ b,B≤b→b<w1.heap.size→wk.heap[b]?=w1.heap[b]?) (hs:w1.heap.size≤wk.heap.size) :
 X.In wk wk.heap.size∧∀ b∈X.blocks,B≤b∧b<wk.heap.size:=
 ⟨hX.keep fun b hb=>⟨by have:=hB b hb;omega,fun o=>World.cell?_of_block (w:=w1) (hblock b (hB b hb).1 (hB b hb).2)⟩,fun b hb=>by have:=hB b hb;omega⟩
def AtomGives (rb:Nat) (s:List UInt8) (x:Rx) (r:List UInt8):Prop:=∀ w1,ReadAt w1 rb s→Calls Tryz.prog 192 #[.pointer (some ⟨rb,0,none⟩)] w1 fun e w2=>
 ∃ k mn mx s0 s1 s2 s3 a cap l,x=(RxA.node k mn mx s0 s1 s2 s3 a cap l).bare∧e=.returned (.agg #[.int .i64 k,.int .i64 mn,.int .i64 mx,.int .u64 s0,.int .u64 s1,.int .u64 s2,.int .u64 s3,.slice a l.length cap])∧ReadAt w2 rb r∧Only (fun k=>k=rb) w1 w2∧(RxA.node k mn mx s0 s1 s2 s3 a cap l).In w2 w2.heap.size∧∀ b∈(RxA.node k mn mx s0 s1 s2 s3 a cap l).blocks,w1.heap.size≤b∧b<w2.heap.size
set_option maxRecDepth 100000 in
set_option maxHeartbeats 1000000 in
theorem piece_none (w:World) (rb:Nat) (s:List UInt8) (h:ReadAt w rb s) (x:Rx) (r:List UInt8) (hr:r.length≤128) (hatom:AtomGives rb s x r) (h42:starts 42 r=false) (h43:starts 43 r=false) (h63:starts 63 r=false) (h123:starts 123 r=false) :
 Calls Tryz.prog 186 #[.pointer (some ⟨rb,0,none⟩)] w fun e w'=>ReadsRx rb w (sign x r) e w':=by
 have hlt:=lt_of_block h
 obtain ⟨nb,hnb⟩:∃ nb,w.heap.size=nb:=⟨_,rfl⟩
 obtain ⟨W0,hW0⟩:∃ W0,W0=(w.alloc (.cells #[.int .i64 0,.int .i64 0,.int .i64 0,.int .u64 0,.int .u64 0,.int .u64 0,.int .u64 0,.slice none 0 0] 141)):=⟨_,rfl⟩
 have hr0:ReadAt W0 rb s:=by rw [hW0];exact alloc_old h _
 have hN0:W0.heap[nb]?=some (.cells (cellsA (setA Q4.none)) 141 (0,0)):=by rw [hW0,←hnb];exact alloc_block _ _
 have hO0:Only (fun k=>k=rb) w W0:=by rw [hW0];exact (Only.refl _ w).alloc _
 have hnw:nb<W0.heap.size:=lt_of_block hN0
 have HATOM:=Lib.hid (hatom W0 hr0);clear hatom hr0
 rw [hW0] at HATOM
 have HN:=Lib.hid hN0;clear hN0
 have hS:sign x r=some (x,r):=by unfold sign;rw [h42,h43,h63,h123];rfl
 rw [hS]
 have HT42:=Lib.hid (fun w1 (h1:ReadAt w1 rb r)=>take_no w1 rb 42 r h1 h42)
 have HT43:=Lib.hid (fun w1 (h1:ReadAt w1 rb r)=>take_no w1 rb 43 r h1 h43)
 have HT63:=Lib.hid (fun w1 (h1:ReadAt w1 rb r)=>take_no w1 rb 63 r h1 h63)
 have HT123:=Lib.hid (fun w1 (h1:ReadAt w1 rb r)=>take_no w1 rb 123 r h1 h123)
 go_enter Tryz.func186,Tryz.ntmps186
 go_wp2_with (first
  | (go_at_call 192;(with_reducible refine HATOM.out.mono ?_);rintro e w1 ⟨k,mn,mx,s0,s1,s2,s3,a,cap,l,hX,rfl,h1,o1,hXin,hXb⟩;rw [←hW0] at o1 hXb;have hw1:=o1.size;have h2:ReadAt (w1.alloc (.cells #[.int .i64 k,.int .i64 mn,.int .i64 mx,.int .u64 s0,.int .u64 s1,.int .u64 s2,.int .u64 s3,.slice a l.length cap] 141)) rb r:=alloc_old h1 _;have hE2:=alloc_block w1 (.cells #[.int .i64 k,.int .i64 mn,.int .i64 mx,.int .u64 s0,.int .u64 s1,.int .u64 s2,.int .u64 s3,.slice a l.length cap] 141);have hN2:=alloc_old ((o1.block nb (by omega) (by omega)).trans HN.out) (.cells #[.int .i64 k,.int .i64 mn,.int .i64 mx,.int .u64 s0,.int .u64 s1,.int .u64 s2,.int .u64 s3,.slice a l.length cap] 141);have hlE2:=lt_of_block hE2;have hlN2:=lt_of_block hN2;have hne:¬ w1.heap.size=rb:=(by omega);have hnn:¬ nb=rb:=(by omega);have HE2:=Lib.hid hE2;have HN2:=Lib.hid hN2;clear hE2 hN2;have o2:=o1.alloc (.cells #[.int .i64 k,.int .i64 mn,.int .i64 mx,.int .u64 s0,.int .u64 s1,.int .u64 s2,.int .u64 s3,.slice a l.length cap] 141);have hXI:=Lib.hid hXin;have hXB:=Lib.hid hXb;clear hXin hXb;have hlt1:rb<w1.heap.size:=(by omega))
  | (go_at_call 188;(with_reducible refine (HT42.out _ h2).mono ?_);rintro e w3 ⟨rfl,h3,o3⟩;have hE3:=(o3.block w1.heap.size hlE2 hne).trans HE2.out;have hN3:=(o3.block nb hlN2 hnn).trans HN2.out;have hlE3:=lt_of_block hE3;have hlN3:=lt_of_block hN3;have HE3:=Lib.hid hE3;have HN3:=Lib.hid hN3;clear hE3 hN3)
  | (go_at_call 188;(with_reducible refine (HT43.out _ h3).mono ?_);rintro e w4 ⟨rfl,h4,o4⟩;have hE4:=(o4.block w1.heap.size hlE3 hne).trans HE3.out;have hN4:=(o4.block nb hlN3 hnn).trans HN3.out;have hlE4:=lt_of_block hE4;have hlN4:=lt_of_block hN4;have HE4:=Lib.hid hE4;have HN4:=Lib.hid hN4;clear hE4 hN4)
  | (go_at_call 188;(with_reducible refine (HT63.out _ h4).mono ?_);rintro e w5 ⟨rfl,h5,o5⟩;have hE5:=(o5.block w1.heap.size hlE4 hne).trans HE4.out;have hN5:=(o5.block nb hlN4 hnn).trans HN4.out;have hlE5:=lt_of_block hE5;have hlN5:=lt_of_block hN5;have HE5:=Lib.hid hE5;have HN5:=Lib.hid hN5;clear hE5 hN5)
  | (go_at_call 188;(with_reducible refine (HT123.out _ h5).mono ?_);rintro e w6 ⟨rfl,h6,o6⟩;have hE6:=(o6.block w1.heap.size hlE5 hne).trans HE5.out;have hN6:=(o6.block nb hlN5 hnn).trans HN5.out;have hlE6:=lt_of_block hE6;have hlN6:=lt_of_block hN6;have HE6:=Lib.hid hE6;have HN6:=Lib.hid hN6;clear hE6 hN6)
  | (refine wpList_load_row rfl 141 (.tmp 3) ?_ w1.heap.size ?_ 141 #[.int .i64 k,.int .i64 mn,.int .i64 mx,.int .u64 s0,.int .u64 s1,.int .u64 s2,.int .u64 s3,.slice a l.length cap] (0,0) _ ?_ Tryz.underlying141 rfl info_rx ?_;(with_reducible rfl);rfl;exact HE6.out)
  | (refine wpList_store_row rfl 141 (.tmp 2) (.tmp 8) ?_ nb #[.int .i64 k,.int .i64 mn,.int .i64 mx,.int .u64 s0,.int .u64 s1,.int .u64 s2,.int .u64 s3,.slice a l.length cap] ?_ ?_ 141 (cellsA (setA Q4.none)) ?_ info_rx rfl (cellsA_one (RxA.node k mn mx s0 s1 s2 s3 a cap l)) ?_;(with_reducible rfl);rfl;rfl;exact HN6.out))
 refine bodyPost_ret (results_cell_row rfl _ _ nb 141 #[.int .i64 k,.int .i64 mn,.int .i64 mx,.int .u64 s0,.int .u64 s1,.int .u64 s2,.int .u64 s3,.slice a l.length cap] (0,0) _ rfl (setRow_heap _ _ _ _ _ _ HN6.out) Tryz.underlying141 rfl info_rx) rfl ?_
 have oc:=((o3.then o4).then o5).then o6
 obtain ⟨hin,hbl⟩:=kept_in (wk:=w6.setRow nb #[.int .i64 k,.int .i64 mn,.int .i64 mx,.int .u64 s0,.int .u64 s1,.int .u64 s2,.int .u64 s3,.slice a l.length cap]) hXI.out hXB.out (fun b h1 h2=>by rw [setRow_other _ _ _ _ (by omega),oc.block b (by simp;omega) (by omega),Below.heap_alloc _ _ _ h2]) (by have:=oc.size;simp at this ⊢;omega)
 refine⟨((hO0.then o2).then oc).setRow (q:=nb) (.inr (by omega)) _,.inr ⟨(RxA.node k mn mx s0 s1 s2 s3 a cap l),r,by rw [hX],rfl,(setRow_other _ _ _ _ (by omega)).trans h6,hin,fun b hb=>⟨by have:=hO0.size;have:=(hbl b hb).1;omega,(hbl b hb).2⟩⟩⟩
set_option maxRecDepth 100000 in
set_option maxHeartbeats 1000000 in
theorem piece_star (w:World) (rb:Nat) (s:List UInt8) (h:ReadAt w rb s) (x:Rx) (r:List UInt8) (hr:r.length≤128) (hatom:AtomGives rb s x r) (h42:starts 42 r=true) :
 Calls Tryz.prog 186 #[.pointer (some ⟨rb,0,none⟩)] w fun e w'=>ReadsRx rb w (sign x r) e w':=by
 have hlt:=lt_of_block h
 obtain ⟨nb,hnb⟩:∃ nb,w.heap.size=nb:=⟨_,rfl⟩
 obtain ⟨W0,hW0⟩:∃ W0,W0=(w.alloc (.cells #[.int .i64 0,.int .i64 0,.int .i64 0,.int .u64 0,.int .u64 0,.int .u64 0,.int .u64 0,.slice none 0 0] 141)):=⟨_,rfl⟩
 have hr0:ReadAt W0 rb s:=by rw [hW0];exact alloc_old h _
 have hN0:W0.heap[nb]?=some (.cells (cellsA (setA Q4.none)) 141 (0,0)):=by rw [hW0,←hnb];exact alloc_block _ _
 have hO0:Only (fun k=>k=rb) w W0:=by rw [hW0];exact (Only.refl _ w).alloc _
 have hnw:nb<W0.heap.size:=lt_of_block hN0
 have HATOM:=Lib.hid (hatom W0 hr0);clear hatom hr0
 rw [hW0] at HATOM
 have HN:=Lib.hid hN0;clear hN0
 have hS:sign x r=some (.rep 0 (-1) x,r.tail):=by unfold sign;rw [h42];rfl
 rw [hS]
 have hbm:(0:Int)≤0∧(0:Int)≤15:=by omega
 have hbn:(-1:Int)≤(-1)∧((-1):Int)≤15:=by omega
 have HT42:=Lib.hid (fun w1 (h1:ReadAt w1 rb r)=>take_yes w1 rb 42 r.tail (starts_cons h42▸h1))
 go_enter Tryz.func186,Tryz.ntmps186
 go_wp2_with (first
  | (go_at_call 192;(with_reducible refine HATOM.out.mono ?_);rintro e w1 ⟨k,mn,mx,s0,s1,s2,s3,a,cap,l,hX,rfl,h1,o1,hXin,hXb⟩;rw [←hW0] at o1 hXb;have hw1:=o1.size;have h2:ReadAt (w1.alloc (.cells #[.int .i64 k,.int .i64 mn,.int .i64 mx,.int .u64 s0,.int .u64 s1,.int .u64 s2,.int .u64 s3,.slice a l.length cap] 141)) rb r:=alloc_old h1 _;have hE2:=alloc_block w1 (.cells #[.int .i64 k,.int .i64 mn,.int .i64 mx,.int .u64 s0,.int .u64 s1,.int .u64 s2,.int .u64 s3,.slice a l.length cap] 141);have hN2:=alloc_old ((o1.block nb (by omega) (by omega)).trans HN.out) (.cells #[.int .i64 k,.int .i64 mn,.int .i64 mx,.int .u64 s0,.int .u64 s1,.int .u64 s2,.int .u64 s3,.slice a l.length cap] 141);have hlE2:=lt_of_block hE2;have hlN2:=lt_of_block hN2;have hne:¬ w1.heap.size=rb:=(by omega);have hnn:¬ nb=rb:=(by omega);have HE2:=Lib.hid hE2;have HN2:=Lib.hid hN2;clear hE2 hN2;have o2:=o1.alloc (.cells #[.int .i64 k,.int .i64 mn,.int .i64 mx,.int .u64 s0,.int .u64 s1,.int .u64 s2,.int .u64 s3,.slice a l.length cap] 141);have hXI:=Lib.hid hXin;have hXB:=Lib.hid hXb;clear hXin hXb;have hlt1:rb<w1.heap.size:=(by omega))
  | (go_at_call 188;(with_reducible refine (HT42.out _ h2).mono ?_);rintro e w3 ⟨rfl,h3,o3⟩;have hE3:=(o3.block w1.heap.size hlE2 hne).trans HE2.out;have hN3:=(o3.block nb hlN2 hnn).trans HN2.out;have hlE3:=lt_of_block hE3;have hlN3:=lt_of_block hN3;have HE3:=Lib.hid hE3;have HN3:=Lib.hid hN3;clear hE3 hN3)
  | (refine wpList_load_row rfl 141 (.tmp 3) ?_ w1.heap.size ?_ 141 #[.int .i64 k,.int .i64 mn,.int .i64 mx,.int .u64 s0,.int .u64 s1,.int .u64 s2,.int .u64 s3,.slice a l.length cap] (0,0) _ ?_ Tryz.underlying141 rfl info_rx ?_;(with_reducible rfl);rfl;exact HE3.out)
  | (refine wpList_store_row rfl 141 (.tmp 2) (.tmp 52) ?_ nb #[.int .i64 3,.int .i64 0,.int .i64 (-1),.int .u64 0,.int .u64 0,.int .u64 0,.int .u64 0,.slice (some ⟨w3.heap.size,0,none⟩) 1 1] ?_ ?_ 141 (cellsA (setA Q4.none)) ?_ info_rx rfl (cellsA_one (repA 0 (-1) w3.heap.size (RxA.node k mn mx s0 s1 s2 s3 a cap l))) ?_;(with_reducible rfl);rfl;rfl;exact alloc_old HN3.out _))
 refine bodyPost_ret (results_cell_row rfl _ _ nb 141 #[.int .i64 3,.int .i64 0,.int .i64 (-1),.int .u64 0,.int .u64 0,.int .u64 0,.int .u64 0,.slice (some ⟨w3.heap.size,0,none⟩) 1 1] (0,0) _ rfl (setRow_heap _ _ _ _ _ _ (alloc_old HN3.out (.cells #[.int .i64 k,.int .i64 mn,.int .i64 mx,.int .u64 s0,.int .u64 s1,.int .u64 s2,.int .u64 s3,.slice a l.length cap] 141))) Tryz.underlying141 rfl info_rx) rfl ?_
 have oc:=o3
 have hkk:=oc.size
 simp only [World.size_alloc] at hkk
 obtain ⟨hin,hbl⟩:=kept_in (wk:=(w3.alloc (.cells #[.int .i64 k,.int .i64 mn,.int .i64 mx,.int .u64 s0,.int .u64 s1,.int .u64 s2,.int .u64 s3,.slice a l.length cap] 141)).setRow nb #[.int .i64 3,.int .i64 0,.int .i64 (-1),.int .u64 0,.int .u64 0,.int .u64 0,.int .u64 0,.slice (some ⟨w3.heap.size,0,none⟩) 1 1]) hXI.out hXB.out (fun b h1 h2=>by rw [setRow_other _ _ _ _ (by omega),Below.heap_alloc _ _ _ (by omega),oc.block b (by simp;omega) (by omega),Below.heap_alloc _ _ _ h2]) (by simp;omega)
 have hrin:=repA_in (m:=0) (n:=(-1)) hbm hbn hin ((setRow_other (w3.alloc (.cells #[.int .i64 k,.int .i64 mn,.int .i64 mx,.int .u64 s0,.int .u64 s1,.int .u64 s2,.int .u64 s3,.slice a l.length cap] 141)) nb w3.heap.size #[.int .i64 3,.int .i64 0,.int .i64 (-1),.int .u64 0,.int .u64 0,.int .u64 0,.int .u64 0,.slice (some ⟨w3.heap.size,0,none⟩) 1 1] (by omega)).trans (alloc_block _ _))
 refine⟨(((hO0.then o2).then oc).alloc _).setRow (q:=nb) (.inr (by omega)) _,.inr ⟨repA 0 (-1) w3.heap.size (RxA.node k mn mx s0 s1 s2 s3 a cap l),r.tail,by rw [repA_bare,←hX],rfl,(setRow_other _ _ _ _ (by omega)).trans (alloc_old h3 _),hrin,fun b hb=>?_⟩⟩
 rcases repA_blocks _ _ _ _ b hb with rfl | hb
 ·have:=hO0.size;simp only [size_setRow,World.size_alloc];omega
 ·have:=hbl b hb;have:=hO0.size;omega
set_option maxRecDepth 100000 in
set_option maxHeartbeats 1000000 in
theorem piece_plus (w:World) (rb:Nat) (s:List UInt8) (h:ReadAt w rb s) (x:Rx) (r:List UInt8) (hr:r.length≤128) (hatom:AtomGives rb s x r) (h42:starts 42 r=false) (h43:starts 43 r=true) :
 Calls Tryz.prog 186 #[.pointer (some ⟨rb,0,none⟩)] w fun e w'=>ReadsRx rb w (sign x r) e w':=by
 have hlt:=lt_of_block h
 obtain ⟨nb,hnb⟩:∃ nb,w.heap.size=nb:=⟨_,rfl⟩
 obtain ⟨W0,hW0⟩:∃ W0,W0=(w.alloc (.cells #[.int .i64 0,.int .i64 0,.int .i64 0,.int .u64 0,.int .u64 0,.int .u64 0,.int .u64 0,.slice none 0 0] 141)):=⟨_,rfl⟩
 have hr0:ReadAt W0 rb s:=by rw [hW0];exact alloc_old h _
 have hN0:W0.heap[nb]?=some (.cells (cellsA (setA Q4.none)) 141 (0,0)):=by rw [hW0,←hnb];exact alloc_block _ _
 have hO0:Only (fun k=>k=rb) w W0:=by rw [hW0];exact (Only.refl _ w).alloc _
 have hnw:nb<W0.heap.size:=lt_of_block hN0
 have HATOM:=Lib.hid (hatom W0 hr0);clear hatom hr0
 rw [hW0] at HATOM
 have HN:=Lib.hid hN0;clear hN0
 have hS:sign x r=some (.rep 1 (-1) x,r.tail):=by unfold sign;rw [h42,h43];rfl
 rw [hS]
 have hbm:(0:Int)≤1∧(1:Int)≤15:=by omega
 have hbn:(-1:Int)≤(-1)∧((-1):Int)≤15:=by omega
 have HT42:=Lib.hid (fun w1 (h1:ReadAt w1 rb r)=>take_no w1 rb 42 r h1 h42)
 have HT43:=Lib.hid (fun w1 (h1:ReadAt w1 rb r)=>take_yes w1 rb 43 r.tail (starts_cons h43▸h1))
 go_enter Tryz.func186,Tryz.ntmps186
 go_wp2_with (first
  | (go_at_call 192;(with_reducible refine HATOM.out.mono ?_);rintro e w1 ⟨k,mn,mx,s0,s1,s2,s3,a,cap,l,hX,rfl,h1,o1,hXin,hXb⟩;rw [←hW0] at o1 hXb;have hw1:=o1.size;have h2:ReadAt (w1.alloc (.cells #[.int .i64 k,.int .i64 mn,.int .i64 mx,.int .u64 s0,.int .u64 s1,.int .u64 s2,.int .u64 s3,.slice a l.length cap] 141)) rb r:=alloc_old h1 _;have hE2:=alloc_block w1 (.cells #[.int .i64 k,.int .i64 mn,.int .i64 mx,.int .u64 s0,.int .u64 s1,.int .u64 s2,.int .u64 s3,.slice a l.length cap] 141);have hN2:=alloc_old ((o1.block nb (by omega) (by omega)).trans HN.out) (.cells #[.int .i64 k,.int .i64 mn,.int .i64 mx,.int .u64 s0,.int .u64 s1,.int .u64 s2,.int .u64 s3,.slice a l.length cap] 141);have hlE2:=lt_of_block hE2;have hlN2:=lt_of_block hN2;have hne:¬ w1.heap.size=rb:=(by omega);have hnn:¬ nb=rb:=(by omega);have HE2:=Lib.hid hE2;have HN2:=Lib.hid hN2;clear hE2 hN2;have o2:=o1.alloc (.cells #[.int .i64 k,.int .i64 mn,.int .i64 mx,.int .u64 s0,.int .u64 s1,.int .u64 s2,.int .u64 s3,.slice a l.length cap] 141);have hXI:=Lib.hid hXin;have hXB:=Lib.hid hXb;clear hXin hXb;have hlt1:rb<w1.heap.size:=(by omega))
  | (go_at_call 188;(with_reducible refine (HT42.out _ h2).mono ?_);rintro e w3 ⟨rfl,h3,o3⟩;have hE3:=(o3.block w1.heap.size hlE2 hne).trans HE2.out;have hN3:=(o3.block nb hlN2 hnn).trans HN2.out;have hlE3:=lt_of_block hE3;have hlN3:=lt_of_block hN3;have HE3:=Lib.hid hE3;have HN3:=Lib.hid hN3;clear hE3 hN3)
  | (go_at_call 188;(with_reducible refine (HT43.out _ h3).mono ?_);rintro e w4 ⟨rfl,h4,o4⟩;have hE4:=(o4.block w1.heap.size hlE3 hne).trans HE3.out;have hN4:=(o4.block nb hlN3 hnn).trans HN3.out;have hlE4:=lt_of_block hE4;have hlN4:=lt_of_block hN4;have HE4:=Lib.hid hE4;have HN4:=Lib.hid hN4;clear hE4 hN4)
  | (refine wpList_load_row rfl 141 (.tmp 3) ?_ w1.heap.size ?_ 141 #[.int .i64 k,.int .i64 mn,.int .i64 mx,.int .u64 s0,.int .u64 s1,.int .u64 s2,.int .u64 s3,.slice a l.length cap] (0,0) _ ?_ Tryz.underlying141 rfl info_rx ?_;(with_reducible rfl);rfl;exact HE4.out)
  | (refine wpList_store_row rfl 141 (.tmp 2) (.tmp 52) ?_ nb #[.int .i64 3,.int .i64 1,.int .i64 (-1),.int .u64 0,.int .u64 0,.int .u64 0,.int .u64 0,.slice (some ⟨w4.heap.size,0,none⟩) 1 1] ?_ ?_ 141 (cellsA (setA Q4.none)) ?_ info_rx rfl (cellsA_one (repA 1 (-1) w4.heap.size (RxA.node k mn mx s0 s1 s2 s3 a cap l))) ?_;(with_reducible rfl);rfl;rfl;exact alloc_old HN4.out _))
 refine bodyPost_ret (results_cell_row rfl _ _ nb 141 #[.int .i64 3,.int .i64 1,.int .i64 (-1),.int .u64 0,.int .u64 0,.int .u64 0,.int .u64 0,.slice (some ⟨w4.heap.size,0,none⟩) 1 1] (0,0) _ rfl (setRow_heap _ _ _ _ _ _ (alloc_old HN4.out (.cells #[.int .i64 k,.int .i64 mn,.int .i64 mx,.int .u64 s0,.int .u64 s1,.int .u64 s2,.int .u64 s3,.slice a l.length cap] 141))) Tryz.underlying141 rfl info_rx) rfl ?_
 have oc:=(o3.then o4)
 have hkk:=oc.size
 simp only [World.size_alloc] at hkk
 obtain ⟨hin,hbl⟩:=kept_in (wk:=(w4.alloc (.cells #[.int .i64 k,.int .i64 mn,.int .i64 mx,.int .u64 s0,.int .u64 s1,.int .u64 s2,.int .u64 s3,.slice a l.length cap] 141)).setRow nb #[.int .i64 3,.int .i64 1,.int .i64 (-1),.int .u64 0,.int .u64 0,.int .u64 0,.int .u64 0,.slice (some ⟨w4.heap.size,0,none⟩) 1 1]) hXI.out hXB.out (fun b h1 h2=>by rw [setRow_other _ _ _ _ (by omega),Below.heap_alloc _ _ _ (by omega),oc.block b (by simp;omega) (by omega),Below.heap_alloc _ _ _ h2]) (by simp;omega)
 have hrin:=repA_in (m:=1) (n:=(-1)) hbm hbn hin ((setRow_other (w4.alloc (.cells #[.int .i64 k,.int .i64 mn,.int .i64 mx,.int .u64 s0,.int .u64 s1,.int .u64 s2,.int .u64 s3,.slice a l.length cap] 141)) nb w4.heap.size #[.int .i64 3,.int .i64 1,.int .i64 (-1),.int .u64 0,.int .u64 0,.int .u64 0,.int .u64 0,.slice (some ⟨w4.heap.size,0,none⟩) 1 1] (by omega)).trans (alloc_block _ _))
 refine⟨(((hO0.then o2).then oc).alloc _).setRow (q:=nb) (.inr (by omega)) _,.inr ⟨repA 1 (-1) w4.heap.size (RxA.node k mn mx s0 s1 s2 s3 a cap l),r.tail,by rw [repA_bare,←hX],rfl,(setRow_other _ _ _ _ (by omega)).trans (alloc_old h4 _),hrin,fun b hb=>?_⟩⟩
 rcases repA_blocks _ _ _ _ b hb with rfl | hb
 ·have:=hO0.size;simp only [size_setRow,World.size_alloc];omega
 ·have:=hbl b hb;have:=hO0.size;omega
set_option maxRecDepth 100000 in
set_option maxHeartbeats 1000000 in
theorem piece_may (w:World) (rb:Nat) (s:List UInt8) (h:ReadAt w rb s) (x:Rx) (r:List UInt8) (hr:r.length≤128) (hatom:AtomGives rb s x r) (h42:starts 42 r=false) (h43:starts 43 r=false) (h63:starts 63 r=true) :
 Calls Tryz.prog 186 #[.pointer (some ⟨rb,0,none⟩)] w fun e w'=>ReadsRx rb w (sign x r) e w':=by
 have hlt:=lt_of_block h
 obtain ⟨nb,hnb⟩:∃ nb,w.heap.size=nb:=⟨_,rfl⟩
 obtain ⟨W0,hW0⟩:∃ W0,W0=(w.alloc (.cells #[.int .i64 0,.int .i64 0,.int .i64 0,.int .u64 0,.int .u64 0,.int .u64 0,.int .u64 0,.slice none 0 0] 141)):=⟨_,rfl⟩
 have hr0:ReadAt W0 rb s:=by rw [hW0];exact alloc_old h _
 have hN0:W0.heap[nb]?=some (.cells (cellsA (setA Q4.none)) 141 (0,0)):=by rw [hW0,←hnb];exact alloc_block _ _
 have hO0:Only (fun k=>k=rb) w W0:=by rw [hW0];exact (Only.refl _ w).alloc _
 have hnw:nb<W0.heap.size:=lt_of_block hN0
 have HATOM:=Lib.hid (hatom W0 hr0);clear hatom hr0
 rw [hW0] at HATOM
 have HN:=Lib.hid hN0;clear hN0
 have hS:sign x r=some (.rep 0 1 x,r.tail):=by unfold sign;rw [h42,h43,h63];rfl
 rw [hS]
 have hbm:(0:Int)≤0∧(0:Int)≤15:=by omega
 have hbn:(-1:Int)≤1∧(1:Int)≤15:=by omega
 have HT42:=Lib.hid (fun w1 (h1:ReadAt w1 rb r)=>take_no w1 rb 42 r h1 h42)
 have HT43:=Lib.hid (fun w1 (h1:ReadAt w1 rb r)=>take_no w1 rb 43 r h1 h43)
 have HT63:=Lib.hid (fun w1 (h1:ReadAt w1 rb r)=>take_yes w1 rb 63 r.tail (starts_cons h63▸h1))
 go_enter Tryz.func186,Tryz.ntmps186
 go_wp2_with (first
  | (go_at_call 192;(with_reducible refine HATOM.out.mono ?_);rintro e w1 ⟨k,mn,mx,s0,s1,s2,s3,a,cap,l,hX,rfl,h1,o1,hXin,hXb⟩;rw [←hW0] at o1 hXb;have hw1:=o1.size;have h2:ReadAt (w1.alloc (.cells #[.int .i64 k,.int .i64 mn,.int .i64 mx,.int .u64 s0,.int .u64 s1,.int .u64 s2,.int .u64 s3,.slice a l.length cap] 141)) rb r:=alloc_old h1 _;have hE2:=alloc_block w1 (.cells #[.int .i64 k,.int .i64 mn,.int .i64 mx,.int .u64 s0,.int .u64 s1,.int .u64 s2,.int .u64 s3,.slice a l.length cap] 141);have hN2:=alloc_old ((o1.block nb (by omega) (by omega)).trans HN.out) (.cells #[.int .i64 k,.int .i64 mn,.int .i64 mx,.int .u64 s0,.int .u64 s1,.int .u64 s2,.int .u64 s3,.slice a l.length cap] 141);have hlE2:=lt_of_block hE2;have hlN2:=lt_of_block hN2;have hne:¬ w1.heap.size=rb:=(by omega);have hnn:¬ nb=rb:=(by omega);have HE2:=Lib.hid hE2;have HN2:=Lib.hid hN2;clear hE2 hN2;have o2:=o1.alloc (.cells #[.int .i64 k,.int .i64 mn,.int .i64 mx,.int .u64 s0,.int .u64 s1,.int .u64 s2,.int .u64 s3,.slice a l.length cap] 141);have hXI:=Lib.hid hXin;have hXB:=Lib.hid hXb;clear hXin hXb;have hlt1:rb<w1.heap.size:=(by omega))
  | (go_at_call 188;(with_reducible refine (HT42.out _ h2).mono ?_);rintro e w3 ⟨rfl,h3,o3⟩;have hE3:=(o3.block w1.heap.size hlE2 hne).trans HE2.out;have hN3:=(o3.block nb hlN2 hnn).trans HN2.out;have hlE3:=lt_of_block hE3;have hlN3:=lt_of_block hN3;have HE3:=Lib.hid hE3;have HN3:=Lib.hid hN3;clear hE3 hN3)
  | (go_at_call 188;(with_reducible refine (HT43.out _ h3).mono ?_);rintro e w4 ⟨rfl,h4,o4⟩;have hE4:=(o4.block w1.heap.size hlE3 hne).trans HE3.out;have hN4:=(o4.block nb hlN3 hnn).trans HN3.out;have hlE4:=lt_of_block hE4;have hlN4:=lt_of_block hN4;have HE4:=Lib.hid hE4;have HN4:=Lib.hid hN4;clear hE4 hN4)
  | (go_at_call 188;(with_reducible refine (HT63.out _ h4).mono ?_);rintro e w5 ⟨rfl,h5,o5⟩;have hE5:=(o5.block w1.heap.size hlE4 hne).trans HE4.out;have hN5:=(o5.block nb hlN4 hnn).trans HN4.out;have hlE5:=lt_of_block hE5;have hlN5:=lt_of_block hN5;have HE5:=Lib.hid hE5;have HN5:=Lib.hid hN5;clear hE5 hN5)
  | (refine wpList_load_row rfl 141 (.tmp 3) ?_ w1.heap.size ?_ 141 #[.int .i64 k,.int .i64 mn,.int .i64 mx,.int .u64 s0,.int .u64 s1,.int .u64 s2,.int .u64 s3,.slice a l.length cap] (0,0) _ ?_ Tryz.underlying141 rfl info_rx ?_;(with_reducible rfl);rfl;exact HE5.out)
  | (refine wpList_store_row rfl 141 (.tmp 2) (.tmp 52) ?_ nb #[.int .i64 3,.int .i64 0,.int .i64 1,.int .u64 0,.int .u64 0,.int .u64 0,.int .u64 0,.slice (some ⟨w5.heap.size,0,none⟩) 1 1] ?_ ?_ 141 (cellsA (setA Q4.none)) ?_ info_rx rfl (cellsA_one (repA 0 1 w5.heap.size (RxA.node k mn mx s0 s1 s2 s3 a cap l))) ?_;(with_reducible rfl);rfl;rfl;exact alloc_old HN5.out _))
 refine bodyPost_ret (results_cell_row rfl _ _ nb 141 #[.int .i64 3,.int .i64 0,.int .i64 1,.int .u64 0,.int .u64 0,.int .u64 0,.int .u64 0,.slice (some ⟨w5.heap.size,0,none⟩) 1 1] (0,0) _ rfl (setRow_heap _ _ _ _ _ _ (alloc_old HN5.out (.cells #[.int .i64 k,.int .i64 mn,.int .i64 mx,.int .u64 s0,.int .u64 s1,.int .u64 s2,.int .u64 s3,.slice a l.length cap] 141))) Tryz.underlying141 rfl info_rx) rfl ?_
 have oc:=((o3.then o4).then o5)
 have hkk:=oc.size
 simp only [World.size_alloc] at hkk
 obtain ⟨hin,hbl⟩:=kept_in (wk:=(w5.alloc (.cells #[.int .i64 k,.int .i64 mn,.int .i64 mx,.int .u64 s0,.int .u64 s1,.int .u64 s2,.int .u64 s3,.slice a l.length cap] 141)).setRow nb #[.int .i64 3,.int .i64 0,.int .i64 1,.int .u64 0,.int .u64 0,.int .u64 0,.int .u64 0,.slice (some ⟨w5.heap.size,0,none⟩) 1 1]) hXI.out hXB.out (fun b h1 h2=>by rw [setRow_other _ _ _ _ (by omega),Below.heap_alloc _ _ _ (by omega),oc.block b (by simp;omega) (by omega),Below.heap_alloc _ _ _ h2]) (by simp;omega)
 have hrin:=repA_in (m:=0) (n:=1) hbm hbn hin ((setRow_other (w5.alloc (.cells #[.int .i64 k,.int .i64 mn,.int .i64 mx,.int .u64 s0,.int .u64 s1,.int .u64 s2,.int .u64 s3,.slice a l.length cap] 141)) nb w5.heap.size #[.int .i64 3,.int .i64 0,.int .i64 1,.int .u64 0,.int .u64 0,.int .u64 0,.int .u64 0,.slice (some ⟨w5.heap.size,0,none⟩) 1 1] (by omega)).trans (alloc_block _ _))
 refine⟨(((hO0.then o2).then oc).alloc _).setRow (q:=nb) (.inr (by omega)) _,.inr ⟨repA 0 1 w5.heap.size (RxA.node k mn mx s0 s1 s2 s3 a cap l),r.tail,by rw [repA_bare,←hX],rfl,(setRow_other _ _ _ _ (by omega)).trans (alloc_old h5 _),hrin,fun b hb=>?_⟩⟩
 rcases repA_blocks _ _ _ _ b hb with rfl | hb
 ·have:=hO0.size;simp only [size_setRow,World.size_alloc];omega
 ·have:=hbl b hb;have:=hO0.size;omega
set_option maxRecDepth 100000 in
set_option maxHeartbeats 1000000 in
theorem piece_b4 (w:World) (rb:Nat) (s:List UInt8) (h:ReadAt w rb s) (x:Rx) (r:List UInt8) (hr:r.length≤128) (hatom:AtomGives rb s x r) (h42:starts 42 r=false) (h43:starts 43 r=false) (h63:starts 63 r=false) (h123:starts 123 r=true) (hn:number r.tail=none) :
 Calls Tryz.prog 186 #[.pointer (some ⟨rb,0,none⟩)] w fun e w'=>ReadsRx rb w (sign x r) e w':=by
 have hlt:=lt_of_block h
 obtain ⟨nb,hnb⟩:∃ nb,w.heap.size=nb:=⟨_,rfl⟩
 obtain ⟨W0,hW0⟩:∃ W0,W0=(w.alloc (.cells #[.int .i64 0,.int .i64 0,.int .i64 0,.int .u64 0,.int .u64 0,.int .u64 0,.int .u64 0,.slice none 0 0] 141)):=⟨_,rfl⟩
 have hr0:ReadAt W0 rb s:=by rw [hW0];exact alloc_old h _
 have hN0:W0.heap[nb]?=some (.cells (cellsA (setA Q4.none)) 141 (0,0)):=by rw [hW0,←hnb];exact alloc_block _ _
 have hO0:Only (fun k=>k=rb) w W0:=by rw [hW0];exact (Only.refl _ w).alloc _
 have hnw:nb<W0.heap.size:=lt_of_block hN0
 have HATOM:=Lib.hid (hatom W0 hr0);clear hatom hr0
 rw [hW0] at HATOM
 have HN:=Lib.hid hN0;clear hN0
 have hS0:sign x r=match counts r.tail with | none=>none | some (m,n,r')=>some (.rep m n x,r'):=by unfold sign;rw [h42,h43,h63,h123];rfl
 have htl:=tail_le r
 have HT42:=Lib.hid (fun w1 (h1:ReadAt w1 rb r)=>take_no w1 rb 42 r h1 h42)
 have HT43:=Lib.hid (fun w1 (h1:ReadAt w1 rb r)=>take_no w1 rb 43 r h1 h43)
 have HT63:=Lib.hid (fun w1 (h1:ReadAt w1 rb r)=>take_no w1 rb 63 r h1 h63)
 have HT123:=Lib.hid (fun w1 (h1:ReadAt w1 rb r)=>take_yes w1 rb 123 r.tail (starts_cons h123▸h1))
 have HNA:=Lib.hid (fun w1 (h1:ReadAt w1 rb r.tail)=>(number_any w1 rb r.tail h1 (by omega)).mono fun e w2 hR=>hR.none hn)
 have hS:sign x r=none:=by
  rw [hS0]
  simp [counts,hn]
 rw [hS]
 clear hS hS0
 go_enter Tryz.func186,Tryz.ntmps186
 go_wp2_with (first
  | (go_at_call 192;(with_reducible refine HATOM.out.mono ?_);rintro e w1 ⟨k,mn,mx,s0,s1,s2,s3,a,cap,l,hX,rfl,h1,o1,hXin,hXb⟩;rw [←hW0] at o1 hXb;have hw1:=o1.size;have h2:ReadAt (w1.alloc (.cells #[.int .i64 k,.int .i64 mn,.int .i64 mx,.int .u64 s0,.int .u64 s1,.int .u64 s2,.int .u64 s3,.slice a l.length cap] 141)) rb r:=alloc_old h1 _;have hE2:=alloc_block w1 (.cells #[.int .i64 k,.int .i64 mn,.int .i64 mx,.int .u64 s0,.int .u64 s1,.int .u64 s2,.int .u64 s3,.slice a l.length cap] 141);have hN2:=alloc_old ((o1.block nb (by omega) (by omega)).trans HN.out) (.cells #[.int .i64 k,.int .i64 mn,.int .i64 mx,.int .u64 s0,.int .u64 s1,.int .u64 s2,.int .u64 s3,.slice a l.length cap] 141);have hlE2:=lt_of_block hE2;have hlN2:=lt_of_block hN2;have hne:¬ w1.heap.size=rb:=(by omega);have hnn:¬ nb=rb:=(by omega);have HE2:=Lib.hid hE2;have HN2:=Lib.hid hN2;clear hE2 hN2;have o2:=o1.alloc (.cells #[.int .i64 k,.int .i64 mn,.int .i64 mx,.int .u64 s0,.int .u64 s1,.int .u64 s2,.int .u64 s3,.slice a l.length cap] 141);have hXI:=Lib.hid hXin;have hXB:=Lib.hid hXb;clear hXin hXb;have hlt1:rb<w1.heap.size:=(by omega))
  | (go_at_call 188;(with_reducible refine (HT42.out _ h2).mono ?_);rintro e w3 ⟨rfl,h3,o3⟩;have hE3:=(o3.block w1.heap.size hlE2 hne).trans HE2.out;have hN3:=(o3.block nb hlN2 hnn).trans HN2.out;have hlE3:=lt_of_block hE3;have hlN3:=lt_of_block hN3;have HE3:=Lib.hid hE3;have HN3:=Lib.hid hN3;clear hE3 hN3)
  | (go_at_call 188;(with_reducible refine (HT43.out _ h3).mono ?_);rintro e w4 ⟨rfl,h4,o4⟩;have hE4:=(o4.block w1.heap.size hlE3 hne).trans HE3.out;have hN4:=(o4.block nb hlN3 hnn).trans HN3.out;have hlE4:=lt_of_block hE4;have hlN4:=lt_of_block hN4;have HE4:=Lib.hid hE4;have HN4:=Lib.hid hN4;clear hE4 hN4)
  | (go_at_call 188;(with_reducible refine (HT63.out _ h4).mono ?_);rintro e w5 ⟨rfl,h5,o5⟩;have hE5:=(o5.block w1.heap.size hlE4 hne).trans HE4.out;have hN5:=(o5.block nb hlN4 hnn).trans HN4.out;have hlE5:=lt_of_block hE5;have hlN5:=lt_of_block hN5;have HE5:=Lib.hid hE5;have HN5:=Lib.hid hN5;clear hE5 hN5)
  | (go_at_call 188;(with_reducible refine (HT123.out _ h5).mono ?_);rintro e w6 ⟨rfl,h6,o6⟩;have hE6:=(o6.block w1.heap.size hlE5 hne).trans HE5.out;have hN6:=(o6.block nb hlN5 hnn).trans HN5.out;have hlE6:=lt_of_block hE6;have hlN6:=lt_of_block hN6;have HE6:=Lib.hid hE6;have HN6:=Lib.hid hN6;clear hE6 hN6)
  | (go_at_call 193;(with_reducible refine (HNA.out _ h6).mono ?_);rintro e w7 ⟨rfl,o7⟩))
 exact⟨rfl,((((((hO0.then o2).then o3).then o4).then o5).then o6).then o7),.inl ⟨rfl,rfl⟩⟩
set_option maxRecDepth 100000 in
set_option maxHeartbeats 1000000 in
theorem piece_b5 (w:World) (rb:Nat) (s:List UInt8) (h:ReadAt w rb s) (x:Rx) (r:List UInt8) (hr:r.length≤128) (hatom:AtomGives rb s x r) (h42:starts 42 r=false) (h43:starts 43 r=false) (h63:starts 63 r=false) (h123:starts 123 r=true) (m:Nat) (r1:List UInt8) (hn:number r.tail=some (m,r1)) (h44:starts 44 r1=false) (h125:starts 125 r1=false) :
 Calls Tryz.prog 186 #[.pointer (some ⟨rb,0,none⟩)] w fun e w'=>ReadsRx rb w (sign x r) e w':=by
 have hlt:=lt_of_block h
 obtain ⟨nb,hnb⟩:∃ nb,w.heap.size=nb:=⟨_,rfl⟩
 obtain ⟨W0,hW0⟩:∃ W0,W0=(w.alloc (.cells #[.int .i64 0,.int .i64 0,.int .i64 0,.int .u64 0,.int .u64 0,.int .u64 0,.int .u64 0,.slice none 0 0] 141)):=⟨_,rfl⟩
 have hr0:ReadAt W0 rb s:=by rw [hW0];exact alloc_old h _
 have hN0:W0.heap[nb]?=some (.cells (cellsA (setA Q4.none)) 141 (0,0)):=by rw [hW0,←hnb];exact alloc_block _ _
 have hO0:Only (fun k=>k=rb) w W0:=by rw [hW0];exact (Only.refl _ w).alloc _
 have hnw:nb<W0.heap.size:=lt_of_block hN0
 have HATOM:=Lib.hid (hatom W0 hr0);clear hatom hr0
 rw [hW0] at HATOM
 have HN:=Lib.hid hN0;clear hN0
 have hS0:sign x r=match counts r.tail with | none=>none | some (m,n,r')=>some (.rep m n x,r'):=by unfold sign;rw [h42,h43,h63,h123];rfl
 have htl:=tail_le r
 have HT42:=Lib.hid (fun w1 (h1:ReadAt w1 rb r)=>take_no w1 rb 42 r h1 h42)
 have HT43:=Lib.hid (fun w1 (h1:ReadAt w1 rb r)=>take_no w1 rb 43 r h1 h43)
 have HT63:=Lib.hid (fun w1 (h1:ReadAt w1 rb r)=>take_no w1 rb 63 r h1 h63)
 have HT123:=Lib.hid (fun w1 (h1:ReadAt w1 rb r)=>take_yes w1 rb 123 r.tail (starts_cons h123▸h1))
 have hlm:=number_lt hn
 have HNA:=Lib.hid (fun w1 (h1:ReadAt w1 rb r.tail)=>(number_any w1 rb r.tail h1 (by omega)).mono fun e w2 hR=>hR.some hn)
 have HT44:=Lib.hid (fun w1 (h1:ReadAt w1 rb r1)=>take_no w1 rb 44 r1 h1 h44)
 have HT125:=Lib.hid (fun w1 (h1:ReadAt w1 rb r1)=>take_no w1 rb 125 r1 h1 h125)
 have hS:sign x r=none:=by
  rw [hS0]
  simp [counts,hn,h44,h125]
 rw [hS]
 clear hS hS0
 go_enter Tryz.func186,Tryz.ntmps186
 go_wp2_with (first
  | (go_at_call 192;(with_reducible refine HATOM.out.mono ?_);rintro e w1 ⟨k,mn,mx,s0,s1,s2,s3,a,cap,l,hX,rfl,h1,o1,hXin,hXb⟩;rw [←hW0] at o1 hXb;have hw1:=o1.size;have h2:ReadAt (w1.alloc (.cells #[.int .i64 k,.int .i64 mn,.int .i64 mx,.int .u64 s0,.int .u64 s1,.int .u64 s2,.int .u64 s3,.slice a l.length cap] 141)) rb r:=alloc_old h1 _;have hE2:=alloc_block w1 (.cells #[.int .i64 k,.int .i64 mn,.int .i64 mx,.int .u64 s0,.int .u64 s1,.int .u64 s2,.int .u64 s3,.slice a l.length cap] 141);have hN2:=alloc_old ((o1.block nb (by omega) (by omega)).trans HN.out) (.cells #[.int .i64 k,.int .i64 mn,.int .i64 mx,.int .u64 s0,.int .u64 s1,.int .u64 s2,.int .u64 s3,.slice a l.length cap] 141);have hlE2:=lt_of_block hE2;have hlN2:=lt_of_block hN2;have hne:¬ w1.heap.size=rb:=(by omega);have hnn:¬ nb=rb:=(by omega);have HE2:=Lib.hid hE2;have HN2:=Lib.hid hN2;clear hE2 hN2;have o2:=o1.alloc (.cells #[.int .i64 k,.int .i64 mn,.int .i64 mx,.int .u64 s0,.int .u64 s1,.int .u64 s2,.int .u64 s3,.slice a l.length cap] 141);have hXI:=Lib.hid hXin;have hXB:=Lib.hid hXb;clear hXin hXb;have hlt1:rb<w1.heap.size:=(by omega))
  | (go_at_call 188;(with_reducible refine (HT42.out _ h2).mono ?_);rintro e w3 ⟨rfl,h3,o3⟩;have hE3:=(o3.block w1.heap.size hlE2 hne).trans HE2.out;have hN3:=(o3.block nb hlN2 hnn).trans HN2.out;have hlE3:=lt_of_block hE3;have hlN3:=lt_of_block hN3;have HE3:=Lib.hid hE3;have HN3:=Lib.hid hN3;clear hE3 hN3)
  | (go_at_call 188;(with_reducible refine (HT43.out _ h3).mono ?_);rintro e w4 ⟨rfl,h4,o4⟩;have hE4:=(o4.block w1.heap.size hlE3 hne).trans HE3.out;have hN4:=(o4.block nb hlN3 hnn).trans HN3.out;have hlE4:=lt_of_block hE4;have hlN4:=lt_of_block hN4;have HE4:=Lib.hid hE4;have HN4:=Lib.hid hN4;clear hE4 hN4)
  | (go_at_call 188;(with_reducible refine (HT63.out _ h4).mono ?_);rintro e w5 ⟨rfl,h5,o5⟩;have hE5:=(o5.block w1.heap.size hlE4 hne).trans HE4.out;have hN5:=(o5.block nb hlN4 hnn).trans HN4.out;have hlE5:=lt_of_block hE5;have hlN5:=lt_of_block hN5;have HE5:=Lib.hid hE5;have HN5:=Lib.hid hN5;clear hE5 hN5)
  | (go_at_call 188;(with_reducible refine (HT123.out _ h5).mono ?_);rintro e w6 ⟨rfl,h6,o6⟩;have hE6:=(o6.block w1.heap.size hlE5 hne).trans HE5.out;have hN6:=(o6.block nb hlN5 hnn).trans HN5.out;have hlE6:=lt_of_block hE6;have hlN6:=lt_of_block hN6;have HE6:=Lib.hid hE6;have HN6:=Lib.hid hN6;clear hE6 hN6)
  | (go_at_call 193;(with_reducible refine (HNA.out _ h6).mono ?_);rintro e w7 ⟨rfl,h7,o7⟩;have hE7:=(o7.block w1.heap.size hlE6 hne).trans HE6.out;have hN7:=(o7.block nb hlN6 hnn).trans HN6.out;have hlE7:=lt_of_block hE7;have hlN7:=lt_of_block hN7;have HE7:=Lib.hid hE7;have HN7:=Lib.hid hN7;clear hE7 hN7)
  | (go_at_call 188;(with_reducible refine (HT44.out _ h7).mono ?_);rintro e w8 ⟨rfl,h8,o8⟩;have hE8:=(o8.block w1.heap.size hlE7 hne).trans HE7.out;have hN8:=(o8.block nb hlN7 hnn).trans HN7.out;have hlE8:=lt_of_block hE8;have hlN8:=lt_of_block hN8;have HE8:=Lib.hid hE8;have HN8:=Lib.hid hN8;clear hE8 hN8)
  | (go_at_call 188;(with_reducible refine (HT125.out _ h8).mono ?_);rintro e w9 ⟨rfl,h9,o9⟩;have hE9:=(o9.block w1.heap.size hlE8 hne).trans HE8.out;have hN9:=(o9.block nb hlN8 hnn).trans HN8.out;have hlE9:=lt_of_block hE9;have hlN9:=lt_of_block hN9;have HE9:=Lib.hid hE9;have HN9:=Lib.hid hN9;clear hE9 hN9)
  | (go_at_call 174;refine (must_no rfl _).mono ?_;rintro e wm ⟨rfl,hwm⟩;have hwm:=hwm.symm;subst hwm))
 exact⟨rfl,((((((((hO0.then o2).then o3).then o4).then o5).then o6).then o7).then o8).then o9),.inl ⟨rfl,rfl⟩⟩
set_option maxRecDepth 100000 in
set_option maxHeartbeats 1000000 in
theorem piece_b6 (w:World) (rb:Nat) (s:List UInt8) (h:ReadAt w rb s) (x:Rx) (r:List UInt8) (hr:r.length≤128) (hatom:AtomGives rb s x r) (h42:starts 42 r=false) (h43:starts 43 r=false) (h63:starts 63 r=false) (h123:starts 123 r=true) (m:Nat) (r1:List UInt8) (hn:number r.tail=some (m,r1)) (h44:starts 44 r1=false) (h125:starts 125 r1=true) :
 Calls Tryz.prog 186 #[.pointer (some ⟨rb,0,none⟩)] w fun e w'=>ReadsRx rb w (sign x r) e w':=by
 have hlt:=lt_of_block h
 obtain ⟨nb,hnb⟩:∃ nb,w.heap.size=nb:=⟨_,rfl⟩
 obtain ⟨W0,hW0⟩:∃ W0,W0=(w.alloc (.cells #[.int .i64 0,.int .i64 0,.int .i64 0,.int .u64 0,.int .u64 0,.int .u64 0,.int .u64 0,.slice none 0 0] 141)):=⟨_,rfl⟩
 have hr0:ReadAt W0 rb s:=by rw [hW0];exact alloc_old h _
 have hN0:W0.heap[nb]?=some (.cells (cellsA (setA Q4.none)) 141 (0,0)):=by rw [hW0,←hnb];exact alloc_block _ _
 have hO0:Only (fun k=>k=rb) w W0:=by rw [hW0];exact (Only.refl _ w).alloc _
 have hnw:nb<W0.heap.size:=lt_of_block hN0
 have HATOM:=Lib.hid (hatom W0 hr0);clear hatom hr0
 rw [hW0] at HATOM
 have HN:=Lib.hid hN0;clear hN0
 have hS0:sign x r=match counts r.tail with | none=>none | some (m,n,r')=>some (.rep m n x,r'):=by unfold sign;rw [h42,h43,h63,h123];rfl
 have htl:=tail_le r
 have HT42:=Lib.hid (fun w1 (h1:ReadAt w1 rb r)=>take_no w1 rb 42 r h1 h42)
 have HT43:=Lib.hid (fun w1 (h1:ReadAt w1 rb r)=>take_no w1 rb 43 r h1 h43)
 have HT63:=Lib.hid (fun w1 (h1:ReadAt w1 rb r)=>take_no w1 rb 63 r h1 h63)
 have HT123:=Lib.hid (fun w1 (h1:ReadAt w1 rb r)=>take_yes w1 rb 123 r.tail (starts_cons h123▸h1))
 have hlm:=number_lt hn
 have HNA:=Lib.hid (fun w1 (h1:ReadAt w1 rb r.tail)=>(number_any w1 rb r.tail h1 (by omega)).mono fun e w2 hR=>hR.some hn)
 have HT44:=Lib.hid (fun w1 (h1:ReadAt w1 rb r1)=>take_no w1 rb 44 r1 h1 h44)
 have HT125:=Lib.hid (fun w1 (h1:ReadAt w1 rb r1)=>take_yes w1 rb 125 r1.tail (starts_cons h125▸h1))
 have hS:sign x r=some (.rep (m:Nat) (m:Nat) x,r1.tail):=by
  rw [hS0]
  simp [counts,hn,h44,h125]
 rw [hS]
 clear hS hS0
 have hbm:(0:Int)≤(m:Nat)∧((m:Nat):Int)≤15:=by omega
 have hbn:(-1:Int)≤(m:Nat)∧((m:Nat):Int)≤15:=by omega
 go_enter Tryz.func186,Tryz.ntmps186
 go_wp2_with (first
  | (go_at_call 192;(with_reducible refine HATOM.out.mono ?_);rintro e w1 ⟨k,mn,mx,s0,s1,s2,s3,a,cap,l,hX,rfl,h1,o1,hXin,hXb⟩;rw [←hW0] at o1 hXb;have hw1:=o1.size;have h2:ReadAt (w1.alloc (.cells #[.int .i64 k,.int .i64 mn,.int .i64 mx,.int .u64 s0,.int .u64 s1,.int .u64 s2,.int .u64 s3,.slice a l.length cap] 141)) rb r:=alloc_old h1 _;have hE2:=alloc_block w1 (.cells #[.int .i64 k,.int .i64 mn,.int .i64 mx,.int .u64 s0,.int .u64 s1,.int .u64 s2,.int .u64 s3,.slice a l.length cap] 141);have hN2:=alloc_old ((o1.block nb (by omega) (by omega)).trans HN.out) (.cells #[.int .i64 k,.int .i64 mn,.int .i64 mx,.int .u64 s0,.int .u64 s1,.int .u64 s2,.int .u64 s3,.slice a l.length cap] 141);have hlE2:=lt_of_block hE2;have hlN2:=lt_of_block hN2;have hne:¬ w1.heap.size=rb:=(by omega);have hnn:¬ nb=rb:=(by omega);have HE2:=Lib.hid hE2;have HN2:=Lib.hid hN2;clear hE2 hN2;have o2:=o1.alloc (.cells #[.int .i64 k,.int .i64 mn,.int .i64 mx,.int .u64 s0,.int .u64 s1,.int .u64 s2,.int .u64 s3,.slice a l.length cap] 141);have hXI:=Lib.hid hXin;have hXB:=Lib.hid hXb;clear hXin hXb;have hlt1:rb<w1.heap.size:=(by omega))
  | (go_at_call 188;(with_reducible refine (HT42.out _ h2).mono ?_);rintro e w3 ⟨rfl,h3,o3⟩;have hE3:=(o3.block w1.heap.size hlE2 hne).trans HE2.out;have hN3:=(o3.block nb hlN2 hnn).trans HN2.out;have hlE3:=lt_of_block hE3;have hlN3:=lt_of_block hN3;have HE3:=Lib.hid hE3;have HN3:=Lib.hid hN3;clear hE3 hN3)
  | (go_at_call 188;(with_reducible refine (HT43.out _ h3).mono ?_);rintro e w4 ⟨rfl,h4,o4⟩;have hE4:=(o4.block w1.heap.size hlE3 hne).trans HE3.out;have hN4:=(o4.block nb hlN3 hnn).trans HN3.out;have hlE4:=lt_of_block hE4;have hlN4:=lt_of_block hN4;have HE4:=Lib.hid hE4;have HN4:=Lib.hid hN4;clear hE4 hN4)
  | (go_at_call 188;(with_reducible refine (HT63.out _ h4).mono ?_);rintro e w5 ⟨rfl,h5,o5⟩;have hE5:=(o5.block w1.heap.size hlE4 hne).trans HE4.out;have hN5:=(o5.block nb hlN4 hnn).trans HN4.out;have hlE5:=lt_of_block hE5;have hlN5:=lt_of_block hN5;have HE5:=Lib.hid hE5;have HN5:=Lib.hid hN5;clear hE5 hN5)
  | (go_at_call 188;(with_reducible refine (HT123.out _ h5).mono ?_);rintro e w6 ⟨rfl,h6,o6⟩;have hE6:=(o6.block w1.heap.size hlE5 hne).trans HE5.out;have hN6:=(o6.block nb hlN5 hnn).trans HN5.out;have hlE6:=lt_of_block hE6;have hlN6:=lt_of_block hN6;have HE6:=Lib.hid hE6;have HN6:=Lib.hid hN6;clear hE6 hN6)
  | (go_at_call 193;(with_reducible refine (HNA.out _ h6).mono ?_);rintro e w7 ⟨rfl,h7,o7⟩;have hE7:=(o7.block w1.heap.size hlE6 hne).trans HE6.out;have hN7:=(o7.block nb hlN6 hnn).trans HN6.out;have hlE7:=lt_of_block hE7;have hlN7:=lt_of_block hN7;have HE7:=Lib.hid hE7;have HN7:=Lib.hid hN7;clear hE7 hN7)
  | (go_at_call 188;(with_reducible refine (HT44.out _ h7).mono ?_);rintro e w8 ⟨rfl,h8,o8⟩;have hE8:=(o8.block w1.heap.size hlE7 hne).trans HE7.out;have hN8:=(o8.block nb hlN7 hnn).trans HN7.out;have hlE8:=lt_of_block hE8;have hlN8:=lt_of_block hN8;have HE8:=Lib.hid hE8;have HN8:=Lib.hid hN8;clear hE8 hN8)
  | (go_at_call 188;(with_reducible refine (HT125.out _ h8).mono ?_);rintro e w9 ⟨rfl,h9,o9⟩;have hE9:=(o9.block w1.heap.size hlE8 hne).trans HE8.out;have hN9:=(o9.block nb hlN8 hnn).trans HN8.out;have hlE9:=lt_of_block hE9;have hlN9:=lt_of_block hN9;have HE9:=Lib.hid hE9;have HN9:=Lib.hid hN9;clear hE9 hN9)
  | (go_at_call 174;refine (must_yes rfl _).mono ?_;rintro e wm ⟨rfl,hwm⟩;have hwm:=hwm.symm;subst hwm)
  | (refine wpList_load_row rfl 141 (.tmp 3) ?_ w1.heap.size ?_ 141 #[.int .i64 k,.int .i64 mn,.int .i64 mx,.int .u64 s0,.int .u64 s1,.int .u64 s2,.int .u64 s3,.slice a l.length cap] (0,0) _ ?_ Tryz.underlying141 rfl info_rx ?_;(with_reducible rfl);rfl;exact HE9.out)
  | (refine wpList_store_row rfl 141 (.tmp 2) (.tmp 52) ?_ nb #[.int .i64 3,.int .i64 (m:Nat),.int .i64 (m:Nat),.int .u64 0,.int .u64 0,.int .u64 0,.int .u64 0,.slice (some ⟨w9.heap.size,0,none⟩) 1 1] ?_ ?_ 141 (cellsA (setA Q4.none)) ?_ info_rx rfl (cellsA_one (repA (m:Nat) (m:Nat) w9.heap.size (RxA.node k mn mx s0 s1 s2 s3 a cap l))) ?_;(with_reducible rfl);rfl;rfl;exact alloc_old HN9.out _))
 refine bodyPost_ret (results_cell_row rfl _ _ nb 141 #[.int .i64 3,.int .i64 (m:Nat),.int .i64 (m:Nat),.int .u64 0,.int .u64 0,.int .u64 0,.int .u64 0,.slice (some ⟨w9.heap.size,0,none⟩) 1 1] (0,0) _ rfl (setRow_heap _ _ _ _ _ _ (alloc_old HN9.out (.cells #[.int .i64 k,.int .i64 mn,.int .i64 mx,.int .u64 s0,.int .u64 s1,.int .u64 s2,.int .u64 s3,.slice a l.length cap] 141))) Tryz.underlying141 rfl info_rx) rfl ?_
 have oc:=((((((o3.then o4).then o5).then o6).then o7).then o8).then o9)
 have hkk:=oc.size
 simp only [World.size_alloc] at hkk
 obtain ⟨hin,hbl⟩:=kept_in (wk:=(w9.alloc (.cells #[.int .i64 k,.int .i64 mn,.int .i64 mx,.int .u64 s0,.int .u64 s1,.int .u64 s2,.int .u64 s3,.slice a l.length cap] 141)).setRow nb #[.int .i64 3,.int .i64 (m:Nat),.int .i64 (m:Nat),.int .u64 0,.int .u64 0,.int .u64 0,.int .u64 0,.slice (some ⟨w9.heap.size,0,none⟩) 1 1]) hXI.out hXB.out (fun b h1 h2=>by rw [setRow_other _ _ _ _ (by omega),Below.heap_alloc _ _ _ (by omega),oc.block b (by simp;omega) (by omega),Below.heap_alloc _ _ _ h2]) (by simp;omega)
 have hrin:=repA_in (m:=(m:Nat)) (n:=(m:Nat)) hbm hbn hin ((setRow_other (w9.alloc (.cells #[.int .i64 k,.int .i64 mn,.int .i64 mx,.int .u64 s0,.int .u64 s1,.int .u64 s2,.int .u64 s3,.slice a l.length cap] 141)) nb w9.heap.size #[.int .i64 3,.int .i64 (m:Nat),.int .i64 (m:Nat),.int .u64 0,.int .u64 0,.int .u64 0,.int .u64 0,.slice (some ⟨w9.heap.size,0,none⟩) 1 1] (by omega)).trans (alloc_block _ _))
 refine⟨(((hO0.then o2).then oc).alloc _).setRow (q:=nb) (.inr (by omega)) _,.inr ⟨repA (m:Nat) (m:Nat) w9.heap.size (RxA.node k mn mx s0 s1 s2 s3 a cap l),r1.tail,by rw [repA_bare,←hX],rfl,(setRow_other _ _ _ _ (by omega)).trans (alloc_old h9 _),hrin,fun b hb=>?_⟩⟩
 rcases repA_blocks _ _ _ _ b hb with rfl | hb
 ·have:=hO0.size;simp only [size_setRow,World.size_alloc];omega
 ·have:=hbl b hb;have:=hO0.size;omega
set_option maxRecDepth 100000 in
set_option maxHeartbeats 1000000 in
theorem piece_b7 (w:World) (rb:Nat) (s:List UInt8) (h:ReadAt w rb s) (x:Rx) (r:List UInt8) (hr:r.length≤128) (hatom:AtomGives rb s x r) (h42:starts 42 r=false) (h43:starts 43 r=false) (h63:starts 63 r=false) (h123:starts 123 r=true) (m:Nat) (r1:List UInt8) (hn:number r.tail=some (m,r1)) (h44:starts 44 r1=true) (h2t:r1.tail=[]) :
 Calls Tryz.prog 186 #[.pointer (some ⟨rb,0,none⟩)] w fun e w'=>ReadsRx rb w (sign x r) e w':=by
 have hlt:=lt_of_block h
 obtain ⟨nb,hnb⟩:∃ nb,w.heap.size=nb:=⟨_,rfl⟩
 obtain ⟨W0,hW0⟩:∃ W0,W0=(w.alloc (.cells #[.int .i64 0,.int .i64 0,.int .i64 0,.int .u64 0,.int .u64 0,.int .u64 0,.int .u64 0,.slice none 0 0] 141)):=⟨_,rfl⟩
 have hr0:ReadAt W0 rb s:=by rw [hW0];exact alloc_old h _
 have hN0:W0.heap[nb]?=some (.cells (cellsA (setA Q4.none)) 141 (0,0)):=by rw [hW0,←hnb];exact alloc_block _ _
 have hO0:Only (fun k=>k=rb) w W0:=by rw [hW0];exact (Only.refl _ w).alloc _
 have hnw:nb<W0.heap.size:=lt_of_block hN0
 have HATOM:=Lib.hid (hatom W0 hr0);clear hatom hr0
 rw [hW0] at HATOM
 have HN:=Lib.hid hN0;clear hN0
 have hS0:sign x r=match counts r.tail with | none=>none | some (m,n,r')=>some (.rep m n x,r'):=by unfold sign;rw [h42,h43,h63,h123];rfl
 have htl:=tail_le r
 have HT42:=Lib.hid (fun w1 (h1:ReadAt w1 rb r)=>take_no w1 rb 42 r h1 h42)
 have HT43:=Lib.hid (fun w1 (h1:ReadAt w1 rb r)=>take_no w1 rb 43 r h1 h43)
 have HT63:=Lib.hid (fun w1 (h1:ReadAt w1 rb r)=>take_no w1 rb 63 r h1 h63)
 have HT123:=Lib.hid (fun w1 (h1:ReadAt w1 rb r)=>take_yes w1 rb 123 r.tail (starts_cons h123▸h1))
 have hlm:=number_lt hn
 have HNA:=Lib.hid (fun w1 (h1:ReadAt w1 rb r.tail)=>(number_any w1 rb r.tail h1 (by omega)).mono fun e w2 hR=>hR.some hn)
 have HT44:=Lib.hid (fun w1 (h1:ReadAt w1 rb r1)=>show Calls Tryz.prog 188 #[.pointer (some ⟨rb,0,none⟩),.string ⟨#[44]⟩] w1 fun e w'=>e=.returned (.bool true)∧ReadAt w' rb []∧Only (fun k=>k=rb) w1 w' from by
  have h:=take_yes w1 rb 44 r1.tail (by rw [←starts_cons h44];exact h1)
  rw [h2t] at h
  exact h)
 have HT125:=Lib.hid (fun w1 (h1:ReadAt w1 rb [])=>take_no w1 rb 125 [] h1 rfl)
 have hS:sign x r=none:=by
  rw [hS0]
  have hst:starts 125 ([]:List UInt8)=false:=rfl
  have hnn:number []=none:=rfl
  simp [counts,hn,h44,h2t,hst,hnn]
 rw [hS]
 clear hS hS0
 clear h2t
 go_enter Tryz.func186,Tryz.ntmps186
 go_wp2_with (first
  | (go_at_call 192;(with_reducible refine HATOM.out.mono ?_);rintro e w1 ⟨k,mn,mx,s0,s1,s2,s3,a,cap,l,hX,rfl,h1,o1,hXin,hXb⟩;rw [←hW0] at o1 hXb;have hw1:=o1.size;have h2:ReadAt (w1.alloc (.cells #[.int .i64 k,.int .i64 mn,.int .i64 mx,.int .u64 s0,.int .u64 s1,.int .u64 s2,.int .u64 s3,.slice a l.length cap] 141)) rb r:=alloc_old h1 _;have hE2:=alloc_block w1 (.cells #[.int .i64 k,.int .i64 mn,.int .i64 mx,.int .u64 s0,.int .u64 s1,.int .u64 s2,.int .u64 s3,.slice a l.length cap] 141);have hN2:=alloc_old ((o1.block nb (by omega) (by omega)).trans HN.out) (.cells #[.int .i64 k,.int .i64 mn,.int .i64 mx,.int .u64 s0,.int .u64 s1,.int .u64 s2,.int .u64 s3,.slice a l.length cap] 141);have hlE2:=lt_of_block hE2;have hlN2:=lt_of_block hN2;have hne:¬ w1.heap.size=rb:=(by omega);have hnn:¬ nb=rb:=(by omega);have HE2:=Lib.hid hE2;have HN2:=Lib.hid hN2;clear hE2 hN2;have o2:=o1.alloc (.cells #[.int .i64 k,.int .i64 mn,.int .i64 mx,.int .u64 s0,.int .u64 s1,.int .u64 s2,.int .u64 s3,.slice a l.length cap] 141);have hXI:=Lib.hid hXin;have hXB:=Lib.hid hXb;clear hXin hXb;have hlt1:rb<w1.heap.size:=(by omega))
  | (go_at_call 188;(with_reducible refine (HT42.out _ h2).mono ?_);rintro e w3 ⟨rfl,h3,o3⟩;have hE3:=(o3.block w1.heap.size hlE2 hne).trans HE2.out;have hN3:=(o3.block nb hlN2 hnn).trans HN2.out;have hlE3:=lt_of_block hE3;have hlN3:=lt_of_block hN3;have HE3:=Lib.hid hE3;have HN3:=Lib.hid hN3;clear hE3 hN3)
  | (go_at_call 188;(with_reducible refine (HT43.out _ h3).mono ?_);rintro e w4 ⟨rfl,h4,o4⟩;have hE4:=(o4.block w1.heap.size hlE3 hne).trans HE3.out;have hN4:=(o4.block nb hlN3 hnn).trans HN3.out;have hlE4:=lt_of_block hE4;have hlN4:=lt_of_block hN4;have HE4:=Lib.hid hE4;have HN4:=Lib.hid hN4;clear hE4 hN4)
  | (go_at_call 188;(with_reducible refine (HT63.out _ h4).mono ?_);rintro e w5 ⟨rfl,h5,o5⟩;have hE5:=(o5.block w1.heap.size hlE4 hne).trans HE4.out;have hN5:=(o5.block nb hlN4 hnn).trans HN4.out;have hlE5:=lt_of_block hE5;have hlN5:=lt_of_block hN5;have HE5:=Lib.hid hE5;have HN5:=Lib.hid hN5;clear hE5 hN5)
  | (go_at_call 188;(with_reducible refine (HT123.out _ h5).mono ?_);rintro e w6 ⟨rfl,h6,o6⟩;have hE6:=(o6.block w1.heap.size hlE5 hne).trans HE5.out;have hN6:=(o6.block nb hlN5 hnn).trans HN5.out;have hlE6:=lt_of_block hE6;have hlN6:=lt_of_block hN6;have HE6:=Lib.hid hE6;have HN6:=Lib.hid hN6;clear hE6 hN6)
  | (go_at_call 193;(with_reducible refine (HNA.out _ h6).mono ?_);rintro e w7 ⟨rfl,h7,o7⟩;have hE7:=(o7.block w1.heap.size hlE6 hne).trans HE6.out;have hN7:=(o7.block nb hlN6 hnn).trans HN6.out;have hlE7:=lt_of_block hE7;have hlN7:=lt_of_block hN7;have HE7:=Lib.hid hE7;have HN7:=Lib.hid hN7;clear hE7 hN7)
  | (go_at_call 188;(with_reducible refine (HT44.out _ h7).mono ?_);rintro e w8 ⟨rfl,h8,o8⟩;have hE8:=(o8.block w1.heap.size hlE7 hne).trans HE7.out;have hN8:=(o8.block nb hlN7 hnn).trans HN7.out;have hlE8:=lt_of_block hE8;have hlN8:=lt_of_block hN8;have HE8:=Lib.hid hE8;have HN8:=Lib.hid hN8;clear hE8 hN8;have hc8:w8.cell? ⟨rb,0,none⟩=some (.string ⟨#[]⟩):=read_cell h8)
  | (go_at_call 188;(with_reducible refine (HT125.out _ h8).mono ?_);rintro e w9 ⟨rfl,h9,o9⟩;have hE9:=(o9.block w1.heap.size hlE8 hne).trans HE8.out;have hN9:=(o9.block nb hlN8 hnn).trans HN8.out;have hlE9:=lt_of_block hE9;have hlN9:=lt_of_block hN9;have HE9:=Lib.hid hE9;have HN9:=Lib.hid hN9;clear hE9 hN9)
  | (go_at_call 174;refine (must_no rfl _).mono ?_;rintro e wm ⟨rfl,hwm⟩;have hwm:=hwm.symm;subst hwm))
 exact⟨rfl,((((((((hO0.then o2).then o3).then o4).then o5).then o6).then o7).then o8).then o9),.inl ⟨rfl,rfl⟩⟩
set_option maxRecDepth 100000 in
set_option maxHeartbeats 1000000 in
theorem piece_b8 (w:World) (rb:Nat) (s:List UInt8) (h:ReadAt w rb s) (x:Rx) (r:List UInt8) (hr:r.length≤128) (hatom:AtomGives rb s x r) (h42:starts 42 r=false) (h43:starts 43 r=false) (h63:starts 63 r=false) (h123:starts 123 r=true) (m:Nat) (r1:List UInt8) (hn:number r.tail=some (m,r1)) (h44:starts 44 r1=true) (r2:List UInt8) (h2t:r1.tail=r2) (u:List UInt8) (hr2:r2=125::u) :
 Calls Tryz.prog 186 #[.pointer (some ⟨rb,0,none⟩)] w fun e w'=>ReadsRx rb w (sign x r) e w':=by
 have hlt:=lt_of_block h
 obtain ⟨nb,hnb⟩:∃ nb,w.heap.size=nb:=⟨_,rfl⟩
 obtain ⟨W0,hW0⟩:∃ W0,W0=(w.alloc (.cells #[.int .i64 0,.int .i64 0,.int .i64 0,.int .u64 0,.int .u64 0,.int .u64 0,.int .u64 0,.slice none 0 0] 141)):=⟨_,rfl⟩
 have hr0:ReadAt W0 rb s:=by rw [hW0];exact alloc_old h _
 have hN0:W0.heap[nb]?=some (.cells (cellsA (setA Q4.none)) 141 (0,0)):=by rw [hW0,←hnb];exact alloc_block _ _
 have hO0:Only (fun k=>k=rb) w W0:=by rw [hW0];exact (Only.refl _ w).alloc _
 have hnw:nb<W0.heap.size:=lt_of_block hN0
 have HATOM:=Lib.hid (hatom W0 hr0);clear hatom hr0
 rw [hW0] at HATOM
 have HN:=Lib.hid hN0;clear hN0
 have hS0:sign x r=match counts r.tail with | none=>none | some (m,n,r')=>some (.rep m n x,r'):=by unfold sign;rw [h42,h43,h63,h123];rfl
 have htl:=tail_le r
 have HT42:=Lib.hid (fun w1 (h1:ReadAt w1 rb r)=>take_no w1 rb 42 r h1 h42)
 have HT43:=Lib.hid (fun w1 (h1:ReadAt w1 rb r)=>take_no w1 rb 43 r h1 h43)
 have HT63:=Lib.hid (fun w1 (h1:ReadAt w1 rb r)=>take_no w1 rb 63 r h1 h63)
 have HT123:=Lib.hid (fun w1 (h1:ReadAt w1 rb r)=>take_yes w1 rb 123 r.tail (starts_cons h123▸h1))
 have hlm:=number_lt hn
 subst hr2
 have HNA:=Lib.hid (fun w1 (h1:ReadAt w1 rb r.tail)=>(number_any w1 rb r.tail h1 (by omega)).mono fun e w2 hR=>hR.some hn)
 have HT44:=Lib.hid (fun w1 (h1:ReadAt w1 rb r1)=>show Calls Tryz.prog 188 #[.pointer (some ⟨rb,0,none⟩),.string ⟨#[44]⟩] w1 fun e w'=>e=.returned (.bool true)∧ReadAt w' rb (125::u)∧Only (fun k=>k=rb) w1 w' from by
  have h:=take_yes w1 rb 44 r1.tail (by rw [←starts_cons h44];exact h1)
  rw [h2t] at h
  exact h)
 have HT125:=Lib.hid (fun w1 (h1:ReadAt w1 rb (125::u))=>take_yes w1 rb 125 u h1)
 obtain ⟨S,HSS⟩:∃ S:ByteArray,Hid ((⟨(125::u).toArray⟩:ByteArray)=S):=⟨_,Lib.hid rfl⟩
 obtain ⟨hne,hem,hsz,hat,-⟩:=full 125 u HSS.out
 have hS:sign x r=some (.rep (m:Nat) (-1) x,u):=by
  rw [hS0]
  have hst:starts 125 (125::u)=true:=by simp [starts]
  simp [counts,hn,h44,h2t,hst]
 rw [hS]
 clear hS hS0
 have hbm:(0:Int)≤(m:Nat)∧((m:Nat):Int)≤15:=by omega
 have hbn:(-1:Int)≤(-1)∧((-1):Int)≤15:=by omega
 go_enter Tryz.func186,Tryz.ntmps186
 go_wp2_with (first
  | (go_at_call 192;(with_reducible refine HATOM.out.mono ?_);rintro e w1 ⟨k,mn,mx,s0,s1,s2,s3,a,cap,l,hX,rfl,h1,o1,hXin,hXb⟩;rw [←hW0] at o1 hXb;have hw1:=o1.size;have h2:ReadAt (w1.alloc (.cells #[.int .i64 k,.int .i64 mn,.int .i64 mx,.int .u64 s0,.int .u64 s1,.int .u64 s2,.int .u64 s3,.slice a l.length cap] 141)) rb r:=alloc_old h1 _;have hE2:=alloc_block w1 (.cells #[.int .i64 k,.int .i64 mn,.int .i64 mx,.int .u64 s0,.int .u64 s1,.int .u64 s2,.int .u64 s3,.slice a l.length cap] 141);have hN2:=alloc_old ((o1.block nb (by omega) (by omega)).trans HN.out) (.cells #[.int .i64 k,.int .i64 mn,.int .i64 mx,.int .u64 s0,.int .u64 s1,.int .u64 s2,.int .u64 s3,.slice a l.length cap] 141);have hlE2:=lt_of_block hE2;have hlN2:=lt_of_block hN2;have hne:¬ w1.heap.size=rb:=(by omega);have hnn:¬ nb=rb:=(by omega);have HE2:=Lib.hid hE2;have HN2:=Lib.hid hN2;clear hE2 hN2;have o2:=o1.alloc (.cells #[.int .i64 k,.int .i64 mn,.int .i64 mx,.int .u64 s0,.int .u64 s1,.int .u64 s2,.int .u64 s3,.slice a l.length cap] 141);have hXI:=Lib.hid hXin;have hXB:=Lib.hid hXb;clear hXin hXb;have hlt1:rb<w1.heap.size:=(by omega))
  | (go_at_call 188;(with_reducible refine (HT42.out _ h2).mono ?_);rintro e w3 ⟨rfl,h3,o3⟩;have hE3:=(o3.block w1.heap.size hlE2 hne).trans HE2.out;have hN3:=(o3.block nb hlN2 hnn).trans HN2.out;have hlE3:=lt_of_block hE3;have hlN3:=lt_of_block hN3;have HE3:=Lib.hid hE3;have HN3:=Lib.hid hN3;clear hE3 hN3)
  | (go_at_call 188;(with_reducible refine (HT43.out _ h3).mono ?_);rintro e w4 ⟨rfl,h4,o4⟩;have hE4:=(o4.block w1.heap.size hlE3 hne).trans HE3.out;have hN4:=(o4.block nb hlN3 hnn).trans HN3.out;have hlE4:=lt_of_block hE4;have hlN4:=lt_of_block hN4;have HE4:=Lib.hid hE4;have HN4:=Lib.hid hN4;clear hE4 hN4)
  | (go_at_call 188;(with_reducible refine (HT63.out _ h4).mono ?_);rintro e w5 ⟨rfl,h5,o5⟩;have hE5:=(o5.block w1.heap.size hlE4 hne).trans HE4.out;have hN5:=(o5.block nb hlN4 hnn).trans HN4.out;have hlE5:=lt_of_block hE5;have hlN5:=lt_of_block hN5;have HE5:=Lib.hid hE5;have HN5:=Lib.hid hN5;clear hE5 hN5)
  | (go_at_call 188;(with_reducible refine (HT123.out _ h5).mono ?_);rintro e w6 ⟨rfl,h6,o6⟩;have hE6:=(o6.block w1.heap.size hlE5 hne).trans HE5.out;have hN6:=(o6.block nb hlN5 hnn).trans HN5.out;have hlE6:=lt_of_block hE6;have hlN6:=lt_of_block hN6;have HE6:=Lib.hid hE6;have HN6:=Lib.hid hN6;clear hE6 hN6)
  | (go_at_call 193;(with_reducible refine (HNA.out _ h6).mono ?_);rintro e w7 ⟨rfl,h7,o7⟩;have hE7:=(o7.block w1.heap.size hlE6 hne).trans HE6.out;have hN7:=(o7.block nb hlN6 hnn).trans HN6.out;have hlE7:=lt_of_block hE7;have hlN7:=lt_of_block hN7;have HE7:=Lib.hid hE7;have HN7:=Lib.hid hN7;clear hE7 hN7)
  | (go_at_call 188;(with_reducible refine (HT44.out _ h7).mono ?_);rintro e w8 ⟨rfl,h8,o8⟩;have hE8:=(o8.block w1.heap.size hlE7 hne).trans HE7.out;have hN8:=(o8.block nb hlN7 hnn).trans HN7.out;have hlE8:=lt_of_block hE8;have hlN8:=lt_of_block hN8;have HE8:=Lib.hid hE8;have HN8:=Lib.hid hN8;clear hE8 hN8;have hS8:=h8;unfold ReadAt at hS8;rw [HSS.out] at hS8;have hc8:=read_cell hS8;clear hS8)
  | (go_at_call 188;(with_reducible refine (HT125.out _ h8).mono ?_);rintro e w9 ⟨rfl,h9,o9⟩;have hE9:=(o9.block w1.heap.size hlE8 hne).trans HE8.out;have hN9:=(o9.block nb hlN8 hnn).trans HN8.out;have hlE9:=lt_of_block hE9;have hlN9:=lt_of_block hN9;have HE9:=Lib.hid hE9;have HN9:=Lib.hid hN9;clear hE9 hN9)
  | (go_at_call 174;refine (must_yes rfl _).mono ?_;rintro e wm ⟨rfl,hwm⟩;have hwm:=hwm.symm;subst hwm)
  | (refine wpList_load_row rfl 141 (.tmp 3) ?_ w1.heap.size ?_ 141 #[.int .i64 k,.int .i64 mn,.int .i64 mx,.int .u64 s0,.int .u64 s1,.int .u64 s2,.int .u64 s3,.slice a l.length cap] (0,0) _ ?_ Tryz.underlying141 rfl info_rx ?_;(with_reducible rfl);rfl;exact HE9.out)
  | (refine wpList_store_row rfl 141 (.tmp 2) (.tmp 52) ?_ nb #[.int .i64 3,.int .i64 (m:Nat),.int .i64 (-1),.int .u64 0,.int .u64 0,.int .u64 0,.int .u64 0,.slice (some ⟨w9.heap.size,0,none⟩) 1 1] ?_ ?_ 141 (cellsA (setA Q4.none)) ?_ info_rx rfl (cellsA_one (repA (m:Nat) (-1) w9.heap.size (RxA.node k mn mx s0 s1 s2 s3 a cap l))) ?_;(with_reducible rfl);rfl;rfl;exact alloc_old HN9.out _))
 refine bodyPost_ret (results_cell_row rfl _ _ nb 141 #[.int .i64 3,.int .i64 (m:Nat),.int .i64 (-1),.int .u64 0,.int .u64 0,.int .u64 0,.int .u64 0,.slice (some ⟨w9.heap.size,0,none⟩) 1 1] (0,0) _ rfl (setRow_heap _ _ _ _ _ _ (alloc_old HN9.out (.cells #[.int .i64 k,.int .i64 mn,.int .i64 mx,.int .u64 s0,.int .u64 s1,.int .u64 s2,.int .u64 s3,.slice a l.length cap] 141))) Tryz.underlying141 rfl info_rx) rfl ?_
 have oc:=((((((o3.then o4).then o5).then o6).then o7).then o8).then o9)
 have hkk:=oc.size
 simp only [World.size_alloc] at hkk
 obtain ⟨hin,hbl⟩:=kept_in (wk:=(w9.alloc (.cells #[.int .i64 k,.int .i64 mn,.int .i64 mx,.int .u64 s0,.int .u64 s1,.int .u64 s2,.int .u64 s3,.slice a l.length cap] 141)).setRow nb #[.int .i64 3,.int .i64 (m:Nat),.int .i64 (-1),.int .u64 0,.int .u64 0,.int .u64 0,.int .u64 0,.slice (some ⟨w9.heap.size,0,none⟩) 1 1]) hXI.out hXB.out (fun b h1 h2=>by rw [setRow_other _ _ _ _ (by omega),Below.heap_alloc _ _ _ (by omega),oc.block b (by simp;omega) (by omega),Below.heap_alloc _ _ _ h2]) (by simp;omega)
 have hrin:=repA_in (m:=(m:Nat)) (n:=(-1)) hbm hbn hin ((setRow_other (w9.alloc (.cells #[.int .i64 k,.int .i64 mn,.int .i64 mx,.int .u64 s0,.int .u64 s1,.int .u64 s2,.int .u64 s3,.slice a l.length cap] 141)) nb w9.heap.size #[.int .i64 3,.int .i64 (m:Nat),.int .i64 (-1),.int .u64 0,.int .u64 0,.int .u64 0,.int .u64 0,.slice (some ⟨w9.heap.size,0,none⟩) 1 1] (by omega)).trans (alloc_block _ _))
 refine⟨(((hO0.then o2).then oc).alloc _).setRow (q:=nb) (.inr (by omega)) _,.inr ⟨repA (m:Nat) (-1) w9.heap.size (RxA.node k mn mx s0 s1 s2 s3 a cap l),u,by rw [repA_bare,←hX],rfl,(setRow_other _ _ _ _ (by omega)).trans (alloc_old h9 _),hrin,fun b hb=>?_⟩⟩
 rcases repA_blocks _ _ _ _ b hb with rfl | hb
 ·have:=hO0.size;simp only [size_setRow,World.size_alloc];omega
 ·have:=hbl b hb;have:=hO0.size;omega
set_option maxRecDepth 100000 in
set_option maxHeartbeats 1000000 in
theorem piece_b9 (w:World) (rb:Nat) (s:List UInt8) (h:ReadAt w rb s) (x:Rx) (r:List UInt8) (hr:r.length≤128) (hatom:AtomGives rb s x r) (h42:starts 42 r=false) (h43:starts 43 r=false) (h63:starts 63 r=false) (h123:starts 123 r=true) (m:Nat) (r1:List UInt8) (hn:number r.tail=some (m,r1)) (h44:starts 44 r1=true) (r2:List UInt8) (h2t:r1.tail=r2) (c:UInt8) (u:List UInt8) (hr2:r2=c::u) (hc:c≠125) (hn2:number r2=none) :
 Calls Tryz.prog 186 #[.pointer (some ⟨rb,0,none⟩)] w fun e w'=>ReadsRx rb w (sign x r) e w':=by
 have hlt:=lt_of_block h
 obtain ⟨nb,hnb⟩:∃ nb,w.heap.size=nb:=⟨_,rfl⟩
 obtain ⟨W0,hW0⟩:∃ W0,W0=(w.alloc (.cells #[.int .i64 0,.int .i64 0,.int .i64 0,.int .u64 0,.int .u64 0,.int .u64 0,.int .u64 0,.slice none 0 0] 141)):=⟨_,rfl⟩
 have hr0:ReadAt W0 rb s:=by rw [hW0];exact alloc_old h _
 have hN0:W0.heap[nb]?=some (.cells (cellsA (setA Q4.none)) 141 (0,0)):=by rw [hW0,←hnb];exact alloc_block _ _
 have hO0:Only (fun k=>k=rb) w W0:=by rw [hW0];exact (Only.refl _ w).alloc _
 have hnw:nb<W0.heap.size:=lt_of_block hN0
 have HATOM:=Lib.hid (hatom W0 hr0);clear hatom hr0
 rw [hW0] at HATOM
 have HN:=Lib.hid hN0;clear hN0
 have hS0:sign x r=match counts r.tail with | none=>none | some (m,n,r')=>some (.rep m n x,r'):=by unfold sign;rw [h42,h43,h63,h123];rfl
 have htl:=tail_le r
 have HT42:=Lib.hid (fun w1 (h1:ReadAt w1 rb r)=>take_no w1 rb 42 r h1 h42)
 have HT43:=Lib.hid (fun w1 (h1:ReadAt w1 rb r)=>take_no w1 rb 43 r h1 h43)
 have HT63:=Lib.hid (fun w1 (h1:ReadAt w1 rb r)=>take_no w1 rb 63 r h1 h63)
 have HT123:=Lib.hid (fun w1 (h1:ReadAt w1 rb r)=>take_yes w1 rb 123 r.tail (starts_cons h123▸h1))
 have hlm:=number_lt hn
 subst hr2
 have HNA:=Lib.hid (fun w1 (h1:ReadAt w1 rb r.tail)=>(number_any w1 rb r.tail h1 (by omega)).mono fun e w2 hR=>hR.some hn)
 have HT44:=Lib.hid (fun w1 (h1:ReadAt w1 rb r1)=>show Calls Tryz.prog 188 #[.pointer (some ⟨rb,0,none⟩),.string ⟨#[44]⟩] w1 fun e w'=>e=.returned (.bool true)∧ReadAt w' rb (c::u)∧Only (fun k=>k=rb) w1 w' from by
  have h:=take_yes w1 rb 44 r1.tail (by rw [←starts_cons h44];exact h1)
  rw [h2t] at h
  exact h)
 obtain ⟨S,HSS⟩:∃ S:ByteArray,Hid ((⟨(c::u).toArray⟩:ByteArray)=S):=⟨_,Lib.hid rfl⟩
 obtain ⟨hne,hem,hsz,hat,-⟩:=full c u HSS.out
 have hcz:((c.toNat:Int) != 125)=true:=by
  rw [bne_iff_ne]
  intro h
  exact hc (UInt8.toNat_inj.1 (by show c.toNat=125;omega))
 have hcl:(c::u).length≤1000:=by have:=congrArg List.length h2t;have:=tail_le r1;omega
 have hst:starts 125 (c::u)=false:=by simp [starts,hc]
 have HNB:=Lib.hid (fun w1 (h1:ReadAt w1 rb (c::u))=>(number_any w1 rb (c::u) h1 (by omega)).mono fun e w2 hR=>hR.none hn2)
 have hS:sign x r=none:=by
  rw [hS0]
  simp [counts,hn,h44,h2t,hst,hn2]
 rw [hS]
 clear hS hS0
 go_enter Tryz.func186,Tryz.ntmps186
 go_wp2_with (first
  | (go_at_call 192;(with_reducible refine HATOM.out.mono ?_);rintro e w1 ⟨k,mn,mx,s0,s1,s2,s3,a,cap,l,hX,rfl,h1,o1,hXin,hXb⟩;rw [←hW0] at o1 hXb;have hw1:=o1.size;have h2:ReadAt (w1.alloc (.cells #[.int .i64 k,.int .i64 mn,.int .i64 mx,.int .u64 s0,.int .u64 s1,.int .u64 s2,.int .u64 s3,.slice a l.length cap] 141)) rb r:=alloc_old h1 _;have hE2:=alloc_block w1 (.cells #[.int .i64 k,.int .i64 mn,.int .i64 mx,.int .u64 s0,.int .u64 s1,.int .u64 s2,.int .u64 s3,.slice a l.length cap] 141);have hN2:=alloc_old ((o1.block nb (by omega) (by omega)).trans HN.out) (.cells #[.int .i64 k,.int .i64 mn,.int .i64 mx,.int .u64 s0,.int .u64 s1,.int .u64 s2,.int .u64 s3,.slice a l.length cap] 141);have hlE2:=lt_of_block hE2;have hlN2:=lt_of_block hN2;have hne:¬ w1.heap.size=rb:=(by omega);have hnn:¬ nb=rb:=(by omega);have HE2:=Lib.hid hE2;have HN2:=Lib.hid hN2;clear hE2 hN2;have o2:=o1.alloc (.cells #[.int .i64 k,.int .i64 mn,.int .i64 mx,.int .u64 s0,.int .u64 s1,.int .u64 s2,.int .u64 s3,.slice a l.length cap] 141);have hXI:=Lib.hid hXin;have hXB:=Lib.hid hXb;clear hXin hXb;have hlt1:rb<w1.heap.size:=(by omega))
  | (go_at_call 188;(with_reducible refine (HT42.out _ h2).mono ?_);rintro e w3 ⟨rfl,h3,o3⟩;have hE3:=(o3.block w1.heap.size hlE2 hne).trans HE2.out;have hN3:=(o3.block nb hlN2 hnn).trans HN2.out;have hlE3:=lt_of_block hE3;have hlN3:=lt_of_block hN3;have HE3:=Lib.hid hE3;have HN3:=Lib.hid hN3;clear hE3 hN3)
  | (go_at_call 188;(with_reducible refine (HT43.out _ h3).mono ?_);rintro e w4 ⟨rfl,h4,o4⟩;have hE4:=(o4.block w1.heap.size hlE3 hne).trans HE3.out;have hN4:=(o4.block nb hlN3 hnn).trans HN3.out;have hlE4:=lt_of_block hE4;have hlN4:=lt_of_block hN4;have HE4:=Lib.hid hE4;have HN4:=Lib.hid hN4;clear hE4 hN4)
  | (go_at_call 188;(with_reducible refine (HT63.out _ h4).mono ?_);rintro e w5 ⟨rfl,h5,o5⟩;have hE5:=(o5.block w1.heap.size hlE4 hne).trans HE4.out;have hN5:=(o5.block nb hlN4 hnn).trans HN4.out;have hlE5:=lt_of_block hE5;have hlN5:=lt_of_block hN5;have HE5:=Lib.hid hE5;have HN5:=Lib.hid hN5;clear hE5 hN5)
  | (go_at_call 188;(with_reducible refine (HT123.out _ h5).mono ?_);rintro e w6 ⟨rfl,h6,o6⟩;have hE6:=(o6.block w1.heap.size hlE5 hne).trans HE5.out;have hN6:=(o6.block nb hlN5 hnn).trans HN5.out;have hlE6:=lt_of_block hE6;have hlN6:=lt_of_block hN6;have HE6:=Lib.hid hE6;have HN6:=Lib.hid hN6;clear hE6 hN6)
  | (go_at_call 193;(with_reducible refine (HNA.out _ h6).mono ?_);rintro e w7 ⟨rfl,h7,o7⟩;have hE7:=(o7.block w1.heap.size hlE6 hne).trans HE6.out;have hN7:=(o7.block nb hlN6 hnn).trans HN6.out;have hlE7:=lt_of_block hE7;have hlN7:=lt_of_block hN7;have HE7:=Lib.hid hE7;have HN7:=Lib.hid hN7;clear hE7 hN7)
  | (go_at_call 188;(with_reducible refine (HT44.out _ h7).mono ?_);rintro e w8 ⟨rfl,h8,o8⟩;have hE8:=(o8.block w1.heap.size hlE7 hne).trans HE7.out;have hN8:=(o8.block nb hlN7 hnn).trans HN7.out;have hlE8:=lt_of_block hE8;have hlN8:=lt_of_block hN8;have HE8:=Lib.hid hE8;have HN8:=Lib.hid hN8;clear hE8 hN8;have hS8:=h8;unfold ReadAt at hS8;rw [HSS.out] at hS8;have hc8:=read_cell hS8;clear hS8)
  | (go_at_call 193;(with_reducible refine (HNB.out _ h8).mono ?_);rintro e w9 ⟨rfl,o9⟩))
 exact⟨rfl,((((((((hO0.then o2).then o3).then o4).then o5).then o6).then o7).then o8).then o9),.inl ⟨rfl,rfl⟩⟩
set_option maxRecDepth 100000 in
set_option maxHeartbeats 1000000 in
theorem piece_b10 (w:World) (rb:Nat) (s:List UInt8) (h:ReadAt w rb s) (x:Rx) (r:List UInt8) (hr:r.length≤128) (hatom:AtomGives rb s x r) (h42:starts 42 r=false) (h43:starts 43 r=false) (h63:starts 63 r=false) (h123:starts 123 r=true) (m:Nat) (r1:List UInt8) (hn:number r.tail=some (m,r1)) (h44:starts 44 r1=true) (r2:List UInt8) (h2t:r1.tail=r2) (c:UInt8) (u:List UInt8) (hr2:r2=c::u) (hc:c≠125) (n:Nat) (r3:List UInt8) (hn2:number r2=some (n,r3)) (hmn:¬ m≤n) :
 Calls Tryz.prog 186 #[.pointer (some ⟨rb,0,none⟩)] w fun e w'=>ReadsRx rb w (sign x r) e w':=by
 have hlt:=lt_of_block h
 obtain ⟨nb,hnb⟩:∃ nb,w.heap.size=nb:=⟨_,rfl⟩
 obtain ⟨W0,hW0⟩:∃ W0,W0=(w.alloc (.cells #[.int .i64 0,.int .i64 0,.int .i64 0,.int .u64 0,.int .u64 0,.int .u64 0,.int .u64 0,.slice none 0 0] 141)):=⟨_,rfl⟩
 have hr0:ReadAt W0 rb s:=by rw [hW0];exact alloc_old h _
 have hN0:W0.heap[nb]?=some (.cells (cellsA (setA Q4.none)) 141 (0,0)):=by rw [hW0,←hnb];exact alloc_block _ _
 have hO0:Only (fun k=>k=rb) w W0:=by rw [hW0];exact (Only.refl _ w).alloc _
 have hnw:nb<W0.heap.size:=lt_of_block hN0
 have HATOM:=Lib.hid (hatom W0 hr0);clear hatom hr0
 rw [hW0] at HATOM
 have HN:=Lib.hid hN0;clear hN0
 have hS0:sign x r=match counts r.tail with | none=>none | some (m,n,r')=>some (.rep m n x,r'):=by unfold sign;rw [h42,h43,h63,h123];rfl
 have htl:=tail_le r
 have HT42:=Lib.hid (fun w1 (h1:ReadAt w1 rb r)=>take_no w1 rb 42 r h1 h42)
 have HT43:=Lib.hid (fun w1 (h1:ReadAt w1 rb r)=>take_no w1 rb 43 r h1 h43)
 have HT63:=Lib.hid (fun w1 (h1:ReadAt w1 rb r)=>take_no w1 rb 63 r h1 h63)
 have HT123:=Lib.hid (fun w1 (h1:ReadAt w1 rb r)=>take_yes w1 rb 123 r.tail (starts_cons h123▸h1))
 have hlm:=number_lt hn
 subst hr2
 have hln:=number_lt hn2
 have HNA:=Lib.hid (fun w1 (h1:ReadAt w1 rb r.tail)=>(number_any w1 rb r.tail h1 (by omega)).mono fun e w2 hR=>hR.some hn)
 have HT44:=Lib.hid (fun w1 (h1:ReadAt w1 rb r1)=>show Calls Tryz.prog 188 #[.pointer (some ⟨rb,0,none⟩),.string ⟨#[44]⟩] w1 fun e w'=>e=.returned (.bool true)∧ReadAt w' rb (c::u)∧Only (fun k=>k=rb) w1 w' from by
  have h:=take_yes w1 rb 44 r1.tail (by rw [←starts_cons h44];exact h1)
  rw [h2t] at h
  exact h)
 obtain ⟨S,HSS⟩:∃ S:ByteArray,Hid ((⟨(c::u).toArray⟩:ByteArray)=S):=⟨_,Lib.hid rfl⟩
 obtain ⟨hne,hem,hsz,hat,-⟩:=full c u HSS.out
 have hcz:((c.toNat:Int) != 125)=true:=by
  rw [bne_iff_ne]
  intro h
  exact hc (UInt8.toNat_inj.1 (by show c.toNat=125;omega))
 have hcl:(c::u).length≤1000:=by have:=congrArg List.length h2t;have:=tail_le r1;omega
 have hst:starts 125 (c::u)=false:=by simp [starts,hc]
 have HNB:=Lib.hid (fun w1 (h1:ReadAt w1 rb (c::u))=>(number_any w1 rb (c::u) h1 (by omega)).mono fun e w2 hR=>hR.some hn2)
 have hmi:¬ (m:Int)≤n:=by omega
 have hS:sign x r=none:=by
  rw [hS0]
  simp [counts,hn,h44,h2t,hst,hn2,hmn]
 rw [hS]
 clear hS hS0
 go_enter Tryz.func186,Tryz.ntmps186
 go_wp2_with (first
  | (go_at_call 192;(with_reducible refine HATOM.out.mono ?_);rintro e w1 ⟨k,mn,mx,s0,s1,s2,s3,a,cap,l,hX,rfl,h1,o1,hXin,hXb⟩;rw [←hW0] at o1 hXb;have hw1:=o1.size;have h2:ReadAt (w1.alloc (.cells #[.int .i64 k,.int .i64 mn,.int .i64 mx,.int .u64 s0,.int .u64 s1,.int .u64 s2,.int .u64 s3,.slice a l.length cap] 141)) rb r:=alloc_old h1 _;have hE2:=alloc_block w1 (.cells #[.int .i64 k,.int .i64 mn,.int .i64 mx,.int .u64 s0,.int .u64 s1,.int .u64 s2,.int .u64 s3,.slice a l.length cap] 141);have hN2:=alloc_old ((o1.block nb (by omega) (by omega)).trans HN.out) (.cells #[.int .i64 k,.int .i64 mn,.int .i64 mx,.int .u64 s0,.int .u64 s1,.int .u64 s2,.int .u64 s3,.slice a l.length cap] 141);have hlE2:=lt_of_block hE2;have hlN2:=lt_of_block hN2;have hne:¬ w1.heap.size=rb:=(by omega);have hnn:¬ nb=rb:=(by omega);have HE2:=Lib.hid hE2;have HN2:=Lib.hid hN2;clear hE2 hN2;have o2:=o1.alloc (.cells #[.int .i64 k,.int .i64 mn,.int .i64 mx,.int .u64 s0,.int .u64 s1,.int .u64 s2,.int .u64 s3,.slice a l.length cap] 141);have hXI:=Lib.hid hXin;have hXB:=Lib.hid hXb;clear hXin hXb;have hlt1:rb<w1.heap.size:=(by omega))
  | (go_at_call 188;(with_reducible refine (HT42.out _ h2).mono ?_);rintro e w3 ⟨rfl,h3,o3⟩;have hE3:=(o3.block w1.heap.size hlE2 hne).trans HE2.out;have hN3:=(o3.block nb hlN2 hnn).trans HN2.out;have hlE3:=lt_of_block hE3;have hlN3:=lt_of_block hN3;have HE3:=Lib.hid hE3;have HN3:=Lib.hid hN3;clear hE3 hN3)
  | (go_at_call 188;(with_reducible refine (HT43.out _ h3).mono ?_);rintro e w4 ⟨rfl,h4,o4⟩;have hE4:=(o4.block w1.heap.size hlE3 hne).trans HE3.out;have hN4:=(o4.block nb hlN3 hnn).trans HN3.out;have hlE4:=lt_of_block hE4;have hlN4:=lt_of_block hN4;have HE4:=Lib.hid hE4;have HN4:=Lib.hid hN4;clear hE4 hN4)
  | (go_at_call 188;(with_reducible refine (HT63.out _ h4).mono ?_);rintro e w5 ⟨rfl,h5,o5⟩;have hE5:=(o5.block w1.heap.size hlE4 hne).trans HE4.out;have hN5:=(o5.block nb hlN4 hnn).trans HN4.out;have hlE5:=lt_of_block hE5;have hlN5:=lt_of_block hN5;have HE5:=Lib.hid hE5;have HN5:=Lib.hid hN5;clear hE5 hN5)
  | (go_at_call 188;(with_reducible refine (HT123.out _ h5).mono ?_);rintro e w6 ⟨rfl,h6,o6⟩;have hE6:=(o6.block w1.heap.size hlE5 hne).trans HE5.out;have hN6:=(o6.block nb hlN5 hnn).trans HN5.out;have hlE6:=lt_of_block hE6;have hlN6:=lt_of_block hN6;have HE6:=Lib.hid hE6;have HN6:=Lib.hid hN6;clear hE6 hN6)
  | (go_at_call 193;(with_reducible refine (HNA.out _ h6).mono ?_);rintro e w7 ⟨rfl,h7,o7⟩;have hE7:=(o7.block w1.heap.size hlE6 hne).trans HE6.out;have hN7:=(o7.block nb hlN6 hnn).trans HN6.out;have hlE7:=lt_of_block hE7;have hlN7:=lt_of_block hN7;have HE7:=Lib.hid hE7;have HN7:=Lib.hid hN7;clear hE7 hN7)
  | (go_at_call 188;(with_reducible refine (HT44.out _ h7).mono ?_);rintro e w8 ⟨rfl,h8,o8⟩;have hE8:=(o8.block w1.heap.size hlE7 hne).trans HE7.out;have hN8:=(o8.block nb hlN7 hnn).trans HN7.out;have hlE8:=lt_of_block hE8;have hlN8:=lt_of_block hN8;have HE8:=Lib.hid hE8;have HN8:=Lib.hid hN8;clear hE8 hN8;have hS8:=h8;unfold ReadAt at hS8;rw [HSS.out] at hS8;have hc8:=read_cell hS8;clear hS8)
  | (go_at_call 193;(with_reducible refine (HNB.out _ h8).mono ?_);rintro e w9 ⟨rfl,h9,o9⟩;have hE9:=(o9.block w1.heap.size hlE8 hne).trans HE8.out;have hN9:=(o9.block nb hlN8 hnn).trans HN8.out;have hlE9:=lt_of_block hE9;have hlN9:=lt_of_block hN9;have HE9:=Lib.hid hE9;have HN9:=Lib.hid hN9;clear hE9 hN9)
  | (go_at_call 174;refine (must_no rfl _).mono ?_;rintro e wm ⟨rfl,hwm⟩;have hwm:=hwm.symm;subst hwm))
 exact⟨rfl,((((((((hO0.then o2).then o3).then o4).then o5).then o6).then o7).then o8).then o9),.inl ⟨rfl,rfl⟩⟩
set_option maxRecDepth 100000 in
set_option maxHeartbeats 1000000 in
theorem piece_b11 (w:World) (rb:Nat) (s:List UInt8) (h:ReadAt w rb s) (x:Rx) (r:List UInt8) (hr:r.length≤128) (hatom:AtomGives rb s x r) (h42:starts 42 r=false) (h43:starts 43 r=false) (h63:starts 63 r=false) (h123:starts 123 r=true) (m:Nat) (r1:List UInt8) (hn:number r.tail=some (m,r1)) (h44:starts 44 r1=true) (r2:List UInt8) (h2t:r1.tail=r2) (c:UInt8) (u:List UInt8) (hr2:r2=c::u) (hc:c≠125) (n:Nat) (r3:List UInt8) (hn2:number r2=some (n,r3)) (hmn:m≤n) (h125:starts 125 r3=false) :
 Calls Tryz.prog 186 #[.pointer (some ⟨rb,0,none⟩)] w fun e w'=>ReadsRx rb w (sign x r) e w':=by
 have hlt:=lt_of_block h
 obtain ⟨nb,hnb⟩:∃ nb,w.heap.size=nb:=⟨_,rfl⟩
 obtain ⟨W0,hW0⟩:∃ W0,W0=(w.alloc (.cells #[.int .i64 0,.int .i64 0,.int .i64 0,.int .u64 0,.int .u64 0,.int .u64 0,.int .u64 0,.slice none 0 0] 141)):=⟨_,rfl⟩
 have hr0:ReadAt W0 rb s:=by rw [hW0];exact alloc_old h _
 have hN0:W0.heap[nb]?=some (.cells (cellsA (setA Q4.none)) 141 (0,0)):=by rw [hW0,←hnb];exact alloc_block _ _
 have hO0:Only (fun k=>k=rb) w W0:=by rw [hW0];exact (Only.refl _ w).alloc _
 have hnw:nb<W0.heap.size:=lt_of_block hN0
 have HATOM:=Lib.hid (hatom W0 hr0);clear hatom hr0
 rw [hW0] at HATOM
 have HN:=Lib.hid hN0;clear hN0
 have hS0:sign x r=match counts r.tail with | none=>none | some (m,n,r')=>some (.rep m n x,r'):=by unfold sign;rw [h42,h43,h63,h123];rfl
 have htl:=tail_le r
 have HT42:=Lib.hid (fun w1 (h1:ReadAt w1 rb r)=>take_no w1 rb 42 r h1 h42)
 have HT43:=Lib.hid (fun w1 (h1:ReadAt w1 rb r)=>take_no w1 rb 43 r h1 h43)
 have HT63:=Lib.hid (fun w1 (h1:ReadAt w1 rb r)=>take_no w1 rb 63 r h1 h63)
 have HT123:=Lib.hid (fun w1 (h1:ReadAt w1 rb r)=>take_yes w1 rb 123 r.tail (starts_cons h123▸h1))
 have hlm:=number_lt hn
 subst hr2
 have hln:=number_lt hn2
 have HNA:=Lib.hid (fun w1 (h1:ReadAt w1 rb r.tail)=>(number_any w1 rb r.tail h1 (by omega)).mono fun e w2 hR=>hR.some hn)
 have HT44:=Lib.hid (fun w1 (h1:ReadAt w1 rb r1)=>show Calls Tryz.prog 188 #[.pointer (some ⟨rb,0,none⟩),.string ⟨#[44]⟩] w1 fun e w'=>e=.returned (.bool true)∧ReadAt w' rb (c::u)∧Only (fun k=>k=rb) w1 w' from by
  have h:=take_yes w1 rb 44 r1.tail (by rw [←starts_cons h44];exact h1)
  rw [h2t] at h
  exact h)
 obtain ⟨S,HSS⟩:∃ S:ByteArray,Hid ((⟨(c::u).toArray⟩:ByteArray)=S):=⟨_,Lib.hid rfl⟩
 obtain ⟨hne,hem,hsz,hat,-⟩:=full c u HSS.out
 have hcz:((c.toNat:Int) != 125)=true:=by
  rw [bne_iff_ne]
  intro h
  exact hc (UInt8.toNat_inj.1 (by show c.toNat=125;omega))
 have hcl:(c::u).length≤1000:=by have:=congrArg List.length h2t;have:=tail_le r1;omega
 have hst:starts 125 (c::u)=false:=by simp [starts,hc]
 have HNB:=Lib.hid (fun w1 (h1:ReadAt w1 rb (c::u))=>(number_any w1 rb (c::u) h1 (by omega)).mono fun e w2 hR=>hR.some hn2)
 have HT125:=Lib.hid (fun w1 (h1:ReadAt w1 rb r3)=>take_no w1 rb 125 r3 h1 h125)
 have hmi:(m:Int)≤n:=by omega
 have hS:sign x r=none:=by
  rw [hS0]
  simp [counts,hn,h44,h2t,hst,hn2,hmn,h125]
 rw [hS]
 clear hS hS0
 go_enter Tryz.func186,Tryz.ntmps186
 go_wp2_with (first
  | (go_at_call 192;(with_reducible refine HATOM.out.mono ?_);rintro e w1 ⟨k,mn,mx,s0,s1,s2,s3,a,cap,l,hX,rfl,h1,o1,hXin,hXb⟩;rw [←hW0] at o1 hXb;have hw1:=o1.size;have h2:ReadAt (w1.alloc (.cells #[.int .i64 k,.int .i64 mn,.int .i64 mx,.int .u64 s0,.int .u64 s1,.int .u64 s2,.int .u64 s3,.slice a l.length cap] 141)) rb r:=alloc_old h1 _;have hE2:=alloc_block w1 (.cells #[.int .i64 k,.int .i64 mn,.int .i64 mx,.int .u64 s0,.int .u64 s1,.int .u64 s2,.int .u64 s3,.slice a l.length cap] 141);have hN2:=alloc_old ((o1.block nb (by omega) (by omega)).trans HN.out) (.cells #[.int .i64 k,.int .i64 mn,.int .i64 mx,.int .u64 s0,.int .u64 s1,.int .u64 s2,.int .u64 s3,.slice a l.length cap] 141);have hlE2:=lt_of_block hE2;have hlN2:=lt_of_block hN2;have hne:¬ w1.heap.size=rb:=(by omega);have hnn:¬ nb=rb:=(by omega);have HE2:=Lib.hid hE2;have HN2:=Lib.hid hN2;clear hE2 hN2;have o2:=o1.alloc (.cells #[.int .i64 k,.int .i64 mn,.int .i64 mx,.int .u64 s0,.int .u64 s1,.int .u64 s2,.int .u64 s3,.slice a l.length cap] 141);have hXI:=Lib.hid hXin;have hXB:=Lib.hid hXb;clear hXin hXb;have hlt1:rb<w1.heap.size:=(by omega))
  | (go_at_call 188;(with_reducible refine (HT42.out _ h2).mono ?_);rintro e w3 ⟨rfl,h3,o3⟩;have hE3:=(o3.block w1.heap.size hlE2 hne).trans HE2.out;have hN3:=(o3.block nb hlN2 hnn).trans HN2.out;have hlE3:=lt_of_block hE3;have hlN3:=lt_of_block hN3;have HE3:=Lib.hid hE3;have HN3:=Lib.hid hN3;clear hE3 hN3)
  | (go_at_call 188;(with_reducible refine (HT43.out _ h3).mono ?_);rintro e w4 ⟨rfl,h4,o4⟩;have hE4:=(o4.block w1.heap.size hlE3 hne).trans HE3.out;have hN4:=(o4.block nb hlN3 hnn).trans HN3.out;have hlE4:=lt_of_block hE4;have hlN4:=lt_of_block hN4;have HE4:=Lib.hid hE4;have HN4:=Lib.hid hN4;clear hE4 hN4)
  | (go_at_call 188;(with_reducible refine (HT63.out _ h4).mono ?_);rintro e w5 ⟨rfl,h5,o5⟩;have hE5:=(o5.block w1.heap.size hlE4 hne).trans HE4.out;have hN5:=(o5.block nb hlN4 hnn).trans HN4.out;have hlE5:=lt_of_block hE5;have hlN5:=lt_of_block hN5;have HE5:=Lib.hid hE5;have HN5:=Lib.hid hN5;clear hE5 hN5)
  | (go_at_call 188;(with_reducible refine (HT123.out _ h5).mono ?_);rintro e w6 ⟨rfl,h6,o6⟩;have hE6:=(o6.block w1.heap.size hlE5 hne).trans HE5.out;have hN6:=(o6.block nb hlN5 hnn).trans HN5.out;have hlE6:=lt_of_block hE6;have hlN6:=lt_of_block hN6;have HE6:=Lib.hid hE6;have HN6:=Lib.hid hN6;clear hE6 hN6)
  | (go_at_call 193;(with_reducible refine (HNA.out _ h6).mono ?_);rintro e w7 ⟨rfl,h7,o7⟩;have hE7:=(o7.block w1.heap.size hlE6 hne).trans HE6.out;have hN7:=(o7.block nb hlN6 hnn).trans HN6.out;have hlE7:=lt_of_block hE7;have hlN7:=lt_of_block hN7;have HE7:=Lib.hid hE7;have HN7:=Lib.hid hN7;clear hE7 hN7)
  | (go_at_call 188;(with_reducible refine (HT44.out _ h7).mono ?_);rintro e w8 ⟨rfl,h8,o8⟩;have hE8:=(o8.block w1.heap.size hlE7 hne).trans HE7.out;have hN8:=(o8.block nb hlN7 hnn).trans HN7.out;have hlE8:=lt_of_block hE8;have hlN8:=lt_of_block hN8;have HE8:=Lib.hid hE8;have HN8:=Lib.hid hN8;clear hE8 hN8;have hS8:=h8;unfold ReadAt at hS8;rw [HSS.out] at hS8;have hc8:=read_cell hS8;clear hS8)
  | (go_at_call 193;(with_reducible refine (HNB.out _ h8).mono ?_);rintro e w9 ⟨rfl,h9,o9⟩;have hE9:=(o9.block w1.heap.size hlE8 hne).trans HE8.out;have hN9:=(o9.block nb hlN8 hnn).trans HN8.out;have hlE9:=lt_of_block hE9;have hlN9:=lt_of_block hN9;have HE9:=Lib.hid hE9;have HN9:=Lib.hid hN9;clear hE9 hN9)
  | (go_at_call 174;refine (must_yes rfl _).mono ?_;rintro e wm ⟨rfl,hwm⟩;have hwm:=hwm.symm;subst hwm)
  | (go_at_call 174;refine (must_no rfl _).mono ?_;rintro e wm ⟨rfl,hwm⟩;have hwm:=hwm.symm;subst hwm)
  | (go_at_call 188;(with_reducible refine (HT125.out _ h9).mono ?_);rintro e w10 ⟨rfl,h10,o10⟩;have hE10:=(o10.block w1.heap.size hlE9 hne).trans HE9.out;have hN10:=(o10.block nb hlN9 hnn).trans HN9.out;have hlE10:=lt_of_block hE10;have hlN10:=lt_of_block hN10;have HE10:=Lib.hid hE10;have HN10:=Lib.hid hN10;clear hE10 hN10))
 exact⟨rfl,(((((((((hO0.then o2).then o3).then o4).then o5).then o6).then o7).then o8).then o9).then o10),.inl ⟨rfl,rfl⟩⟩
set_option maxRecDepth 100000 in
set_option maxHeartbeats 1000000 in
theorem piece_b12 (w:World) (rb:Nat) (s:List UInt8) (h:ReadAt w rb s) (x:Rx) (r:List UInt8) (hr:r.length≤128) (hatom:AtomGives rb s x r) (h42:starts 42 r=false) (h43:starts 43 r=false) (h63:starts 63 r=false) (h123:starts 123 r=true) (m:Nat) (r1:List UInt8) (hn:number r.tail=some (m,r1)) (h44:starts 44 r1=true) (r2:List UInt8) (h2t:r1.tail=r2) (c:UInt8) (u:List UInt8) (hr2:r2=c::u) (hc:c≠125) (n:Nat) (r3:List UInt8) (hn2:number r2=some (n,r3)) (hmn:m≤n) (h125:starts 125 r3=true) :
 Calls Tryz.prog 186 #[.pointer (some ⟨rb,0,none⟩)] w fun e w'=>ReadsRx rb w (sign x r) e w':=by
 have hlt:=lt_of_block h
 obtain ⟨nb,hnb⟩:∃ nb,w.heap.size=nb:=⟨_,rfl⟩
 obtain ⟨W0,hW0⟩:∃ W0,W0=(w.alloc (.cells #[.int .i64 0,.int .i64 0,.int .i64 0,.int .u64 0,.int .u64 0,.int .u64 0,.int .u64 0,.slice none 0 0] 141)):=⟨_,rfl⟩
 have hr0:ReadAt W0 rb s:=by rw [hW0];exact alloc_old h _
 have hN0:W0.heap[nb]?=some (.cells (cellsA (setA Q4.none)) 141 (0,0)):=by rw [hW0,←hnb];exact alloc_block _ _
 have hO0:Only (fun k=>k=rb) w W0:=by rw [hW0];exact (Only.refl _ w).alloc _
 have hnw:nb<W0.heap.size:=lt_of_block hN0
 have HATOM:=Lib.hid (hatom W0 hr0);clear hatom hr0
 rw [hW0] at HATOM
 have HN:=Lib.hid hN0;clear hN0
 have hS0:sign x r=match counts r.tail with | none=>none | some (m,n,r')=>some (.rep m n x,r'):=by unfold sign;rw [h42,h43,h63,h123];rfl
 have htl:=tail_le r
 have HT42:=Lib.hid (fun w1 (h1:ReadAt w1 rb r)=>take_no w1 rb 42 r h1 h42)
 have HT43:=Lib.hid (fun w1 (h1:ReadAt w1 rb r)=>take_no w1 rb 43 r h1 h43)
 have HT63:=Lib.hid (fun w1 (h1:ReadAt w1 rb r)=>take_no w1 rb 63 r h1 h63)
 have HT123:=Lib.hid (fun w1 (h1:ReadAt w1 rb r)=>take_yes w1 rb 123 r.tail (starts_cons h123▸h1))
 have hlm:=number_lt hn
 subst hr2
 have hln:=number_lt hn2
 have HNA:=Lib.hid (fun w1 (h1:ReadAt w1 rb r.tail)=>(number_any w1 rb r.tail h1 (by omega)).mono fun e w2 hR=>hR.some hn)
 have HT44:=Lib.hid (fun w1 (h1:ReadAt w1 rb r1)=>show Calls Tryz.prog 188 #[.pointer (some ⟨rb,0,none⟩),.string ⟨#[44]⟩] w1 fun e w'=>e=.returned (.bool true)∧ReadAt w' rb (c::u)∧Only (fun k=>k=rb) w1 w' from by
  have h:=take_yes w1 rb 44 r1.tail (by rw [←starts_cons h44];exact h1)
  rw [h2t] at h
  exact h)
 obtain ⟨S,HSS⟩:∃ S:ByteArray,Hid ((⟨(c::u).toArray⟩:ByteArray)=S):=⟨_,Lib.hid rfl⟩
 obtain ⟨hne,hem,hsz,hat,-⟩:=full c u HSS.out
 have hcz:((c.toNat:Int) != 125)=true:=by
  rw [bne_iff_ne]
  intro h
  exact hc (UInt8.toNat_inj.1 (by show c.toNat=125;omega))
 have hcl:(c::u).length≤1000:=by have:=congrArg List.length h2t;have:=tail_le r1;omega
 have hst:starts 125 (c::u)=false:=by simp [starts,hc]
 have HNB:=Lib.hid (fun w1 (h1:ReadAt w1 rb (c::u))=>(number_any w1 rb (c::u) h1 (by omega)).mono fun e w2 hR=>hR.some hn2)
 have HT125:=Lib.hid (fun w1 (h1:ReadAt w1 rb r3)=>take_yes w1 rb 125 r3.tail (starts_cons h125▸h1))
 have hmi:(m:Int)≤n:=by omega
 have hS:sign x r=some (.rep (m:Nat) (n:Nat) x,r3.tail):=by
  rw [hS0]
  simp [counts,hn,h44,h2t,hst,hn2,hmn,h125]
 rw [hS]
 clear hS hS0
 have hbm:(0:Int)≤(m:Nat)∧((m:Nat):Int)≤15:=by omega
 have hbn:(-1:Int)≤(n:Nat)∧((n:Nat):Int)≤15:=by omega
 go_enter Tryz.func186,Tryz.ntmps186
 go_wp2_with (first
  | (go_at_call 192;(with_reducible refine HATOM.out.mono ?_);rintro e w1 ⟨k,mn,mx,s0,s1,s2,s3,a,cap,l,hX,rfl,h1,o1,hXin,hXb⟩;rw [←hW0] at o1 hXb;have hw1:=o1.size;have h2:ReadAt (w1.alloc (.cells #[.int .i64 k,.int .i64 mn,.int .i64 mx,.int .u64 s0,.int .u64 s1,.int .u64 s2,.int .u64 s3,.slice a l.length cap] 141)) rb r:=alloc_old h1 _;have hE2:=alloc_block w1 (.cells #[.int .i64 k,.int .i64 mn,.int .i64 mx,.int .u64 s0,.int .u64 s1,.int .u64 s2,.int .u64 s3,.slice a l.length cap] 141);have hN2:=alloc_old ((o1.block nb (by omega) (by omega)).trans HN.out) (.cells #[.int .i64 k,.int .i64 mn,.int .i64 mx,.int .u64 s0,.int .u64 s1,.int .u64 s2,.int .u64 s3,.slice a l.length cap] 141);have hlE2:=lt_of_block hE2;have hlN2:=lt_of_block hN2;have hne:¬ w1.heap.size=rb:=(by omega);have hnn:¬ nb=rb:=(by omega);have HE2:=Lib.hid hE2;have HN2:=Lib.hid hN2;clear hE2 hN2;have o2:=o1.alloc (.cells #[.int .i64 k,.int .i64 mn,.int .i64 mx,.int .u64 s0,.int .u64 s1,.int .u64 s2,.int .u64 s3,.slice a l.length cap] 141);have hXI:=Lib.hid hXin;have hXB:=Lib.hid hXb;clear hXin hXb;have hlt1:rb<w1.heap.size:=(by omega))
  | (go_at_call 188;(with_reducible refine (HT42.out _ h2).mono ?_);rintro e w3 ⟨rfl,h3,o3⟩;have hE3:=(o3.block w1.heap.size hlE2 hne).trans HE2.out;have hN3:=(o3.block nb hlN2 hnn).trans HN2.out;have hlE3:=lt_of_block hE3;have hlN3:=lt_of_block hN3;have HE3:=Lib.hid hE3;have HN3:=Lib.hid hN3;clear hE3 hN3)
  | (go_at_call 188;(with_reducible refine (HT43.out _ h3).mono ?_);rintro e w4 ⟨rfl,h4,o4⟩;have hE4:=(o4.block w1.heap.size hlE3 hne).trans HE3.out;have hN4:=(o4.block nb hlN3 hnn).trans HN3.out;have hlE4:=lt_of_block hE4;have hlN4:=lt_of_block hN4;have HE4:=Lib.hid hE4;have HN4:=Lib.hid hN4;clear hE4 hN4)
  | (go_at_call 188;(with_reducible refine (HT63.out _ h4).mono ?_);rintro e w5 ⟨rfl,h5,o5⟩;have hE5:=(o5.block w1.heap.size hlE4 hne).trans HE4.out;have hN5:=(o5.block nb hlN4 hnn).trans HN4.out;have hlE5:=lt_of_block hE5;have hlN5:=lt_of_block hN5;have HE5:=Lib.hid hE5;have HN5:=Lib.hid hN5;clear hE5 hN5)
  | (go_at_call 188;(with_reducible refine (HT123.out _ h5).mono ?_);rintro e w6 ⟨rfl,h6,o6⟩;have hE6:=(o6.block w1.heap.size hlE5 hne).trans HE5.out;have hN6:=(o6.block nb hlN5 hnn).trans HN5.out;have hlE6:=lt_of_block hE6;have hlN6:=lt_of_block hN6;have HE6:=Lib.hid hE6;have HN6:=Lib.hid hN6;clear hE6 hN6)
  | (go_at_call 193;(with_reducible refine (HNA.out _ h6).mono ?_);rintro e w7 ⟨rfl,h7,o7⟩;have hE7:=(o7.block w1.heap.size hlE6 hne).trans HE6.out;have hN7:=(o7.block nb hlN6 hnn).trans HN6.out;have hlE7:=lt_of_block hE7;have hlN7:=lt_of_block hN7;have HE7:=Lib.hid hE7;have HN7:=Lib.hid hN7;clear hE7 hN7)
  | (go_at_call 188;(with_reducible refine (HT44.out _ h7).mono ?_);rintro e w8 ⟨rfl,h8,o8⟩;have hE8:=(o8.block w1.heap.size hlE7 hne).trans HE7.out;have hN8:=(o8.block nb hlN7 hnn).trans HN7.out;have hlE8:=lt_of_block hE8;have hlN8:=lt_of_block hN8;have HE8:=Lib.hid hE8;have HN8:=Lib.hid hN8;clear hE8 hN8;have hS8:=h8;unfold ReadAt at hS8;rw [HSS.out] at hS8;have hc8:=read_cell hS8;clear hS8)
  | (go_at_call 193;(with_reducible refine (HNB.out _ h8).mono ?_);rintro e w9 ⟨rfl,h9,o9⟩;have hE9:=(o9.block w1.heap.size hlE8 hne).trans HE8.out;have hN9:=(o9.block nb hlN8 hnn).trans HN8.out;have hlE9:=lt_of_block hE9;have hlN9:=lt_of_block hN9;have HE9:=Lib.hid hE9;have HN9:=Lib.hid hN9;clear hE9 hN9)
  | (go_at_call 174;refine (must_yes rfl _).mono ?_;rintro e wm ⟨rfl,hwm⟩;have hwm:=hwm.symm;subst hwm)
  | (go_at_call 188;(with_reducible refine (HT125.out _ h9).mono ?_);rintro e w10 ⟨rfl,h10,o10⟩;have hE10:=(o10.block w1.heap.size hlE9 hne).trans HE9.out;have hN10:=(o10.block nb hlN9 hnn).trans HN9.out;have hlE10:=lt_of_block hE10;have hlN10:=lt_of_block hN10;have HE10:=Lib.hid hE10;have HN10:=Lib.hid hN10;clear hE10 hN10)
  | (refine wpList_load_row rfl 141 (.tmp 3) ?_ w1.heap.size ?_ 141 #[.int .i64 k,.int .i64 mn,.int .i64 mx,.int .u64 s0,.int .u64 s1,.int .u64 s2,.int .u64 s3,.slice a l.length cap] (0,0) _ ?_ Tryz.underlying141 rfl info_rx ?_;(with_reducible rfl);rfl;exact HE10.out)
  | (refine wpList_store_row rfl 141 (.tmp 2) (.tmp 52) ?_ nb #[.int .i64 3,.int .i64 (m:Nat),.int .i64 (n:Nat),.int .u64 0,.int .u64 0,.int .u64 0,.int .u64 0,.slice (some ⟨w10.heap.size,0,none⟩) 1 1] ?_ ?_ 141 (cellsA (setA Q4.none)) ?_ info_rx rfl (cellsA_one (repA (m:Nat) (n:Nat) w10.heap.size (RxA.node k mn mx s0 s1 s2 s3 a cap l))) ?_;(with_reducible rfl);rfl;rfl;exact alloc_old HN10.out _))
 refine bodyPost_ret (results_cell_row rfl _ _ nb 141 #[.int .i64 3,.int .i64 (m:Nat),.int .i64 (n:Nat),.int .u64 0,.int .u64 0,.int .u64 0,.int .u64 0,.slice (some ⟨w10.heap.size,0,none⟩) 1 1] (0,0) _ rfl (setRow_heap _ _ _ _ _ _ (alloc_old HN10.out (.cells #[.int .i64 k,.int .i64 mn,.int .i64 mx,.int .u64 s0,.int .u64 s1,.int .u64 s2,.int .u64 s3,.slice a l.length cap] 141))) Tryz.underlying141 rfl info_rx) rfl ?_
 have oc:=(((((((o3.then o4).then o5).then o6).then o7).then o8).then o9).then o10)
 have hkk:=oc.size
 simp only [World.size_alloc] at hkk
 obtain ⟨hin,hbl⟩:=kept_in (wk:=(w10.alloc (.cells #[.int .i64 k,.int .i64 mn,.int .i64 mx,.int .u64 s0,.int .u64 s1,.int .u64 s2,.int .u64 s3,.slice a l.length cap] 141)).setRow nb #[.int .i64 3,.int .i64 (m:Nat),.int .i64 (n:Nat),.int .u64 0,.int .u64 0,.int .u64 0,.int .u64 0,.slice (some ⟨w10.heap.size,0,none⟩) 1 1]) hXI.out hXB.out (fun b h1 h2=>by rw [setRow_other _ _ _ _ (by omega),Below.heap_alloc _ _ _ (by omega),oc.block b (by simp;omega) (by omega),Below.heap_alloc _ _ _ h2]) (by simp;omega)
 have hrin:=repA_in (m:=(m:Nat)) (n:=(n:Nat)) hbm hbn hin ((setRow_other (w10.alloc (.cells #[.int .i64 k,.int .i64 mn,.int .i64 mx,.int .u64 s0,.int .u64 s1,.int .u64 s2,.int .u64 s3,.slice a l.length cap] 141)) nb w10.heap.size #[.int .i64 3,.int .i64 (m:Nat),.int .i64 (n:Nat),.int .u64 0,.int .u64 0,.int .u64 0,.int .u64 0,.slice (some ⟨w10.heap.size,0,none⟩) 1 1] (by omega)).trans (alloc_block _ _))
 refine⟨(((hO0.then o2).then oc).alloc _).setRow (q:=nb) (.inr (by omega)) _,.inr ⟨repA (m:Nat) (n:Nat) w10.heap.size (RxA.node k mn mx s0 s1 s2 s3 a cap l),r3.tail,by rw [repA_bare,←hX],rfl,(setRow_other _ _ _ _ (by omega)).trans (alloc_old h10 _),hrin,fun b hb=>?_⟩⟩
 rcases repA_blocks _ _ _ _ b hb with rfl | hb
 ·have:=hO0.size;simp only [size_setRow,World.size_alloc];omega
 ·have:=hbl b hb;have:=hO0.size;omega
set_option maxRecDepth 100000 in
set_option maxHeartbeats 400000 in
theorem piece_stop (w:World) (rb:Nat) (s:List UInt8) (h:ReadAt w rb s)
 (hatom:∀ w1,ReadAt w1 rb s→Calls Tryz.prog 192 #[.pointer (some ⟨rb,0,none⟩)] w1 fun e w2=>e=.panicked wrongP∧Only (fun k=>k=rb) w1 w2) :
 Calls Tryz.prog 186 #[.pointer (some ⟨rb,0,none⟩)] w fun e w'=>ReadsRx rb w none e w':=by
 have HATOM:=Lib.hid (hatom _ (alloc_old h (.cells #[.int .i64 0,.int .i64 0,.int .i64 0,.int .u64 0,.int .u64 0,.int .u64 0,.int .u64 0,.slice none 0 0] 141)))
 clear hatom
 go_enter Tryz.func186,Tryz.ntmps186
 go_wp2_with (go_at_call 192;refine HATOM.out.mono ?_;rintro e w1 ⟨rfl,o1⟩)
 exact⟨rfl,((Only.refl _ w).alloc _).then o1,.inl ⟨rfl,rfl⟩⟩
theorem piece_some (w:World) (rb:Nat) (s:List UInt8) (h:ReadAt w rb s) (x:Rx) (r:List UInt8) (hr:r.length≤128) (hatom:AtomGives rb s x r) :
 Calls Tryz.prog 186 #[.pointer (some ⟨rb,0,none⟩)] w fun e w'=>ReadsRx rb w (sign x r) e w':=by
 cases h42:starts 42 r with
 | true=>exact piece_star w rb s h x r hr hatom h42
 | false=>
  cases h43:starts 43 r with
  | true=>exact piece_plus w rb s h x r hr hatom h42 h43
  | false=>
   cases h63:starts 63 r with
   | true=>exact piece_may w rb s h x r hr hatom h42 h43 h63
   | false=>
    cases h123:starts 123 r with
    | false=>exact piece_none w rb s h x r hr hatom h42 h43 h63 h123
    | true=>
     cases hn:number r.tail with
     | none=>exact piece_b4 w rb s h x r hr hatom h42 h43 h63 h123 hn
     | some p=>
      obtain ⟨m,r1⟩:=p
      cases h44:starts 44 r1 with
      | false=>
       cases h125:starts 125 r1 with
       | false=>exact piece_b5 w rb s h x r hr hatom h42 h43 h63 h123 m r1 hn h44 h125
       | true=>exact piece_b6 w rb s h x r hr hatom h42 h43 h63 h123 m r1 hn h44 h125
      | true=>
       cases h2:r1.tail with
       | nil=>exact piece_b7 w rb s h x r hr hatom h42 h43 h63 h123 m r1 hn h44 h2
       | cons c u=>
        by_cases hc:c=125
        ·exact piece_b8 w rb s h x r hr hatom h42 h43 h63 h123 m r1 hn h44 (c::u) h2 u (by rw [hc])
        ·cases hn2:number (c::u) with
         | none=>exact piece_b9 w rb s h x r hr hatom h42 h43 h63 h123 m r1 hn h44 (c::u) h2 c u rfl hc hn2
         | some p2=>
          obtain ⟨n,r3⟩:=p2
          by_cases hmn:m≤n
          ·cases h125:starts 125 r3 with
           | false=>exact piece_b11 w rb s h x r hr hatom h42 h43 h63 h123 m r1 hn h44 (c::u) h2 c u rfl hc n r3 hn2 hmn h125
           | true=>exact piece_b12 w rb s h x r hr hatom h42 h43 h63 h123 m r1 hn h44 (c::u) h2 c u rfl hc n r3 hn2 hmn h125
          ·exact piece_b10 w rb s h x r hr hatom h42 h43 h63 h123 m r1 hn h44 (c::u) h2 c u rfl hc n r3 hn2 hmn
def pieceB:Option (Rx × List UInt8)→Option (Rx × List UInt8)
 | none=>none
 | some (x,r)=>sign x r
theorem piece_any (w:World) (rb:Nat) (s:List UInt8) (h:ReadAt w rb s) (A:Option (Rx × List UInt8)) (hA:∀ x r,A=some (x,r)→r.length≤128)
 (hatom:∀ w1,ReadAt w1 rb s→Calls Tryz.prog 192 #[.pointer (some ⟨rb,0,none⟩)] w1 fun e w2=>ReadsRx rb w1 A e w2) :
 Calls Tryz.prog 186 #[.pointer (some ⟨rb,0,none⟩)] w fun e w'=>ReadsRx rb w (pieceB A) e w':=by
 cases A with
 | none=>exact piece_stop w rb s h (fun w1 h1=>(hatom w1 h1).mono fun e w2 hR=>readsRx_none hR)
 | some p=>
  obtain ⟨x,r⟩:=p
  refine piece_some w rb s h x r (hA x r rfl) (fun w1 h1=>(hatom w1 h1).mono fun e w2 hR=>?_)
  obtain ⟨X,hX,he,h2,h3,h4,h5⟩:=readsRx_some hR
  obtain ⟨k,mn,mx,s0,s1,s2,s3,a,cap,l⟩:=X
  exact⟨k,mn,mx,s0,s1,s2,s3,a,cap,l,hX,he,h2,h3,h4,h5⟩
end Go.Proofs.YtbchkjfnakabkaaGreatDoor
