/- The walks of the printer's lists. (Printed by gen_y6.py.) -/
import Derived.Test.YtbchkjfnakabkaaGreatDoorY5
set_option linter.unusedSimpArgs false
set_option linter.unusedVariables false
namespace Go.Proofs.YtbchkjfnakabkaaGreatDoor
open Go.RowKit PX PC
def keyI (x:ByteArray):Prop:=x.size≤9223372036854775807
theorem row_val {α:Type} {w:World} {k:Nat} {v:Value} {f:α→List Value} {l:List α} (h:RowAt w k v (l.map f)):∃ a cap,v=.slice a l.length cap∧l.length≤cap∧cap≤9223372036854775807∧l.length*k≤140737488355328:=by
 obtain ⟨a,cap,rfl,h1,h2,h3,-⟩:=h
 rw [List.length_map] at h1 h3 ⊢
 exact⟨a,cap,rfl,h1,h2,h3⟩
theorem row_at {α:Type} {w:World} {k:Nat} {a:Option Addr} {n cap:Nat} {f:α→List Value} {l:List α} (h:RowAt w k (.slice a n cap) (l.map f)) {i:Nat} (hi:i<l.length) :
 ∃ b o,a=some ⟨b,o,none⟩∧b<w.heap.size∧∀ j,j<k→w.cell? ⟨b,o+i*k+j,none⟩=(f l[i])[j]?:=by
 obtain ⟨a',cap',hv,h1,h2,h3,h4⟩:=h
 have ha:a=a':=by injection hv
 subst ha
 rcases h4 with h4 | ⟨b,o,rfl,hb,hc⟩
 ·have:(l.map f).length=0:=by rw [h4];rfl
  rw [List.length_map] at this;omega
 ·refine⟨b,o,rfl,hb,fun j hj=>?_⟩
  rw [hc i (by rw [List.length_map];exact hi) j hj,List.getElem_map]
theorem eachB_snoc {α:Type} (p:Lays α):∀ (l:List α) (x:α),eachB p (l++[x])=eachB p l++p.b x
 | [],x=>by simp [eachB]
 | y::l,x=>by simp [eachB,eachB_snoc p l x]
theorem eachOK_snoc {α:Type} (p:Lays α):∀ (l:List α) (x:α),eachOK p (l++[x])=(eachOK p l&&p.ok x)
 | [],x=>by simp [eachOK]
 | y::l,x=>by simp [eachOK,eachOK_snoc p l x,Bool.and_assoc]
theorem eachB_len {α:Type} (p:Lays α) (m:Nat) (hm:∀ x,(p.b x).length≤m):∀ (l:List α),(eachB p l).length≤l.length*m
 | []=>by simp [eachB]
 | y::l=>by
  have:=eachB_len p m hm l
  have:=hm y
  simp only [eachB,List.length_append,List.length_cons,Nat.add_mul];omega
theorem listB_len {α:Type} (p:Lays α) (m:Nat) (hm:∀ x,(p.b x).length≤m) (l:List α):(listB p l).length≤1+l.length*m:=by
 have:=eachB_len p m hm l
 simp only [listB,List.length_append,numsB_len,List.length_cons,List.length_nil];omega
theorem textB_len (s:ByteArray):(textB s).length≤1026:=by
 have:=textS_size s
 rwa [show (textS s).size=(textB s).length by show (textB s).toArray.size=_;simp] at this
theorem ba_empty (S:ByteArray):S++(⟨#[]⟩:ByteArray)=S:=baExt (by rw [baApp];simp)
theorem flow_len (x:Int × Int):(flowP.b x).length≤4:=by show (numsB 1 [x.1,x.2]).length≤4;rw [numsB_len];simp
set_option maxRecDepth 100000 in
set_option maxHeartbeats 2000000 in
theorem lists_flow (w0 w:World) (h0:Later w0 w) (pb cb:Nat) (S:ByteArray) (lost:Bool) (hp:PrAt w pb S lost) (hpb:w0.heap.size≤pb) (hcb:w.cell? ⟨cb,0,none⟩=some (.pointer (some ⟨pb,0,none⟩))) (hcp:cb≠pb) (v:Value) (l:List (Int × Int)) (hrow:RowAt w0 2 v (l.map flowC)) (hI:∀ x∈l,flowI x) (hz:S.size≤2305843009213693952) :
 Calls Tryz.prog 31 #[.pointer (some ⟨pb,0,none⟩),v,.func (.func 32) #[] #[.pointer (some ⟨cb,0,none⟩)]] w (PrPost pb (S++bytesOf (listB flowP l)) (lost || !listOK flowP l) w):=by
 obtain ⟨a,cap,rfl,hl1,hl2,hl3⟩:=row_val hrow
 have HROW:=Lib.hid hrow
 have HI:=Lib.hid hI
 have H0:=Lib.hid h0
 have hpl:=hp.lt
 have HN:=Lib.hid (fun (w1:World) (h1:Later w w1) (g:Nat) (hg:w1.heap[g]?=some (.cells #[.int .i64 (l.length:Int)] 3 (0,0))) (hge:w.heap.size≤g)=>cnum_post w1 pb S lost (hp.later h1) 1 1 (.inl ⟨rfl,rfl⟩) [(l.length:Int)] g 1 _ _ hg rfl (by omega) (by intro n hn;rw [List.mem_singleton.1 hn];exact⟨by omega,by omega⟩) 1 rfl (by simp;omega))
 have HCB:=Lib.hid (And.intro (World.block_lt_of_cell? w _ hcb) hcb)
 have HSZ:=Lib.hid (fun (j:Nat) (hj:j≤l.length)=>show (S++numsS 1 [(l.length:Int)]++bytesOf (eachB flowP (l.take j))).size≤4611686018427380000 by
  have e1:=eachB_len flowP 4 flow_len (l.take j)
  have e2:(l.take j).length≤l.length:=by rw [List.length_take];omega
  have e3:(l.take j).length*4≤l.length*4:=Nat.mul_le_mul_right _ e2
  rw [ByteArray.size_append,ByteArray.size_append,numsS_size,show (bytesOf (eachB flowP (l.take j))).size=(eachB flowP (l.take j)).length by show (eachB flowP (l.take j)).toArray.size=_;simp]
  simp only [List.length_cons,List.length_nil]
  omega)
 have HE:Hid (PrPost pb (S++bytesOf (listB flowP l)) (lost || !listOK flowP l) w=PrPost pb (S++numsS 1 [(l.length:Int)]++bytesOf (eachB flowP l)) (lost || !allFit 1 [(l.length:Int)] || !eachOK flowP l) w):=Lib.hid (by
  rw [bool_join,ba_assoc,listB,ofB];rfl)
 obtain ⟨PT,hPT⟩:∃ PT,PrPost pb (S++bytesOf (listB flowP l)) (lost || !listOK flowP l) w=PT:=⟨_,rfl⟩
 rw [hPT]
 have HPT:=Lib.hid hPT
 have hll:l.length≤140737488355328:=by omega
 clear hp hrow hI h0 hz hcb hPT
 go_enter Tryz.func31,Tryz.ntmps31
 go_wp2_with (first
  | (go_at_call 30;(with_reducible refine (HN.out _ ((Later.refl w).alloc _) _ (alloc_block _ _) (Nat.le_refl _)).mono ?_);rintro e w1 ⟨rfl,hpr,hon⟩;have HPR:=Lib.hid hpr;have HON:=Lib.hid (later_only ((Later.refl w).alloc _) hon);clear hpr hon)
  | fail)
 obtain ⟨S0,hS0⟩:∃ S0,S++numsS 1 [(l.length:Int)]=S0:=⟨_,rfl⟩
 obtain ⟨L0,hL0⟩:∃ L0,(lost || !allFit 1 [(l.length:Int)])=L0:=⟨_,rfl⟩
 rw [hS0] at HPR HE HSZ
 rw [hL0] at HPR HE
 clear hS0 hL0 HN
 go_loopw [15] (fun vi wr=>∃ j:Nat,j≤l.length∧vi=.int .i64 j∧PrAt wr pb (S0++bytesOf (eachB flowP (l.take j))) (L0 || !eachOK flowP (l.take j))∧OnlyP pb w wr) (fun vi _=>l.length - (intOf vi).toNat)
 case atStart=>exact⟨0,by omega,by simp,by simpa [eachB,eachOK,bytesOf,ba_empty] using HPR.out,HON.out⟩
 case round=>
  obtain ⟨j,hj,rfl,hpr,hon⟩:=hrel
  by_cases hlt:j<l.length
  ·have hbw:Later w0 wr:=(Below.trans H0.out (Only.below hon H0.out.size (fun k hk=>by rw [show k=pb from hk];exact hpb)))
   obtain ⟨b,o,rfl,hb,hc⟩:=row_at (HROW.out.later hbw) hlt
   have htk:=List.take_succ_eq_append_getElem hlt
   have hI:=HI.out _ (List.getElem_mem hlt)
   have hsz:=HSZ.out j hj
   obtain ⟨x,hx⟩:∃ x,l[j]=x:=⟨_,rfl⟩
   rw [hx] at hc htk hI
   have HS:Hid (S0++bytesOf (eachB flowP (l.take (j+1)))=(S0++bytesOf (eachB flowP (l.take j)))++bytesOf (flowP.b x)):=Lib.hid (by rw [htk,eachB_snoc,ofB,ba_assoc])
   have HL:Hid ((L0 || !eachOK flowP (l.take (j+1)))=((L0 || !eachOK flowP (l.take j)) || !flowP.ok x)):=Lib.hid (by rw [htk,eachOK_snoc,bool_join])
   obtain ⟨Sj,hSj⟩:∃ Sj,S0++bytesOf (eachB flowP (l.take j))=Sj:=⟨_,rfl⟩
   obtain ⟨L,hL⟩:∃ L,(L0 || !eachOK flowP (l.take j))=L:=⟨_,rfl⟩
   rw [hSj] at HS hpr hsz
   rw [hL] at HL hpr
   have HPRR:=Lib.hid hpr
   have HONN:=Lib.hid hon
   clear hSj hL hpr hon hx htk hbw
   obtain ⟨x1,x2⟩:=x
   have c0:=hc 0 (by omega)
   have c1:=hc 1 (by omega)
   have HCL:=Lib.hid (fun (w1:World) (h1:OnlyP pb w w1) (h2:PrAt w1 pb Sj L)=>(show Calls Tryz.prog 32 #[.agg #[.int .i64 x1,.int .i64 x2],.pointer (some ⟨cb,0,none⟩)] w1 (PrPost pb (Sj++bytesOf (flowP.b ⟨x1,x2⟩)) (L || !flowP.ok ⟨x1,x2⟩) w1) from pr_flow w1 pb cb Sj L h2 ((h1.cell (p:=⟨cb,0,none⟩) HCB.out.1 hcp).trans HCB.out.2) ⟨x1,x2⟩ hI hsz))
   clear hc hI hsz
   simp only [flowC,List.getElem?_cons_zero,List.getElem?_cons_succ,Nat.add_zero,Nat.mul_one] at c0 c1
   go_wp2_with (first
    | (go_at_call 32;(with_reducible refine (HCL.out _ (HONN.out.alloc _) (HPRR.out.later ((Later.refl wr).alloc _))).mono ?_);rintro e w2 ⟨rfl,hpr,hon⟩)
    | fail)
   refine⟨⟨j+1,by omega,by simp,?_,?_⟩,by simp only [intOf];omega⟩
   ·rw [HS.out,HL.out];exact hpr
   ·exact HONN.out.thenP (later_only ((Later.refl wr).alloc _) hon)
  ·obtain rfl:j=l.length:=by omega
   rw [List.take_of_length_le (Nat.le_refl _)] at hpr
   have HPRR:=Lib.hid hpr
   clear hpr
   go_wp2_with fail
   go_end0
   rw [←HPT.out,HE.out]
   exact⟨rfl,HPRR.out,hon⟩
theorem part_len (x:Prt):(partP.b x).length≤4:=by show (numsB 1 [x.level,x.pages]).length≤4;rw [numsB_len];simp
set_option maxRecDepth 100000 in
set_option maxHeartbeats 2000000 in
theorem lists_part (w0 w:World) (h0:Later w0 w) (pb cb:Nat) (S:ByteArray) (lost:Bool) (hp:PrAt w pb S lost) (hpb:w0.heap.size≤pb) (hcb:w.cell? ⟨cb,0,none⟩=some (.pointer (some ⟨pb,0,none⟩))) (hcp:cb≠pb) (v:Value) (l:List Prt) (hrow:RowAt w0 2 v (l.map partC)) (hI:∀ x∈l,partI x) (hz:S.size≤2305843009213693952) :
 Calls Tryz.prog 33 #[.pointer (some ⟨pb,0,none⟩),v,.func (.func 34) #[] #[.pointer (some ⟨cb,0,none⟩)]] w (PrPost pb (S++bytesOf (listB partP l)) (lost || !listOK partP l) w):=by
 obtain ⟨a,cap,rfl,hl1,hl2,hl3⟩:=row_val hrow
 have HROW:=Lib.hid hrow
 have HI:=Lib.hid hI
 have H0:=Lib.hid h0
 have hpl:=hp.lt
 have HN:=Lib.hid (fun (w1:World) (h1:Later w w1) (g:Nat) (hg:w1.heap[g]?=some (.cells #[.int .i64 (l.length:Int)] 3 (0,0))) (hge:w.heap.size≤g)=>cnum_post w1 pb S lost (hp.later h1) 1 1 (.inl ⟨rfl,rfl⟩) [(l.length:Int)] g 1 _ _ hg rfl (by omega) (by intro n hn;rw [List.mem_singleton.1 hn];exact⟨by omega,by omega⟩) 1 rfl (by simp;omega))
 have HCB:=Lib.hid (And.intro (World.block_lt_of_cell? w _ hcb) hcb)
 have HSZ:=Lib.hid (fun (j:Nat) (hj:j≤l.length)=>show (S++numsS 1 [(l.length:Int)]++bytesOf (eachB partP (l.take j))).size≤4611686018427380000 by
  have e1:=eachB_len partP 4 part_len (l.take j)
  have e2:(l.take j).length≤l.length:=by rw [List.length_take];omega
  have e3:(l.take j).length*4≤l.length*4:=Nat.mul_le_mul_right _ e2
  rw [ByteArray.size_append,ByteArray.size_append,numsS_size,show (bytesOf (eachB partP (l.take j))).size=(eachB partP (l.take j)).length by show (eachB partP (l.take j)).toArray.size=_;simp]
  simp only [List.length_cons,List.length_nil]
  omega)
 have HE:Hid (PrPost pb (S++bytesOf (listB partP l)) (lost || !listOK partP l) w=PrPost pb (S++numsS 1 [(l.length:Int)]++bytesOf (eachB partP l)) (lost || !allFit 1 [(l.length:Int)] || !eachOK partP l) w):=Lib.hid (by
  rw [bool_join,ba_assoc,listB,ofB];rfl)
 obtain ⟨PT,hPT⟩:∃ PT,PrPost pb (S++bytesOf (listB partP l)) (lost || !listOK partP l) w=PT:=⟨_,rfl⟩
 rw [hPT]
 have HPT:=Lib.hid hPT
 have hll:l.length≤140737488355328:=by omega
 clear hp hrow hI h0 hz hcb hPT
 go_enter Tryz.func33,Tryz.ntmps33
 go_wp2_with (first
  | (go_at_call 30;(with_reducible refine (HN.out _ ((Later.refl w).alloc _) _ (alloc_block _ _) (Nat.le_refl _)).mono ?_);rintro e w1 ⟨rfl,hpr,hon⟩;have HPR:=Lib.hid hpr;have HON:=Lib.hid (later_only ((Later.refl w).alloc _) hon);clear hpr hon)
  | fail)
 obtain ⟨S0,hS0⟩:∃ S0,S++numsS 1 [(l.length:Int)]=S0:=⟨_,rfl⟩
 obtain ⟨L0,hL0⟩:∃ L0,(lost || !allFit 1 [(l.length:Int)])=L0:=⟨_,rfl⟩
 rw [hS0] at HPR HE HSZ
 rw [hL0] at HPR HE
 clear hS0 hL0 HN
 go_loopw [15] (fun vi wr=>∃ j:Nat,j≤l.length∧vi=.int .i64 j∧PrAt wr pb (S0++bytesOf (eachB partP (l.take j))) (L0 || !eachOK partP (l.take j))∧OnlyP pb w wr) (fun vi _=>l.length - (intOf vi).toNat)
 case atStart=>exact⟨0,by omega,by simp,by simpa [eachB,eachOK,bytesOf,ba_empty] using HPR.out,HON.out⟩
 case round=>
  obtain ⟨j,hj,rfl,hpr,hon⟩:=hrel
  by_cases hlt:j<l.length
  ·have hbw:Later w0 wr:=(Below.trans H0.out (Only.below hon H0.out.size (fun k hk=>by rw [show k=pb from hk];exact hpb)))
   obtain ⟨b,o,rfl,hb,hc⟩:=row_at (HROW.out.later hbw) hlt
   have htk:=List.take_succ_eq_append_getElem hlt
   have hI:=HI.out _ (List.getElem_mem hlt)
   have hsz:=HSZ.out j hj
   obtain ⟨x,hx⟩:∃ x,l[j]=x:=⟨_,rfl⟩
   rw [hx] at hc htk hI
   have HS:Hid (S0++bytesOf (eachB partP (l.take (j+1)))=(S0++bytesOf (eachB partP (l.take j)))++bytesOf (partP.b x)):=Lib.hid (by rw [htk,eachB_snoc,ofB,ba_assoc])
   have HL:Hid ((L0 || !eachOK partP (l.take (j+1)))=((L0 || !eachOK partP (l.take j)) || !partP.ok x)):=Lib.hid (by rw [htk,eachOK_snoc,bool_join])
   obtain ⟨Sj,hSj⟩:∃ Sj,S0++bytesOf (eachB partP (l.take j))=Sj:=⟨_,rfl⟩
   obtain ⟨L,hL⟩:∃ L,(L0 || !eachOK partP (l.take j))=L:=⟨_,rfl⟩
   rw [hSj] at HS hpr hsz
   rw [hL] at HL hpr
   have HPRR:=Lib.hid hpr
   have HONN:=Lib.hid hon
   clear hSj hL hpr hon hx htk hbw
   obtain ⟨x1,x2⟩:=x
   have c0:=hc 0 (by omega)
   have c1:=hc 1 (by omega)
   have HCL:=Lib.hid (fun (w1:World) (h1:OnlyP pb w w1) (h2:PrAt w1 pb Sj L)=>(show Calls Tryz.prog 34 #[.agg #[.int .i64 x1,.int .i64 x2],.pointer (some ⟨cb,0,none⟩)] w1 (PrPost pb (Sj++bytesOf (partP.b ⟨x1,x2⟩)) (L || !partP.ok ⟨x1,x2⟩) w1) from pr_part w1 pb cb Sj L h2 ((h1.cell (p:=⟨cb,0,none⟩) HCB.out.1 hcp).trans HCB.out.2) ⟨x1,x2⟩ hI hsz))
   clear hc hI hsz
   simp only [partC,List.getElem?_cons_zero,List.getElem?_cons_succ,Nat.add_zero,Nat.mul_one] at c0 c1
   go_wp2_with (first
    | (go_at_call 34;(with_reducible refine (HCL.out _ (HONN.out.alloc _) (HPRR.out.later ((Later.refl wr).alloc _))).mono ?_);rintro e w2 ⟨rfl,hpr,hon⟩)
    | fail)
   refine⟨⟨j+1,by omega,by simp,?_,?_⟩,by simp only [intOf];omega⟩
   ·rw [HS.out,HL.out];exact hpr
   ·exact HONN.out.thenP (later_only ((Later.refl wr).alloc _) hon)
  ·obtain rfl:j=l.length:=by omega
   rw [List.take_of_length_le (Nat.le_refl _)] at hpr
   have HPRR:=Lib.hid hpr
   clear hpr
   go_wp2_with fail
   go_end0
   rw [←HPT.out,HE.out]
   exact⟨rfl,HPRR.out,hon⟩
theorem win_len (x:Win):(winP.b x).length≤6:=by show (numsB 1 [x.kind,x.index,x.ticks]).length≤6;rw [numsB_len];simp
set_option maxRecDepth 100000 in
set_option maxHeartbeats 2000000 in
theorem lists_win (w0 w:World) (h0:Later w0 w) (pb cb:Nat) (S:ByteArray) (lost:Bool) (hp:PrAt w pb S lost) (hpb:w0.heap.size≤pb) (hcb:w.cell? ⟨cb,0,none⟩=some (.pointer (some ⟨pb,0,none⟩))) (hcp:cb≠pb) (v:Value) (l:List Win) (hrow:RowAt w0 3 v (l.map winC)) (hI:∀ x∈l,winI x) (hz:S.size≤2305843009213693952) :
 Calls Tryz.prog 35 #[.pointer (some ⟨pb,0,none⟩),v,.func (.func 36) #[] #[.pointer (some ⟨cb,0,none⟩)]] w (PrPost pb (S++bytesOf (listB winP l)) (lost || !listOK winP l) w):=by
 obtain ⟨a,cap,rfl,hl1,hl2,hl3⟩:=row_val hrow
 have HROW:=Lib.hid hrow
 have HI:=Lib.hid hI
 have H0:=Lib.hid h0
 have hpl:=hp.lt
 have HN:=Lib.hid (fun (w1:World) (h1:Later w w1) (g:Nat) (hg:w1.heap[g]?=some (.cells #[.int .i64 (l.length:Int)] 3 (0,0))) (hge:w.heap.size≤g)=>cnum_post w1 pb S lost (hp.later h1) 1 1 (.inl ⟨rfl,rfl⟩) [(l.length:Int)] g 1 _ _ hg rfl (by omega) (by intro n hn;rw [List.mem_singleton.1 hn];exact⟨by omega,by omega⟩) 1 rfl (by simp;omega))
 have HCB:=Lib.hid (And.intro (World.block_lt_of_cell? w _ hcb) hcb)
 have HSZ:=Lib.hid (fun (j:Nat) (hj:j≤l.length)=>show (S++numsS 1 [(l.length:Int)]++bytesOf (eachB winP (l.take j))).size≤4611686018427380000 by
  have e1:=eachB_len winP 6 win_len (l.take j)
  have e2:(l.take j).length≤l.length:=by rw [List.length_take];omega
  have e3:(l.take j).length*6≤l.length*6:=Nat.mul_le_mul_right _ e2
  rw [ByteArray.size_append,ByteArray.size_append,numsS_size,show (bytesOf (eachB winP (l.take j))).size=(eachB winP (l.take j)).length by show (eachB winP (l.take j)).toArray.size=_;simp]
  simp only [List.length_cons,List.length_nil]
  omega)
 have HE:Hid (PrPost pb (S++bytesOf (listB winP l)) (lost || !listOK winP l) w=PrPost pb (S++numsS 1 [(l.length:Int)]++bytesOf (eachB winP l)) (lost || !allFit 1 [(l.length:Int)] || !eachOK winP l) w):=Lib.hid (by
  rw [bool_join,ba_assoc,listB,ofB];rfl)
 obtain ⟨PT,hPT⟩:∃ PT,PrPost pb (S++bytesOf (listB winP l)) (lost || !listOK winP l) w=PT:=⟨_,rfl⟩
 rw [hPT]
 have HPT:=Lib.hid hPT
 have hll:l.length≤140737488355328:=by omega
 clear hp hrow hI h0 hz hcb hPT
 go_enter Tryz.func35,Tryz.ntmps35
 go_wp2_with (first
  | (go_at_call 30;(with_reducible refine (HN.out _ ((Later.refl w).alloc _) _ (alloc_block _ _) (Nat.le_refl _)).mono ?_);rintro e w1 ⟨rfl,hpr,hon⟩;have HPR:=Lib.hid hpr;have HON:=Lib.hid (later_only ((Later.refl w).alloc _) hon);clear hpr hon)
  | fail)
 obtain ⟨S0,hS0⟩:∃ S0,S++numsS 1 [(l.length:Int)]=S0:=⟨_,rfl⟩
 obtain ⟨L0,hL0⟩:∃ L0,(lost || !allFit 1 [(l.length:Int)])=L0:=⟨_,rfl⟩
 rw [hS0] at HPR HE HSZ
 rw [hL0] at HPR HE
 clear hS0 hL0 HN
 go_loopw [15] (fun vi wr=>∃ j:Nat,j≤l.length∧vi=.int .i64 j∧PrAt wr pb (S0++bytesOf (eachB winP (l.take j))) (L0 || !eachOK winP (l.take j))∧OnlyP pb w wr) (fun vi _=>l.length - (intOf vi).toNat)
 case atStart=>exact⟨0,by omega,by simp,by simpa [eachB,eachOK,bytesOf,ba_empty] using HPR.out,HON.out⟩
 case round=>
  obtain ⟨j,hj,rfl,hpr,hon⟩:=hrel
  by_cases hlt:j<l.length
  ·have hbw:Later w0 wr:=(Below.trans H0.out (Only.below hon H0.out.size (fun k hk=>by rw [show k=pb from hk];exact hpb)))
   obtain ⟨b,o,rfl,hb,hc⟩:=row_at (HROW.out.later hbw) hlt
   have htk:=List.take_succ_eq_append_getElem hlt
   have hI:=HI.out _ (List.getElem_mem hlt)
   have hsz:=HSZ.out j hj
   obtain ⟨x,hx⟩:∃ x,l[j]=x:=⟨_,rfl⟩
   rw [hx] at hc htk hI
   have HS:Hid (S0++bytesOf (eachB winP (l.take (j+1)))=(S0++bytesOf (eachB winP (l.take j)))++bytesOf (winP.b x)):=Lib.hid (by rw [htk,eachB_snoc,ofB,ba_assoc])
   have HL:Hid ((L0 || !eachOK winP (l.take (j+1)))=((L0 || !eachOK winP (l.take j)) || !winP.ok x)):=Lib.hid (by rw [htk,eachOK_snoc,bool_join])
   obtain ⟨Sj,hSj⟩:∃ Sj,S0++bytesOf (eachB winP (l.take j))=Sj:=⟨_,rfl⟩
   obtain ⟨L,hL⟩:∃ L,(L0 || !eachOK winP (l.take j))=L:=⟨_,rfl⟩
   rw [hSj] at HS hpr hsz
   rw [hL] at HL hpr
   have HPRR:=Lib.hid hpr
   have HONN:=Lib.hid hon
   clear hSj hL hpr hon hx htk hbw
   obtain ⟨x1,x2,x3⟩:=x
   have c0:=hc 0 (by omega)
   have c1:=hc 1 (by omega)
   have c2:=hc 2 (by omega)
   have HCL:=Lib.hid (fun (w1:World) (h1:OnlyP pb w w1) (h2:PrAt w1 pb Sj L)=>(show Calls Tryz.prog 36 #[.agg #[.int .i64 x1,.int .i64 x2,.int .i64 x3],.pointer (some ⟨cb,0,none⟩)] w1 (PrPost pb (Sj++bytesOf (winP.b ⟨x1,x2,x3⟩)) (L || !winP.ok ⟨x1,x2,x3⟩) w1) from pr_win w1 pb cb Sj L h2 ((h1.cell (p:=⟨cb,0,none⟩) HCB.out.1 hcp).trans HCB.out.2) ⟨x1,x2,x3⟩ hI hsz))
   clear hc hI hsz
   simp only [winC,List.getElem?_cons_zero,List.getElem?_cons_succ,Nat.add_zero,Nat.mul_one] at c0 c1 c2
   go_wp2_with (first
    | (go_at_call 36;(with_reducible refine (HCL.out _ (HONN.out.alloc _) (HPRR.out.later ((Later.refl wr).alloc _))).mono ?_);rintro e w2 ⟨rfl,hpr,hon⟩)
    | fail)
   refine⟨⟨j+1,by omega,by simp,?_,?_⟩,by simp only [intOf];omega⟩
   ·rw [HS.out,HL.out];exact hpr
   ·exact HONN.out.thenP (later_only ((Later.refl wr).alloc _) hon)
  ·obtain rfl:j=l.length:=by omega
   rw [List.take_of_length_le (Nat.le_refl _)] at hpr
   have HPRR:=Lib.hid hpr
   clear hpr
   go_wp2_with fail
   go_end0
   rw [←HPT.out,HE.out]
   exact⟨rfl,HPRR.out,hon⟩
theorem por_len (x:Por):(porP.b x).length≤10:=by show (numsB 1 [x.kind,x.fr,x.tu,x.size,x.depth]).length≤10;rw [numsB_len];simp
set_option maxRecDepth 100000 in
set_option maxHeartbeats 2000000 in
theorem lists_por (w0 w:World) (h0:Later w0 w) (pb cb:Nat) (S:ByteArray) (lost:Bool) (hp:PrAt w pb S lost) (hpb:w0.heap.size≤pb) (hcb:w.cell? ⟨cb,0,none⟩=some (.pointer (some ⟨pb,0,none⟩))) (hcp:cb≠pb) (v:Value) (l:List Por) (hrow:RowAt w0 5 v (l.map porC)) (hI:∀ x∈l,porI x) (hz:S.size≤2305843009213693952) :
 Calls Tryz.prog 37 #[.pointer (some ⟨pb,0,none⟩),v,.func (.func 38) #[] #[.pointer (some ⟨cb,0,none⟩)]] w (PrPost pb (S++bytesOf (listB porP l)) (lost || !listOK porP l) w):=by
 obtain ⟨a,cap,rfl,hl1,hl2,hl3⟩:=row_val hrow
 have HROW:=Lib.hid hrow
 have HI:=Lib.hid hI
 have H0:=Lib.hid h0
 have hpl:=hp.lt
 have HN:=Lib.hid (fun (w1:World) (h1:Later w w1) (g:Nat) (hg:w1.heap[g]?=some (.cells #[.int .i64 (l.length:Int)] 3 (0,0))) (hge:w.heap.size≤g)=>cnum_post w1 pb S lost (hp.later h1) 1 1 (.inl ⟨rfl,rfl⟩) [(l.length:Int)] g 1 _ _ hg rfl (by omega) (by intro n hn;rw [List.mem_singleton.1 hn];exact⟨by omega,by omega⟩) 1 rfl (by simp;omega))
 have HCB:=Lib.hid (And.intro (World.block_lt_of_cell? w _ hcb) hcb)
 have HSZ:=Lib.hid (fun (j:Nat) (hj:j≤l.length)=>show (S++numsS 1 [(l.length:Int)]++bytesOf (eachB porP (l.take j))).size≤4611686018427380000 by
  have e1:=eachB_len porP 10 por_len (l.take j)
  have e2:(l.take j).length≤l.length:=by rw [List.length_take];omega
  have e3:(l.take j).length*10≤l.length*10:=Nat.mul_le_mul_right _ e2
  rw [ByteArray.size_append,ByteArray.size_append,numsS_size,show (bytesOf (eachB porP (l.take j))).size=(eachB porP (l.take j)).length by show (eachB porP (l.take j)).toArray.size=_;simp]
  simp only [List.length_cons,List.length_nil]
  omega)
 have HE:Hid (PrPost pb (S++bytesOf (listB porP l)) (lost || !listOK porP l) w=PrPost pb (S++numsS 1 [(l.length:Int)]++bytesOf (eachB porP l)) (lost || !allFit 1 [(l.length:Int)] || !eachOK porP l) w):=Lib.hid (by
  rw [bool_join,ba_assoc,listB,ofB];rfl)
 obtain ⟨PT,hPT⟩:∃ PT,PrPost pb (S++bytesOf (listB porP l)) (lost || !listOK porP l) w=PT:=⟨_,rfl⟩
 rw [hPT]
 have HPT:=Lib.hid hPT
 have hll:l.length≤140737488355328:=by omega
 clear hp hrow hI h0 hz hcb hPT
 go_enter Tryz.func37,Tryz.ntmps37
 go_wp2_with (first
  | (go_at_call 30;(with_reducible refine (HN.out _ ((Later.refl w).alloc _) _ (alloc_block _ _) (Nat.le_refl _)).mono ?_);rintro e w1 ⟨rfl,hpr,hon⟩;have HPR:=Lib.hid hpr;have HON:=Lib.hid (later_only ((Later.refl w).alloc _) hon);clear hpr hon)
  | fail)
 obtain ⟨S0,hS0⟩:∃ S0,S++numsS 1 [(l.length:Int)]=S0:=⟨_,rfl⟩
 obtain ⟨L0,hL0⟩:∃ L0,(lost || !allFit 1 [(l.length:Int)])=L0:=⟨_,rfl⟩
 rw [hS0] at HPR HE HSZ
 rw [hL0] at HPR HE
 clear hS0 hL0 HN
 go_loopw [15] (fun vi wr=>∃ j:Nat,j≤l.length∧vi=.int .i64 j∧PrAt wr pb (S0++bytesOf (eachB porP (l.take j))) (L0 || !eachOK porP (l.take j))∧OnlyP pb w wr) (fun vi _=>l.length - (intOf vi).toNat)
 case atStart=>exact⟨0,by omega,by simp,by simpa [eachB,eachOK,bytesOf,ba_empty] using HPR.out,HON.out⟩
 case round=>
  obtain ⟨j,hj,rfl,hpr,hon⟩:=hrel
  by_cases hlt:j<l.length
  ·have hbw:Later w0 wr:=(Below.trans H0.out (Only.below hon H0.out.size (fun k hk=>by rw [show k=pb from hk];exact hpb)))
   obtain ⟨b,o,rfl,hb,hc⟩:=row_at (HROW.out.later hbw) hlt
   have htk:=List.take_succ_eq_append_getElem hlt
   have hI:=HI.out _ (List.getElem_mem hlt)
   have hsz:=HSZ.out j hj
   obtain ⟨x,hx⟩:∃ x,l[j]=x:=⟨_,rfl⟩
   rw [hx] at hc htk hI
   have HS:Hid (S0++bytesOf (eachB porP (l.take (j+1)))=(S0++bytesOf (eachB porP (l.take j)))++bytesOf (porP.b x)):=Lib.hid (by rw [htk,eachB_snoc,ofB,ba_assoc])
   have HL:Hid ((L0 || !eachOK porP (l.take (j+1)))=((L0 || !eachOK porP (l.take j)) || !porP.ok x)):=Lib.hid (by rw [htk,eachOK_snoc,bool_join])
   obtain ⟨Sj,hSj⟩:∃ Sj,S0++bytesOf (eachB porP (l.take j))=Sj:=⟨_,rfl⟩
   obtain ⟨L,hL⟩:∃ L,(L0 || !eachOK porP (l.take j))=L:=⟨_,rfl⟩
   rw [hSj] at HS hpr hsz
   rw [hL] at HL hpr
   have HPRR:=Lib.hid hpr
   have HONN:=Lib.hid hon
   clear hSj hL hpr hon hx htk hbw
   obtain ⟨x1,x2,x3,x4,x5⟩:=x
   have c0:=hc 0 (by omega)
   have c1:=hc 1 (by omega)
   have c2:=hc 2 (by omega)
   have c3:=hc 3 (by omega)
   have c4:=hc 4 (by omega)
   have HCL:=Lib.hid (fun (w1:World) (h1:OnlyP pb w w1) (h2:PrAt w1 pb Sj L)=>(show Calls Tryz.prog 38 #[.agg #[.int .i64 x1,.int .i64 x2,.int .i64 x3,.int .i64 x4,.int .i64 x5],.pointer (some ⟨cb,0,none⟩)] w1 (PrPost pb (Sj++bytesOf (porP.b ⟨x1,x2,x3,x4,x5⟩)) (L || !porP.ok ⟨x1,x2,x3,x4,x5⟩) w1) from pr_por w1 pb cb Sj L h2 ((h1.cell (p:=⟨cb,0,none⟩) HCB.out.1 hcp).trans HCB.out.2) ⟨x1,x2,x3,x4,x5⟩ hI hsz))
   clear hc hI hsz
   simp only [porC,List.getElem?_cons_zero,List.getElem?_cons_succ,Nat.add_zero,Nat.mul_one] at c0 c1 c2 c3 c4
   go_wp2_with (first
    | (go_at_call 38;(with_reducible refine (HCL.out _ (HONN.out.alloc _) (HPRR.out.later ((Later.refl wr).alloc _))).mono ?_);rintro e w2 ⟨rfl,hpr,hon⟩)
    | fail)
   refine⟨⟨j+1,by omega,by simp,?_,?_⟩,by simp only [intOf];omega⟩
   ·rw [HS.out,HL.out];exact hpr
   ·exact HONN.out.thenP (later_only ((Later.refl wr).alloc _) hon)
  ·obtain rfl:j=l.length:=by omega
   rw [List.take_of_length_le (Nat.le_refl _)] at hpr
   have HPRR:=Lib.hid hpr
   clear hpr
   go_wp2_with fail
   go_end0
   rw [←HPT.out,HE.out]
   exact⟨rfl,HPRR.out,hon⟩
theorem vol_len (x:Vol):(volP.b x).length≤10:=by show (numsB 1 [x.level]++numsB 2 [x.first,x.count,x.journal]).length≤10;rw [List.length_append,numsB_len,numsB_len];simp
set_option maxRecDepth 100000 in
set_option maxHeartbeats 2000000 in
theorem lists_vol (w0 w:World) (h0:Later w0 w) (pb cb:Nat) (S:ByteArray) (lost:Bool) (hp:PrAt w pb S lost) (hpb:w0.heap.size≤pb) (hcb:w.cell? ⟨cb,0,none⟩=some (.pointer (some ⟨pb,0,none⟩))) (hcp:cb≠pb) (v:Value) (l:List Vol) (hrow:RowAt w0 4 v (l.map volC)) (hI:∀ x∈l,volI x) (hz:S.size≤2305843009213693952) :
 Calls Tryz.prog 39 #[.pointer (some ⟨pb,0,none⟩),v,.func (.func 40) #[] #[.pointer (some ⟨cb,0,none⟩)]] w (PrPost pb (S++bytesOf (listB volP l)) (lost || !listOK volP l) w):=by
 obtain ⟨a,cap,rfl,hl1,hl2,hl3⟩:=row_val hrow
 have HROW:=Lib.hid hrow
 have HI:=Lib.hid hI
 have H0:=Lib.hid h0
 have hpl:=hp.lt
 have HN:=Lib.hid (fun (w1:World) (h1:Later w w1) (g:Nat) (hg:w1.heap[g]?=some (.cells #[.int .i64 (l.length:Int)] 3 (0,0))) (hge:w.heap.size≤g)=>cnum_post w1 pb S lost (hp.later h1) 1 1 (.inl ⟨rfl,rfl⟩) [(l.length:Int)] g 1 _ _ hg rfl (by omega) (by intro n hn;rw [List.mem_singleton.1 hn];exact⟨by omega,by omega⟩) 1 rfl (by simp;omega))
 have HCB:=Lib.hid (And.intro (World.block_lt_of_cell? w _ hcb) hcb)
 have HSZ:=Lib.hid (fun (j:Nat) (hj:j≤l.length)=>show (S++numsS 1 [(l.length:Int)]++bytesOf (eachB volP (l.take j))).size≤4611686018427380000 by
  have e1:=eachB_len volP 10 vol_len (l.take j)
  have e2:(l.take j).length≤l.length:=by rw [List.length_take];omega
  have e3:(l.take j).length*10≤l.length*10:=Nat.mul_le_mul_right _ e2
  rw [ByteArray.size_append,ByteArray.size_append,numsS_size,show (bytesOf (eachB volP (l.take j))).size=(eachB volP (l.take j)).length by show (eachB volP (l.take j)).toArray.size=_;simp]
  simp only [List.length_cons,List.length_nil]
  omega)
 have HE:Hid (PrPost pb (S++bytesOf (listB volP l)) (lost || !listOK volP l) w=PrPost pb (S++numsS 1 [(l.length:Int)]++bytesOf (eachB volP l)) (lost || !allFit 1 [(l.length:Int)] || !eachOK volP l) w):=Lib.hid (by
  rw [bool_join,ba_assoc,listB,ofB];rfl)
 obtain ⟨PT,hPT⟩:∃ PT,PrPost pb (S++bytesOf (listB volP l)) (lost || !listOK volP l) w=PT:=⟨_,rfl⟩
 rw [hPT]
 have HPT:=Lib.hid hPT
 have hll:l.length≤140737488355328:=by omega
 clear hp hrow hI h0 hz hcb hPT
 go_enter Tryz.func39,Tryz.ntmps39
 go_wp2_with (first
  | (go_at_call 30;(with_reducible refine (HN.out _ ((Later.refl w).alloc _) _ (alloc_block _ _) (Nat.le_refl _)).mono ?_);rintro e w1 ⟨rfl,hpr,hon⟩;have HPR:=Lib.hid hpr;have HON:=Lib.hid (later_only ((Later.refl w).alloc _) hon);clear hpr hon)
  | fail)
 obtain ⟨S0,hS0⟩:∃ S0,S++numsS 1 [(l.length:Int)]=S0:=⟨_,rfl⟩
 obtain ⟨L0,hL0⟩:∃ L0,(lost || !allFit 1 [(l.length:Int)])=L0:=⟨_,rfl⟩
 rw [hS0] at HPR HE HSZ
 rw [hL0] at HPR HE
 clear hS0 hL0 HN
 go_loopw [15] (fun vi wr=>∃ j:Nat,j≤l.length∧vi=.int .i64 j∧PrAt wr pb (S0++bytesOf (eachB volP (l.take j))) (L0 || !eachOK volP (l.take j))∧OnlyP pb w wr) (fun vi _=>l.length - (intOf vi).toNat)
 case atStart=>exact⟨0,by omega,by simp,by simpa [eachB,eachOK,bytesOf,ba_empty] using HPR.out,HON.out⟩
 case round=>
  obtain ⟨j,hj,rfl,hpr,hon⟩:=hrel
  by_cases hlt:j<l.length
  ·have hbw:Later w0 wr:=(Below.trans H0.out (Only.below hon H0.out.size (fun k hk=>by rw [show k=pb from hk];exact hpb)))
   obtain ⟨b,o,rfl,hb,hc⟩:=row_at (HROW.out.later hbw) hlt
   have htk:=List.take_succ_eq_append_getElem hlt
   have hI:=HI.out _ (List.getElem_mem hlt)
   have hsz:=HSZ.out j hj
   obtain ⟨x,hx⟩:∃ x,l[j]=x:=⟨_,rfl⟩
   rw [hx] at hc htk hI
   have HS:Hid (S0++bytesOf (eachB volP (l.take (j+1)))=(S0++bytesOf (eachB volP (l.take j)))++bytesOf (volP.b x)):=Lib.hid (by rw [htk,eachB_snoc,ofB,ba_assoc])
   have HL:Hid ((L0 || !eachOK volP (l.take (j+1)))=((L0 || !eachOK volP (l.take j)) || !volP.ok x)):=Lib.hid (by rw [htk,eachOK_snoc,bool_join])
   obtain ⟨Sj,hSj⟩:∃ Sj,S0++bytesOf (eachB volP (l.take j))=Sj:=⟨_,rfl⟩
   obtain ⟨L,hL⟩:∃ L,(L0 || !eachOK volP (l.take j))=L:=⟨_,rfl⟩
   rw [hSj] at HS hpr hsz
   rw [hL] at HL hpr
   have HPRR:=Lib.hid hpr
   have HONN:=Lib.hid hon
   clear hSj hL hpr hon hx htk hbw
   obtain ⟨x1,x2,x3,x4⟩:=x
   have c0:=hc 0 (by omega)
   have c1:=hc 1 (by omega)
   have c2:=hc 2 (by omega)
   have c3:=hc 3 (by omega)
   have HCL:=Lib.hid (fun (w1:World) (h1:OnlyP pb w w1) (h2:PrAt w1 pb Sj L)=>(show Calls Tryz.prog 40 #[.agg #[.int .i64 x1,.int .i64 x2,.int .i64 x3,.int .i64 x4],.pointer (some ⟨cb,0,none⟩)] w1 (PrPost pb (Sj++bytesOf (volP.b ⟨x1,x2,x3,x4⟩)) (L || !volP.ok ⟨x1,x2,x3,x4⟩) w1) from pr_vol w1 pb cb Sj L h2 ((h1.cell (p:=⟨cb,0,none⟩) HCB.out.1 hcp).trans HCB.out.2) hcp ⟨x1,x2,x3,x4⟩ hI hsz))
   clear hc hI hsz
   simp only [volC,List.getElem?_cons_zero,List.getElem?_cons_succ,Nat.add_zero,Nat.mul_one] at c0 c1 c2 c3
   go_wp2_with (first
    | (go_at_call 40;(with_reducible refine (HCL.out _ (HONN.out.alloc _) (HPRR.out.later ((Later.refl wr).alloc _))).mono ?_);rintro e w2 ⟨rfl,hpr,hon⟩)
    | fail)
   refine⟨⟨j+1,by omega,by simp,?_,?_⟩,by simp only [intOf];omega⟩
   ·rw [HS.out,HL.out];exact hpr
   ·exact HONN.out.thenP (later_only ((Later.refl wr).alloc _) hon)
  ·obtain rfl:j=l.length:=by omega
   rw [List.take_of_length_le (Nat.le_refl _)] at hpr
   have HPRR:=Lib.hid hpr
   clear hpr
   go_wp2_with fail
   go_end0
   rw [←HPT.out,HE.out]
   exact⟨rfl,HPRR.out,hon⟩
theorem ru_len (x:Ru):(ruP.b x).length≤2070:=by show (numsB 1 [x.fr,x.tu,x.act]++(textB x.pat++textB x.wth)).length≤2070;have h1:=textB_len x.pat;have h2:=textB_len x.wth;rw [List.length_append,List.length_append,numsB_len];simp;omega
set_option maxRecDepth 100000 in
set_option maxHeartbeats 2000000 in
theorem lists_ru (w0 w:World) (h0:Later w0 w) (pb cb:Nat) (S:ByteArray) (lost:Bool) (hp:PrAt w pb S lost) (hpb:w0.heap.size≤pb) (hcb:w.cell? ⟨cb,0,none⟩=some (.pointer (some ⟨pb,0,none⟩))) (hcp:cb≠pb) (v:Value) (l:List Ru) (hrow:RowAt w0 5 v (l.map ruC)) (hI:∀ x∈l,ruI x) (hz:S.size≤2305843009213693952) :
 Calls Tryz.prog 41 #[.pointer (some ⟨pb,0,none⟩),v,.func (.func 42) #[] #[.pointer (some ⟨cb,0,none⟩)]] w (PrPost pb (S++bytesOf (listB ruP l)) (lost || !listOK ruP l) w):=by
 obtain ⟨a,cap,rfl,hl1,hl2,hl3⟩:=row_val hrow
 have HROW:=Lib.hid hrow
 have HI:=Lib.hid hI
 have H0:=Lib.hid h0
 have hpl:=hp.lt
 have HN:=Lib.hid (fun (w1:World) (h1:Later w w1) (g:Nat) (hg:w1.heap[g]?=some (.cells #[.int .i64 (l.length:Int)] 3 (0,0))) (hge:w.heap.size≤g)=>cnum_post w1 pb S lost (hp.later h1) 1 1 (.inl ⟨rfl,rfl⟩) [(l.length:Int)] g 1 _ _ hg rfl (by omega) (by intro n hn;rw [List.mem_singleton.1 hn];exact⟨by omega,by omega⟩) 1 rfl (by simp;omega))
 have HCB:=Lib.hid (And.intro (World.block_lt_of_cell? w _ hcb) hcb)
 have HSZ:=Lib.hid (fun (j:Nat) (hj:j≤l.length)=>show (S++numsS 1 [(l.length:Int)]++bytesOf (eachB ruP (l.take j))).size≤4611686018427380000 by
  have e1:=eachB_len ruP 2070 ru_len (l.take j)
  have e2:(l.take j).length≤l.length:=by rw [List.length_take];omega
  have e3:(l.take j).length*2070≤l.length*2070:=Nat.mul_le_mul_right _ e2
  rw [ByteArray.size_append,ByteArray.size_append,numsS_size,show (bytesOf (eachB ruP (l.take j))).size=(eachB ruP (l.take j)).length by show (eachB ruP (l.take j)).toArray.size=_;simp]
  simp only [List.length_cons,List.length_nil]
  omega)
 have HE:Hid (PrPost pb (S++bytesOf (listB ruP l)) (lost || !listOK ruP l) w=PrPost pb (S++numsS 1 [(l.length:Int)]++bytesOf (eachB ruP l)) (lost || !allFit 1 [(l.length:Int)] || !eachOK ruP l) w):=Lib.hid (by
  rw [bool_join,ba_assoc,listB,ofB];rfl)
 obtain ⟨PT,hPT⟩:∃ PT,PrPost pb (S++bytesOf (listB ruP l)) (lost || !listOK ruP l) w=PT:=⟨_,rfl⟩
 rw [hPT]
 have HPT:=Lib.hid hPT
 have hll:l.length≤140737488355328:=by omega
 clear hp hrow hI h0 hz hcb hPT
 go_enter Tryz.func41,Tryz.ntmps41
 go_wp2_with (first
  | (go_at_call 30;(with_reducible refine (HN.out _ ((Later.refl w).alloc _) _ (alloc_block _ _) (Nat.le_refl _)).mono ?_);rintro e w1 ⟨rfl,hpr,hon⟩;have HPR:=Lib.hid hpr;have HON:=Lib.hid (later_only ((Later.refl w).alloc _) hon);clear hpr hon)
  | fail)
 obtain ⟨S0,hS0⟩:∃ S0,S++numsS 1 [(l.length:Int)]=S0:=⟨_,rfl⟩
 obtain ⟨L0,hL0⟩:∃ L0,(lost || !allFit 1 [(l.length:Int)])=L0:=⟨_,rfl⟩
 rw [hS0] at HPR HE HSZ
 rw [hL0] at HPR HE
 clear hS0 hL0 HN
 go_loopw [15] (fun vi wr=>∃ j:Nat,j≤l.length∧vi=.int .i64 j∧PrAt wr pb (S0++bytesOf (eachB ruP (l.take j))) (L0 || !eachOK ruP (l.take j))∧OnlyP pb w wr) (fun vi _=>l.length - (intOf vi).toNat)
 case atStart=>exact⟨0,by omega,by simp,by simpa [eachB,eachOK,bytesOf,ba_empty] using HPR.out,HON.out⟩
 case round=>
  obtain ⟨j,hj,rfl,hpr,hon⟩:=hrel
  by_cases hlt:j<l.length
  ·have hbw:Later w0 wr:=(Below.trans H0.out (Only.below hon H0.out.size (fun k hk=>by rw [show k=pb from hk];exact hpb)))
   obtain ⟨b,o,rfl,hb,hc⟩:=row_at (HROW.out.later hbw) hlt
   have htk:=List.take_succ_eq_append_getElem hlt
   have hI:=HI.out _ (List.getElem_mem hlt)
   have hsz:=HSZ.out j hj
   obtain ⟨x,hx⟩:∃ x,l[j]=x:=⟨_,rfl⟩
   rw [hx] at hc htk hI
   have HS:Hid (S0++bytesOf (eachB ruP (l.take (j+1)))=(S0++bytesOf (eachB ruP (l.take j)))++bytesOf (ruP.b x)):=Lib.hid (by rw [htk,eachB_snoc,ofB,ba_assoc])
   have HL:Hid ((L0 || !eachOK ruP (l.take (j+1)))=((L0 || !eachOK ruP (l.take j)) || !ruP.ok x)):=Lib.hid (by rw [htk,eachOK_snoc,bool_join])
   obtain ⟨Sj,hSj⟩:∃ Sj,S0++bytesOf (eachB ruP (l.take j))=Sj:=⟨_,rfl⟩
   obtain ⟨L,hL⟩:∃ L,(L0 || !eachOK ruP (l.take j))=L:=⟨_,rfl⟩
   rw [hSj] at HS hpr hsz
   rw [hL] at HL hpr
   have HPRR:=Lib.hid hpr
   have HONN:=Lib.hid hon
   clear hSj hL hpr hon hx htk hbw
   obtain ⟨x1,x2,x3,x4,x5⟩:=x
   have c0:=hc 0 (by omega)
   have c1:=hc 1 (by omega)
   have c2:=hc 2 (by omega)
   have c3:=hc 3 (by omega)
   have c4:=hc 4 (by omega)
   have HCL:=Lib.hid (fun (w1:World) (h1:OnlyP pb w w1) (h2:PrAt w1 pb Sj L)=>(show Calls Tryz.prog 42 #[.agg #[.int .i64 x1,.int .i64 x2,.int .i64 x3,.string x4,.string x5],.pointer (some ⟨cb,0,none⟩)] w1 (PrPost pb (Sj++bytesOf (ruP.b ⟨x1,x2,x3,x4,x5⟩)) (L || !ruP.ok ⟨x1,x2,x3,x4,x5⟩) w1) from pr_ru w1 pb cb Sj L h2 ((h1.cell (p:=⟨cb,0,none⟩) HCB.out.1 hcp).trans HCB.out.2) hcp ⟨x1,x2,x3,x4,x5⟩ hI hsz))
   clear hc hI hsz
   simp only [ruC,List.getElem?_cons_zero,List.getElem?_cons_succ,Nat.add_zero,Nat.mul_one] at c0 c1 c2 c3 c4
   go_wp2_with (first
    | (go_at_call 42;(with_reducible refine (HCL.out _ (HONN.out.alloc _) (HPRR.out.later ((Later.refl wr).alloc _))).mono ?_);rintro e w2 ⟨rfl,hpr,hon⟩)
    | fail)
   refine⟨⟨j+1,by omega,by simp,?_,?_⟩,by simp only [intOf];omega⟩
   ·rw [HS.out,HL.out];exact hpr
   ·exact HONN.out.thenP (later_only ((Later.refl wr).alloc _) hon)
  ·obtain rfl:j=l.length:=by omega
   rw [List.take_of_length_le (Nat.le_refl _)] at hpr
   have HPRR:=Lib.hid hpr
   clear hpr
   go_wp2_with fail
   go_end0
   rw [←HPT.out,HE.out]
   exact⟨rfl,HPRR.out,hon⟩
theorem key_len (x:ByteArray):(keyP.b x).length≤1030:=by have:=textB_len x;show (textB x).length≤1030;omega
set_option maxRecDepth 100000 in
set_option maxHeartbeats 2000000 in
theorem lists_key (w0 w:World) (h0:Later w0 w) (pb:Nat) (S:ByteArray) (lost:Bool) (hp:PrAt w pb S lost) (hpb:w0.heap.size≤pb) (v:Value) (l:List ByteArray) (hrow:RowAt w0 1 v (l.map keyC)) (hI:∀ x∈l,keyI x) (hz:S.size≤2305843009213693952) :
 Calls Tryz.prog 44 #[.pointer (some ⟨pb,0,none⟩),v,.func (.func 43) #[.pointer (some ⟨pb,0,none⟩)] #[]] w (PrPost pb (S++bytesOf (listB keyP l)) (lost || !listOK keyP l) w):=by
 obtain ⟨a,cap,rfl,hl1,hl2,hl3⟩:=row_val hrow
 have HROW:=Lib.hid hrow
 have HI:=Lib.hid hI
 have H0:=Lib.hid h0
 have hpl:=hp.lt
 have HN:=Lib.hid (fun (w1:World) (h1:Later w w1) (g:Nat) (hg:w1.heap[g]?=some (.cells #[.int .i64 (l.length:Int)] 3 (0,0))) (hge:w.heap.size≤g)=>cnum_post w1 pb S lost (hp.later h1) 1 1 (.inl ⟨rfl,rfl⟩) [(l.length:Int)] g 1 _ _ hg rfl (by omega) (by intro n hn;rw [List.mem_singleton.1 hn];exact⟨by omega,by omega⟩) 1 rfl (by simp;omega))
 have HSZ:=Lib.hid (fun (j:Nat) (hj:j≤l.length)=>show (S++numsS 1 [(l.length:Int)]++bytesOf (eachB keyP (l.take j))).size≤4611686018427380000 by
  have e1:=eachB_len keyP 1030 key_len (l.take j)
  have e2:(l.take j).length≤l.length:=by rw [List.length_take];omega
  have e3:(l.take j).length*1030≤l.length*1030:=Nat.mul_le_mul_right _ e2
  rw [ByteArray.size_append,ByteArray.size_append,numsS_size,show (bytesOf (eachB keyP (l.take j))).size=(eachB keyP (l.take j)).length by show (eachB keyP (l.take j)).toArray.size=_;simp]
  simp only [List.length_cons,List.length_nil]
  omega)
 have HE:Hid (PrPost pb (S++bytesOf (listB keyP l)) (lost || !listOK keyP l) w=PrPost pb (S++numsS 1 [(l.length:Int)]++bytesOf (eachB keyP l)) (lost || !allFit 1 [(l.length:Int)] || !eachOK keyP l) w):=Lib.hid (by
  rw [bool_join,ba_assoc,listB,ofB];rfl)
 obtain ⟨PT,hPT⟩:∃ PT,PrPost pb (S++bytesOf (listB keyP l)) (lost || !listOK keyP l) w=PT:=⟨_,rfl⟩
 rw [hPT]
 have HPT:=Lib.hid hPT
 have hll:l.length≤140737488355328:=by omega
 clear hp hrow hI h0 hz hPT
 go_enter Tryz.func44,Tryz.ntmps44
 go_wp2_with (first
  | (go_at_call 30;(with_reducible refine (HN.out _ ((Later.refl w).alloc _) _ (alloc_block _ _) (Nat.le_refl _)).mono ?_);rintro e w1 ⟨rfl,hpr,hon⟩;have HPR:=Lib.hid hpr;have HON:=Lib.hid (later_only ((Later.refl w).alloc _) hon);clear hpr hon)
  | fail)
 obtain ⟨S0,hS0⟩:∃ S0,S++numsS 1 [(l.length:Int)]=S0:=⟨_,rfl⟩
 obtain ⟨L0,hL0⟩:∃ L0,(lost || !allFit 1 [(l.length:Int)])=L0:=⟨_,rfl⟩
 rw [hS0] at HPR HE HSZ
 rw [hL0] at HPR HE
 clear hS0 hL0 HN
 go_loopw [15] (fun vi wr=>∃ j:Nat,j≤l.length∧vi=.int .i64 j∧PrAt wr pb (S0++bytesOf (eachB keyP (l.take j))) (L0 || !eachOK keyP (l.take j))∧OnlyP pb w wr) (fun vi _=>l.length - (intOf vi).toNat)
 case atStart=>exact⟨0,by omega,by simp,by simpa [eachB,eachOK,bytesOf,ba_empty] using HPR.out,HON.out⟩
 case round=>
  obtain ⟨j,hj,rfl,hpr,hon⟩:=hrel
  by_cases hlt:j<l.length
  ·have hbw:Later w0 wr:=(Below.trans H0.out (Only.below hon H0.out.size (fun k hk=>by rw [show k=pb from hk];exact hpb)))
   obtain ⟨b,o,rfl,hb,hc⟩:=row_at (HROW.out.later hbw) hlt
   have htk:=List.take_succ_eq_append_getElem hlt
   have hI:=HI.out _ (List.getElem_mem hlt)
   have hsz:=HSZ.out j hj
   obtain ⟨x,hx⟩:∃ x,l[j]=x:=⟨_,rfl⟩
   rw [hx] at hc htk hI
   have HS:Hid (S0++bytesOf (eachB keyP (l.take (j+1)))=(S0++bytesOf (eachB keyP (l.take j)))++bytesOf (keyP.b x)):=Lib.hid (by rw [htk,eachB_snoc,ofB,ba_assoc])
   have HL:Hid ((L0 || !eachOK keyP (l.take (j+1)))=((L0 || !eachOK keyP (l.take j)) || !keyP.ok x)):=Lib.hid (by rw [htk,eachOK_snoc,bool_join])
   obtain ⟨Sj,hSj⟩:∃ Sj,S0++bytesOf (eachB keyP (l.take j))=Sj:=⟨_,rfl⟩
   obtain ⟨L,hL⟩:∃ L,(L0 || !eachOK keyP (l.take j))=L:=⟨_,rfl⟩
   rw [hSj] at HS hpr hsz
   rw [hL] at HL hpr
   have HPRR:=Lib.hid hpr
   have HONN:=Lib.hid hon
   clear hSj hL hpr hon hx htk hbw
   have c0:=hc 0 (by omega)
   have HCL:=Lib.hid (fun (w1:World) (h1:OnlyP pb w w1) (h2:PrAt w1 pb Sj L)=>(show Calls Tryz.prog 43 #[.pointer (some ⟨pb,0,none⟩),.string x] w1 (PrPost pb (Sj++bytesOf (keyP.b x)) (L || !keyP.ok x) w1) from ctext_any w1 pb Sj L h2 x hI (by omega)))
   clear hc hI hsz
   simp only [keyC,List.getElem?_cons_zero,List.getElem?_cons_succ,Nat.add_zero,Nat.mul_one] at c0
   go_wp2_with (first
    | (go_at_call 43;(with_reducible refine (HCL.out _ HONN.out HPRR.out).mono ?_);rintro e w2 ⟨rfl,hpr,hon⟩)
    | fail)
   refine⟨⟨j+1,by omega,by simp,?_,?_⟩,by simp only [intOf];omega⟩
   ·rw [HS.out,HL.out];exact hpr
   ·exact HONN.out.thenP hon
  ·obtain rfl:j=l.length:=by omega
   rw [List.take_of_length_le (Nat.le_refl _)] at hpr
   have HPRR:=Lib.hid hpr
   clear hpr
   go_wp2_with fail
   go_end0
   rw [←HPT.out,HE.out]
   exact⟨rfl,HPRR.out,hon⟩
end Go.Proofs.YtbchkjfnakabkaaGreatDoor
