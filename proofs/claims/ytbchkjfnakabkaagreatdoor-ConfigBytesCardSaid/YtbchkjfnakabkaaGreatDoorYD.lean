/- The walks of Parse's lists. (Printed by gen_yd.py.) -/
import Derived.Test.YtbchkjfnakabkaaGreatDoorYC
set_option linter.unusedSimpArgs false
set_option linter.unusedVariables false
namespace Go.Proofs.YtbchkjfnakabkaaGreatDoor
open Go.RowKit PX PC
theorem many_snoc {α:Type} (g:RSt→α × RSt):∀ (n:Nat) (s:RSt),many g (n+1) s=((many g n s).1++[(g (many g n s).2).1],(g (many g n s).2).2)
 | 0,s=>rfl
 | n+1,s=>by
  have ih:=many_snoc g n (g s).2
  rw [many,ih]
  simp only [many,List.cons_append]
theorem many_len {α:Type} (g:RSt→α × RSt):∀ (n:Nat) (s:RSt),(many g n s).1.length=n
 | 0,_=>rfl
 | n+1,s=>by simp [many,many_len g n]
def flatC {α:Type} (f:α→List Value):List α→List Value
 | []=>[]
 | x::l=>f x++flatC f l
theorem flatC_snoc {α:Type} (f:α→List Value):∀ (l:List α) (x:α),flatC f (l++[x])=flatC f l++f x
 | [],x=>by simp [flatC]
 | y::l,x=>by simp [flatC,flatC_snoc f l x]
theorem flatC_get {α:Type} (f:α→List Value) (k:Nat) (hf:∀ x,(f x).length=k):∀ (l:List α) (i:Nat) (h:i<l.length) (j:Nat),j<k→(flatC f l)[i*k+j]?=(f l[i])[j]?
 | [],i,h,_,_=>by simp at h
 | y::l,0,_,j,hj=>by simp [flatC,List.getElem?_append_left (show j<(f y).length by rw [hf];exact hj)]
 | y::l,i+1,h,j,hj=>by
  have e:(i+1)*k+j=(f y).length+(i*k+j):=by rw [hf,Nat.add_mul];omega
  rw [flatC,e,List.getElem?_append_right (Nat.le_add_right _ _),Nat.add_sub_cancel_left]
  exact flatC_get f k hf l i (by simpa using h) j hj
def RowHi (B:Nat) (w:World) (k:Nat) (v:Value) (css:List (List Value)):Prop:=
 ∃ (a:Option Addr) (cap:Nat),v=.slice a css.length cap∧css.length≤cap∧cap≤9223372036854775807∧css.length*k≤140737488355328 ∧
  (css=[]∨∃ b o,a=some ⟨b,o,none⟩∧B≤b∧b<w.heap.size∧∀ i (h:i<css.length) j,j<k→w.cell? ⟨b,o+i*k+j,none⟩=css[i][j]?)
theorem RowHi.row {B:Nat} {w:World} {k:Nat} {v:Value} {css:List (List Value)} (h:RowHi B w k v css):RowAt w k v css:=by
 obtain ⟨a,cap,h1,h2,h3,h4,h5⟩:=h
 refine⟨a,cap,h1,h2,h3,h4,?_⟩
 rcases h5 with h | ⟨b,o,h6,-, h7,h8⟩
 ·exact .inl h
 ·exact .inr ⟨b,o,h6,h7,h8⟩
theorem RowHi.only {B:Nat} {r:Nat→Prop} {w w':World} {k:Nat} {v:Value} {css:List (List Value)} (h:RowHi B w k v css) (ho:Only r w w') (hr:∀ b,B≤b→b<w.heap.size→¬ r b):RowHi B w' k v css:=by
 obtain ⟨a,cap,h1,h2,h3,h4,h5⟩:=h
 refine⟨a,cap,h1,h2,h3,h4,?_⟩
 rcases h5 with h | ⟨b,o,h6,h9,h7,h8⟩
 ·exact .inl h
 ·exact .inr ⟨b,o,h6,h9,Nat.lt_of_lt_of_le h7 ho.size,fun i hi j hj=>(ho.cell (p:=⟨b,o+i*k+j,none⟩) h7 (hr b h9 h7)).trans (h8 i hi j hj)⟩
theorem row_own {α:Type} {w:World} {B k:Nat} {e:TypeId} {v:Value} {f:α→List Value} {l:List α} (hk:1≤k) (hk5:k≤5) (hf:∀ x,(f x).length=k) (hn:l.length≤255) (h:w.ownsRow B e k v l.length (flatC f l)):RowHi B w k v (l.map f):=by
 have hlt:=h.lt
 have hfl:∀ l:List α,(flatC f l).length=l.length*k:=fun l=>by
  induction l with
  | nil=>simp [flatC]
  | cons y l ih=>simp [flatC,ih,hf,Nat.add_mul];omega
 rcases h.2 with ⟨rfl,h0⟩ | ⟨g,cap,cur,rfl,hg,hb,hc1,hc2,-⟩
 ·have hl:l=[]:=List.eq_nil_of_length_eq_zero h0
  subst hl
  exact⟨none,0,rfl,Nat.le_refl _,by omega,by simp,.inl rfl⟩
 ·have hcell:=fun j hj=>h.cellAt j hj
  refine⟨some ⟨g,0,none⟩,cap,by rw [List.length_map],by rw [List.length_map];exact hc1,hc2,by rw [List.length_map];have:l.length*k≤255*5:=Nat.mul_le_mul hn hk5;omega,.inr ⟨g,0,rfl,hg,(hlt g rfl).2,fun i hi j hj=>?_⟩⟩
  rw [List.length_map] at hi
  have hij:i*k+j<l.length*k:=by
   have:(i+1)*k≤l.length*k:=Nat.mul_le_mul_right _ hi
   rw [Nat.add_mul] at this;omega
  rw [Nat.zero_add,hcell _ hij,flatC_get f k hf l i hi j hj,List.getElem_map]
theorem getN_bd (w:Nat) (s:RSt):0≤(getN w s).1∧(getN w s).1<256 ^ w:=by
 have hp:(0:Int)<256 ^ w:=Int.pow_pos (by decide)
 cases s with
 | none=>exact⟨Int.le_refl _,hp⟩
 | some r=>
  simp only [getN]
  split
  ·exact⟨Int.le_refl _,hp⟩
  ·have h1:=numU_lt (r.take w)
   have h2:(r.take w).length=w:=by rw [List.length_take];omega
   rw [h2] at h1
   have e3:(256:Int) ^ w=((256 ^ w:Nat):Int):=by rw [Int.natCast_pow];rfl
   rw [e3];exact⟨by omega,by omega⟩
def ListPost {α:Type} (rb:Nat) (S:ByteArray) (k:Nat) (f:α→List Value) (l:List α) (st:RSt) (w:World) (e:Ending) (w':World):Prop:=∃ v,e=.returned v∧RowHi w.heap.size w' k v (l.map f)∧RIn w' rb S st∧OnlyP rb w w'
theorem inf3_flow:(Tryz.prog.info? 47).map (fun i=>(i.zero,i.size,i.bytes))=some (some (.agg #[.int .i64 0,.int .i64 0]),2,16):=by kernel_rfl
set_option maxRecDepth 100000 in
set_option maxHeartbeats 2000000 in
theorem listed_flow (w:World) (rb rc ob:Nat) (S:ByteArray) (st:RSt) (h:RIn w rb S st) (hS:S.size≤9223372036854775807) (hc:w.cell? ⟨rc,0,none⟩=some (.pointer (some ⟨rb,0,none⟩))) (nrc:rc≠rb) (hob:FnAt w ob 49 rc) (nob:ob≠rb) :
 Calls Tryz.prog 55 #[.pointer (some ⟨rb,0,none⟩),.func (.func 56) #[] #[.pointer (some ⟨ob,0,none⟩)]] w (ListPost rb S 2 flowC (getL flowG st).1 (getL flowG st).2 w):=by
 obtain ⟨iE,hiE,hz0,hz1,hz2⟩:=info_parts inf3_flow
 have hlt:=h.lt
 have hcl:=World.block_lt_of_cell? w _ hc
 have lob:ob<w.heap.size:=World.block_lt_of_cell? w _ hob
 have HE:=Lib.hid (fun (w1:World) (s:RSt) (h1:OnlyP rb w w1) (h2:RIn w1 rb S s)=>rd_flow w1 rb rc ob S s h2 hS ((h1.cell (p:=⟨rc,0,none⟩) hcl nrc).trans hc) nrc ((h1.cell (p:=⟨ob,0,none⟩) lob nob).trans hob) nob)
 have HN:=Lib.hid (cNum_any w rb S st h hS 1 1 rfl (by omega) (by omega))
 obtain ⟨hb0,hb1⟩:=getN_bd 1 st
 have hgl:getL flowG st=many flowG (getN 1 st).1.toNat (getN 1 st).2:=rfl
 rw [hgl]
 obtain ⟨N,hN⟩:∃ N:Nat,(getN 1 st).1=N:=⟨(getN 1 st).1.toNat,by omega⟩
 obtain ⟨s1,hs1⟩:∃ s1,(getN 1 st).2=s1:=⟨_,rfl⟩
 rw [hN] at hb0 hb1 HN ⊢
 rw [hs1] at HN ⊢
 rw [Int.toNat_natCast]
 have hN2:N≤255:=by have:(256:Int) ^ 1=256:=rfl;omega
 obtain ⟨PT,hPT⟩:∃ PT,ListPost rb S 2 flowC (many flowG N s1).1 (many flowG N s1).2 w=PT:=⟨_,rfl⟩
 rw [hPT]
 have HPT:=Lib.hid hPT
 clear h hS hc nrc hob nob lob hgl hN hs1 hb0 hb1 hPT hcl
 go_enter Tryz.func55,Tryz.ntmps55
 go_wp2_with (first
  | (go_at_call 50;(with_reducible refine HN.out.mono ?_);rintro e w1 ⟨rfl,hr1,ho1⟩;have HR1:=Lib.hid hr1;have HO1:=Lib.hid ho1;clear hr1 ho1)
  | fail)
 go_loopw [5,8] (fun vv vi wr=>∃ j:Nat,j≤N∧vi=.int .i64 j∧wr.ownsRow w.heap.size 47 2 vv j (flatC flowC (many flowG j s1).1)∧RIn wr rb S (many flowG j s1).2∧OnlyP rb w wr) (fun _ vi _=>N - (intOf vi).toNat)
 case atStart=>exact⟨0,by omega,by simp,⟨rfl,Or.inl ⟨rfl,rfl⟩⟩,HR1.out,HO1.out⟩
 case round=>
  obtain ⟨j,hj,rfl,hown,hr,ho⟩:=hrel
  by_cases hlt2:j<N
  ·have hms:=many_snoc flowG j s1
   obtain ⟨s,hs⟩:∃ s,(many flowG j s1).2=s:=⟨_,rfl⟩
   obtain ⟨L,hL⟩:∃ L,(many flowG j s1).1=L:=⟨_,rfl⟩
   have hE:=HE.out wr s ho (by rw [←hs];exact hr)
   rw [hs,hL] at hms
   rw [hL] at hown
   obtain ⟨s',hs'⟩:∃ s',(flowG s).2=s':=⟨_,rfl⟩
   obtain ⟨x,hx⟩:∃ x,(flowG s).1=x:=⟨_,rfl⟩
   rw [hs',hx] at hE hms
   clear hr hs hL hs' hx
   obtain ⟨x1,x2⟩:=x
   have HEE:=Lib.hid (show Calls Tryz.prog 56 #[.pointer (some ⟨ob,0,none⟩)] wr (RdPost rb S (.agg #[.int .i64 x1,.int .i64 x2]) s' wr) from hE)
   have HMS:=Lib.hid hms
   have HOW:=Lib.hid hown
   have HON:=Lib.hid ho
   have hgs:=ho.size
   clear hE hms hown ho
   have hj255:j≤255:=by omega
   go_wp2_with (first
    | (go_at_call 56;(with_reducible refine HEE.out.mono ?_);rintro e w2 ⟨rfl,hr2,ho2⟩;have HR2:=Lib.hid hr2;have HO2:=Lib.hid (Only.ownsRow ho2 HOW.out (fun q hq hrq=>by have h9:=(HOW.out.lt q hq).1;have h8:q=rb:=hrq;omega));have HON2:=Lib.hid (HON.out.thenP ho2);have hgs2:=HON2.out.size;clear hr2 ho2)
    | (at_builtin;refine wpList_append_own _ rfl (.tmp 10) (.tmp 13) 22 rfl w.heap.size 47 iE (.agg #[.int .i64 0,.int .i64 0]) 2 16 Tryz.underlying22 hiE hz0 hz1 hz2 rfl (by decide) _ _ _ rfl (HO2.out.alloc _) ⟨w2.heap.size,0,none⟩ 1 1 [.int .i64 x1,.int .i64 x2] rfl rfl (cells_newC w2 [.int .i64 x1,.int .i64 x2] 47) (by intro u hu;simp only [List.mem_cons,List.not_mem_nil,or_false] at hu;(repeat' (rcases hu with hu | hu))<;>(subst_vars;rfl)) (by unfold maxLen;omega) (by omega) (by simp;omega) ?_;intro v' w3 hown1 hgrow1 _)
    | fail)
   have hon3:OnlyP rb w w3:=(HON2.out.alloc (.cells #[.int .i64 x1,.int .i64 x2] 47)).grown hgrow1 (fun q hq=>.inr ((HO2.out.alloc (.cells #[.int .i64 x1,.int .i64 x2] 47)).lt q hq).1)
   have hr3:RIn w3 rb S s':=by
    obtain ⟨i,f,g1,g2,g3⟩:=HR2.out
    refine⟨i,f,?_,g2,g3⟩
    have hk:rb<w2.heap.size:=lt_of_block g1
    exact (hgrow1.block rb (by simp;omega) (fun e=>by have h9:=((HO2.out.alloc (.cells #[.int .i64 x1,.int .i64 x2] 47)).lt rb e.symm).1;omega)).trans (alloc_old g1 _)
   refine⟨⟨j+1,by omega,by simp,?_,?_,hon3⟩,by simp only [intOf];omega⟩
   ·rw [HMS.out,flatC_snoc];exact hown1
   ·rw [HMS.out];exact hr3
  ·obtain rfl:j=N:=by omega
   have hlen:=many_len flowG j s1
   have hown':wr.ownsRow w.heap.size 47 2 u5 (many flowG j s1).1.length (flatC flowC (many flowG j s1).1):=by rw [hlen];exact hown
   have HRW:=Lib.hid (row_own (k:=2) (by omega) (by omega) (fun x=>rfl) (by rw [hlen];exact hN2) hown')
   have HRR:=Lib.hid hr
   have HOO:=Lib.hid ho
   clear hr ho hown hown' hlen
   go_wp2_with fail
   rw [←HPT.out]
   exact⟨_,rfl,HRW.out,HRR.out,HOO.out⟩
theorem inf3_part:(Tryz.prog.info? 49).map (fun i=>(i.zero,i.size,i.bytes))=some (some (.agg #[.int .i64 0,.int .i64 0]),2,16):=by kernel_rfl
set_option maxRecDepth 100000 in
set_option maxHeartbeats 2000000 in
theorem listed_part (w:World) (rb rc ob:Nat) (S:ByteArray) (st:RSt) (h:RIn w rb S st) (hS:S.size≤9223372036854775807) (hc:w.cell? ⟨rc,0,none⟩=some (.pointer (some ⟨rb,0,none⟩))) (nrc:rc≠rb) (hob:FnAt w ob 49 rc) (nob:ob≠rb) :
 Calls Tryz.prog 57 #[.pointer (some ⟨rb,0,none⟩),.func (.func 58) #[] #[.pointer (some ⟨ob,0,none⟩)]] w (ListPost rb S 2 partC (getL partG st).1 (getL partG st).2 w):=by
 obtain ⟨iE,hiE,hz0,hz1,hz2⟩:=info_parts inf3_part
 have hlt:=h.lt
 have hcl:=World.block_lt_of_cell? w _ hc
 have lob:ob<w.heap.size:=World.block_lt_of_cell? w _ hob
 have HE:=Lib.hid (fun (w1:World) (s:RSt) (h1:OnlyP rb w w1) (h2:RIn w1 rb S s)=>rd_part w1 rb rc ob S s h2 hS ((h1.cell (p:=⟨rc,0,none⟩) hcl nrc).trans hc) nrc ((h1.cell (p:=⟨ob,0,none⟩) lob nob).trans hob) nob)
 have HN:=Lib.hid (cNum_any w rb S st h hS 1 1 rfl (by omega) (by omega))
 obtain ⟨hb0,hb1⟩:=getN_bd 1 st
 have hgl:getL partG st=many partG (getN 1 st).1.toNat (getN 1 st).2:=rfl
 rw [hgl]
 obtain ⟨N,hN⟩:∃ N:Nat,(getN 1 st).1=N:=⟨(getN 1 st).1.toNat,by omega⟩
 obtain ⟨s1,hs1⟩:∃ s1,(getN 1 st).2=s1:=⟨_,rfl⟩
 rw [hN] at hb0 hb1 HN ⊢
 rw [hs1] at HN ⊢
 rw [Int.toNat_natCast]
 have hN2:N≤255:=by have:(256:Int) ^ 1=256:=rfl;omega
 obtain ⟨PT,hPT⟩:∃ PT,ListPost rb S 2 partC (many partG N s1).1 (many partG N s1).2 w=PT:=⟨_,rfl⟩
 rw [hPT]
 have HPT:=Lib.hid hPT
 clear h hS hc nrc hob nob lob hgl hN hs1 hb0 hb1 hPT hcl
 go_enter Tryz.func57,Tryz.ntmps57
 go_wp2_with (first
  | (go_at_call 50;(with_reducible refine HN.out.mono ?_);rintro e w1 ⟨rfl,hr1,ho1⟩;have HR1:=Lib.hid hr1;have HO1:=Lib.hid ho1;clear hr1 ho1)
  | fail)
 go_loopw [5,8] (fun vv vi wr=>∃ j:Nat,j≤N∧vi=.int .i64 j∧wr.ownsRow w.heap.size 49 2 vv j (flatC partC (many partG j s1).1)∧RIn wr rb S (many partG j s1).2∧OnlyP rb w wr) (fun _ vi _=>N - (intOf vi).toNat)
 case atStart=>exact⟨0,by omega,by simp,⟨rfl,Or.inl ⟨rfl,rfl⟩⟩,HR1.out,HO1.out⟩
 case round=>
  obtain ⟨j,hj,rfl,hown,hr,ho⟩:=hrel
  by_cases hlt2:j<N
  ·have hms:=many_snoc partG j s1
   obtain ⟨s,hs⟩:∃ s,(many partG j s1).2=s:=⟨_,rfl⟩
   obtain ⟨L,hL⟩:∃ L,(many partG j s1).1=L:=⟨_,rfl⟩
   have hE:=HE.out wr s ho (by rw [←hs];exact hr)
   rw [hs,hL] at hms
   rw [hL] at hown
   obtain ⟨s',hs'⟩:∃ s',(partG s).2=s':=⟨_,rfl⟩
   obtain ⟨x,hx⟩:∃ x,(partG s).1=x:=⟨_,rfl⟩
   rw [hs',hx] at hE hms
   clear hr hs hL hs' hx
   obtain ⟨x1,x2⟩:=x
   have HEE:=Lib.hid (show Calls Tryz.prog 58 #[.pointer (some ⟨ob,0,none⟩)] wr (RdPost rb S (.agg #[.int .i64 x1,.int .i64 x2]) s' wr) from hE)
   have HMS:=Lib.hid hms
   have HOW:=Lib.hid hown
   have HON:=Lib.hid ho
   have hgs:=ho.size
   clear hE hms hown ho
   have hj255:j≤255:=by omega
   go_wp2_with (first
    | (go_at_call 58;(with_reducible refine HEE.out.mono ?_);rintro e w2 ⟨rfl,hr2,ho2⟩;have HR2:=Lib.hid hr2;have HO2:=Lib.hid (Only.ownsRow ho2 HOW.out (fun q hq hrq=>by have h9:=(HOW.out.lt q hq).1;have h8:q=rb:=hrq;omega));have HON2:=Lib.hid (HON.out.thenP ho2);have hgs2:=HON2.out.size;clear hr2 ho2)
    | (at_builtin;refine wpList_append_own _ rfl (.tmp 10) (.tmp 13) 23 rfl w.heap.size 49 iE (.agg #[.int .i64 0,.int .i64 0]) 2 16 Tryz.underlying23 hiE hz0 hz1 hz2 rfl (by decide) _ _ _ rfl (HO2.out.alloc _) ⟨w2.heap.size,0,none⟩ 1 1 [.int .i64 x1,.int .i64 x2] rfl rfl (cells_newC w2 [.int .i64 x1,.int .i64 x2] 49) (by intro u hu;simp only [List.mem_cons,List.not_mem_nil,or_false] at hu;(repeat' (rcases hu with hu | hu))<;>(subst_vars;rfl)) (by unfold maxLen;omega) (by omega) (by simp;omega) ?_;intro v' w3 hown1 hgrow1 _)
    | fail)
   have hon3:OnlyP rb w w3:=(HON2.out.alloc (.cells #[.int .i64 x1,.int .i64 x2] 49)).grown hgrow1 (fun q hq=>.inr ((HO2.out.alloc (.cells #[.int .i64 x1,.int .i64 x2] 49)).lt q hq).1)
   have hr3:RIn w3 rb S s':=by
    obtain ⟨i,f,g1,g2,g3⟩:=HR2.out
    refine⟨i,f,?_,g2,g3⟩
    have hk:rb<w2.heap.size:=lt_of_block g1
    exact (hgrow1.block rb (by simp;omega) (fun e=>by have h9:=((HO2.out.alloc (.cells #[.int .i64 x1,.int .i64 x2] 49)).lt rb e.symm).1;omega)).trans (alloc_old g1 _)
   refine⟨⟨j+1,by omega,by simp,?_,?_,hon3⟩,by simp only [intOf];omega⟩
   ·rw [HMS.out,flatC_snoc];exact hown1
   ·rw [HMS.out];exact hr3
  ·obtain rfl:j=N:=by omega
   have hlen:=many_len partG j s1
   have hown':wr.ownsRow w.heap.size 49 2 u5 (many partG j s1).1.length (flatC partC (many partG j s1).1):=by rw [hlen];exact hown
   have HRW:=Lib.hid (row_own (k:=2) (by omega) (by omega) (fun x=>rfl) (by rw [hlen];exact hN2) hown')
   have HRR:=Lib.hid hr
   have HOO:=Lib.hid ho
   clear hr ho hown hown' hlen
   go_wp2_with fail
   rw [←HPT.out]
   exact⟨_,rfl,HRW.out,HRR.out,HOO.out⟩
theorem inf3_win:(Tryz.prog.info? 55).map (fun i=>(i.zero,i.size,i.bytes))=some (some (.agg #[.int .i64 0,.int .i64 0,.int .i64 0]),3,24):=by kernel_rfl
set_option maxRecDepth 100000 in
set_option maxHeartbeats 2000000 in
theorem listed_win (w:World) (rb rc ob:Nat) (S:ByteArray) (st:RSt) (h:RIn w rb S st) (hS:S.size≤9223372036854775807) (hc:w.cell? ⟨rc,0,none⟩=some (.pointer (some ⟨rb,0,none⟩))) (nrc:rc≠rb) (hob:FnAt w ob 49 rc) (nob:ob≠rb) :
 Calls Tryz.prog 59 #[.pointer (some ⟨rb,0,none⟩),.func (.func 60) #[] #[.pointer (some ⟨ob,0,none⟩)]] w (ListPost rb S 3 winC (getL winG st).1 (getL winG st).2 w):=by
 obtain ⟨iE,hiE,hz0,hz1,hz2⟩:=info_parts inf3_win
 have hlt:=h.lt
 have hcl:=World.block_lt_of_cell? w _ hc
 have lob:ob<w.heap.size:=World.block_lt_of_cell? w _ hob
 have HE:=Lib.hid (fun (w1:World) (s:RSt) (h1:OnlyP rb w w1) (h2:RIn w1 rb S s)=>rd_win w1 rb rc ob S s h2 hS ((h1.cell (p:=⟨rc,0,none⟩) hcl nrc).trans hc) nrc ((h1.cell (p:=⟨ob,0,none⟩) lob nob).trans hob) nob)
 have HN:=Lib.hid (cNum_any w rb S st h hS 1 1 rfl (by omega) (by omega))
 obtain ⟨hb0,hb1⟩:=getN_bd 1 st
 have hgl:getL winG st=many winG (getN 1 st).1.toNat (getN 1 st).2:=rfl
 rw [hgl]
 obtain ⟨N,hN⟩:∃ N:Nat,(getN 1 st).1=N:=⟨(getN 1 st).1.toNat,by omega⟩
 obtain ⟨s1,hs1⟩:∃ s1,(getN 1 st).2=s1:=⟨_,rfl⟩
 rw [hN] at hb0 hb1 HN ⊢
 rw [hs1] at HN ⊢
 rw [Int.toNat_natCast]
 have hN2:N≤255:=by have:(256:Int) ^ 1=256:=rfl;omega
 obtain ⟨PT,hPT⟩:∃ PT,ListPost rb S 3 winC (many winG N s1).1 (many winG N s1).2 w=PT:=⟨_,rfl⟩
 rw [hPT]
 have HPT:=Lib.hid hPT
 clear h hS hc nrc hob nob lob hgl hN hs1 hb0 hb1 hPT hcl
 go_enter Tryz.func59,Tryz.ntmps59
 go_wp2_with (first
  | (go_at_call 50;(with_reducible refine HN.out.mono ?_);rintro e w1 ⟨rfl,hr1,ho1⟩;have HR1:=Lib.hid hr1;have HO1:=Lib.hid ho1;clear hr1 ho1)
  | fail)
 go_loopw [5,8] (fun vv vi wr=>∃ j:Nat,j≤N∧vi=.int .i64 j∧wr.ownsRow w.heap.size 55 3 vv j (flatC winC (many winG j s1).1)∧RIn wr rb S (many winG j s1).2∧OnlyP rb w wr) (fun _ vi _=>N - (intOf vi).toNat)
 case atStart=>exact⟨0,by omega,by simp,⟨rfl,Or.inl ⟨rfl,rfl⟩⟩,HR1.out,HO1.out⟩
 case round=>
  obtain ⟨j,hj,rfl,hown,hr,ho⟩:=hrel
  by_cases hlt2:j<N
  ·have hms:=many_snoc winG j s1
   obtain ⟨s,hs⟩:∃ s,(many winG j s1).2=s:=⟨_,rfl⟩
   obtain ⟨L,hL⟩:∃ L,(many winG j s1).1=L:=⟨_,rfl⟩
   have hE:=HE.out wr s ho (by rw [←hs];exact hr)
   rw [hs,hL] at hms
   rw [hL] at hown
   obtain ⟨s',hs'⟩:∃ s',(winG s).2=s':=⟨_,rfl⟩
   obtain ⟨x,hx⟩:∃ x,(winG s).1=x:=⟨_,rfl⟩
   rw [hs',hx] at hE hms
   clear hr hs hL hs' hx
   obtain ⟨x1,x2,x3⟩:=x
   have HEE:=Lib.hid (show Calls Tryz.prog 60 #[.pointer (some ⟨ob,0,none⟩)] wr (RdPost rb S (.agg #[.int .i64 x1,.int .i64 x2,.int .i64 x3]) s' wr) from hE)
   have HMS:=Lib.hid hms
   have HOW:=Lib.hid hown
   have HON:=Lib.hid ho
   have hgs:=ho.size
   clear hE hms hown ho
   have hj255:j≤255:=by omega
   go_wp2_with (first
    | (go_at_call 60;(with_reducible refine HEE.out.mono ?_);rintro e w2 ⟨rfl,hr2,ho2⟩;have HR2:=Lib.hid hr2;have HO2:=Lib.hid (Only.ownsRow ho2 HOW.out (fun q hq hrq=>by have h9:=(HOW.out.lt q hq).1;have h8:q=rb:=hrq;omega));have HON2:=Lib.hid (HON.out.thenP ho2);have hgs2:=HON2.out.size;clear hr2 ho2)
    | (at_builtin;refine wpList_append_own _ rfl (.tmp 10) (.tmp 13) 24 rfl w.heap.size 55 iE (.agg #[.int .i64 0,.int .i64 0,.int .i64 0]) 3 24 Tryz.underlying24 hiE hz0 hz1 hz2 rfl (by decide) _ _ _ rfl (HO2.out.alloc _) ⟨w2.heap.size,0,none⟩ 1 1 [.int .i64 x1,.int .i64 x2,.int .i64 x3] rfl rfl (cells_newC w2 [.int .i64 x1,.int .i64 x2,.int .i64 x3] 55) (by intro u hu;simp only [List.mem_cons,List.not_mem_nil,or_false] at hu;(repeat' (rcases hu with hu | hu))<;>(subst_vars;rfl)) (by unfold maxLen;omega) (by omega) (by simp;omega) ?_;intro v' w3 hown1 hgrow1 _)
    | fail)
   have hon3:OnlyP rb w w3:=(HON2.out.alloc (.cells #[.int .i64 x1,.int .i64 x2,.int .i64 x3] 55)).grown hgrow1 (fun q hq=>.inr ((HO2.out.alloc (.cells #[.int .i64 x1,.int .i64 x2,.int .i64 x3] 55)).lt q hq).1)
   have hr3:RIn w3 rb S s':=by
    obtain ⟨i,f,g1,g2,g3⟩:=HR2.out
    refine⟨i,f,?_,g2,g3⟩
    have hk:rb<w2.heap.size:=lt_of_block g1
    exact (hgrow1.block rb (by simp;omega) (fun e=>by have h9:=((HO2.out.alloc (.cells #[.int .i64 x1,.int .i64 x2,.int .i64 x3] 55)).lt rb e.symm).1;omega)).trans (alloc_old g1 _)
   refine⟨⟨j+1,by omega,by simp,?_,?_,hon3⟩,by simp only [intOf];omega⟩
   ·rw [HMS.out,flatC_snoc];exact hown1
   ·rw [HMS.out];exact hr3
  ·obtain rfl:j=N:=by omega
   have hlen:=many_len winG j s1
   have hown':wr.ownsRow w.heap.size 55 3 u5 (many winG j s1).1.length (flatC winC (many winG j s1).1):=by rw [hlen];exact hown
   have HRW:=Lib.hid (row_own (k:=3) (by omega) (by omega) (fun x=>rfl) (by rw [hlen];exact hN2) hown')
   have HRR:=Lib.hid hr
   have HOO:=Lib.hid ho
   clear hr ho hown hown' hlen
   go_wp2_with fail
   rw [←HPT.out]
   exact⟨_,rfl,HRW.out,HRR.out,HOO.out⟩
theorem inf3_por:(Tryz.prog.info? 51).map (fun i=>(i.zero,i.size,i.bytes))=some (some (.agg #[.int .i64 0,.int .i64 0,.int .i64 0,.int .i64 0,.int .i64 0]),5,40):=by kernel_rfl
set_option maxRecDepth 100000 in
set_option maxHeartbeats 2000000 in
theorem listed_por (w:World) (rb rc ob:Nat) (S:ByteArray) (st:RSt) (h:RIn w rb S st) (hS:S.size≤9223372036854775807) (hc:w.cell? ⟨rc,0,none⟩=some (.pointer (some ⟨rb,0,none⟩))) (nrc:rc≠rb) (hob:FnAt w ob 49 rc) (nob:ob≠rb) :
 Calls Tryz.prog 61 #[.pointer (some ⟨rb,0,none⟩),.func (.func 62) #[] #[.pointer (some ⟨ob,0,none⟩)]] w (ListPost rb S 5 porC (getL porG st).1 (getL porG st).2 w):=by
 obtain ⟨iE,hiE,hz0,hz1,hz2⟩:=info_parts inf3_por
 have hlt:=h.lt
 have hcl:=World.block_lt_of_cell? w _ hc
 have lob:ob<w.heap.size:=World.block_lt_of_cell? w _ hob
 have HE:=Lib.hid (fun (w1:World) (s:RSt) (h1:OnlyP rb w w1) (h2:RIn w1 rb S s)=>rd_por w1 rb rc ob S s h2 hS ((h1.cell (p:=⟨rc,0,none⟩) hcl nrc).trans hc) nrc ((h1.cell (p:=⟨ob,0,none⟩) lob nob).trans hob) nob)
 have HN:=Lib.hid (cNum_any w rb S st h hS 1 1 rfl (by omega) (by omega))
 obtain ⟨hb0,hb1⟩:=getN_bd 1 st
 have hgl:getL porG st=many porG (getN 1 st).1.toNat (getN 1 st).2:=rfl
 rw [hgl]
 obtain ⟨N,hN⟩:∃ N:Nat,(getN 1 st).1=N:=⟨(getN 1 st).1.toNat,by omega⟩
 obtain ⟨s1,hs1⟩:∃ s1,(getN 1 st).2=s1:=⟨_,rfl⟩
 rw [hN] at hb0 hb1 HN ⊢
 rw [hs1] at HN ⊢
 rw [Int.toNat_natCast]
 have hN2:N≤255:=by have:(256:Int) ^ 1=256:=rfl;omega
 obtain ⟨PT,hPT⟩:∃ PT,ListPost rb S 5 porC (many porG N s1).1 (many porG N s1).2 w=PT:=⟨_,rfl⟩
 rw [hPT]
 have HPT:=Lib.hid hPT
 clear h hS hc nrc hob nob lob hgl hN hs1 hb0 hb1 hPT hcl
 go_enter Tryz.func61,Tryz.ntmps61
 go_wp2_with (first
  | (go_at_call 50;(with_reducible refine HN.out.mono ?_);rintro e w1 ⟨rfl,hr1,ho1⟩;have HR1:=Lib.hid hr1;have HO1:=Lib.hid ho1;clear hr1 ho1)
  | fail)
 go_loopw [5,8] (fun vv vi wr=>∃ j:Nat,j≤N∧vi=.int .i64 j∧wr.ownsRow w.heap.size 51 5 vv j (flatC porC (many porG j s1).1)∧RIn wr rb S (many porG j s1).2∧OnlyP rb w wr) (fun _ vi _=>N - (intOf vi).toNat)
 case atStart=>exact⟨0,by omega,by simp,⟨rfl,Or.inl ⟨rfl,rfl⟩⟩,HR1.out,HO1.out⟩
 case round=>
  obtain ⟨j,hj,rfl,hown,hr,ho⟩:=hrel
  by_cases hlt2:j<N
  ·have hms:=many_snoc porG j s1
   obtain ⟨s,hs⟩:∃ s,(many porG j s1).2=s:=⟨_,rfl⟩
   obtain ⟨L,hL⟩:∃ L,(many porG j s1).1=L:=⟨_,rfl⟩
   have hE:=HE.out wr s ho (by rw [←hs];exact hr)
   rw [hs,hL] at hms
   rw [hL] at hown
   obtain ⟨s',hs'⟩:∃ s',(porG s).2=s':=⟨_,rfl⟩
   obtain ⟨x,hx⟩:∃ x,(porG s).1=x:=⟨_,rfl⟩
   rw [hs',hx] at hE hms
   clear hr hs hL hs' hx
   obtain ⟨x1,x2,x3,x4,x5⟩:=x
   have HEE:=Lib.hid (show Calls Tryz.prog 62 #[.pointer (some ⟨ob,0,none⟩)] wr (RdPost rb S (.agg #[.int .i64 x1,.int .i64 x2,.int .i64 x3,.int .i64 x4,.int .i64 x5]) s' wr) from hE)
   have HMS:=Lib.hid hms
   have HOW:=Lib.hid hown
   have HON:=Lib.hid ho
   have hgs:=ho.size
   clear hE hms hown ho
   have hj255:j≤255:=by omega
   go_wp2_with (first
    | (go_at_call 62;(with_reducible refine HEE.out.mono ?_);rintro e w2 ⟨rfl,hr2,ho2⟩;have HR2:=Lib.hid hr2;have HO2:=Lib.hid (Only.ownsRow ho2 HOW.out (fun q hq hrq=>by have h9:=(HOW.out.lt q hq).1;have h8:q=rb:=hrq;omega));have HON2:=Lib.hid (HON.out.thenP ho2);have hgs2:=HON2.out.size;clear hr2 ho2)
    | (at_builtin;refine wpList_append_own _ rfl (.tmp 10) (.tmp 13) 25 rfl w.heap.size 51 iE (.agg #[.int .i64 0,.int .i64 0,.int .i64 0,.int .i64 0,.int .i64 0]) 5 40 Tryz.underlying25 hiE hz0 hz1 hz2 rfl (by decide) _ _ _ rfl (HO2.out.alloc _) ⟨w2.heap.size,0,none⟩ 1 1 [.int .i64 x1,.int .i64 x2,.int .i64 x3,.int .i64 x4,.int .i64 x5] rfl rfl (cells_newC w2 [.int .i64 x1,.int .i64 x2,.int .i64 x3,.int .i64 x4,.int .i64 x5] 51) (by intro u hu;simp only [List.mem_cons,List.not_mem_nil,or_false] at hu;(repeat' (rcases hu with hu | hu))<;>(subst_vars;rfl)) (by unfold maxLen;omega) (by omega) (by simp;omega) ?_;intro v' w3 hown1 hgrow1 _)
    | fail)
   have hon3:OnlyP rb w w3:=(HON2.out.alloc (.cells #[.int .i64 x1,.int .i64 x2,.int .i64 x3,.int .i64 x4,.int .i64 x5] 51)).grown hgrow1 (fun q hq=>.inr ((HO2.out.alloc (.cells #[.int .i64 x1,.int .i64 x2,.int .i64 x3,.int .i64 x4,.int .i64 x5] 51)).lt q hq).1)
   have hr3:RIn w3 rb S s':=by
    obtain ⟨i,f,g1,g2,g3⟩:=HR2.out
    refine⟨i,f,?_,g2,g3⟩
    have hk:rb<w2.heap.size:=lt_of_block g1
    exact (hgrow1.block rb (by simp;omega) (fun e=>by have h9:=((HO2.out.alloc (.cells #[.int .i64 x1,.int .i64 x2,.int .i64 x3,.int .i64 x4,.int .i64 x5] 51)).lt rb e.symm).1;omega)).trans (alloc_old g1 _)
   refine⟨⟨j+1,by omega,by simp,?_,?_,hon3⟩,by simp only [intOf];omega⟩
   ·rw [HMS.out,flatC_snoc];exact hown1
   ·rw [HMS.out];exact hr3
  ·obtain rfl:j=N:=by omega
   have hlen:=many_len porG j s1
   have hown':wr.ownsRow w.heap.size 51 5 u5 (many porG j s1).1.length (flatC porC (many porG j s1).1):=by rw [hlen];exact hown
   have HRW:=Lib.hid (row_own (k:=5) (by omega) (by omega) (fun x=>rfl) (by rw [hlen];exact hN2) hown')
   have HRR:=Lib.hid hr
   have HOO:=Lib.hid ho
   clear hr ho hown hown' hlen
   go_wp2_with fail
   rw [←HPT.out]
   exact⟨_,rfl,HRW.out,HRR.out,HOO.out⟩
theorem inf3_vol:(Tryz.prog.info? 28).map (fun i=>(i.zero,i.size,i.bytes))=some (some (.agg #[.int .i64 0,.int .i64 0,.int .i64 0,.int .i64 0]),4,32):=by kernel_rfl
set_option maxRecDepth 100000 in
set_option maxHeartbeats 2000000 in
theorem listed_vol (w:World) (rb rc ob tb:Nat) (S:ByteArray) (st:RSt) (h:RIn w rb S st) (hS:S.size≤9223372036854775807) (hc:w.cell? ⟨rc,0,none⟩=some (.pointer (some ⟨rb,0,none⟩))) (nrc:rc≠rb) (hob:FnAt w ob 49 rc) (nob:ob≠rb) (htb:FnAt w tb 51 rc) (ntb:tb≠rb) :
 Calls Tryz.prog 63 #[.pointer (some ⟨rb,0,none⟩),.func (.func 64) #[] #[.pointer (some ⟨ob,0,none⟩),.pointer (some ⟨tb,0,none⟩)]] w (ListPost rb S 4 volC (getL volG st).1 (getL volG st).2 w):=by
 obtain ⟨iE,hiE,hz0,hz1,hz2⟩:=info_parts inf3_vol
 have hlt:=h.lt
 have hcl:=World.block_lt_of_cell? w _ hc
 have lob:ob<w.heap.size:=World.block_lt_of_cell? w _ hob
 have ltb:tb<w.heap.size:=World.block_lt_of_cell? w _ htb
 have HE:=Lib.hid (fun (w1:World) (s:RSt) (h1:OnlyP rb w w1) (h2:RIn w1 rb S s)=>rd_vol w1 rb rc ob tb S s h2 hS ((h1.cell (p:=⟨rc,0,none⟩) hcl nrc).trans hc) nrc ((h1.cell (p:=⟨ob,0,none⟩) lob nob).trans hob) nob ((h1.cell (p:=⟨tb,0,none⟩) ltb ntb).trans htb) ntb)
 have HN:=Lib.hid (cNum_any w rb S st h hS 1 1 rfl (by omega) (by omega))
 obtain ⟨hb0,hb1⟩:=getN_bd 1 st
 have hgl:getL volG st=many volG (getN 1 st).1.toNat (getN 1 st).2:=rfl
 rw [hgl]
 obtain ⟨N,hN⟩:∃ N:Nat,(getN 1 st).1=N:=⟨(getN 1 st).1.toNat,by omega⟩
 obtain ⟨s1,hs1⟩:∃ s1,(getN 1 st).2=s1:=⟨_,rfl⟩
 rw [hN] at hb0 hb1 HN ⊢
 rw [hs1] at HN ⊢
 rw [Int.toNat_natCast]
 have hN2:N≤255:=by have:(256:Int) ^ 1=256:=rfl;omega
 obtain ⟨PT,hPT⟩:∃ PT,ListPost rb S 4 volC (many volG N s1).1 (many volG N s1).2 w=PT:=⟨_,rfl⟩
 rw [hPT]
 have HPT:=Lib.hid hPT
 clear h hS hc nrc hob nob lob htb ntb ltb hgl hN hs1 hb0 hb1 hPT hcl
 go_enter Tryz.func63,Tryz.ntmps63
 go_wp2_with (first
  | (go_at_call 50;(with_reducible refine HN.out.mono ?_);rintro e w1 ⟨rfl,hr1,ho1⟩;have HR1:=Lib.hid hr1;have HO1:=Lib.hid ho1;clear hr1 ho1)
  | fail)
 go_loopw [5,8] (fun vv vi wr=>∃ j:Nat,j≤N∧vi=.int .i64 j∧wr.ownsRow w.heap.size 28 4 vv j (flatC volC (many volG j s1).1)∧RIn wr rb S (many volG j s1).2∧OnlyP rb w wr) (fun _ vi _=>N - (intOf vi).toNat)
 case atStart=>exact⟨0,by omega,by simp,⟨rfl,Or.inl ⟨rfl,rfl⟩⟩,HR1.out,HO1.out⟩
 case round=>
  obtain ⟨j,hj,rfl,hown,hr,ho⟩:=hrel
  by_cases hlt2:j<N
  ·have hms:=many_snoc volG j s1
   obtain ⟨s,hs⟩:∃ s,(many volG j s1).2=s:=⟨_,rfl⟩
   obtain ⟨L,hL⟩:∃ L,(many volG j s1).1=L:=⟨_,rfl⟩
   have hE:=HE.out wr s ho (by rw [←hs];exact hr)
   rw [hs,hL] at hms
   rw [hL] at hown
   obtain ⟨s',hs'⟩:∃ s',(volG s).2=s':=⟨_,rfl⟩
   obtain ⟨x,hx⟩:∃ x,(volG s).1=x:=⟨_,rfl⟩
   rw [hs',hx] at hE hms
   clear hr hs hL hs' hx
   obtain ⟨x1,x2,x3,x4⟩:=x
   have HEE:=Lib.hid (show Calls Tryz.prog 64 #[.pointer (some ⟨ob,0,none⟩),.pointer (some ⟨tb,0,none⟩)] wr (RdPost rb S (.agg #[.int .i64 x1,.int .i64 x2,.int .i64 x3,.int .i64 x4]) s' wr) from hE)
   have HMS:=Lib.hid hms
   have HOW:=Lib.hid hown
   have HON:=Lib.hid ho
   have hgs:=ho.size
   clear hE hms hown ho
   have hj255:j≤255:=by omega
   go_wp2_with (first
    | (go_at_call 64;(with_reducible refine HEE.out.mono ?_);rintro e w2 ⟨rfl,hr2,ho2⟩;have HR2:=Lib.hid hr2;have HO2:=Lib.hid (Only.ownsRow ho2 HOW.out (fun q hq hrq=>by have h9:=(HOW.out.lt q hq).1;have h8:q=rb:=hrq;omega));have HON2:=Lib.hid (HON.out.thenP ho2);have hgs2:=HON2.out.size;clear hr2 ho2)
    | (at_builtin;refine wpList_append_own _ rfl (.tmp 10) (.tmp 13) 26 rfl w.heap.size 28 iE (.agg #[.int .i64 0,.int .i64 0,.int .i64 0,.int .i64 0]) 4 32 Tryz.underlying26 hiE hz0 hz1 hz2 rfl (by decide) _ _ _ rfl (HO2.out.alloc _) ⟨w2.heap.size,0,none⟩ 1 1 [.int .i64 x1,.int .i64 x2,.int .i64 x3,.int .i64 x4] rfl rfl (cells_newC w2 [.int .i64 x1,.int .i64 x2,.int .i64 x3,.int .i64 x4] 28) (by intro u hu;simp only [List.mem_cons,List.not_mem_nil,or_false] at hu;(repeat' (rcases hu with hu | hu))<;>(subst_vars;rfl)) (by unfold maxLen;omega) (by omega) (by simp;omega) ?_;intro v' w3 hown1 hgrow1 _)
    | fail)
   have hon3:OnlyP rb w w3:=(HON2.out.alloc (.cells #[.int .i64 x1,.int .i64 x2,.int .i64 x3,.int .i64 x4] 28)).grown hgrow1 (fun q hq=>.inr ((HO2.out.alloc (.cells #[.int .i64 x1,.int .i64 x2,.int .i64 x3,.int .i64 x4] 28)).lt q hq).1)
   have hr3:RIn w3 rb S s':=by
    obtain ⟨i,f,g1,g2,g3⟩:=HR2.out
    refine⟨i,f,?_,g2,g3⟩
    have hk:rb<w2.heap.size:=lt_of_block g1
    exact (hgrow1.block rb (by simp;omega) (fun e=>by have h9:=((HO2.out.alloc (.cells #[.int .i64 x1,.int .i64 x2,.int .i64 x3,.int .i64 x4] 28)).lt rb e.symm).1;omega)).trans (alloc_old g1 _)
   refine⟨⟨j+1,by omega,by simp,?_,?_,hon3⟩,by simp only [intOf];omega⟩
   ·rw [HMS.out,flatC_snoc];exact hown1
   ·rw [HMS.out];exact hr3
  ·obtain rfl:j=N:=by omega
   have hlen:=many_len volG j s1
   have hown':wr.ownsRow w.heap.size 28 4 u5 (many volG j s1).1.length (flatC volC (many volG j s1).1):=by rw [hlen];exact hown
   have HRW:=Lib.hid (row_own (k:=4) (by omega) (by omega) (fun x=>rfl) (by rw [hlen];exact hN2) hown')
   have HRR:=Lib.hid hr
   have HOO:=Lib.hid ho
   clear hr ho hown hown' hlen
   go_wp2_with fail
   rw [←HPT.out]
   exact⟨_,rfl,HRW.out,HRR.out,HOO.out⟩
theorem inf3_ru:(Tryz.prog.info? 53).map (fun i=>(i.zero,i.size,i.bytes))=some (some (.agg #[.int .i64 0,.int .i64 0,.int .i64 0,.string ⟨#[]⟩,.string ⟨#[]⟩]),5,56):=by kernel_rfl
set_option maxRecDepth 100000 in
set_option maxHeartbeats 2000000 in
theorem listed_ru (w:World) (rb rc ob xb:Nat) (S:ByteArray) (st:RSt) (h:RIn w rb S st) (hS:S.size≤9223372036854775807) (hc:w.cell? ⟨rc,0,none⟩=some (.pointer (some ⟨rb,0,none⟩))) (nrc:rc≠rb) (hob:FnAt w ob 49 rc) (nob:ob≠rb) (hxb:FnAt w xb 52 rc) (nxb:xb≠rb) :
 Calls Tryz.prog 65 #[.pointer (some ⟨rb,0,none⟩),.func (.func 66) #[] #[.pointer (some ⟨ob,0,none⟩),.pointer (some ⟨xb,0,none⟩)]] w (ListPost rb S 5 ruC (getL ruG st).1 (getL ruG st).2 w):=by
 obtain ⟨iE,hiE,hz0,hz1,hz2⟩:=info_parts inf3_ru
 have hlt:=h.lt
 have hcl:=World.block_lt_of_cell? w _ hc
 have lob:ob<w.heap.size:=World.block_lt_of_cell? w _ hob
 have lxb:xb<w.heap.size:=World.block_lt_of_cell? w _ hxb
 have HE:=Lib.hid (fun (w1:World) (s:RSt) (h1:OnlyP rb w w1) (h2:RIn w1 rb S s)=>rd_ru w1 rb rc ob xb S s h2 hS ((h1.cell (p:=⟨rc,0,none⟩) hcl nrc).trans hc) nrc ((h1.cell (p:=⟨ob,0,none⟩) lob nob).trans hob) nob ((h1.cell (p:=⟨xb,0,none⟩) lxb nxb).trans hxb) nxb)
 have HN:=Lib.hid (cNum_any w rb S st h hS 1 1 rfl (by omega) (by omega))
 obtain ⟨hb0,hb1⟩:=getN_bd 1 st
 have hgl:getL ruG st=many ruG (getN 1 st).1.toNat (getN 1 st).2:=rfl
 rw [hgl]
 obtain ⟨N,hN⟩:∃ N:Nat,(getN 1 st).1=N:=⟨(getN 1 st).1.toNat,by omega⟩
 obtain ⟨s1,hs1⟩:∃ s1,(getN 1 st).2=s1:=⟨_,rfl⟩
 rw [hN] at hb0 hb1 HN ⊢
 rw [hs1] at HN ⊢
 rw [Int.toNat_natCast]
 have hN2:N≤255:=by have:(256:Int) ^ 1=256:=rfl;omega
 obtain ⟨PT,hPT⟩:∃ PT,ListPost rb S 5 ruC (many ruG N s1).1 (many ruG N s1).2 w=PT:=⟨_,rfl⟩
 rw [hPT]
 have HPT:=Lib.hid hPT
 clear h hS hc nrc hob nob lob hxb nxb lxb hgl hN hs1 hb0 hb1 hPT hcl
 go_enter Tryz.func65,Tryz.ntmps65
 go_wp2_with (first
  | (go_at_call 50;(with_reducible refine HN.out.mono ?_);rintro e w1 ⟨rfl,hr1,ho1⟩;have HR1:=Lib.hid hr1;have HO1:=Lib.hid ho1;clear hr1 ho1)
  | fail)
 go_loopw [5,8] (fun vv vi wr=>∃ j:Nat,j≤N∧vi=.int .i64 j∧wr.ownsRow w.heap.size 53 5 vv j (flatC ruC (many ruG j s1).1)∧RIn wr rb S (many ruG j s1).2∧OnlyP rb w wr) (fun _ vi _=>N - (intOf vi).toNat)
 case atStart=>exact⟨0,by omega,by simp,⟨rfl,Or.inl ⟨rfl,rfl⟩⟩,HR1.out,HO1.out⟩
 case round=>
  obtain ⟨j,hj,rfl,hown,hr,ho⟩:=hrel
  by_cases hlt2:j<N
  ·have hms:=many_snoc ruG j s1
   obtain ⟨s,hs⟩:∃ s,(many ruG j s1).2=s:=⟨_,rfl⟩
   obtain ⟨L,hL⟩:∃ L,(many ruG j s1).1=L:=⟨_,rfl⟩
   have hE:=HE.out wr s ho (by rw [←hs];exact hr)
   rw [hs,hL] at hms
   rw [hL] at hown
   obtain ⟨s',hs'⟩:∃ s',(ruG s).2=s':=⟨_,rfl⟩
   obtain ⟨x,hx⟩:∃ x,(ruG s).1=x:=⟨_,rfl⟩
   rw [hs',hx] at hE hms
   clear hr hs hL hs' hx
   obtain ⟨x1,x2,x3,x4,x5⟩:=x
   have HEE:=Lib.hid (show Calls Tryz.prog 66 #[.pointer (some ⟨ob,0,none⟩),.pointer (some ⟨xb,0,none⟩)] wr (RdPost rb S (.agg #[.int .i64 x1,.int .i64 x2,.int .i64 x3,.string x4,.string x5]) s' wr) from hE)
   have HMS:=Lib.hid hms
   have HOW:=Lib.hid hown
   have HON:=Lib.hid ho
   have hgs:=ho.size
   clear hE hms hown ho
   have hj255:j≤255:=by omega
   go_wp2_with (first
    | (go_at_call 66;(with_reducible refine HEE.out.mono ?_);rintro e w2 ⟨rfl,hr2,ho2⟩;have HR2:=Lib.hid hr2;have HO2:=Lib.hid (Only.ownsRow ho2 HOW.out (fun q hq hrq=>by have h9:=(HOW.out.lt q hq).1;have h8:q=rb:=hrq;omega));have HON2:=Lib.hid (HON.out.thenP ho2);have hgs2:=HON2.out.size;clear hr2 ho2)
    | (at_builtin;refine wpList_append_own _ rfl (.tmp 10) (.tmp 13) 29 rfl w.heap.size 53 iE (.agg #[.int .i64 0,.int .i64 0,.int .i64 0,.string ⟨#[]⟩,.string ⟨#[]⟩]) 5 56 Tryz.underlying29 hiE hz0 hz1 hz2 rfl (by decide) _ _ _ rfl (HO2.out.alloc _) ⟨w2.heap.size,0,none⟩ 1 1 [.int .i64 x1,.int .i64 x2,.int .i64 x3,.string x4,.string x5] rfl rfl (cells_newC w2 [.int .i64 x1,.int .i64 x2,.int .i64 x3,.string x4,.string x5] 53) (by intro u hu;simp only [List.mem_cons,List.not_mem_nil,or_false] at hu;(repeat' (rcases hu with hu | hu))<;>(subst_vars;rfl)) (by unfold maxLen;omega) (by omega) (by simp;omega) ?_;intro v' w3 hown1 hgrow1 _)
    | fail)
   have hon3:OnlyP rb w w3:=(HON2.out.alloc (.cells #[.int .i64 x1,.int .i64 x2,.int .i64 x3,.string x4,.string x5] 53)).grown hgrow1 (fun q hq=>.inr ((HO2.out.alloc (.cells #[.int .i64 x1,.int .i64 x2,.int .i64 x3,.string x4,.string x5] 53)).lt q hq).1)
   have hr3:RIn w3 rb S s':=by
    obtain ⟨i,f,g1,g2,g3⟩:=HR2.out
    refine⟨i,f,?_,g2,g3⟩
    have hk:rb<w2.heap.size:=lt_of_block g1
    exact (hgrow1.block rb (by simp;omega) (fun e=>by have h9:=((HO2.out.alloc (.cells #[.int .i64 x1,.int .i64 x2,.int .i64 x3,.string x4,.string x5] 53)).lt rb e.symm).1;omega)).trans (alloc_old g1 _)
   refine⟨⟨j+1,by omega,by simp,?_,?_,hon3⟩,by simp only [intOf];omega⟩
   ·rw [HMS.out,flatC_snoc];exact hown1
   ·rw [HMS.out];exact hr3
  ·obtain rfl:j=N:=by omega
   have hlen:=many_len ruG j s1
   have hown':wr.ownsRow w.heap.size 53 5 u5 (many ruG j s1).1.length (flatC ruC (many ruG j s1).1):=by rw [hlen];exact hown
   have HRW:=Lib.hid (row_own (k:=5) (by omega) (by omega) (fun x=>rfl) (by rw [hlen];exact hN2) hown')
   have HRR:=Lib.hid hr
   have HOO:=Lib.hid ho
   clear hr ho hown hown' hlen
   go_wp2_with fail
   rw [←HPT.out]
   exact⟨_,rfl,HRW.out,HRR.out,HOO.out⟩
theorem inf3_key:(Tryz.prog.info? 9).map (fun i=>(i.zero,i.size,i.bytes))=some (some (.string ⟨#[]⟩),1,16):=by kernel_rfl
set_option maxRecDepth 100000 in
set_option maxHeartbeats 2000000 in
theorem listed_key (w:World) (rb rc  : Nat) (S:ByteArray) (st:RSt) (h:RIn w rb S st) (hS:S.size≤9223372036854775807) (hc:w.cell? ⟨rc,0,none⟩=some (.pointer (some ⟨rb,0,none⟩))) (nrc:rc≠rb)  :
 Calls Tryz.prog 67 #[.pointer (some ⟨rb,0,none⟩),.func (.func 52) #[] #[.pointer (some ⟨rc,0,none⟩)]] w (ListPost rb S 1 keyC (getL getT st).1 (getL getT st).2 w):=by
 obtain ⟨iE,hiE,hz0,hz1,hz2⟩:=info_parts inf3_key
 have hlt:=h.lt
 have hcl:=World.block_lt_of_cell? w _ hc
 have HE:=Lib.hid (fun (w1:World) (s:RSt) (h1:OnlyP rb w w1) (h2:RIn w1 rb S s)=>rd_txt w1 rb rc S s h2 hS ((h1.cell (p:=⟨rc,0,none⟩) hcl nrc).trans hc))
 have HN:=Lib.hid (cNum_any w rb S st h hS 1 1 rfl (by omega) (by omega))
 obtain ⟨hb0,hb1⟩:=getN_bd 1 st
 have hgl:getL getT st=many getT (getN 1 st).1.toNat (getN 1 st).2:=rfl
 rw [hgl]
 obtain ⟨N,hN⟩:∃ N:Nat,(getN 1 st).1=N:=⟨(getN 1 st).1.toNat,by omega⟩
 obtain ⟨s1,hs1⟩:∃ s1,(getN 1 st).2=s1:=⟨_,rfl⟩
 rw [hN] at hb0 hb1 HN ⊢
 rw [hs1] at HN ⊢
 rw [Int.toNat_natCast]
 have hN2:N≤255:=by have:(256:Int) ^ 1=256:=rfl;omega
 obtain ⟨PT,hPT⟩:∃ PT,ListPost rb S 1 keyC (many getT N s1).1 (many getT N s1).2 w=PT:=⟨_,rfl⟩
 rw [hPT]
 have HPT:=Lib.hid hPT
 clear h hS hc nrc  hgl hN hs1 hb0 hb1 hPT hcl
 go_enter Tryz.func67,Tryz.ntmps67
 go_wp2_with (first
  | (go_at_call 50;(with_reducible refine HN.out.mono ?_);rintro e w1 ⟨rfl,hr1,ho1⟩;have HR1:=Lib.hid hr1;have HO1:=Lib.hid ho1;clear hr1 ho1)
  | fail)
 go_loopw [5,8] (fun vv vi wr=>∃ j:Nat,j≤N∧vi=.int .i64 j∧wr.ownsRow w.heap.size 9 1 vv j (flatC keyC (many getT j s1).1)∧RIn wr rb S (many getT j s1).2∧OnlyP rb w wr) (fun _ vi _=>N - (intOf vi).toNat)
 case atStart=>exact⟨0,by omega,by simp,⟨rfl,Or.inl ⟨rfl,rfl⟩⟩,HR1.out,HO1.out⟩
 case round=>
  obtain ⟨j,hj,rfl,hown,hr,ho⟩:=hrel
  by_cases hlt2:j<N
  ·have hms:=many_snoc getT j s1
   obtain ⟨s,hs⟩:∃ s,(many getT j s1).2=s:=⟨_,rfl⟩
   obtain ⟨L,hL⟩:∃ L,(many getT j s1).1=L:=⟨_,rfl⟩
   have hE:=HE.out wr s ho (by rw [←hs];exact hr)
   rw [hs,hL] at hms
   rw [hL] at hown
   obtain ⟨s',hs'⟩:∃ s',(getT s).2=s':=⟨_,rfl⟩
   obtain ⟨x,hx⟩:∃ x,(getT s).1=x:=⟨_,rfl⟩
   rw [hs',hx] at hE hms
   clear hr hs hL hs' hx
   have HEE:=Lib.hid (show Calls Tryz.prog 52 #[.pointer (some ⟨rc,0,none⟩)] wr (RdPost rb S (.string x) s' wr) from hE)
   have HMS:=Lib.hid hms
   have HOW:=Lib.hid hown
   have HON:=Lib.hid ho
   have hgs:=ho.size
   clear hE hms hown ho
   have hj255:j≤255:=by omega
   go_wp2_with (first
    | (go_at_call 52;(with_reducible refine HEE.out.mono ?_);rintro e w2 ⟨rfl,hr2,ho2⟩;have HR2:=Lib.hid hr2;have HO2:=Lib.hid (Only.ownsRow ho2 HOW.out (fun q hq hrq=>by have h9:=(HOW.out.lt q hq).1;have h8:q=rb:=hrq;omega));have HON2:=Lib.hid (HON.out.thenP ho2);have hgs2:=HON2.out.size;clear hr2 ho2)
    | (at_builtin;refine wpList_append_own _ rfl (.tmp 10) (.tmp 13) 30 rfl w.heap.size 9 iE (.string ⟨#[]⟩) 1 16 Tryz.underlying30 hiE hz0 hz1 hz2 rfl (by decide) _ _ _ rfl (HO2.out.alloc _) ⟨w2.heap.size,0,none⟩ 1 1 [.string x] rfl rfl (cells_newC w2 [.string x] 9) (by intro u hu;simp only [List.mem_cons,List.not_mem_nil,or_false] at hu;(repeat' (rcases hu with hu | hu))<;>(subst_vars;rfl)) (by unfold maxLen;omega) (by omega) (by simp;omega) ?_;intro v' w3 hown1 hgrow1 _)
    | fail)
   have hon3:OnlyP rb w w3:=(HON2.out.alloc (.cells #[.string x] 9)).grown hgrow1 (fun q hq=>.inr ((HO2.out.alloc (.cells #[.string x] 9)).lt q hq).1)
   have hr3:RIn w3 rb S s':=by
    obtain ⟨i,f,g1,g2,g3⟩:=HR2.out
    refine⟨i,f,?_,g2,g3⟩
    have hk:rb<w2.heap.size:=lt_of_block g1
    exact (hgrow1.block rb (by simp;omega) (fun e=>by have h9:=((HO2.out.alloc (.cells #[.string x] 9)).lt rb e.symm).1;omega)).trans (alloc_old g1 _)
   refine⟨⟨j+1,by omega,by simp,?_,?_,hon3⟩,by simp only [intOf];omega⟩
   ·rw [HMS.out,flatC_snoc];exact hown1
   ·rw [HMS.out];exact hr3
  ·obtain rfl:j=N:=by omega
   have hlen:=many_len getT j s1
   have hown':wr.ownsRow w.heap.size 9 1 u5 (many getT j s1).1.length (flatC keyC (many getT j s1).1):=by rw [hlen];exact hown
   have HRW:=Lib.hid (row_own (k:=1) (by omega) (by omega) (fun x=>rfl) (by rw [hlen];exact hN2) hown')
   have HRR:=Lib.hid hr
   have HOO:=Lib.hid ho
   clear hr ho hown hown' hlen
   go_wp2_with fail
   rw [←HPT.out]
   exact⟨_,rfl,HRW.out,HRR.out,HOO.out⟩
end Go.Proofs.YtbchkjfnakabkaaGreatDoor
