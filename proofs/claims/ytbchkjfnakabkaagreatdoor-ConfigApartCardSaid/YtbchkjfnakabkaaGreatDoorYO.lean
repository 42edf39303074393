import Derived.Test.YtbchkjfnakabkaaGreatDoorCB
import Derived.Test.YtbchkjfnakabkaaGreatDoorNI
set_option linter.unusedSimpArgs false
set_option linter.unusedVariables false
set_option maxHeartbeats 1000000
set_option maxRecDepth 100000
namespace Go.Proofs.YtbchkjfnakabkaaGreatDoor
open Go.ChangeShapes Go.WideShapes Go.ChangeAt Go.RowKit PX PC
theorem VO:Tryz.prog.cellsOf 3=1:=by kernel_rfl
theorem VN:Tryz.prog.cellsOf 9=1:=by kernel_rfl
theorem Xm(b o j:Nat):((⟨b,o,none⟩:Addr).add j)=⟨b,o+j,none⟩:=by
 unfold Addr.add;split
 ·rename_i h;subst h;rfl
 ·rfl
section
variable {H : Type} {enc : TypeId × Value -> H} {w : World} {sp : Nat -> Bool} {held : Bool}
theorem Ze3{α:Type}{l:List α}(h:l.length=2):∃ c0 c1,l=[c0,c1]:=by
 match l,h with
 |[c0,c1],_=>exact⟨c0,c1,rfl⟩
theorem Ziq{α:Type}{l:List α}(h:l.length=3):∃ c0 c1 c2,l=[c0,c1,c2]:=by
 match l,h with
 |[c0,c1,c2],_=>exact⟨c0,c1,c2,rfl⟩
theorem Zip{α:Type}{l:List α}(h:l.length=4):∃ c0 c1 c2 c3,l=[c0,c1,c2,c3]:=by
 match l,h with
 |[c0,c1,c2,c3],_=>exact⟨c0,c1,c2,c3,rfl⟩
theorem Ze2{α:Type}{l:List α}(h:l.length=5):∃ c0 c1 c2 c3 c4,l=[c0,c1,c2,c3,c4]:=by
 match l,h with
 |[c0,c1,c2,c3,c4],_=>exact⟨c0,c1,c2,c3,c4,rfl⟩
theorem Zis{α:Type}{l:List α}(h:l.length=14):∃ c0 c1 c2 c3 c4 c5 c6 c7 c8 c9 c10 c11 c12 c13,l=[c0,c1,c2,c3,c4,c5,c6,c7,c8,c9,c10,c11,c12,c13]:=by
 match l,h with
 |[c0,c1,c2,c3,c4,c5,c6,c7,c8,c9,c10,c11,c12,c13],_=>exact⟨c0,c1,c2,c3,c4,c5,c6,c7,c8,c9,c10,c11,c12,c13,rfl⟩
theorem Zir{α:Type}{l:List α}(h:l.length=17):∃ c0 c1 c2 c3 c4 c5 c6 c7 c8 c9 c10 c11 c12 c13 c14 c15 c16,l=[c0,c1,c2,c3,c4,c5,c6,c7,c8,c9,c10,c11,c12,c13,c14,c15,c16]:=by
 match l,h with
 |[c0,c1,c2,c3,c4,c5,c6,c7,c8,c9,c10,c11,c12,c13,c14,c15,c16],_=>exact⟨c0,c1,c2,c3,c4,c5,c6,c7,c8,c9,c10,c11,c12,c13,c14,c15,c16,rfl⟩
theorem ED:Tryz.prog.cellsOf 47=2:=by kernel_rfl
theorem DK:Tryz.prog.bytesOf 47=16:=by kernel_rfl
theorem Ze5{fuel:Nat}{cs:List Value}{x:DataW H × List MemPlace}(h:DataW.trod enc Tryz.prog w 0 sp held fuel 47 cs=some x) :
 ∃ r:Int × Int,cs=Xx r/\Bp r:=by
 obtain⟨xs,n,-, rfl,hl,hlen,hf⟩:=DataW.trod_array Tryz.underlying47 h;have f0:=hf 0 (by omega);have f1:=hf 1 (by omega);clear hf h;rw[ED]at hl;obtain⟨y0,y1,rfl⟩:=Ze3 hlen;obtain⟨c0,c1,rfl⟩:=Ze3 hl;simp only[VO,VN,Nat.zero_mul,Nat.one_mul,List.drop_zero,List.drop_succ_cons,List.take_succ_cons,List.take_zero,List.getElem?_cons_zero,List.getElem?_cons_succ]at f0 f1;obtain⟨a0,h0,-, h0w⟩:=DataW.trod_int Tryz.underlying3 f0;obtain⟨a1,h1,-, h1w⟩:=DataW.trod_int Tryz.underlying3 f1;simp only[List.cons.injEq,and_true]at h0 h1;subst h0;subst h1;refine⟨(a0,a1),rfl,?_⟩;intro n hn;simp only[List.mem_cons,List.not_mem_nil,or_false]at hn;rcases hn with rfl|rfl
 ·exact ZN h0w
 ·exact ZN h1w
theorem Wa{m:Nat}(b o:Nat):∀ (elems:List (DataW H × List MemPlace)) (k:Nat),(∀i,i<elems.length->(w.cells? 0 (⟨b,o+(k+i)*2,none⟩) 2).bind (DataW.trod enc Tryz.prog w 0 sp held m 47)=elems[i]?) ->
 ∃ l:List (Int × Int),l.length=elems.length/\(∀i (h:i<l.length) j,j<2->w.cell? ⟨b,o+(k+i)*2+j,none⟩=(Xx l[i])[j]?)/\∀ x∈l,Bp x
 |[],k,_=>⟨[],rfl,λi h=>by simp at h,λx hx=>by cases hx⟩
 |y::ys,k,h=>by
  have h0:=h 0 (by simp);simp only[List.getElem?_cons_zero,Option.bind_eq_some_iff]at h0;obtain⟨cs,hcs,ht⟩:=h0;obtain⟨r,rfl,hr⟩:=Ze5 ht
  obtain⟨l,hl,hL,hI⟩:=Wa b o ys (k+1) (λi hi=>by
   have:=h (i+1) (by simp;omega);rw[List.getElem?_cons_succ]at this
   rw[<-this,show k+(i+1)=k+1+i by omega])
  refine⟨r::l,by simp[hl],λi hi j hj=>?_,λx hx=>by rcases List.mem_cons.1 hx with rfl|hx;exact hr;exact hI x hx⟩
  match i,hi with
  |0,_=>
   have:=(World.cells?_some hcs).2.2 j hj;rw[Xm]at this;simp only[Nat.add_zero]at this ⊢;rw[this]
   first|rfl|exact(List.getElem?_eq_getElem _).symm|simp
  |i+1,hi=>
   have:=hL i (by simpa using hi) j hj;rw[show k+(i+1)=k+1+i by omega];exact this
theorem ZaS{fuel:Nat}{c:Value}{x:DataW H × List MemPlace}(hf:DataW.trod enc Tryz.prog w 0 sp held fuel 22 [c]=some x)(hw:∀ n∈x.1.weights Tryz.prog 22,n<=reachBytes) :
 ∃ l:List (Int × Int),RowAt w 2 c (l.map Xx)/\(∀x∈l,Bp x)/\l.length*16<=140737488351232:=by
 have m0:reachBytes<=140737488355328:=by decide
 rcases DataW.trod_slice Tryz.underlying22 hf with⟨hc,-⟩|⟨a,len,cap,elems,rest,m,hm,hc,hy,-, hlc,hcm,hel,hee,-⟩
 ·simp only[List.cons.injEq,and_true]at hc;subst hc;exact⟨[],RowAt.nil w 2,(λx hx=>by cases hx),by simp⟩
 ·simp only[List.cons.injEq,and_true]at hc;subst hc
  have d0:elems.length*16<=reachBytes:=by
   subst hy;simp only[DataW.weights,Tryz.underlying22,DK,List.mem_cons,List.mem_append,List.length_map]at hw;have:=hw _ (.inl rfl);exact Nat.le_trans (Nat.mul_le_mul_right _ (Nat.le_add_right _ _)) this
  have e0:cap<=9223372036854775807:=by have:=hcm;simpa [maxLen] using this
  by_cases h0:len=0
  ·subst h0;exact⟨[],⟨some a,cap,rfl,Nat.zero_le _,e0,by simp,.inl rfl⟩,(λx hx=>by cases hx),by simp⟩
  ·have i0:=hee 0 (by omega);rw[ED]at hee i0
   obtain⟨y,hy0⟩:∃ y,elems[0]?=some y:=⟨elems[0]'(by omega),List.getElem?_eq_getElem _⟩
   rw[hy0,Option.bind_eq_some_iff]at i0;obtain⟨cs0,hcs0,-⟩:=i0;have b0:=(World.cells?_some hcs0).2.2 0 (by omega);have k0:=(World.cells?_some hcs0).2.1;obtain⟨b,o,spot⟩:=a
   have l0:spot=none:=by
    cases spot with
    |none=>rfl
    |some q=>
     rw[List.getElem?_eq_getElem (by omega)]at b0;simp only[Nat.zero_mul,Addr.add,if_true,World.cell?]at b0;split at b0
     ·simp at b0
     ·cases b0
   subst l0
   have g0:w.cell? ⟨b,o,none⟩=some (cs0[0]'(by omega)):=by
    rw[List.getElem?_eq_getElem (by omega)]at b0
    simpa [Addr.add] using b0
   have j0:=World.block_lt_of_cell? _ _ g0
   obtain⟨l,hll,hL,hI⟩:=Wa (enc:=enc) (sp:=sp) (held:=held) (m:=m) b o elems 0 (λi hi=>by
    have:=hee i (by omega);rw[Xm]at this
    rw[<-this,Nat.zero_add])
   refine⟨l,⟨some ⟨b,o,none⟩,cap,by rw[List.length_map,hll,hel],by rw[List.length_map];omega,e0,by rw[List.length_map];omega,.inr ⟨b,o,rfl,j0,λi hi j hj=>?_⟩⟩,hI,by rw[hll];exact d0⟩;rw[List.length_map]at hi;have:=hL i hi j hj;rw[Nat.zero_add]at this;rw[this,List.getElem_map]
theorem EC:Tryz.prog.cellsOf 49=2:=by kernel_rfl
theorem DJ:Tryz.prog.bytesOf 49=16:=by kernel_rfl
theorem Ze4{fuel:Nat}{cs:List Value}{x:DataW H × List MemPlace}(h:DataW.trod enc Tryz.prog w 0 sp held fuel 49 cs=some x) :
 ∃ r:Prt,cs=XQ r/\Zby r:=by
 obtain⟨xs,n,-, rfl,hl,hlen,hf⟩:=DataW.trod_struct Tryz.underlying49 h;have f0:DataW.trod enc Tryz.prog w 0 sp held n 3 ((cs.drop 0).take (Tryz.prog.cellsOf 3))=xs[0]?:=hf 0 _ rfl;have f1:DataW.trod enc Tryz.prog w 0 sp held n 3 ((cs.drop 1).take (Tryz.prog.cellsOf 3))=xs[1]?:=hf 1 _ rfl;clear hf h;rw[EC]at hl;obtain⟨y0,y1,rfl⟩:=Ze3 hlen;obtain⟨c0,c1,rfl⟩:=Ze3 hl;simp only[VO,VN,Nat.zero_mul,Nat.one_mul,List.drop_zero,List.drop_succ_cons,List.take_succ_cons,List.take_zero,List.getElem?_cons_zero,List.getElem?_cons_succ]at f0 f1;obtain⟨a0,h0,-, h0w⟩:=DataW.trod_int Tryz.underlying3 f0;obtain⟨a1,h1,-, h1w⟩:=DataW.trod_int Tryz.underlying3 f1;simp only[List.cons.injEq,and_true]at h0 h1;subst h0;subst h1;refine⟨⟨a0,a1⟩,rfl,?_⟩;intro n hn;simp only[List.mem_cons,List.not_mem_nil,or_false]at hn;rcases hn with rfl|rfl
 ·exact ZN h0w
 ·exact ZN h1w
theorem Q9{m:Nat}(b o:Nat):∀ (elems:List (DataW H × List MemPlace)) (k:Nat),(∀i,i<elems.length->(w.cells? 0 (⟨b,o+(k+i)*2,none⟩) 2).bind (DataW.trod enc Tryz.prog w 0 sp held m 49)=elems[i]?) ->
 ∃ l:List (Prt),l.length=elems.length/\(∀i (h:i<l.length) j,j<2->w.cell? ⟨b,o+(k+i)*2+j,none⟩=(XQ l[i])[j]?)/\∀ x∈l,Zby x
 |[],k,_=>⟨[],rfl,λi h=>by simp at h,λx hx=>by cases hx⟩
 |y::ys,k,h=>by
  have h0:=h 0 (by simp);simp only[List.getElem?_cons_zero,Option.bind_eq_some_iff]at h0;obtain⟨cs,hcs,ht⟩:=h0;obtain⟨r,rfl,hr⟩:=Ze4 ht
  obtain⟨l,hl,hL,hI⟩:=Q9 b o ys (k+1) (λi hi=>by
   have:=h (i+1) (by simp;omega);rw[List.getElem?_cons_succ]at this
   rw[<-this,show k+(i+1)=k+1+i by omega])
  refine⟨r::l,by simp[hl],λi hi j hj=>?_,λx hx=>by rcases List.mem_cons.1 hx with rfl|hx;exact hr;exact hI x hx⟩
  match i,hi with
  |0,_=>
   have:=(World.cells?_some hcs).2.2 j hj;rw[Xm]at this;simp only[Nat.add_zero]at this ⊢;rw[this]
   first|rfl|exact(List.getElem?_eq_getElem _).symm|simp
  |i+1,hi=>
   have:=hL i (by simpa using hi) j hj;rw[show k+(i+1)=k+1+i by omega];exact this
theorem ZaR{fuel:Nat}{c:Value}{x:DataW H × List MemPlace}(hf:DataW.trod enc Tryz.prog w 0 sp held fuel 23 [c]=some x)(hw:∀ n∈x.1.weights Tryz.prog 23,n<=reachBytes) :
 ∃ l:List (Prt),RowAt w 2 c (l.map XQ)/\(∀x∈l,Zby x)/\l.length*16<=140737488351232:=by
 have m0:reachBytes<=140737488355328:=by decide
 rcases DataW.trod_slice Tryz.underlying23 hf with⟨hc,-⟩|⟨a,len,cap,elems,rest,m,hm,hc,hy,-, hlc,hcm,hel,hee,-⟩
 ·simp only[List.cons.injEq,and_true]at hc;subst hc;exact⟨[],RowAt.nil w 2,(λx hx=>by cases hx),by simp⟩
 ·simp only[List.cons.injEq,and_true]at hc;subst hc
  have d0:elems.length*16<=reachBytes:=by
   subst hy;simp only[DataW.weights,Tryz.underlying23,DJ,List.mem_cons,List.mem_append,List.length_map]at hw;have:=hw _ (.inl rfl);exact Nat.le_trans (Nat.mul_le_mul_right _ (Nat.le_add_right _ _)) this
  have e0:cap<=9223372036854775807:=by have:=hcm;simpa [maxLen] using this
  by_cases h0:len=0
  ·subst h0;exact⟨[],⟨some a,cap,rfl,Nat.zero_le _,e0,by simp,.inl rfl⟩,(λx hx=>by cases hx),by simp⟩
  ·have i0:=hee 0 (by omega);rw[EC]at hee i0
   obtain⟨y,hy0⟩:∃ y,elems[0]?=some y:=⟨elems[0]'(by omega),List.getElem?_eq_getElem _⟩
   rw[hy0,Option.bind_eq_some_iff]at i0;obtain⟨cs0,hcs0,-⟩:=i0;have b0:=(World.cells?_some hcs0).2.2 0 (by omega);have k0:=(World.cells?_some hcs0).2.1;obtain⟨b,o,spot⟩:=a
   have l0:spot=none:=by
    cases spot with
    |none=>rfl
    |some q=>
     rw[List.getElem?_eq_getElem (by omega)]at b0;simp only[Nat.zero_mul,Addr.add,if_true,World.cell?]at b0;split at b0
     ·simp at b0
     ·cases b0
   subst l0
   have g0:w.cell? ⟨b,o,none⟩=some (cs0[0]'(by omega)):=by
    rw[List.getElem?_eq_getElem (by omega)]at b0
    simpa [Addr.add] using b0
   have j0:=World.block_lt_of_cell? _ _ g0
   obtain⟨l,hll,hL,hI⟩:=Q9 (enc:=enc) (sp:=sp) (held:=held) (m:=m) b o elems 0 (λi hi=>by
    have:=hee i (by omega);rw[Xm]at this
    rw[<-this,Nat.zero_add])
   refine⟨l,⟨some ⟨b,o,none⟩,cap,by rw[List.length_map,hll,hel],by rw[List.length_map];omega,e0,by rw[List.length_map];omega,.inr ⟨b,o,rfl,j0,λi hi j hj=>?_⟩⟩,hI,by rw[hll];exact d0⟩;rw[List.length_map]at hi;have:=hL i hi j hj;rw[Nat.zero_add]at this;rw[this,List.getElem_map]
theorem GN:Tryz.prog.cellsOf 55=3:=by kernel_rfl
theorem ZaW:Tryz.prog.bytesOf 55=24:=by kernel_rfl
theorem Zg2{fuel:Nat}{cs:List Value}{x:DataW H × List MemPlace}(h:DataW.trod enc Tryz.prog w 0 sp held fuel 55 cs=some x) :
 ∃ r:Win,cs=winC r/\winI r:=by
 obtain⟨xs,n,-, rfl,hl,hlen,hf⟩:=DataW.trod_struct Tryz.underlying55 h;have f0:DataW.trod enc Tryz.prog w 0 sp held n 3 ((cs.drop 0).take (Tryz.prog.cellsOf 3))=xs[0]?:=hf 0 _ rfl;have f1:DataW.trod enc Tryz.prog w 0 sp held n 3 ((cs.drop 1).take (Tryz.prog.cellsOf 3))=xs[1]?:=hf 1 _ rfl;have f2:DataW.trod enc Tryz.prog w 0 sp held n 3 ((cs.drop 2).take (Tryz.prog.cellsOf 3))=xs[2]?:=hf 2 _ rfl;clear hf h;rw[GN]at hl;obtain⟨y0,y1,y2,rfl⟩:=Ziq hlen;obtain⟨c0,c1,c2,rfl⟩:=Ziq hl;simp only[VO,VN,Nat.zero_mul,Nat.one_mul,List.drop_zero,List.drop_succ_cons,List.take_succ_cons,List.take_zero,List.getElem?_cons_zero,List.getElem?_cons_succ]at f0 f1 f2;obtain⟨a0,h0,-, h0w⟩:=DataW.trod_int Tryz.underlying3 f0;obtain⟨a1,h1,-, h1w⟩:=DataW.trod_int Tryz.underlying3 f1;obtain⟨a2,h2,-, h2w⟩:=DataW.trod_int Tryz.underlying3 f2;simp only[List.cons.injEq,and_true]at h0 h1 h2;subst h0;subst h1;subst h2;refine⟨⟨a0,a1,a2⟩,rfl,?_⟩;intro n hn;simp only[List.mem_cons,List.not_mem_nil,or_false]at hn;rcases hn with rfl|rfl|rfl
 ·exact ZN h0w
 ·exact ZN h1w
 ·exact ZN h2w
theorem BP{m:Nat}(b o:Nat):∀ (elems:List (DataW H × List MemPlace)) (k:Nat),(∀i,i<elems.length->(w.cells? 0 (⟨b,o+(k+i)*3,none⟩) 3).bind (DataW.trod enc Tryz.prog w 0 sp held m 55)=elems[i]?) ->
 ∃ l:List (Win),l.length=elems.length/\(∀i (h:i<l.length) j,j<3->w.cell? ⟨b,o+(k+i)*3+j,none⟩=(winC l[i])[j]?)/\∀ x∈l,winI x
 |[],k,_=>⟨[],rfl,λi h=>by simp at h,λx hx=>by cases hx⟩
 |y::ys,k,h=>by
  have h0:=h 0 (by simp);simp only[List.getElem?_cons_zero,Option.bind_eq_some_iff]at h0;obtain⟨cs,hcs,ht⟩:=h0;obtain⟨r,rfl,hr⟩:=Zg2 ht
  obtain⟨l,hl,hL,hI⟩:=BP b o ys (k+1) (λi hi=>by
   have:=h (i+1) (by simp;omega);rw[List.getElem?_cons_succ]at this
   rw[<-this,show k+(i+1)=k+1+i by omega])
  refine⟨r::l,by simp[hl],λi hi j hj=>?_,λx hx=>by rcases List.mem_cons.1 hx with rfl|hx;exact hr;exact hI x hx⟩
  match i,hi with
  |0,_=>
   have:=(World.cells?_some hcs).2.2 j hj;rw[Xm]at this;simp only[Nat.add_zero]at this ⊢;rw[this]
   first|rfl|exact(List.getElem?_eq_getElem _).symm|simp
  |i+1,hi=>
   have:=hL i (by simpa using hi) j hj;rw[show k+(i+1)=k+1+i by omega];exact this
theorem Zct{fuel:Nat}{c:Value}{x:DataW H × List MemPlace}(hf:DataW.trod enc Tryz.prog w 0 sp held fuel 24 [c]=some x)(hw:∀ n∈x.1.weights Tryz.prog 24,n<=reachBytes) :
 ∃ l:List (Win),RowAt w 3 c (l.map winC)/\(∀x∈l,winI x)/\l.length*24<=140737488351232:=by
 have m0:reachBytes<=140737488355328:=by decide
 rcases DataW.trod_slice Tryz.underlying24 hf with⟨hc,-⟩|⟨a,len,cap,elems,rest,m,hm,hc,hy,-, hlc,hcm,hel,hee,-⟩
 ·simp only[List.cons.injEq,and_true]at hc;subst hc;exact⟨[],RowAt.nil w 3,(λx hx=>by cases hx),by simp⟩
 ·simp only[List.cons.injEq,and_true]at hc;subst hc
  have d0:elems.length*24<=reachBytes:=by
   subst hy;simp only[DataW.weights,Tryz.underlying24,ZaW,List.mem_cons,List.mem_append,List.length_map]at hw;have:=hw _ (.inl rfl);exact Nat.le_trans (Nat.mul_le_mul_right _ (Nat.le_add_right _ _)) this
  have e0:cap<=9223372036854775807:=by have:=hcm;simpa [maxLen] using this
  by_cases h0:len=0
  ·subst h0;exact⟨[],⟨some a,cap,rfl,Nat.zero_le _,e0,by simp,.inl rfl⟩,(λx hx=>by cases hx),by simp⟩
  ·have i0:=hee 0 (by omega);rw[GN]at hee i0
   obtain⟨y,hy0⟩:∃ y,elems[0]?=some y:=⟨elems[0]'(by omega),List.getElem?_eq_getElem _⟩
   rw[hy0,Option.bind_eq_some_iff]at i0;obtain⟨cs0,hcs0,-⟩:=i0;have b0:=(World.cells?_some hcs0).2.2 0 (by omega);have k0:=(World.cells?_some hcs0).2.1;obtain⟨b,o,spot⟩:=a
   have l0:spot=none:=by
    cases spot with
    |none=>rfl
    |some q=>
     rw[List.getElem?_eq_getElem (by omega)]at b0;simp only[Nat.zero_mul,Addr.add,if_true,World.cell?]at b0;split at b0
     ·simp at b0
     ·cases b0
   subst l0
   have g0:w.cell? ⟨b,o,none⟩=some (cs0[0]'(by omega)):=by
    rw[List.getElem?_eq_getElem (by omega)]at b0
    simpa [Addr.add] using b0
   have j0:=World.block_lt_of_cell? _ _ g0
   obtain⟨l,hll,hL,hI⟩:=BP (enc:=enc) (sp:=sp) (held:=held) (m:=m) b o elems 0 (λi hi=>by
    have:=hee i (by omega);rw[Xm]at this
    rw[<-this,Nat.zero_add])
   refine⟨l,⟨some ⟨b,o,none⟩,cap,by rw[List.length_map,hll,hel],by rw[List.length_map];omega,e0,by rw[List.length_map];omega,.inr ⟨b,o,rfl,j0,λi hi j hj=>?_⟩⟩,hI,by rw[hll];exact d0⟩;rw[List.length_map]at hi;have:=hL i hi j hj;rw[Nat.zero_add]at this;rw[this,List.getElem_map]
theorem GO:Tryz.prog.cellsOf 51=5:=by kernel_rfl
theorem ZaY:Tryz.prog.bytesOf 51=40:=by kernel_rfl
theorem Zg3{fuel:Nat}{cs:List Value}{x:DataW H × List MemPlace}(h:DataW.trod enc Tryz.prog w 0 sp held fuel 51 cs=some x) :
 ∃ r:Por,cs=porC r/\porI r:=by
 obtain⟨xs,n,-, rfl,hl,hlen,hf⟩:=DataW.trod_struct Tryz.underlying51 h;have f0:DataW.trod enc Tryz.prog w 0 sp held n 3 ((cs.drop 0).take (Tryz.prog.cellsOf 3))=xs[0]?:=hf 0 _ rfl;have f1:DataW.trod enc Tryz.prog w 0 sp held n 3 ((cs.drop 1).take (Tryz.prog.cellsOf 3))=xs[1]?:=hf 1 _ rfl;have f2:DataW.trod enc Tryz.prog w 0 sp held n 3 ((cs.drop 2).take (Tryz.prog.cellsOf 3))=xs[2]?:=hf 2 _ rfl;have f3:DataW.trod enc Tryz.prog w 0 sp held n 3 ((cs.drop 3).take (Tryz.prog.cellsOf 3))=xs[3]?:=hf 3 _ rfl;have f4:DataW.trod enc Tryz.prog w 0 sp held n 3 ((cs.drop 4).take (Tryz.prog.cellsOf 3))=xs[4]?:=hf 4 _ rfl;clear hf h;rw[GO]at hl;obtain⟨y0,y1,y2,y3,y4,rfl⟩:=Ze2 hlen;obtain⟨c0,c1,c2,c3,c4,rfl⟩:=Ze2 hl;simp only[VO,VN,Nat.zero_mul,Nat.one_mul,List.drop_zero,List.drop_succ_cons,List.take_succ_cons,List.take_zero,List.getElem?_cons_zero,List.getElem?_cons_succ]at f0 f1 f2 f3 f4;obtain⟨a0,h0,-, h0w⟩:=DataW.trod_int Tryz.underlying3 f0;obtain⟨a1,h1,-, h1w⟩:=DataW.trod_int Tryz.underlying3 f1;obtain⟨a2,h2,-, h2w⟩:=DataW.trod_int Tryz.underlying3 f2;obtain⟨a3,h3,-, h3w⟩:=DataW.trod_int Tryz.underlying3 f3;obtain⟨a4,h4,-, h4w⟩:=DataW.trod_int Tryz.underlying3 f4;simp only[List.cons.injEq,and_true]at h0 h1 h2 h3 h4;subst h0;subst h1;subst h2;subst h3;subst h4;refine⟨⟨a0,a1,a2,a3,a4⟩,rfl,?_⟩;intro n hn;simp only[List.mem_cons,List.not_mem_nil,or_false]at hn;rcases hn with rfl|rfl|rfl|rfl|rfl
 ·exact ZN h0w
 ·exact ZN h1w
 ·exact ZN h2w
 ·exact ZN h3w
 ·exact ZN h4w
theorem BR{m:Nat}(b o:Nat):∀ (elems:List (DataW H × List MemPlace)) (k:Nat),(∀i,i<elems.length->(w.cells? 0 (⟨b,o+(k+i)*5,none⟩) 5).bind (DataW.trod enc Tryz.prog w 0 sp held m 51)=elems[i]?) ->
 ∃ l:List (Por),l.length=elems.length/\(∀i (h:i<l.length) j,j<5->w.cell? ⟨b,o+(k+i)*5+j,none⟩=(porC l[i])[j]?)/\∀ x∈l,porI x
 |[],k,_=>⟨[],rfl,λi h=>by simp at h,λx hx=>by cases hx⟩
 |y::ys,k,h=>by
  have h0:=h 0 (by simp);simp only[List.getElem?_cons_zero,Option.bind_eq_some_iff]at h0;obtain⟨cs,hcs,ht⟩:=h0;obtain⟨r,rfl,hr⟩:=Zg3 ht
  obtain⟨l,hl,hL,hI⟩:=BR b o ys (k+1) (λi hi=>by
   have:=h (i+1) (by simp;omega);rw[List.getElem?_cons_succ]at this
   rw[<-this,show k+(i+1)=k+1+i by omega])
  refine⟨r::l,by simp[hl],λi hi j hj=>?_,λx hx=>by rcases List.mem_cons.1 hx with rfl|hx;exact hr;exact hI x hx⟩
  match i,hi with
  |0,_=>
   have:=(World.cells?_some hcs).2.2 j hj;rw[Xm]at this;simp only[Nat.add_zero]at this ⊢;rw[this]
   first|rfl|exact(List.getElem?_eq_getElem _).symm|simp
  |i+1,hi=>
   have:=hL i (by simpa using hi) j hj;rw[show k+(i+1)=k+1+i by omega];exact this
theorem Zcv{fuel:Nat}{c:Value}{x:DataW H × List MemPlace}(hf:DataW.trod enc Tryz.prog w 0 sp held fuel 25 [c]=some x)(hw:∀ n∈x.1.weights Tryz.prog 25,n<=reachBytes) :
 ∃ l:List (Por),RowAt w 5 c (l.map porC)/\(∀x∈l,porI x)/\l.length*40<=140737488351232:=by
 have m0:reachBytes<=140737488355328:=by decide
 rcases DataW.trod_slice Tryz.underlying25 hf with⟨hc,-⟩|⟨a,len,cap,elems,rest,m,hm,hc,hy,-, hlc,hcm,hel,hee,-⟩
 ·simp only[List.cons.injEq,and_true]at hc;subst hc;exact⟨[],RowAt.nil w 5,(λx hx=>by cases hx),by simp⟩
 ·simp only[List.cons.injEq,and_true]at hc;subst hc
  have d0:elems.length*40<=reachBytes:=by
   subst hy;simp only[DataW.weights,Tryz.underlying25,ZaY,List.mem_cons,List.mem_append,List.length_map]at hw;have:=hw _ (.inl rfl);exact Nat.le_trans (Nat.mul_le_mul_right _ (Nat.le_add_right _ _)) this
  have e0:cap<=9223372036854775807:=by have:=hcm;simpa [maxLen] using this
  by_cases h0:len=0
  ·subst h0;exact⟨[],⟨some a,cap,rfl,Nat.zero_le _,e0,by simp,.inl rfl⟩,(λx hx=>by cases hx),by simp⟩
  ·have i0:=hee 0 (by omega);rw[GO]at hee i0
   obtain⟨y,hy0⟩:∃ y,elems[0]?=some y:=⟨elems[0]'(by omega),List.getElem?_eq_getElem _⟩
   rw[hy0,Option.bind_eq_some_iff]at i0;obtain⟨cs0,hcs0,-⟩:=i0;have b0:=(World.cells?_some hcs0).2.2 0 (by omega);have k0:=(World.cells?_some hcs0).2.1;obtain⟨b,o,spot⟩:=a
   have l0:spot=none:=by
    cases spot with
    |none=>rfl
    |some q=>
     rw[List.getElem?_eq_getElem (by omega)]at b0;simp only[Nat.zero_mul,Addr.add,if_true,World.cell?]at b0;split at b0
     ·simp at b0
     ·cases b0
   subst l0
   have g0:w.cell? ⟨b,o,none⟩=some (cs0[0]'(by omega)):=by
    rw[List.getElem?_eq_getElem (by omega)]at b0
    simpa [Addr.add] using b0
   have j0:=World.block_lt_of_cell? _ _ g0
   obtain⟨l,hll,hL,hI⟩:=BR (enc:=enc) (sp:=sp) (held:=held) (m:=m) b o elems 0 (λi hi=>by
    have:=hee i (by omega);rw[Xm]at this
    rw[<-this,Nat.zero_add])
   refine⟨l,⟨some ⟨b,o,none⟩,cap,by rw[List.length_map,hll,hel],by rw[List.length_map];omega,e0,by rw[List.length_map];omega,.inr ⟨b,o,rfl,j0,λi hi j hj=>?_⟩⟩,hI,by rw[hll];exact d0⟩;rw[List.length_map]at hi;have:=hL i hi j hj;rw[Nat.zero_add]at this;rw[this,List.getElem_map]
theorem UH:Tryz.prog.cellsOf 28=4:=by kernel_rfl
theorem ZaX:Tryz.prog.bytesOf 28=32:=by kernel_rfl
theorem Zcx{fuel:Nat}{cs:List Value}{x:DataW H × List MemPlace}(h:DataW.trod enc Tryz.prog w 0 sp held fuel 28 cs=some x) :
 ∃ r:Vol,cs=volC r/\volI r:=by
 obtain⟨xs,n,-, rfl,hl,hlen,hf⟩:=DataW.trod_struct Tryz.underlying28 h;have f0:DataW.trod enc Tryz.prog w 0 sp held n 3 ((cs.drop 0).take (Tryz.prog.cellsOf 3))=xs[0]?:=hf 0 _ rfl;have f1:DataW.trod enc Tryz.prog w 0 sp held n 3 ((cs.drop 1).take (Tryz.prog.cellsOf 3))=xs[1]?:=hf 1 _ rfl;have f2:DataW.trod enc Tryz.prog w 0 sp held n 3 ((cs.drop 2).take (Tryz.prog.cellsOf 3))=xs[2]?:=hf 2 _ rfl;have f3:DataW.trod enc Tryz.prog w 0 sp held n 3 ((cs.drop 3).take (Tryz.prog.cellsOf 3))=xs[3]?:=hf 3 _ rfl;clear hf h;rw[UH]at hl;obtain⟨y0,y1,y2,y3,rfl⟩:=Zip hlen;obtain⟨c0,c1,c2,c3,rfl⟩:=Zip hl;simp only[VO,VN,Nat.zero_mul,Nat.one_mul,List.drop_zero,List.drop_succ_cons,List.take_succ_cons,List.take_zero,List.getElem?_cons_zero,List.getElem?_cons_succ]at f0 f1 f2 f3;obtain⟨a0,h0,-, h0w⟩:=DataW.trod_int Tryz.underlying3 f0;obtain⟨a1,h1,-, h1w⟩:=DataW.trod_int Tryz.underlying3 f1;obtain⟨a2,h2,-, h2w⟩:=DataW.trod_int Tryz.underlying3 f2;obtain⟨a3,h3,-, h3w⟩:=DataW.trod_int Tryz.underlying3 f3;simp only[List.cons.injEq,and_true]at h0 h1 h2 h3;subst h0;subst h1;subst h2;subst h3;refine⟨⟨a0,a1,a2,a3⟩,rfl,?_,?_⟩
 ·intro n hn;simp only[List.mem_cons,List.not_mem_nil,or_false]at hn;subst hn;exact ZN h0w
 ·intro n hn;simp only[List.mem_cons,List.not_mem_nil,or_false]at hn;rcases hn with rfl|rfl|rfl
  ·exact ZN h1w
  ·exact ZN h2w
  ·exact ZN h3w
theorem BQ{m:Nat}(b o:Nat):∀ (elems:List (DataW H × List MemPlace)) (k:Nat),(∀i,i<elems.length->(w.cells? 0 (⟨b,o+(k+i)*4,none⟩) 4).bind (DataW.trod enc Tryz.prog w 0 sp held m 28)=elems[i]?) ->
 ∃ l:List (Vol),l.length=elems.length/\(∀i (h:i<l.length) j,j<4->w.cell? ⟨b,o+(k+i)*4+j,none⟩=(volC l[i])[j]?)/\∀ x∈l,volI x
 |[],k,_=>⟨[],rfl,λi h=>by simp at h,λx hx=>by cases hx⟩
 |y::ys,k,h=>by
  have h0:=h 0 (by simp);simp only[List.getElem?_cons_zero,Option.bind_eq_some_iff]at h0;obtain⟨cs,hcs,ht⟩:=h0;obtain⟨r,rfl,hr⟩:=Zcx ht
  obtain⟨l,hl,hL,hI⟩:=BQ b o ys (k+1) (λi hi=>by
   have:=h (i+1) (by simp;omega);rw[List.getElem?_cons_succ]at this
   rw[<-this,show k+(i+1)=k+1+i by omega])
  refine⟨r::l,by simp[hl],λi hi j hj=>?_,λx hx=>by rcases List.mem_cons.1 hx with rfl|hx;exact hr;exact hI x hx⟩
  match i,hi with
  |0,_=>
   have:=(World.cells?_some hcs).2.2 j hj;rw[Xm]at this;simp only[Nat.add_zero]at this ⊢;rw[this]
   first|rfl|exact(List.getElem?_eq_getElem _).symm|simp
  |i+1,hi=>
   have:=hL i (by simpa using hi) j hj;rw[show k+(i+1)=k+1+i by omega];exact this
theorem Zcu{fuel:Nat}{c:Value}{x:DataW H × List MemPlace}(hf:DataW.trod enc Tryz.prog w 0 sp held fuel 26 [c]=some x)(hw:∀ n∈x.1.weights Tryz.prog 26,n<=reachBytes) :
 ∃ l:List (Vol),RowAt w 4 c (l.map volC)/\(∀x∈l,volI x)/\l.length*32<=140737488351232:=by
 have m0:reachBytes<=140737488355328:=by decide
 rcases DataW.trod_slice Tryz.underlying26 hf with⟨hc,-⟩|⟨a,len,cap,elems,rest,m,hm,hc,hy,-, hlc,hcm,hel,hee,-⟩
 ·simp only[List.cons.injEq,and_true]at hc;subst hc;exact⟨[],RowAt.nil w 4,(λx hx=>by cases hx),by simp⟩
 ·simp only[List.cons.injEq,and_true]at hc;subst hc
  have d0:elems.length*32<=reachBytes:=by
   subst hy;simp only[DataW.weights,Tryz.underlying26,ZaX,List.mem_cons,List.mem_append,List.length_map]at hw;have:=hw _ (.inl rfl);exact Nat.le_trans (Nat.mul_le_mul_right _ (Nat.le_add_right _ _)) this
  have e0:cap<=9223372036854775807:=by have:=hcm;simpa [maxLen] using this
  by_cases h0:len=0
  ·subst h0;exact⟨[],⟨some a,cap,rfl,Nat.zero_le _,e0,by simp,.inl rfl⟩,(λx hx=>by cases hx),by simp⟩
  ·have i0:=hee 0 (by omega);rw[UH]at hee i0
   obtain⟨y,hy0⟩:∃ y,elems[0]?=some y:=⟨elems[0]'(by omega),List.getElem?_eq_getElem _⟩
   rw[hy0,Option.bind_eq_some_iff]at i0;obtain⟨cs0,hcs0,-⟩:=i0;have b0:=(World.cells?_some hcs0).2.2 0 (by omega);have k0:=(World.cells?_some hcs0).2.1;obtain⟨b,o,spot⟩:=a
   have l0:spot=none:=by
    cases spot with
    |none=>rfl
    |some q=>
     rw[List.getElem?_eq_getElem (by omega)]at b0;simp only[Nat.zero_mul,Addr.add,if_true,World.cell?]at b0;split at b0
     ·simp at b0
     ·cases b0
   subst l0
   have g0:w.cell? ⟨b,o,none⟩=some (cs0[0]'(by omega)):=by
    rw[List.getElem?_eq_getElem (by omega)]at b0
    simpa [Addr.add] using b0
   have j0:=World.block_lt_of_cell? _ _ g0
   obtain⟨l,hll,hL,hI⟩:=BQ (enc:=enc) (sp:=sp) (held:=held) (m:=m) b o elems 0 (λi hi=>by
    have:=hee i (by omega);rw[Xm]at this
    rw[<-this,Nat.zero_add])
   refine⟨l,⟨some ⟨b,o,none⟩,cap,by rw[List.length_map,hll,hel],by rw[List.length_map];omega,e0,by rw[List.length_map];omega,.inr ⟨b,o,rfl,j0,λi hi j hj=>?_⟩⟩,hI,by rw[hll];exact d0⟩;rw[List.length_map]at hi;have:=hL i hi j hj;rw[Nat.zero_add]at this;rw[this,List.getElem_map]
theorem Wb:Tryz.prog.cellsOf 53=5:=by kernel_rfl
theorem Zcy:Tryz.prog.bytesOf 53=56:=by kernel_rfl
theorem Zit{fuel:Nat}{cs:List Value}{x:DataW H × List MemPlace}(h:DataW.trod enc Tryz.prog w 0 sp held fuel 53 cs=some x) :
 ∃ r:Ru,cs=ruC r/\ruI r:=by
 obtain⟨xs,n,-, rfl,hl,hlen,hf⟩:=DataW.trod_struct Tryz.underlying53 h;have f0:DataW.trod enc Tryz.prog w 0 sp held n 3 ((cs.drop 0).take (Tryz.prog.cellsOf 3))=xs[0]?:=hf 0 _ rfl;have f1:DataW.trod enc Tryz.prog w 0 sp held n 3 ((cs.drop 1).take (Tryz.prog.cellsOf 3))=xs[1]?:=hf 1 _ rfl;have f2:DataW.trod enc Tryz.prog w 0 sp held n 3 ((cs.drop 2).take (Tryz.prog.cellsOf 3))=xs[2]?:=hf 2 _ rfl;have f3:DataW.trod enc Tryz.prog w 0 sp held n 9 ((cs.drop 3).take (Tryz.prog.cellsOf 9))=xs[3]?:=hf 3 _ rfl;have f4:DataW.trod enc Tryz.prog w 0 sp held n 9 ((cs.drop 4).take (Tryz.prog.cellsOf 9))=xs[4]?:=hf 4 _ rfl;clear hf h;rw[Wb]at hl;obtain⟨y0,y1,y2,y3,y4,rfl⟩:=Ze2 hlen;obtain⟨c0,c1,c2,c3,c4,rfl⟩:=Ze2 hl;simp only[VO,VN,Nat.zero_mul,Nat.one_mul,List.drop_zero,List.drop_succ_cons,List.take_succ_cons,List.take_zero,List.getElem?_cons_zero,List.getElem?_cons_succ]at f0 f1 f2 f3 f4;obtain⟨a0,h0,-, h0w⟩:=DataW.trod_int Tryz.underlying3 f0;obtain⟨a1,h1,-, h1w⟩:=DataW.trod_int Tryz.underlying3 f1;obtain⟨a2,h2,-, h2w⟩:=DataW.trod_int Tryz.underlying3 f2;obtain⟨a3,h3,-, h3w⟩:=DataW.trod_string Tryz.underlying9 f3;obtain⟨a4,h4,-, h4w⟩:=DataW.trod_string Tryz.underlying9 f4;simp only[List.cons.injEq,and_true]at h0 h1 h2 h3 h4;subst h0;subst h1;subst h2;subst h3;subst h4;refine⟨⟨a0,a1,a2,a3,a4⟩,rfl,?_,by simpa [maxLen] using h3w,by simpa [maxLen] using h4w⟩;intro n hn;simp only[List.mem_cons,List.not_mem_nil,or_false]at hn;rcases hn with rfl|rfl|rfl
 ·exact ZN h0w
 ·exact ZN h1w
 ·exact ZN h2w
theorem Zcs{m:Nat}(b o:Nat):∀ (elems:List (DataW H × List MemPlace)) (k:Nat),(∀i,i<elems.length->(w.cells? 0 (⟨b,o+(k+i)*5,none⟩) 5).bind (DataW.trod enc Tryz.prog w 0 sp held m 53)=elems[i]?) ->
 ∃ l:List (Ru),l.length=elems.length/\(∀i (h:i<l.length) j,j<5->w.cell? ⟨b,o+(k+i)*5+j,none⟩=(ruC l[i])[j]?)/\∀ x∈l,ruI x
 |[],k,_=>⟨[],rfl,λi h=>by simp at h,λx hx=>by cases hx⟩
 |y::ys,k,h=>by
  have h0:=h 0 (by simp);simp only[List.getElem?_cons_zero,Option.bind_eq_some_iff]at h0;obtain⟨cs,hcs,ht⟩:=h0;obtain⟨r,rfl,hr⟩:=Zit ht
  obtain⟨l,hl,hL,hI⟩:=Zcs b o ys (k+1) (λi hi=>by
   have:=h (i+1) (by simp;omega);rw[List.getElem?_cons_succ]at this
   rw[<-this,show k+(i+1)=k+1+i by omega])
  refine⟨r::l,by simp[hl],λi hi j hj=>?_,λx hx=>by rcases List.mem_cons.1 hx with rfl|hx;exact hr;exact hI x hx⟩
  match i,hi with
  |0,_=>
   have:=(World.cells?_some hcs).2.2 j hj;rw[Xm]at this;simp only[Nat.add_zero]at this ⊢;rw[this]
   first|rfl|exact(List.getElem?_eq_getElem _).symm|simp
  |i+1,hi=>
   have:=hL i (by simpa using hi) j hj;rw[show k+(i+1)=k+1+i by omega];exact this
theorem Ze1{fuel:Nat}{c:Value}{x:DataW H × List MemPlace}(hf:DataW.trod enc Tryz.prog w 0 sp held fuel 29 [c]=some x)(hw:∀ n∈x.1.weights Tryz.prog 29,n<=reachBytes) :
 ∃ l:List (Ru),RowAt w 5 c (l.map ruC)/\(∀x∈l,ruI x)/\l.length*56<=140737488351232:=by
 have m0:reachBytes<=140737488355328:=by decide
 rcases DataW.trod_slice Tryz.underlying29 hf with⟨hc,-⟩|⟨a,len,cap,elems,rest,m,hm,hc,hy,-, hlc,hcm,hel,hee,-⟩
 ·simp only[List.cons.injEq,and_true]at hc;subst hc;exact⟨[],RowAt.nil w 5,(λx hx=>by cases hx),by simp⟩
 ·simp only[List.cons.injEq,and_true]at hc;subst hc
  have d0:elems.length*56<=reachBytes:=by
   subst hy;simp only[DataW.weights,Tryz.underlying29,Zcy,List.mem_cons,List.mem_append,List.length_map]at hw;have:=hw _ (.inl rfl);exact Nat.le_trans (Nat.mul_le_mul_right _ (Nat.le_add_right _ _)) this
  have e0:cap<=9223372036854775807:=by have:=hcm;simpa [maxLen] using this
  by_cases h0:len=0
  ·subst h0;exact⟨[],⟨some a,cap,rfl,Nat.zero_le _,e0,by simp,.inl rfl⟩,(λx hx=>by cases hx),by simp⟩
  ·have i0:=hee 0 (by omega);rw[Wb]at hee i0
   obtain⟨y,hy0⟩:∃ y,elems[0]?=some y:=⟨elems[0]'(by omega),List.getElem?_eq_getElem _⟩
   rw[hy0,Option.bind_eq_some_iff]at i0;obtain⟨cs0,hcs0,-⟩:=i0;have b0:=(World.cells?_some hcs0).2.2 0 (by omega);have k0:=(World.cells?_some hcs0).2.1;obtain⟨b,o,spot⟩:=a
   have l0:spot=none:=by
    cases spot with
    |none=>rfl
    |some q=>
     rw[List.getElem?_eq_getElem (by omega)]at b0;simp only[Nat.zero_mul,Addr.add,if_true,World.cell?]at b0;split at b0
     ·simp at b0
     ·cases b0
   subst l0
   have g0:w.cell? ⟨b,o,none⟩=some (cs0[0]'(by omega)):=by
    rw[List.getElem?_eq_getElem (by omega)]at b0
    simpa [Addr.add] using b0
   have j0:=World.block_lt_of_cell? _ _ g0
   obtain⟨l,hll,hL,hI⟩:=Zcs (enc:=enc) (sp:=sp) (held:=held) (m:=m) b o elems 0 (λi hi=>by
    have:=hee i (by omega);rw[Xm]at this
    rw[<-this,Nat.zero_add])
   refine⟨l,⟨some ⟨b,o,none⟩,cap,by rw[List.length_map,hll,hel],by rw[List.length_map];omega,e0,by rw[List.length_map];omega,.inr ⟨b,o,rfl,j0,λi hi j hj=>?_⟩⟩,hI,by rw[hll];exact d0⟩;rw[List.length_map]at hi;have:=hL i hi j hj;rw[Nat.zero_add]at this;rw[this,List.getElem_map]
theorem ZaT:Tryz.prog.cellsOf 9=1:=by kernel_rfl
theorem ZaZ:Tryz.prog.bytesOf 9=16:=by kernel_rfl
theorem Zg4{fuel:Nat}{cs:List Value}{x:DataW H × List MemPlace}(h:DataW.trod enc Tryz.prog w 0 sp held fuel 9 cs=some x) :
 ∃ r:ByteArray,cs=keyC r/\keyI r:=by
 obtain⟨a,ha,-, hs⟩:=DataW.trod_string Tryz.underlying9 h;subst ha;exact⟨a,rfl,by have:=hs;simpa [keyI,maxLen] using this⟩
theorem BS{m:Nat}(b o:Nat):∀ (elems:List (DataW H × List MemPlace)) (k:Nat),(∀i,i<elems.length->(w.cells? 0 (⟨b,o+(k+i)*1,none⟩) 1).bind (DataW.trod enc Tryz.prog w 0 sp held m 9)=elems[i]?) ->
 ∃ l:List (ByteArray),l.length=elems.length/\(∀i (h:i<l.length) j,j<1->w.cell? ⟨b,o+(k+i)*1+j,none⟩=(keyC l[i])[j]?)/\∀ x∈l,keyI x
 |[],k,_=>⟨[],rfl,λi h=>by simp at h,λx hx=>by cases hx⟩
 |y::ys,k,h=>by
  have h0:=h 0 (by simp);simp only[List.getElem?_cons_zero,Option.bind_eq_some_iff]at h0;obtain⟨cs,hcs,ht⟩:=h0;obtain⟨r,rfl,hr⟩:=Zg4 ht
  obtain⟨l,hl,hL,hI⟩:=BS b o ys (k+1) (λi hi=>by
   have:=h (i+1) (by simp;omega);rw[List.getElem?_cons_succ]at this
   rw[<-this,show k+(i+1)=k+1+i by omega])
  refine⟨r::l,by simp[hl],λi hi j hj=>?_,λx hx=>by rcases List.mem_cons.1 hx with rfl|hx;exact hr;exact hI x hx⟩
  match i,hi with
  |0,_=>
   have:=(World.cells?_some hcs).2.2 j hj;rw[Xm]at this;simp only[Nat.add_zero]at this ⊢;rw[this]
   first|rfl|exact(List.getElem?_eq_getElem _).symm|simp
  |i+1,hi=>
   have:=hL i (by simpa using hi) j hj;rw[show k+(i+1)=k+1+i by omega];exact this
theorem Zcw{fuel:Nat}{c:Value}{x:DataW H × List MemPlace}(hf:DataW.trod enc Tryz.prog w 0 sp held fuel 30 [c]=some x)(hw:∀ n∈x.1.weights Tryz.prog 30,n<=reachBytes) :
 ∃ l:List (ByteArray),RowAt w 1 c (l.map keyC)/\(∀x∈l,keyI x)/\l.length*16<=140737488351232:=by
 have m0:reachBytes<=140737488355328:=by decide
 rcases DataW.trod_slice Tryz.underlying30 hf with⟨hc,-⟩|⟨a,len,cap,elems,rest,m,hm,hc,hy,-, hlc,hcm,hel,hee,-⟩
 ·simp only[List.cons.injEq,and_true]at hc;subst hc;exact⟨[],RowAt.nil w 1,(λx hx=>by cases hx),by simp⟩
 ·simp only[List.cons.injEq,and_true]at hc;subst hc
  have d0:elems.length*16<=reachBytes:=by
   subst hy;simp only[DataW.weights,Tryz.underlying30,ZaZ,List.mem_cons,List.mem_append,List.length_map]at hw;have:=hw _ (.inl rfl);exact Nat.le_trans (Nat.mul_le_mul_right _ (Nat.le_add_right _ _)) this
  have e0:cap<=9223372036854775807:=by have:=hcm;simpa [maxLen] using this
  by_cases h0:len=0
  ·subst h0;exact⟨[],⟨some a,cap,rfl,Nat.zero_le _,e0,by simp,.inl rfl⟩,(λx hx=>by cases hx),by simp⟩
  ·have i0:=hee 0 (by omega);rw[ZaT]at hee i0
   obtain⟨y,hy0⟩:∃ y,elems[0]?=some y:=⟨elems[0]'(by omega),List.getElem?_eq_getElem _⟩
   rw[hy0,Option.bind_eq_some_iff]at i0;obtain⟨cs0,hcs0,-⟩:=i0;have b0:=(World.cells?_some hcs0).2.2 0 (by omega);have k0:=(World.cells?_some hcs0).2.1;obtain⟨b,o,spot⟩:=a
   have l0:spot=none:=by
    cases spot with
    |none=>rfl
    |some q=>
     rw[List.getElem?_eq_getElem (by omega)]at b0;simp only[Nat.zero_mul,Addr.add,if_true,World.cell?]at b0;split at b0
     ·simp at b0
     ·cases b0
   subst l0
   have g0:w.cell? ⟨b,o,none⟩=some (cs0[0]'(by omega)):=by
    rw[List.getElem?_eq_getElem (by omega)]at b0
    simpa [Addr.add] using b0
   have j0:=World.block_lt_of_cell? _ _ g0
   obtain⟨l,hll,hL,hI⟩:=BS (enc:=enc) (sp:=sp) (held:=held) (m:=m) b o elems 0 (λi hi=>by
    have:=hee i (by omega);rw[Xm]at this
    rw[<-this,Nat.zero_add])
   refine⟨l,⟨some ⟨b,o,none⟩,cap,by rw[List.length_map,hll,hel],by rw[List.length_map];omega,e0,by rw[List.length_map];omega,.inr ⟨b,o,rfl,j0,λi hi j hj=>?_⟩⟩,hI,by rw[hll];exact d0⟩;rw[List.length_map]at hi;have:=hL i hi j hj;rw[Nat.zero_add]at this;rw[this,List.getElem_map]
theorem ZaU:Tryz.prog.cellsOf 32=17:=by kernel_rfl
theorem Wd:Tryz.prog.cellsOf 22=1:=by kernel_rfl
theorem Wc:Tryz.prog.cellsOf 23=1:=by kernel_rfl
theorem DF:Tryz.prog.cellsOf 24=1:=by kernel_rfl
theorem DH:Tryz.prog.cellsOf 25=1:=by kernel_rfl
theorem DG:Tryz.prog.cellsOf 26=1:=by kernel_rfl
theorem ZaV:Tryz.prog.cellsOf 29=1:=by kernel_rfl
theorem DI:Tryz.prog.cellsOf 30=1:=by kernel_rfl
theorem ZfJ{base:Nat}{v:Value}{d:DataW H}{p:List MemPlace}(hok:Value.okWide Tryz.prog w .any base 32 v)(h:DataW.Trod enc Tryz.prog w 0 sp held 32 v d p)(hw:∀ n∈d.weights Tryz.prog 32,n<=reachBytes) :
 ∃ (c:Cfg) (cs:List Value),v=.agg cs.toArray/\CfgIn w cs c/\CfgI c/\CfgW c:=by
 obtain⟨fuel,hf0⟩:=h;simp only[Value.okWide,Tryz.underlying32]at hok;obtain⟨C,rfl,-, -⟩:=hok;simp only[Value.cells]at hf0
 obtain⟨cs,hcs⟩:∃ cs,C.toList=cs:=⟨_,rfl⟩
 rw[hcs]at hf0;obtain⟨xs,n,-, hx,hl,hlen,hf⟩:=DataW.trod_struct Tryz.underlying32 hf0;obtain⟨rfl,-⟩:=Prod.mk.inj hx;have f0:DataW.trod enc Tryz.prog w 0 sp held n 3 ((cs.drop 0).take (Tryz.prog.cellsOf 3))=xs[0]?:=hf 0 _ rfl;have f1:DataW.trod enc Tryz.prog w 0 sp held n 22 ((cs.drop 1).take (Tryz.prog.cellsOf 22))=xs[1]?:=hf 1 _ rfl;have f2:DataW.trod enc Tryz.prog w 0 sp held n 23 ((cs.drop 2).take (Tryz.prog.cellsOf 23))=xs[2]?:=hf 2 _ rfl;have f3:DataW.trod enc Tryz.prog w 0 sp held n 24 ((cs.drop 3).take (Tryz.prog.cellsOf 24))=xs[3]?:=hf 3 _ rfl;have f4:DataW.trod enc Tryz.prog w 0 sp held n 25 ((cs.drop 4).take (Tryz.prog.cellsOf 25))=xs[4]?:=hf 4 _ rfl;have f5:DataW.trod enc Tryz.prog w 0 sp held n 26 ((cs.drop 5).take (Tryz.prog.cellsOf 26))=xs[5]?:=hf 5 _ rfl;have f6:DataW.trod enc Tryz.prog w 0 sp held n 28 ((cs.drop 6).take (Tryz.prog.cellsOf 28))=xs[6]?:=hf 6 _ rfl;have f7:DataW.trod enc Tryz.prog w 0 sp held n 3 ((cs.drop 10).take (Tryz.prog.cellsOf 3))=xs[7]?:=hf 7 _ rfl;have f8:DataW.trod enc Tryz.prog w 0 sp held n 3 ((cs.drop 11).take (Tryz.prog.cellsOf 3))=xs[8]?:=hf 8 _ rfl;have f9:DataW.trod enc Tryz.prog w 0 sp held n 29 ((cs.drop 12).take (Tryz.prog.cellsOf 29))=xs[9]?:=hf 9 _ rfl;have f10:DataW.trod enc Tryz.prog w 0 sp held n 30 ((cs.drop 13).take (Tryz.prog.cellsOf 30))=xs[10]?:=hf 10 _ rfl;have f11:DataW.trod enc Tryz.prog w 0 sp held n 9 ((cs.drop 14).take (Tryz.prog.cellsOf 9))=xs[11]?:=hf 11 _ rfl;have f12:DataW.trod enc Tryz.prog w 0 sp held n 3 ((cs.drop 15).take (Tryz.prog.cellsOf 3))=xs[12]?:=hf 12 _ rfl;have f13:DataW.trod enc Tryz.prog w 0 sp held n 3 ((cs.drop 16).take (Tryz.prog.cellsOf 3))=xs[13]?:=hf 13 _ rfl;clear hf hf0;rw[ZaU]at hl;obtain⟨y0,y1,y2,y3,y4,y5,y6,y7,y8,y9,y10,y11,y12,y13,rfl⟩:=Zis hlen;obtain⟨c0,c1,c2,c3,c4,c5,c6,c7,c8,c9,c10,c11,c12,c13,c14,c15,c16,rfl⟩:=Zir hl;simp only[VO,VN,UH,Wd,Wc,DF,DH,DG,ZaV,DI,List.drop_zero,List.drop_succ_cons,List.take_succ_cons,List.take_zero,List.getElem?_cons_zero,List.getElem?_cons_succ]at f0 f1 f2 f3 f4 f5 f6 f7 f8 f9 f10 f11 f12 f13;simp only[DataW.weights,Tryz.underlying32]at hw;obtain⟨l1,r1,I1,J1⟩:=ZaS f1 (λn hn=>hw n (DataW.weights_mem_each (j:=1) (t:=22) (d:=y1.1) rfl rfl n hn));obtain⟨l2,r2,I2,J2⟩:=ZaR f2 (λn hn=>hw n (DataW.weights_mem_each (j:=2) (t:=23) (d:=y2.1) rfl rfl n hn));obtain⟨l3,r3,I3,J3⟩:=Zct f3 (λn hn=>hw n (DataW.weights_mem_each (j:=3) (t:=24) (d:=y3.1) rfl rfl n hn));obtain⟨l4,r4,I4,J4⟩:=Zcv f4 (λn hn=>hw n (DataW.weights_mem_each (j:=4) (t:=25) (d:=y4.1) rfl rfl n hn));obtain⟨l5,r5,I5,J5⟩:=Zcu f5 (λn hn=>hw n (DataW.weights_mem_each (j:=5) (t:=26) (d:=y5.1) rfl rfl n hn));obtain⟨l9,r9,I9,J9⟩:=Ze1 f9 (λn hn=>hw n (DataW.weights_mem_each (j:=9) (t:=29) (d:=y9.1) rfl rfl n hn));obtain⟨l10,r10,I10,J10⟩:=Zcw f10 (λn hn=>hw n (DataW.weights_mem_each (j:=10) (t:=30) (d:=y10.1) rfl rfl n hn));obtain⟨au,hau,Iau⟩:=Zcx f6;obtain⟨a0,h0,-, h0w⟩:=DataW.trod_int Tryz.underlying3 f0;obtain⟨a7,h7,-, h7w⟩:=DataW.trod_int Tryz.underlying3 f7;obtain⟨a8,h8,-, h8w⟩:=DataW.trod_int Tryz.underlying3 f8;obtain⟨a12,h12,-, h12w⟩:=DataW.trod_int Tryz.underlying3 f12;obtain⟨a13,h13,-, h13w⟩:=DataW.trod_int Tryz.underlying3 f13;obtain⟨a11,h11,-, h11w⟩:=DataW.trod_string Tryz.underlying9 f11;simp only[volC,List.cons.injEq,and_true]at hau h0 h7 h8 h11 h12 h13;obtain⟨q6,q7,q8,q9⟩:=hau;subst q6 q7 q8 q9 h0 h7 h8 h11 h12 h13;refine⟨⟨a0,l1,l2,l3,l4,l5,au,a7,a8,l9,l10,a11,a12,a13⟩,_,by rw[<-hcs],⟨⟨_,_,_,_,_,_,_,rfl,r1,r2,r3,r4,r5,r9,r10⟩⟩,?_,⟨J5,J4,J9⟩⟩;exact⟨ZN h0w,I1,I2,I3,I4,I5,Iau,ZN h7w,ZN h8w,I9,I10,by simpa [maxLen] using h11w,ZN h12w,ZN h13w⟩
