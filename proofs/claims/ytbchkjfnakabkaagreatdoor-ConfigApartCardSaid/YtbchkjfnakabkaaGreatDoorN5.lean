import Derived.Test.YtbchkjfnakabkaaGreatDoorY47
set_option linter.unusedSimpArgs false
set_option linter.unusedVariables false
set_option maxHeartbeats 1000000
set_option maxRecDepth 100000
namespace Go.Proofs.YtbchkjfnakabkaaGreatDoor
open Go.RowKit PX PC
def Ye{α:Type}(p:α->Bool):List α->Nat->Int
 |[],_=>-1
 |x::l,i=>if p x then(i:Int) else Ye p l (i+1)
theorem Xj{α:Type}(p:α->Bool):∀ (l:List α) (j i:Nat),(∀x∈l.take j,p x=false)->j<=l.length->Ye p l i=Ye p (l.drop j) (i+j)
 |l,0,i,_,_=>rfl
 |[],j+1,i,_,hl=>by simp at hl
 |x::r,j+1,i,h,hl=>by
  have h0:=h x (by simp);rw[Ye,h0,if_neg (by decide),Xj p r j (i+1) (λm hm=>h m (by simp[hm])) (by simpa using hl)];rw[List.drop_succ_cons,show i+1+j=i+(j+1) from by omega]
theorem Y0{α:Type}(p:α->Bool):∀ (l:List α) (i:Nat),decide (0<=Ye p l i)=l.any p
 |[],_=>rfl
 |x::l,i=>by
  unfold Ye;rw[List.any_cons];cases h:p x
  ·rw[if_neg (by decide),Bool.false_or];exact Y0 p l (i+1)
  ·rw[if_pos rfl,Bool.true_or];exact decide_eq_true (by omega)
theorem U2{α:Type}(p:α->Bool)(l:List α):(!l.any λx=>!p x)=l.all p:=by
 induction l with
 |nil=>rfl
 |cons x l ih=>simp only[List.any_cons,List.all_cons,Bool.not_or,Bool.not_not,ih]
def Zbx(x:Prt):Value:=.agg #[.int .i64 x.level,.int .i64 x.pages]
def winV(x:Win):Value:=.agg #[.int .i64 x.kind,.int .i64 x.index,.int .i64 x.ticks]
def porV(x:Por):Value:=.agg #[.int .i64 x.kind,.int .i64 x.fr,.int .i64 x.tu,.int .i64 x.size,.int .i64 x.depth]
def volV(x:Vol):Value:=.agg #[.int .i64 x.level,.int .i64 x.first,.int .i64 x.count,.int .i64 x.journal]
def ruV(x:Ru):Value:=.agg #[.int .i64 x.fr,.int .i64 x.tu,.int .i64 x.act,.string x.pat,.string x.wth]
def keyV(x:ByteArray):Value:=.string x
def Yu{α:Type}(V:α->Value)(l:List α)(g:FuncId)(caps:Array Value)(p:α->Bool)(w:World):Prop:=
 ∀ w1,Later w w1->∀ x∈l,Calls Tryz.prog g (#[V x]++caps) w1 λe w'=>e=.returned (.bool (p x))/\Later w1 w'
theorem ZfN(w:World)(sb:Nat)(g:FuncId)(caps:Array Value)(eg:∀ args w,(callFunc g args).run Tryz.prog w=.ok (.enter g args) w)(x:Prt)(b:Bool)(hs:w.cell? ⟨sb,0,none⟩=some (.func (.func g) #[] caps))
 (hf:∀ w1,Later w w1->Calls Tryz.prog g (#[Zbx x]++caps) w1 λe w'=>e=.returned (.bool b)/\Later w1 w') :
 Calls Tryz.prog 138 #[Zbx x,.pointer (some ⟨sb,0,none⟩)] w λe w'=>e=.returned (.bool (!b))/\Later w w':=by
 have r0:=World.block_lt_of_cell? w _ hs;obtain⟨x1,x2⟩:=x;have HF:=Hd (show ∀w1,Later w w1->Calls Tryz.prog g (#[.agg #[.int .i64 x1,.int .i64 x2]]++caps) w1 λe w'=>e=.returned (.bool b)/\Later w1 w' from hf);clear hf;show Calls Tryz.prog 138 #[.agg #[.int .i64 x1,.int .i64 x2],.pointer (some ⟨sb,0,none⟩)] w _
 go_enter Tryz.func138,Tryz.ntmps138
 go_wp2_with (first
  |(go_at_fn g;(with_reducible refine(HF.out _ ((Later.refl w).alloc _)).mono ?_);rintro e w1 ⟨rfl,b0⟩)
  |fail)
 go_ret
 exact⟨rfl,((Later.refl w).alloc _).trans b0⟩
theorem Zf8(w:World)(v:Value)(l:List (Prt))(hrow:RowAt w 2 v (l.map XQ))(sb:Nat)(p:Prt->Bool)(hl:l.length<=140737488355328)
 (hf:Yu Zbx l 138 #[.pointer (some ⟨sb,0,none⟩)] p w) :
 Calls Tryz.prog 157 #[v,.func (.func 138) #[] #[.pointer (some ⟨sb,0,none⟩)]] w λe w'=>e=.returned (.int .i64 (Ye p l 0))/\Later w w':=by
 obtain⟨a,cap,rfl,b0,hl2,hl3⟩:=Zl hrow;have e0:=Hd hrow;have HF:=Hd hf;clear hrow hf
 go_enter Tryz.func157,Tryz.ntmps157
 go_wp2_with fail
 go_loopw [8] (λvi wr=>∃ j:Nat,j<=l.length/\vi=.int .i64 (j:Int)/\(∀x∈l.take j,p x=false)/\Later w wr) (λvi _=>l.length - (intOf vi).toNat)
 case atStart=>exact⟨0,by omega,rfl,λx hx=>by simp at hx,Later.refl _⟩
 case round=>
  obtain⟨j,hj,rfl,hno,hb⟩:=hrel;have i0:=Hd hno;clear hno;by_cases hlt:j<l.length
  ·obtain⟨b,o,rfl,hb',hc⟩:=Zz (e0.out.later hb) hlt;have a0:=List.getElem_mem hlt;have j0:=List.take_succ_eq_append_getElem hlt;have g0:=List.drop_eq_getElem_cons hlt
   obtain⟨x,hx⟩:∃ x,l[j]=x:=⟨_,rfl⟩
   rw[hx]at hc j0 a0 g0;have k0:=Hd (HF.out wr hb x a0);have q0:=Hd j0;have p0:=Hd g0
   obtain⟨px,hpx⟩:∃ px,p x=px:=⟨_,rfl⟩
   rw[hpx]at k0;have l0:=Hd hpx;clear hx j0 g0 a0 hpx;obtain⟨x1,x2⟩:=x;have c0:=hc 0 (by omega);have c1:=hc 1 (by omega);simp only[XQ,List.getElem?_cons_zero,List.getElem?_cons_succ,Nat.add_zero,Nat.mul_one]at c0 c1;clear hc;have n0:=Hd (show Calls Tryz.prog 138 #[.agg #[.int .i64 x1,.int .i64 x2],.pointer (some ⟨sb,0,none⟩)] wr _ from k0.out);cases px
   ·go_wp2_with (first
     |(go_at_call 138;(with_reducible refine n0.out.mono ?_);rintro e w1 ⟨rfl,hb1⟩)
     |fail)
    refine⟨⟨j+1,by omega,by simp,λy hy=>?_,hb.trans hb1⟩,by simp only[intOf];omega⟩;rw[q0.out]at hy;rcases List.mem_append.1 hy with hy|hy
    ·exact i0.out y hy
    ·rw[List.mem_singleton.1 hy];exact l0.out
   ·go_wp2_with (first
     |(go_at_call 138;(with_reducible refine n0.out.mono ?_);rintro e w1 ⟨rfl,hb1⟩)
     |fail)
    go_ret
    refine⟨ZT ?_,hb.trans hb1⟩;rw[Xj p l j 0 i0.out hj,p0.out,Ye,l0.out,if_pos rfl,Nat.zero_add]
  ·go_wp2_with fail
   go_ret
   refine⟨ZT ?_,hb⟩;rw[Xj p l j 0 i0.out hj,List.drop_eq_nil_of_le (by omega),Ye]
theorem Zgq(w:World)(v:Value)(l:List (Prt))(hrow:RowAt w 2 v (l.map XQ))(sb:Nat)(p:Prt->Bool)(hl:l.length<=140737488355328)
 (hf:Yu Zbx l 138 #[.pointer (some ⟨sb,0,none⟩)] p w) :
 Calls Tryz.prog 137 #[v,.func (.func 138) #[] #[.pointer (some ⟨sb,0,none⟩)]] w λe w'=>e=.returned (.bool (l.any p))/\Later w w':=by
 have HI:=Hd (Zf8 w v l hrow sb p hl hf);have m0:=Y0 p l 0
 obtain⟨r,hr⟩:∃ r,Ye p l 0=r:=⟨_,rfl⟩
 rw[hr]at HI m0
 obtain⟨b,hb⟩:∃ b,l.any p=b:=⟨_,rfl⟩
 rw[hb]at m0 ⊢;clear hrow hf hr hb
 go_enter Tryz.func137,Tryz.ntmps137
 go_wp2_with (first
  |(go_at_call 157;(with_reducible refine HI.out.mono ?_);rintro e w1 ⟨rfl,hb1⟩)
  |fail)
 go_ret
 exact⟨rfl,hb1⟩
theorem ZgE(w:World)(v:Value)(l:List (Prt))(hrow:RowAt w 2 v (l.map XQ))(g:FuncId)(caps:Array Value)(eg:∀ args w,(callFunc g args).run Tryz.prog w=.ok (.enter g args) w)(p:Prt->Bool)(hl:l.length<=140737488355328)
 (hf:Yu Zbx l g caps p w) :
 Calls Tryz.prog 107 #[v,.func (.func g) #[] caps] w λe w'=>e=.returned (.bool (l.all p))/\Later w w':=by
 obtain⟨w1,hw1⟩:∃ w1,w.alloc (.cells #[.func (.func g) #[] caps] 156)=w1:=⟨_,rfl⟩
 have b0:Later w w1:=by rw[<-hw1];exact(Later.refl w).alloc _
 obtain⟨sb,hsb⟩:∃ sb,w.heap.size=sb:=⟨_,rfl⟩
 have d0:w1.heap[sb]?=some (.cells #[.func (.func g) #[] caps] 156 (0,0)):=by rw[<-hw1];exact Zq hsb
 have HC:=Hd (Zgq w1 v l (hrow.later b0) sb (λx=>!p x) hl (λw2 h2 x hx=>ZfN w2 sb g caps eg x (p x) (Za (h2.block d0) 0) (λw3 h3=>hf w3 ((b0.trans h2).trans h3) x hx)));have f0:=U2 p l
 obtain⟨b,hb⟩:∃ b,(l.any λx=>!p x)=b:=⟨_,rfl⟩
 rw[hb]at HC f0;rw[<-f0];have o0:=Hd hw1;clear hrow hf hb f0 d0 hw1 eg
 go_enter Tryz.func107,Tryz.ntmps107
 go_upto_region 1 with fail
 rw[o0.out]
 go_wp2_with (first
  |(go_at_call 137;(with_reducible refine HC.out.mono ?_);rintro e w2 ⟨rfl,hl2⟩)
  |fail)
 go_ret
 exact⟨rfl,b0.trans hl2⟩
theorem Zhw(w:World)(sb:Nat)(g:FuncId)(caps:Array Value)(eg:∀ args w,(callFunc g args).run Tryz.prog w=.ok (.enter g args) w)(x:Win)(b:Bool)(hs:w.cell? ⟨sb,0,none⟩=some (.func (.func g) #[] caps))
 (hf:∀ w1,Later w w1->Calls Tryz.prog g (#[winV x]++caps) w1 λe w'=>e=.returned (.bool b)/\Later w1 w') :
 Calls Tryz.prog 140 #[winV x,.pointer (some ⟨sb,0,none⟩)] w λe w'=>e=.returned (.bool (!b))/\Later w w':=by
 have r0:=World.block_lt_of_cell? w _ hs;obtain⟨x1,x2,x3⟩:=x;have HF:=Hd (show ∀w1,Later w w1->Calls Tryz.prog g (#[.agg #[.int .i64 x1,.int .i64 x2,.int .i64 x3]]++caps) w1 λe w'=>e=.returned (.bool b)/\Later w1 w' from hf);clear hf;show Calls Tryz.prog 140 #[.agg #[.int .i64 x1,.int .i64 x2,.int .i64 x3],.pointer (some ⟨sb,0,none⟩)] w _
 go_enter Tryz.func140,Tryz.ntmps140
 go_wp2_with (first
  |(go_at_fn g;(with_reducible refine(HF.out _ ((Later.refl w).alloc _)).mono ?_);rintro e w1 ⟨rfl,b0⟩)
  |fail)
 go_ret
 exact⟨rfl,((Later.refl w).alloc _).trans b0⟩
theorem ZhJ(w:World)(v:Value)(l:List (Win))(hrow:RowAt w 3 v (l.map winC))(sb:Nat)(p:Win->Bool)(hl:l.length<=140737488355328)
 (hf:Yu winV l 140 #[.pointer (some ⟨sb,0,none⟩)] p w) :
 Calls Tryz.prog 158 #[v,.func (.func 140) #[] #[.pointer (some ⟨sb,0,none⟩)]] w λe w'=>e=.returned (.int .i64 (Ye p l 0))/\Later w w':=by
 obtain⟨a,cap,rfl,b0,hl2,hl3⟩:=Zl hrow;have e0:=Hd hrow;have HF:=Hd hf;clear hrow hf
 go_enter Tryz.func158,Tryz.ntmps158
 go_wp2_with fail
 go_loopw [8] (λvi wr=>∃ j:Nat,j<=l.length/\vi=.int .i64 (j:Int)/\(∀x∈l.take j,p x=false)/\Later w wr) (λvi _=>l.length - (intOf vi).toNat)
 case atStart=>exact⟨0,by omega,rfl,λx hx=>by simp at hx,Later.refl _⟩
 case round=>
  obtain⟨j,hj,rfl,hno,hb⟩:=hrel;have i0:=Hd hno;clear hno;by_cases hlt:j<l.length
  ·obtain⟨b,o,rfl,hb',hc⟩:=Zz (e0.out.later hb) hlt;have a0:=List.getElem_mem hlt;have j0:=List.take_succ_eq_append_getElem hlt;have g0:=List.drop_eq_getElem_cons hlt
   obtain⟨x,hx⟩:∃ x,l[j]=x:=⟨_,rfl⟩
   rw[hx]at hc j0 a0 g0;have k0:=Hd (HF.out wr hb x a0);have q0:=Hd j0;have p0:=Hd g0
   obtain⟨px,hpx⟩:∃ px,p x=px:=⟨_,rfl⟩
   rw[hpx]at k0;have l0:=Hd hpx;clear hx j0 g0 a0 hpx;obtain⟨x1,x2,x3⟩:=x;have c0:=hc 0 (by omega);have c1:=hc 1 (by omega);have c2:=hc 2 (by omega);simp only[winC,List.getElem?_cons_zero,List.getElem?_cons_succ,Nat.add_zero,Nat.mul_one]at c0 c1 c2;clear hc;have n0:=Hd (show Calls Tryz.prog 140 #[.agg #[.int .i64 x1,.int .i64 x2,.int .i64 x3],.pointer (some ⟨sb,0,none⟩)] wr _ from k0.out);cases px
   ·go_wp2_with (first
     |(go_at_call 140;(with_reducible refine n0.out.mono ?_);rintro e w1 ⟨rfl,hb1⟩)
     |fail)
    refine⟨⟨j+1,by omega,by simp,λy hy=>?_,hb.trans hb1⟩,by simp only[intOf];omega⟩;rw[q0.out]at hy;rcases List.mem_append.1 hy with hy|hy
    ·exact i0.out y hy
    ·rw[List.mem_singleton.1 hy];exact l0.out
   ·go_wp2_with (first
     |(go_at_call 140;(with_reducible refine n0.out.mono ?_);rintro e w1 ⟨rfl,hb1⟩)
     |fail)
    go_ret
    refine⟨ZT ?_,hb.trans hb1⟩;rw[Xj p l j 0 i0.out hj,p0.out,Ye,l0.out,if_pos rfl,Nat.zero_add]
  ·go_wp2_with fail
   go_ret
   refine⟨ZT ?_,hb⟩;rw[Xj p l j 0 i0.out hj,List.drop_eq_nil_of_le (by omega),Ye]
theorem Zh8(w:World)(v:Value)(l:List (Win))(hrow:RowAt w 3 v (l.map winC))(sb:Nat)(p:Win->Bool)(hl:l.length<=140737488355328)
 (hf:Yu winV l 140 #[.pointer (some ⟨sb,0,none⟩)] p w) :
 Calls Tryz.prog 139 #[v,.func (.func 140) #[] #[.pointer (some ⟨sb,0,none⟩)]] w λe w'=>e=.returned (.bool (l.any p))/\Later w w':=by
 have HI:=Hd (ZhJ w v l hrow sb p hl hf);have m0:=Y0 p l 0
 obtain⟨r,hr⟩:∃ r,Ye p l 0=r:=⟨_,rfl⟩
 rw[hr]at HI m0
 obtain⟨b,hb⟩:∃ b,l.any p=b:=⟨_,rfl⟩
 rw[hb]at m0 ⊢;clear hrow hf hr hb
 go_enter Tryz.func139,Tryz.ntmps139
 go_wp2_with (first
  |(go_at_call 158;(with_reducible refine HI.out.mono ?_);rintro e w1 ⟨rfl,hb1⟩)
  |fail)
 go_ret
 exact⟨rfl,hb1⟩
theorem Zii(w:World)(v:Value)(l:List (Win))(hrow:RowAt w 3 v (l.map winC))(g:FuncId)(caps:Array Value)(eg:∀ args w,(callFunc g args).run Tryz.prog w=.ok (.enter g args) w)(p:Win->Bool)(hl:l.length<=140737488355328)
 (hf:Yu winV l g caps p w) :
 Calls Tryz.prog 112 #[v,.func (.func g) #[] caps] w λe w'=>e=.returned (.bool (l.all p))/\Later w w':=by
 obtain⟨w1,hw1⟩:∃ w1,w.alloc (.cells #[.func (.func g) #[] caps] 158)=w1:=⟨_,rfl⟩
 have b0:Later w w1:=by rw[<-hw1];exact(Later.refl w).alloc _
 obtain⟨sb,hsb⟩:∃ sb,w.heap.size=sb:=⟨_,rfl⟩
 have d0:w1.heap[sb]?=some (.cells #[.func (.func g) #[] caps] 158 (0,0)):=by rw[<-hw1];exact Zq hsb
 have HC:=Hd (Zh8 w1 v l (hrow.later b0) sb (λx=>!p x) hl (λw2 h2 x hx=>Zhw w2 sb g caps eg x (p x) (Za (h2.block d0) 0) (λw3 h3=>hf w3 ((b0.trans h2).trans h3) x hx)));have f0:=U2 p l
 obtain⟨b,hb⟩:∃ b,(l.any λx=>!p x)=b:=⟨_,rfl⟩
 rw[hb]at HC f0;rw[<-f0];have o0:=Hd hw1;clear hrow hf hb f0 d0 hw1 eg
 go_enter Tryz.func112,Tryz.ntmps112
 go_upto_region 1 with fail
 rw[o0.out]
 go_wp2_with (first
  |(go_at_call 139;(with_reducible refine HC.out.mono ?_);rintro e w2 ⟨rfl,hl2⟩)
  |fail)
 go_ret
 exact⟨rfl,b0.trans hl2⟩
theorem Zhy(w:World)(sb:Nat)(g:FuncId)(caps:Array Value)(eg:∀ args w,(callFunc g args).run Tryz.prog w=.ok (.enter g args) w)(x:Por)(b:Bool)(hs:w.cell? ⟨sb,0,none⟩=some (.func (.func g) #[] caps))
 (hf:∀ w1,Later w w1->Calls Tryz.prog g (#[porV x]++caps) w1 λe w'=>e=.returned (.bool b)/\Later w1 w') :
 Calls Tryz.prog 142 #[porV x,.pointer (some ⟨sb,0,none⟩)] w λe w'=>e=.returned (.bool (!b))/\Later w w':=by
 have r0:=World.block_lt_of_cell? w _ hs;obtain⟨x1,x2,x3,x4,x5⟩:=x;have HF:=Hd (show ∀w1,Later w w1->Calls Tryz.prog g (#[.agg #[.int .i64 x1,.int .i64 x2,.int .i64 x3,.int .i64 x4,.int .i64 x5]]++caps) w1 λe w'=>e=.returned (.bool b)/\Later w1 w' from hf);clear hf;show Calls Tryz.prog 142 #[.agg #[.int .i64 x1,.int .i64 x2,.int .i64 x3,.int .i64 x4,.int .i64 x5],.pointer (some ⟨sb,0,none⟩)] w _
 go_enter Tryz.func142,Tryz.ntmps142
 go_wp2_with (first
  |(go_at_fn g;(with_reducible refine(HF.out _ ((Later.refl w).alloc _)).mono ?_);rintro e w1 ⟨rfl,b0⟩)
  |fail)
 go_ret
 exact⟨rfl,((Later.refl w).alloc _).trans b0⟩
theorem ZhL(w:World)(v:Value)(l:List (Por))(hrow:RowAt w 5 v (l.map porC))(sb:Nat)(p:Por->Bool)(hl:l.length<=140737488355328)
 (hf:Yu porV l 142 #[.pointer (some ⟨sb,0,none⟩)] p w) :
 Calls Tryz.prog 159 #[v,.func (.func 142) #[] #[.pointer (some ⟨sb,0,none⟩)]] w λe w'=>e=.returned (.int .i64 (Ye p l 0))/\Later w w':=by
 obtain⟨a,cap,rfl,b0,hl2,hl3⟩:=Zl hrow;have e0:=Hd hrow;have HF:=Hd hf;clear hrow hf
 go_enter Tryz.func159,Tryz.ntmps159
 go_wp2_with fail
 go_loopw [8] (λvi wr=>∃ j:Nat,j<=l.length/\vi=.int .i64 (j:Int)/\(∀x∈l.take j,p x=false)/\Later w wr) (λvi _=>l.length - (intOf vi).toNat)
 case atStart=>exact⟨0,by omega,rfl,λx hx=>by simp at hx,Later.refl _⟩
 case round=>
  obtain⟨j,hj,rfl,hno,hb⟩:=hrel;have i0:=Hd hno;clear hno;by_cases hlt:j<l.length
  ·obtain⟨b,o,rfl,hb',hc⟩:=Zz (e0.out.later hb) hlt;have a0:=List.getElem_mem hlt;have j0:=List.take_succ_eq_append_getElem hlt;have g0:=List.drop_eq_getElem_cons hlt
   obtain⟨x,hx⟩:∃ x,l[j]=x:=⟨_,rfl⟩
   rw[hx]at hc j0 a0 g0;have k0:=Hd (HF.out wr hb x a0);have q0:=Hd j0;have p0:=Hd g0
   obtain⟨px,hpx⟩:∃ px,p x=px:=⟨_,rfl⟩
   rw[hpx]at k0;have l0:=Hd hpx;clear hx j0 g0 a0 hpx;obtain⟨x1,x2,x3,x4,x5⟩:=x;have c0:=hc 0 (by omega);have c1:=hc 1 (by omega);have c2:=hc 2 (by omega);have c3:=hc 3 (by omega);have c4:=hc 4 (by omega);simp only[porC,List.getElem?_cons_zero,List.getElem?_cons_succ,Nat.add_zero,Nat.mul_one]at c0 c1 c2 c3 c4;clear hc;have n0:=Hd (show Calls Tryz.prog 142 #[.agg #[.int .i64 x1,.int .i64 x2,.int .i64 x3,.int .i64 x4,.int .i64 x5],.pointer (some ⟨sb,0,none⟩)] wr _ from k0.out);cases px
   ·go_wp2_with (first
     |(go_at_call 142;(with_reducible refine n0.out.mono ?_);rintro e w1 ⟨rfl,hb1⟩)
     |fail)
    refine⟨⟨j+1,by omega,by simp,λy hy=>?_,hb.trans hb1⟩,by simp only[intOf];omega⟩;rw[q0.out]at hy;rcases List.mem_append.1 hy with hy|hy
    ·exact i0.out y hy
    ·rw[List.mem_singleton.1 hy];exact l0.out
   ·go_wp2_with (first
     |(go_at_call 142;(with_reducible refine n0.out.mono ?_);rintro e w1 ⟨rfl,hb1⟩)
     |fail)
    go_ret
    refine⟨ZT ?_,hb.trans hb1⟩;rw[Xj p l j 0 i0.out hj,p0.out,Ye,l0.out,if_pos rfl,Nat.zero_add]
  ·go_wp2_with fail
   go_ret
   refine⟨ZT ?_,hb⟩;rw[Xj p l j 0 i0.out hj,List.drop_eq_nil_of_le (by omega),Ye]
theorem Zia(w:World)(v:Value)(l:List (Por))(hrow:RowAt w 5 v (l.map porC))(sb:Nat)(p:Por->Bool)(hl:l.length<=140737488355328)
 (hf:Yu porV l 142 #[.pointer (some ⟨sb,0,none⟩)] p w) :
 Calls Tryz.prog 141 #[v,.func (.func 142) #[] #[.pointer (some ⟨sb,0,none⟩)]] w λe w'=>e=.returned (.bool (l.any p))/\Later w w':=by
 have HI:=Hd (ZhL w v l hrow sb p hl hf);have m0:=Y0 p l 0
 obtain⟨r,hr⟩:∃ r,Ye p l 0=r:=⟨_,rfl⟩
 rw[hr]at HI m0
 obtain⟨b,hb⟩:∃ b,l.any p=b:=⟨_,rfl⟩
 rw[hb]at m0 ⊢;clear hrow hf hr hb
 go_enter Tryz.func141,Tryz.ntmps141
 go_wp2_with (first
  |(go_at_call 159;(with_reducible refine HI.out.mono ?_);rintro e w1 ⟨rfl,hb1⟩)
  |fail)
 go_ret
 exact⟨rfl,hb1⟩
theorem Zij(w:World)(v:Value)(l:List (Por))(hrow:RowAt w 5 v (l.map porC))(g:FuncId)(caps:Array Value)(eg:∀ args w,(callFunc g args).run Tryz.prog w=.ok (.enter g args) w)(p:Por->Bool)(hl:l.length<=140737488355328)
 (hf:Yu porV l g caps p w) :
 Calls Tryz.prog 114 #[v,.func (.func g) #[] caps] w λe w'=>e=.returned (.bool (l.all p))/\Later w w':=by
 obtain⟨w1,hw1⟩:∃ w1,w.alloc (.cells #[.func (.func g) #[] caps] 161)=w1:=⟨_,rfl⟩
 have b0:Later w w1:=by rw[<-hw1];exact(Later.refl w).alloc _
 obtain⟨sb,hsb⟩:∃ sb,w.heap.size=sb:=⟨_,rfl⟩
 have d0:w1.heap[sb]?=some (.cells #[.func (.func g) #[] caps] 161 (0,0)):=by rw[<-hw1];exact Zq hsb
 have HC:=Hd (Zia w1 v l (hrow.later b0) sb (λx=>!p x) hl (λw2 h2 x hx=>Zhy w2 sb g caps eg x (p x) (Za (h2.block d0) 0) (λw3 h3=>hf w3 ((b0.trans h2).trans h3) x hx)));have f0:=U2 p l
 obtain⟨b,hb⟩:∃ b,(l.any λx=>!p x)=b:=⟨_,rfl⟩
 rw[hb]at HC f0;rw[<-f0];have o0:=Hd hw1;clear hrow hf hb f0 d0 hw1 eg
 go_enter Tryz.func114,Tryz.ntmps114
 go_upto_region 1 with fail
 rw[o0.out]
 go_wp2_with (first
  |(go_at_call 141;(with_reducible refine HC.out.mono ?_);rintro e w2 ⟨rfl,hl2⟩)
  |fail)
 go_ret
 exact⟨rfl,b0.trans hl2⟩
theorem Zhx(w:World)(sb:Nat)(g:FuncId)(caps:Array Value)(eg:∀ args w,(callFunc g args).run Tryz.prog w=.ok (.enter g args) w)(x:Vol)(b:Bool)(hs:w.cell? ⟨sb,0,none⟩=some (.func (.func g) #[] caps))
 (hf:∀ w1,Later w w1->Calls Tryz.prog g (#[volV x]++caps) w1 λe w'=>e=.returned (.bool b)/\Later w1 w') :
 Calls Tryz.prog 145 #[volV x,.pointer (some ⟨sb,0,none⟩)] w λe w'=>e=.returned (.bool (!b))/\Later w w':=by
 have r0:=World.block_lt_of_cell? w _ hs;obtain⟨x1,x2,x3,x4⟩:=x;have HF:=Hd (show ∀w1,Later w w1->Calls Tryz.prog g (#[.agg #[.int .i64 x1,.int .i64 x2,.int .i64 x3,.int .i64 x4]]++caps) w1 λe w'=>e=.returned (.bool b)/\Later w1 w' from hf);clear hf;show Calls Tryz.prog 145 #[.agg #[.int .i64 x1,.int .i64 x2,.int .i64 x3,.int .i64 x4],.pointer (some ⟨sb,0,none⟩)] w _
 go_enter Tryz.func145,Tryz.ntmps145
 go_wp2_with (first
  |(go_at_fn g;(with_reducible refine(HF.out _ ((Later.refl w).alloc _)).mono ?_);rintro e w1 ⟨rfl,b0⟩)
  |fail)
 go_ret
 exact⟨rfl,((Later.refl w).alloc _).trans b0⟩
theorem ZhK(w:World)(v:Value)(l:List (Vol))(hrow:RowAt w 4 v (l.map volC))(sb:Nat)(p:Vol->Bool)(hl:l.length<=140737488355328)
 (hf:Yu volV l 145 #[.pointer (some ⟨sb,0,none⟩)] p w) :
 Calls Tryz.prog 160 #[v,.func (.func 145) #[] #[.pointer (some ⟨sb,0,none⟩)]] w λe w'=>e=.returned (.int .i64 (Ye p l 0))/\Later w w':=by
 obtain⟨a,cap,rfl,b0,hl2,hl3⟩:=Zl hrow;have e0:=Hd hrow;have HF:=Hd hf;clear hrow hf
 go_enter Tryz.func160,Tryz.ntmps160
 go_wp2_with fail
 go_loopw [8] (λvi wr=>∃ j:Nat,j<=l.length/\vi=.int .i64 (j:Int)/\(∀x∈l.take j,p x=false)/\Later w wr) (λvi _=>l.length - (intOf vi).toNat)
 case atStart=>exact⟨0,by omega,rfl,λx hx=>by simp at hx,Later.refl _⟩
 case round=>
  obtain⟨j,hj,rfl,hno,hb⟩:=hrel;have i0:=Hd hno;clear hno;by_cases hlt:j<l.length
  ·obtain⟨b,o,rfl,hb',hc⟩:=Zz (e0.out.later hb) hlt;have a0:=List.getElem_mem hlt;have j0:=List.take_succ_eq_append_getElem hlt;have g0:=List.drop_eq_getElem_cons hlt
   obtain⟨x,hx⟩:∃ x,l[j]=x:=⟨_,rfl⟩
   rw[hx]at hc j0 a0 g0;have k0:=Hd (HF.out wr hb x a0);have q0:=Hd j0;have p0:=Hd g0
   obtain⟨px,hpx⟩:∃ px,p x=px:=⟨_,rfl⟩
   rw[hpx]at k0;have l0:=Hd hpx;clear hx j0 g0 a0 hpx;obtain⟨x1,x2,x3,x4⟩:=x;have c0:=hc 0 (by omega);have c1:=hc 1 (by omega);have c2:=hc 2 (by omega);have c3:=hc 3 (by omega);simp only[volC,List.getElem?_cons_zero,List.getElem?_cons_succ,Nat.add_zero,Nat.mul_one]at c0 c1 c2 c3;clear hc;have n0:=Hd (show Calls Tryz.prog 145 #[.agg #[.int .i64 x1,.int .i64 x2,.int .i64 x3,.int .i64 x4],.pointer (some ⟨sb,0,none⟩)] wr _ from k0.out);cases px
   ·go_wp2_with (first
     |(go_at_call 145;(with_reducible refine n0.out.mono ?_);rintro e w1 ⟨rfl,hb1⟩)
     |fail)
    refine⟨⟨j+1,by omega,by simp,λy hy=>?_,hb.trans hb1⟩,by simp only[intOf];omega⟩;rw[q0.out]at hy;rcases List.mem_append.1 hy with hy|hy
    ·exact i0.out y hy
    ·rw[List.mem_singleton.1 hy];exact l0.out
   ·go_wp2_with (first
     |(go_at_call 145;(with_reducible refine n0.out.mono ?_);rintro e w1 ⟨rfl,hb1⟩)
     |fail)
    go_ret
    refine⟨ZT ?_,hb.trans hb1⟩;rw[Xj p l j 0 i0.out hj,p0.out,Ye,l0.out,if_pos rfl,Nat.zero_add]
  ·go_wp2_with fail
   go_ret
   refine⟨ZT ?_,hb⟩;rw[Xj p l j 0 i0.out hj,List.drop_eq_nil_of_le (by omega),Ye]
theorem Zh9(w:World)(v:Value)(l:List (Vol))(hrow:RowAt w 4 v (l.map volC))(sb:Nat)(p:Vol->Bool)(hl:l.length<=140737488355328)
 (hf:Yu volV l 145 #[.pointer (some ⟨sb,0,none⟩)] p w) :
 Calls Tryz.prog 144 #[v,.func (.func 145) #[] #[.pointer (some ⟨sb,0,none⟩)]] w λe w'=>e=.returned (.bool (l.any p))/\Later w w':=by
 have HI:=Hd (ZhK w v l hrow sb p hl hf);have m0:=Y0 p l 0
 obtain⟨r,hr⟩:∃ r,Ye p l 0=r:=⟨_,rfl⟩
 rw[hr]at HI m0
 obtain⟨b,hb⟩:∃ b,l.any p=b:=⟨_,rfl⟩
 rw[hb]at m0 ⊢;clear hrow hf hr hb
 go_enter Tryz.func144,Tryz.ntmps144
 go_wp2_with (first
  |(go_at_call 160;(with_reducible refine HI.out.mono ?_);rintro e w1 ⟨rfl,hb1⟩)
  |fail)
 go_ret
 exact⟨rfl,hb1⟩
theorem Q2(w:World)(v:Value)(l:List (Vol))(hrow:RowAt w 4 v (l.map volC))(g:FuncId)(caps:Array Value)(eg:∀ args w,(callFunc g args).run Tryz.prog w=.ok (.enter g args) w)(p:Vol->Bool)(hl:l.length<=140737488355328)
 (hf:Yu volV l g caps p w) :
 Calls Tryz.prog 120 #[v,.func (.func g) #[] caps] w λe w'=>e=.returned (.bool (l.all p))/\Later w w':=by
 obtain⟨w1,hw1⟩:∃ w1,w.alloc (.cells #[.func (.func g) #[] caps] 163)=w1:=⟨_,rfl⟩
 have b0:Later w w1:=by rw[<-hw1];exact(Later.refl w).alloc _
 obtain⟨sb,hsb⟩:∃ sb,w.heap.size=sb:=⟨_,rfl⟩
 have d0:w1.heap[sb]?=some (.cells #[.func (.func g) #[] caps] 163 (0,0)):=by rw[<-hw1];exact Zq hsb
 have HC:=Hd (Zh9 w1 v l (hrow.later b0) sb (λx=>!p x) hl (λw2 h2 x hx=>Zhx w2 sb g caps eg x (p x) (Za (h2.block d0) 0) (λw3 h3=>hf w3 ((b0.trans h2).trans h3) x hx)));have f0:=U2 p l
 obtain⟨b,hb⟩:∃ b,(l.any λx=>!p x)=b:=⟨_,rfl⟩
 rw[hb]at HC f0;rw[<-f0];have o0:=Hd hw1;clear hrow hf hb f0 d0 hw1 eg
 go_enter Tryz.func120,Tryz.ntmps120
 go_upto_region 1 with fail
 rw[o0.out]
 go_wp2_with (first
  |(go_at_call 144;(with_reducible refine HC.out.mono ?_);rintro e w2 ⟨rfl,hl2⟩)
  |fail)
 go_ret
 exact⟨rfl,b0.trans hl2⟩
theorem ZiJ(w:World)(sb:Nat)(g:FuncId)(caps:Array Value)(eg:∀ args w,(callFunc g args).run Tryz.prog w=.ok (.enter g args) w)(x:Ru)(b:Bool)(hs:w.cell? ⟨sb,0,none⟩=some (.func (.func g) #[] caps))
 (hf:∀ w1,Later w w1->Calls Tryz.prog g (#[ruV x]++caps) w1 λe w'=>e=.returned (.bool b)/\Later w1 w') :
 Calls Tryz.prog 149 #[ruV x,.pointer (some ⟨sb,0,none⟩)] w λe w'=>e=.returned (.bool (!b))/\Later w w':=by
 have r0:=World.block_lt_of_cell? w _ hs;obtain⟨x1,x2,x3,x4,x5⟩:=x;have HF:=Hd (show ∀w1,Later w w1->Calls Tryz.prog g (#[.agg #[.int .i64 x1,.int .i64 x2,.int .i64 x3,.string x4,.string x5]]++caps) w1 λe w'=>e=.returned (.bool b)/\Later w1 w' from hf);clear hf;show Calls Tryz.prog 149 #[.agg #[.int .i64 x1,.int .i64 x2,.int .i64 x3,.string x4,.string x5],.pointer (some ⟨sb,0,none⟩)] w _
 go_enter Tryz.func149,Tryz.ntmps149
 go_wp2_with (first
  |(go_at_fn g;(with_reducible refine(HF.out _ ((Later.refl w).alloc _)).mono ?_);rintro e w1 ⟨rfl,b0⟩)
  |fail)
 go_ret
 exact⟨rfl,((Later.refl w).alloc _).trans b0⟩
theorem ZiT(w:World)(v:Value)(l:List (Ru))(hrow:RowAt w 5 v (l.map ruC))(sb:Nat)(p:Ru->Bool)(hl:l.length<=140737488355328)
 (hf:Yu ruV l 149 #[.pointer (some ⟨sb,0,none⟩)] p w) :
 Calls Tryz.prog 171 #[v,.func (.func 149) #[] #[.pointer (some ⟨sb,0,none⟩)]] w λe w'=>e=.returned (.int .i64 (Ye p l 0))/\Later w w':=by
 obtain⟨a,cap,rfl,b0,hl2,hl3⟩:=Zl hrow;have e0:=Hd hrow;have HF:=Hd hf;clear hrow hf
 go_enter Tryz.func171,Tryz.ntmps171
 go_wp2_with fail
 go_loopw [8] (λvi wr=>∃ j:Nat,j<=l.length/\vi=.int .i64 (j:Int)/\(∀x∈l.take j,p x=false)/\Later w wr) (λvi _=>l.length - (intOf vi).toNat)
 case atStart=>exact⟨0,by omega,rfl,λx hx=>by simp at hx,Later.refl _⟩
 case round=>
  obtain⟨j,hj,rfl,hno,hb⟩:=hrel;have i0:=Hd hno;clear hno;by_cases hlt:j<l.length
  ·obtain⟨b,o,rfl,hb',hc⟩:=Zz (e0.out.later hb) hlt;have a0:=List.getElem_mem hlt;have j0:=List.take_succ_eq_append_getElem hlt;have g0:=List.drop_eq_getElem_cons hlt
   obtain⟨x,hx⟩:∃ x,l[j]=x:=⟨_,rfl⟩
   rw[hx]at hc j0 a0 g0;have k0:=Hd (HF.out wr hb x a0);have q0:=Hd j0;have p0:=Hd g0
   obtain⟨px,hpx⟩:∃ px,p x=px:=⟨_,rfl⟩
   rw[hpx]at k0;have l0:=Hd hpx;clear hx j0 g0 a0 hpx;obtain⟨x1,x2,x3,x4,x5⟩:=x;have c0:=hc 0 (by omega);have c1:=hc 1 (by omega);have c2:=hc 2 (by omega);have c3:=hc 3 (by omega);have c4:=hc 4 (by omega);simp only[ruC,List.getElem?_cons_zero,List.getElem?_cons_succ,Nat.add_zero,Nat.mul_one]at c0 c1 c2 c3 c4;clear hc;have n0:=Hd (show Calls Tryz.prog 149 #[.agg #[.int .i64 x1,.int .i64 x2,.int .i64 x3,.string x4,.string x5],.pointer (some ⟨sb,0,none⟩)] wr _ from k0.out);cases px
   ·go_wp2_with (first
     |(go_at_call 149;(with_reducible refine n0.out.mono ?_);rintro e w1 ⟨rfl,hb1⟩)
     |fail)
    refine⟨⟨j+1,by omega,by simp,λy hy=>?_,hb.trans hb1⟩,by simp only[intOf];omega⟩;rw[q0.out]at hy;rcases List.mem_append.1 hy with hy|hy
    ·exact i0.out y hy
    ·rw[List.mem_singleton.1 hy];exact l0.out
   ·go_wp2_with (first
     |(go_at_call 149;(with_reducible refine n0.out.mono ?_);rintro e w1 ⟨rfl,hb1⟩)
     |fail)
    go_ret
    refine⟨ZT ?_,hb.trans hb1⟩;rw[Xj p l j 0 i0.out hj,p0.out,Ye,l0.out,if_pos rfl,Nat.zero_add]
  ·go_wp2_with fail
   go_ret
   refine⟨ZT ?_,hb⟩;rw[Xj p l j 0 i0.out hj,List.drop_eq_nil_of_le (by omega),Ye]
theorem ZiZ(w:World)(v:Value)(l:List (Ru))(hrow:RowAt w 5 v (l.map ruC))(sb:Nat)(p:Ru->Bool)(hl:l.length<=140737488355328)
 (hf:Yu ruV l 149 #[.pointer (some ⟨sb,0,none⟩)] p w) :
 Calls Tryz.prog 148 #[v,.func (.func 149) #[] #[.pointer (some ⟨sb,0,none⟩)]] w λe w'=>e=.returned (.bool (l.any p))/\Later w w':=by
 have HI:=Hd (ZiT w v l hrow sb p hl hf);have m0:=Y0 p l 0
 obtain⟨r,hr⟩:∃ r,Ye p l 0=r:=⟨_,rfl⟩
 rw[hr]at HI m0
 obtain⟨b,hb⟩:∃ b,l.any p=b:=⟨_,rfl⟩
 rw[hb]at m0 ⊢;clear hrow hf hr hb
 go_enter Tryz.func148,Tryz.ntmps148
 go_wp2_with (first
  |(go_at_call 171;(with_reducible refine HI.out.mono ?_);rintro e w1 ⟨rfl,hb1⟩)
  |fail)
 go_ret
 exact⟨rfl,hb1⟩
theorem Zi5(w:World)(v:Value)(l:List (Ru))(hrow:RowAt w 5 v (l.map ruC))(g:FuncId)(caps:Array Value)(eg:∀ args w,(callFunc g args).run Tryz.prog w=.ok (.enter g args) w)(p:Ru->Bool)(hl:l.length<=140737488355328)
 (hf:Yu ruV l g caps p w) :
 Calls Tryz.prog 123 #[v,.func (.func g) #[] caps] w λe w'=>e=.returned (.bool (l.all p))/\Later w w':=by
 obtain⟨w1,hw1⟩:∃ w1,w.alloc (.cells #[.func (.func g) #[] caps] 169)=w1:=⟨_,rfl⟩
 have b0:Later w w1:=by rw[<-hw1];exact(Later.refl w).alloc _
 obtain⟨sb,hsb⟩:∃ sb,w.heap.size=sb:=⟨_,rfl⟩
 have d0:w1.heap[sb]?=some (.cells #[.func (.func g) #[] caps] 169 (0,0)):=by rw[<-hw1];exact Zq hsb
 have HC:=Hd (ZiZ w1 v l (hrow.later b0) sb (λx=>!p x) hl (λw2 h2 x hx=>ZiJ w2 sb g caps eg x (p x) (Za (h2.block d0) 0) (λw3 h3=>hf w3 ((b0.trans h2).trans h3) x hx)));have f0:=U2 p l
 obtain⟨b,hb⟩:∃ b,(l.any λx=>!p x)=b:=⟨_,rfl⟩
 rw[hb]at HC f0;rw[<-f0];have o0:=Hd hw1;clear hrow hf hb f0 d0 hw1 eg
 go_enter Tryz.func123,Tryz.ntmps123
 go_upto_region 1 with fail
 rw[o0.out]
 go_wp2_with (first
  |(go_at_call 148;(with_reducible refine HC.out.mono ?_);rintro e w2 ⟨rfl,hl2⟩)
  |fail)
 go_ret
 exact⟨rfl,b0.trans hl2⟩
theorem Zhz(w:World)(sb:Nat)(g:FuncId)(caps:Array Value)(eg:∀ args w,(callFunc g args).run Tryz.prog w=.ok (.enter g args) w)(x:ByteArray)(b:Bool)(hs:w.cell? ⟨sb,0,none⟩=some (.func (.func g) #[] caps))
 (hf:∀ w1,Later w w1->Calls Tryz.prog g (#[keyV x]++caps) w1 λe w'=>e=.returned (.bool b)/\Later w1 w') :
 Calls Tryz.prog 153 #[keyV x,.pointer (some ⟨sb,0,none⟩)] w λe w'=>e=.returned (.bool (!b))/\Later w w':=by
 have r0:=World.block_lt_of_cell? w _ hs;have HF:=Hd (show ∀w1,Later w w1->Calls Tryz.prog g (#[.string x]++caps) w1 λe w'=>e=.returned (.bool b)/\Later w1 w' from hf);clear hf;show Calls Tryz.prog 153 #[.string x,.pointer (some ⟨sb,0,none⟩)] w _
 go_enter Tryz.func153,Tryz.ntmps153
 go_wp2_with (first
  |(go_at_fn g;(with_reducible refine(HF.out _ (Later.refl w)).mono ?_);rintro e w1 ⟨rfl,b0⟩)
  |fail)
 go_ret
 exact⟨rfl,(Later.refl w).trans b0⟩
theorem ZhM(w:World)(v:Value)(l:List (ByteArray))(hrow:RowAt w 1 v (l.map keyC))(sb:Nat)(p:ByteArray->Bool)(hl:l.length<=140737488355328)
 (hf:Yu keyV l 153 #[.pointer (some ⟨sb,0,none⟩)] p w) :
 Calls Tryz.prog 177 #[v,.func (.func 153) #[] #[.pointer (some ⟨sb,0,none⟩)]] w λe w'=>e=.returned (.int .i64 (Ye p l 0))/\Later w w':=by
 obtain⟨a,cap,rfl,b0,hl2,hl3⟩:=Zl hrow;have e0:=Hd hrow;have HF:=Hd hf;clear hrow hf
 go_enter Tryz.func177,Tryz.ntmps177
 go_wp2_with fail
 go_loopw [8] (λvi wr=>∃ j:Nat,j<=l.length/\vi=.int .i64 (j:Int)/\(∀x∈l.take j,p x=false)/\Later w wr) (λvi _=>l.length - (intOf vi).toNat)
 case atStart=>exact⟨0,by omega,rfl,λx hx=>by simp at hx,Later.refl _⟩
 case round=>
  obtain⟨j,hj,rfl,hno,hb⟩:=hrel;have i0:=Hd hno;clear hno;by_cases hlt:j<l.length
  ·obtain⟨b,o,rfl,hb',hc⟩:=Zz (e0.out.later hb) hlt;have a0:=List.getElem_mem hlt;have j0:=List.take_succ_eq_append_getElem hlt;have g0:=List.drop_eq_getElem_cons hlt
   obtain⟨x,hx⟩:∃ x,l[j]=x:=⟨_,rfl⟩
   rw[hx]at hc j0 a0 g0;have k0:=Hd (HF.out wr hb x a0);have q0:=Hd j0;have p0:=Hd g0
   obtain⟨px,hpx⟩:∃ px,p x=px:=⟨_,rfl⟩
   rw[hpx]at k0;have l0:=Hd hpx;clear hx j0 g0 a0 hpx;have c0:=hc 0 (by omega);simp only[keyC,List.getElem?_cons_zero,List.getElem?_cons_succ,Nat.add_zero,Nat.mul_one]at c0;clear hc;have n0:=Hd (show Calls Tryz.prog 153 #[.string x,.pointer (some ⟨sb,0,none⟩)] wr _ from k0.out);cases px
   ·go_wp2_with (first
     |(go_at_call 153;(with_reducible refine n0.out.mono ?_);rintro e w1 ⟨rfl,hb1⟩)
     |fail)
    refine⟨⟨j+1,by omega,by simp,λy hy=>?_,hb.trans hb1⟩,by simp only[intOf];omega⟩;rw[q0.out]at hy;rcases List.mem_append.1 hy with hy|hy
    ·exact i0.out y hy
    ·rw[List.mem_singleton.1 hy];exact l0.out
   ·go_wp2_with (first
     |(go_at_call 153;(with_reducible refine n0.out.mono ?_);rintro e w1 ⟨rfl,hb1⟩)
     |fail)
    go_ret
    refine⟨ZT ?_,hb.trans hb1⟩;rw[Xj p l j 0 i0.out hj,p0.out,Ye,l0.out,if_pos rfl,Nat.zero_add]
  ·go_wp2_with fail
   go_ret
   refine⟨ZT ?_,hb⟩;rw[Xj p l j 0 i0.out hj,List.drop_eq_nil_of_le (by omega),Ye]
theorem Zib(w:World)(v:Value)(l:List (ByteArray))(hrow:RowAt w 1 v (l.map keyC))(sb:Nat)(p:ByteArray->Bool)(hl:l.length<=140737488355328)
 (hf:Yu keyV l 153 #[.pointer (some ⟨sb,0,none⟩)] p w) :
 Calls Tryz.prog 152 #[v,.func (.func 153) #[] #[.pointer (some ⟨sb,0,none⟩)]] w λe w'=>e=.returned (.bool (l.any p))/\Later w w':=by
 have HI:=Hd (ZhM w v l hrow sb p hl hf);have m0:=Y0 p l 0
 obtain⟨r,hr⟩:∃ r,Ye p l 0=r:=⟨_,rfl⟩
 rw[hr]at HI m0
 obtain⟨b,hb⟩:∃ b,l.any p=b:=⟨_,rfl⟩
 rw[hb]at m0 ⊢;clear hrow hf hr hb
 go_enter Tryz.func152,Tryz.ntmps152
 go_wp2_with (first
  |(go_at_call 177;(with_reducible refine HI.out.mono ?_);rintro e w1 ⟨rfl,hb1⟩)
  |fail)
 go_ret
 exact⟨rfl,hb1⟩
theorem Zik(w:World)(v:Value)(l:List (ByteArray))(hrow:RowAt w 1 v (l.map keyC))(g:FuncId)(caps:Array Value)(eg:∀ args w,(callFunc g args).run Tryz.prog w=.ok (.enter g args) w)(p:ByteArray->Bool)(hl:l.length<=140737488355328)
 (hf:Yu keyV l g caps p w) :
 Calls Tryz.prog 128 #[v,.func (.func g) #[] caps] w λe w'=>e=.returned (.bool (l.all p))/\Later w w':=by
 obtain⟨w1,hw1⟩:∃ w1,w.alloc (.cells #[.func (.func g) #[] caps] 168)=w1:=⟨_,rfl⟩
 have b0:Later w w1:=by rw[<-hw1];exact(Later.refl w).alloc _
 obtain⟨sb,hsb⟩:∃ sb,w.heap.size=sb:=⟨_,rfl⟩
 have d0:w1.heap[sb]?=some (.cells #[.func (.func g) #[] caps] 168 (0,0)):=by rw[<-hw1];exact Zq hsb
 have HC:=Hd (Zib w1 v l (hrow.later b0) sb (λx=>!p x) hl (λw2 h2 x hx=>Zhz w2 sb g caps eg x (p x) (Za (h2.block d0) 0) (λw3 h3=>hf w3 ((b0.trans h2).trans h3) x hx)));have f0:=U2 p l
 obtain⟨b,hb⟩:∃ b,(l.any λx=>!p x)=b:=⟨_,rfl⟩
 rw[hb]at HC f0;rw[<-f0];have o0:=Hd hw1;clear hrow hf hb f0 d0 hw1 eg
 go_enter Tryz.func128,Tryz.ntmps128
 go_upto_region 1 with fail
 rw[o0.out]
 go_wp2_with (first
  |(go_at_call 152;(with_reducible refine HC.out.mono ?_);rintro e w2 ⟨rfl,hl2⟩)
  |fail)
 go_ret
 exact⟨rfl,b0.trans hl2⟩
