import Derived.Test.YtbchkjfnakabkaaGreatDoorNV
import Derived.Test.YtbchkjfnakabkaaGreatDoorNE
import Derived.Test.YtbchkjfnakabkaaGreatDoorND
set_option linter.unusedSimpArgs false
set_option linter.unusedVariables false
set_option maxHeartbeats 8000000
set_option maxRecDepth 100000
namespace Go.Proofs.YtbchkjfnakabkaaGreatDoor
open Go.RowKit PX PC
noncomputable def Jf(c:Cfg)(i:Nat):Bool:=match i with|0=>latB c.levels c.flows|1=>c.partsB|2=>c.windowsB|3=>c.portsB|4=>c.diskB|5=>c.rulesB|_=>c.textsB
theorem Zgg{c:Cfg}(h:∀ k,k<7->Jf c k=true):c.fine=true:=ZhP (h 0 (by omega)) (h 1 (by omega)) (h 2 (by omega)) (h 3 (by omega)) (h 4 (by omega)) (h 5 (by omega)) (h 6 (by omega))
theorem V3{c:Cfg}(i:Nat)(hi:i<7)(h:Jf c i=false):c.fine=false:=by
 rw[Bool.eq_false_iff];intro k;obtain⟨h0,h1,h2,h3,h4,h5,h6⟩:=Jq k;rcases(by omega:i=0\/i=1\/i=2\/i=3\/i=4\/i=5\/i=6) with rfl|rfl|rfl|rfl|rfl|rfl|rfl<;>simp_all [Jf]
structure Rows7 (w:World) (c:Cfg) (vF vP vW vO vV vR vK:Value):Prop where
 rF:RowAt w 2 vF (c.flows.map Xx)
 rP:RowAt w 2 vP (c.parts.map XQ)
 rW:RowAt w 3 vW (c.windows.map winC)
 rO:RowAt w 5 vO (c.ports.map porC)
 rV:RowAt w 4 vV (c.volumes.map volC)
 rR:RowAt w 5 vR (c.rules.map ruC)
 rK:RowAt w 1 vK (c.keys.map keyC)
theorem Rows7.later{w w':World}{c:Cfg}{vF vP vW vO vV vR vK:Value}(h:Rows7 w c vF vP vW vO vV vR vK)(hl:Later w w'):Rows7 w' c vF vP vW vO vV vR vK:=⟨h.rF.later hl,h.rP.later hl,h.rW.later hl,h.rO.later hl,h.rV.later hl,h.rR.later hl,h.rK.later hl⟩
def FineIn(w0:World)(fb:Nat)(c:Cfg)(vF vP vW vO vV vR vK:Value)(i:Nat)(w:World):Prop:=
 ∃ lv,w.heap[fb]?=some (.cells (Dd c vF vP vW vO vV vR vK lv) 61 (0,0))/\Later w0 w/\(1<=i->LatOf w c lv)
theorem FineIn.later{w0 w w':World}{fb:Nat}{c:Cfg}{vF vP vW vO vV vR vK:Value}{i:Nat}(h:FineIn w0 fb c vF vP vW vO vV vR vK i w)(hl:Later w w'):FineIn w0 fb c vF vP vW vO vV vR vK i w':=by
 obtain⟨lv,h1,h2,h3⟩:=h;exact⟨lv,hl.block h1,h2.trans hl,λk=>(h3 k).later hl⟩
theorem FineIn.form{w0 w:World}{fb:Nat}{c:Cfg}{vF vP vW vO vV vR vK:Value}{i:Nat}(h:FineIn w0 fb c vF vP vW vO vV vR vK i w)(hr:Rows7 w0 c vF vP vW vO vV vR vK):∃ lv,FormIn w fb c vF vP vW vO vV vR vK lv/\(1<=i->LatOf w c lv):=by
 obtain⟨lv,h1,h2,h3⟩:=h;have r:=hr.later h2;exact⟨lv,⟨h1,r.rF,r.rP,r.rW,r.rO,r.rV,r.rR,r.rK⟩,h3⟩
def X9(w0:World)(fb:Nat)(c:Cfg)(vF vP vW vO vV vR vK:Value)(i:Nat)(e:Ending)(w':World):Prop:=
 e=.returned (.bool (Jf c i))/\Later w0 w'/\(Jf c i=true->FineIn w0 fb c vF vP vW vO vV vR vK (i+1) w')
theorem Je{w0 w:World}{fb:Nat}{c:Cfg}{vF vP vW vO vV vR vK:Value}{i:Nat}(hi:1<=i)(h:FineIn w0 fb c vF vP vW vO vV vR vK i w){f:FuncId}{args:Array Value}(hc:Calls Tryz.prog f args w λe w'=>e=.returned (.bool (Jf c i))/\Later w w') :
 Calls Tryz.prog f args w (X9 w0 fb c vF vP vW vO vV vR vK i):=by
 refine hc.mono λe w' ⟨he,hl⟩=>⟨he,?_,λ_=>?_⟩
 ·obtain⟨lv,-, h2,-⟩:=h;exact h2.trans hl
 ·obtain⟨lv,h1,h2,h3⟩:=h.later hl;exact⟨lv,h1,h2,λ_=>h3 hi⟩
theorem rule0{w0 w:World}{fb:Nat}{c:Cfg}{vF vP vW vO vV vR vK:Value}(h:FineIn w0 fb c vF vP vW vO vV vR vK 0 w)(hr:Rows7 w0 c vF vP vW vO vV vR vK)(hI:CfgI c)(hf:w0.heap.size<=fb):Calls Tryz.prog 97 #[.pointer (some ⟨fb,0,none⟩)] w (X9 w0 fb c vF vP vW vO vV vR vK 0):=by
 obtain⟨lv,hform,-⟩:=h.form hr;obtain⟨-, -, h0,-⟩:=h;refine(Bq w fb c vF vP vW vO vV vR vK lv hform hI).mono λe w' ⟨he,lv',w1,hl,hw',a0⟩=>?_
 subst hw';refine⟨he,Later.setC (h0.trans hl) hf 17 lv',λhb=>⟨lv',?_,Later.setC (h0.trans hl) hf 17 lv',λ_=>?_⟩⟩
 ·exact Zf (hl.block hform.blk) 17 lv'
 ·obtain⟨lb,N,U,D,e1,e2,e3,e4⟩:=(a0 hb).ok;refine⟨⟨lb,N,U,D,e1,e2,?_,e4⟩⟩
  have i0:lb≠fb:=λe=>by
   have h1:=hl.block hform.blk;unfold LatAt at e3;rw[e,h1]at e3;have:=Option.some.inj e3;injection this with _ ht
   revert ht
   decide
  unfold LatAt at e3 ⊢;exact(((Only.refl (λk=>k=fb) w1).setCell (p:=⟨fb,17,none⟩) (.inl rfl) lv').block lb (Zb e3) i0).trans e3
theorem WG{c:Cfg}(h:c.partsB=true):∀ p∈c.parts,lev c.levels p.level:=λp hp=>by
 unfold Cfg.partsB at h;rw[Bool.and_eq_true,List.all_eq_true]at h;have:=h.2 p hp;unfold YU at this;rw[Bool.and_eq_true]at this;exact Ga this.2
theorem rule1{w0 w:World}{fb:Nat}{c:Cfg}{vF vP vW vO vV vR vK:Value}(h:FineIn w0 fb c vF vP vW vO vV vR vK 1 w)(hr:Rows7 w0 c vF vP vW vO vV vR vK)(hI:CfgI c)(hW:CfgW c)(hp:∀ k,k<1->Jf c k=true):Calls Tryz.prog 98 #[.pointer (some ⟨fb,0,none⟩)] w (X9 w0 fb c vF vP vW vO vV vR vK 1):=by
 obtain⟨lv,hform,hl⟩:=h.form hr;have a0:=hl (by omega);exact Je (by omega) h (ZbZ w fb c vF vP vW vO vV vR vK lv hform a0.lev)
theorem rule2{w0 w:World}{fb:Nat}{c:Cfg}{vF vP vW vO vV vR vK:Value}(h:FineIn w0 fb c vF vP vW vO vV vR vK 2 w)(hr:Rows7 w0 c vF vP vW vO vV vR vK)(hI:CfgI c)(hW:CfgW c)(hp:∀ k,k<2->Jf c k=true):Calls Tryz.prog 99 #[.pointer (some ⟨fb,0,none⟩)] w (X9 w0 fb c vF vP vW vO vV vR vK 2):=by
 obtain⟨lv,hform,hl⟩:=h.form hr;have a0:=hl (by omega);exact Je (by omega) h (Dc w fb c vF vP vW vO vV vR vK lv hform hI a0.lev)
theorem rule3{w0 w:World}{fb:Nat}{c:Cfg}{vF vP vW vO vV vR vK:Value}(h:FineIn w0 fb c vF vP vW vO vV vR vK 3 w)(hr:Rows7 w0 c vF vP vW vO vV vR vK)(hI:CfgI c)(hW:CfgW c)(hp:∀ k,k<3->Jf c k=true):Calls Tryz.prog 100 #[.pointer (some ⟨fb,0,none⟩)] w (X9 w0 fb c vF vP vW vO vV vR vK 3):=by
 obtain⟨lv,hform,hl⟩:=h.form hr;have a0:=hl (by omega);exact Je (by omega) h (ZbY w fb c vF vP vW vO vV vR vK lv hform a0 (WG (hp 1 (by omega))))
theorem rule4{w0 w:World}{fb:Nat}{c:Cfg}{vF vP vW vO vV vR vK:Value}(h:FineIn w0 fb c vF vP vW vO vV vR vK 4 w)(hr:Rows7 w0 c vF vP vW vO vV vR vK)(hI:CfgI c)(hW:CfgW c)(hp:∀ k,k<4->Jf c k=true):Calls Tryz.prog 101 #[.pointer (some ⟨fb,0,none⟩)] w (X9 w0 fb c vF vP vW vO vV vR vK 4):=by
 obtain⟨lv,hform,hl⟩:=h.form hr;have a0:=hl (by omega);exact Je (by omega) h (Zet w fb c vF vP vW vO vV vR vK lv hform hI hW a0.lev)
theorem rule5{w0 w:World}{fb:Nat}{c:Cfg}{vF vP vW vO vV vR vK:Value}(h:FineIn w0 fb c vF vP vW vO vV vR vK 5 w)(hr:Rows7 w0 c vF vP vW vO vV vR vK)(hI:CfgI c)(hW:CfgW c)(hp:∀ k,k<5->Jf c k=true):Calls Tryz.prog 102 #[.pointer (some ⟨fb,0,none⟩)] w (X9 w0 fb c vF vP vW vO vV vR vK 5):=by
 obtain⟨lv,hform,hl⟩:=h.form hr;have a0:=hl (by omega);exact Je (by omega) h (ZbW w fb c vF vP vW vO vV vR vK lv hform a0)
theorem rule6{w0 w:World}{fb:Nat}{c:Cfg}{vF vP vW vO vV vR vK:Value}(h:FineIn w0 fb c vF vP vW vO vV vR vK 6 w)(hr:Rows7 w0 c vF vP vW vO vV vR vK)(hI:CfgI c)(hW:CfgW c)(hp:∀ k,k<6->Jf c k=true):Calls Tryz.prog 103 #[.pointer (some ⟨fb,0,none⟩)] w (X9 w0 fb c vF vP vW vO vV vR vK 6):=by
 obtain⟨lv,hform,hl⟩:=h.form hr;have a0:=hl (by omega);exact Je (by omega) h (ZbV w fb c vF vP vW vO vV vR vK lv hform hI)
theorem Zcd(w:World):Calls Tryz.prog 75 #[] w λe w'=>e=.returned (.agg #[.func (.func 97) #[] #[],.func (.func 98) #[] #[],.func (.func 99) #[] #[],.func (.func 100) #[] #[],.func (.func 101) #[] #[],.func (.func 102) #[] #[],.func (.func 103) #[] #[]])/\Later w w':=by
 go_enter Tryz.func75,Tryz.ntmps75
 go_wp2_with fail
 refine bodyPost_ret (results_cell_row rfl _ _ w.heap.size 119 #[.func (.func 97) #[] #[],.func (.func 98) #[] #[],.func (.func 99) #[] #[],.func (.func 100) #[] #[],.func (.func 101) #[] #[],.func (.func 102) #[] #[],.func (.func 103) #[] #[]] (0,0) _ rfl (Zd _ _) Tryz.underlying119 rfl (by kernel_rfl)) rfl ?_;exact⟨rfl,(Later.refl w).alloc _⟩
theorem Zaz(w0 w:World)(fb:Nat)(c:Cfg)(vF vP vW vO vV vR vK:Value)(h:FineIn w0 fb c vF vP vW vO vV vR vK 0 w)(hr:Rows7 w0 c vF vP vW vO vV vR vK)(hI:CfgI c)(hW:CfgW c)(hf:w0.heap.size<=fb) :
 Calls Tryz.prog 22 #[.pointer (some ⟨fb,0,none⟩)] w λe w'=>e=.returned (.bool c.fine)/\Later w0 w'/\(c.fine=true->FineIn w0 fb c vF vP vW vO vV vR vK 7 w'):=by
 have HH:=Hd h;have d0:=Hd hr;have g0:=Hd Zcd;clear h hr
 go_enter Tryz.func22,Tryz.ntmps22
 go_wp2_with (first
  |(go_at_call 75;(with_reducible refine(g0.out _).mono ?_);rintro e w1 ⟨rfl,hl1⟩)
  |fail)
 go_loopw [6] (λvi wr=>∃ i:Nat,i<=7/\vi=.int .i64 (i:Int)/\FineIn w0 fb c vF vP vW vO vV vR vK i wr/\(∀k,k<i->Jf c k=true)) (λvi _=>7 - (intOf vi).toNat)
 case atStart=>exact⟨0,by omega,rfl,HH.out.later hl1,λk hk=>by omega⟩
 case round=>
  obtain⟨i,hi,hvi,hF,hp⟩:=hrel;have f0:Later w0 wr:=by obtain⟨lv,-, h2,-⟩:=hF;exact h2
  have HF:=Hd hF;have HP:=Hd hp;clear hF hp hl1;rcases(by omega:i=0\/i=1\/i=2\/i=3\/i=4\/i=5\/i=6\/i=7) with rfl|rfl|rfl|rfl|rfl|rfl|rfl|rfl
  ·obtain rfl:_=Value.int .i64 0:=hvi
   obtain⟨b,hb⟩:∃ b,Jf c 0=b:=⟨_,rfl⟩
   have HR:Hid (∀w',Later wr w'->Calls Tryz.prog 97 #[.pointer (some ⟨fb,0,none⟩)] w' λe w2=>e=.returned (.bool b)/\Later w0 w2/\(b=true->FineIn w0 fb c vF vP vW vO vV vR vK 1 w2)):=Hd (λw' hl=>by
    have:=rule0 (HF.out.later hl) d0.out hI hf;unfold X9 at this;rw[hb]at this
    exact this)
   have e0:∀ W:World,(Instr.index 119 (.agg #[.func (.func 97) #[] #[],.func (.func 98) #[] #[],.func (.func 99) #[] #[],.func (.func 100) #[] #[],.func (.func 101) #[] #[],.func (.func 102) #[] #[],.func (.func 103) #[] #[]]) (.int .i64 0)).run Tryz.prog W=.ok (.agg #[.func (.func 97) #[] #[]]) W:=λW=>by kernel_rfl
   have HB:=Hd hb;clear hb;cases b
   ·go_wp2_with (first
     |(go_at_call 97;(with_reducible refine(HR.out _ La).mono ?_);rintro e w3 ⟨rfl,hl3,hn3⟩;have c0:=Hd hn3;clear hn3)
     |fail)
    go_ret
    have b0:=V3 0 (by omega) HB.out;exact⟨Zw b0.symm,hl3,λe=>by rw[b0]at e;cases e⟩
   ·go_wp2_with (first
     |(go_at_call 97;(with_reducible refine(HR.out _ La).mono ?_);rintro e w3 ⟨rfl,hl3,hn3⟩;have c0:=Hd (hn3 rfl);clear hn3)
     |fail)
    refine⟨⟨1,by omega,rfl,c0.out,λk hk=>?_⟩,by simp only[intOf];omega⟩;rcases(by omega:k<0\/k=0) with h|rfl
    ·exact HP.out k h
    ·exact HB.out
  ·obtain rfl:_=Value.int .i64 1:=hvi
   obtain⟨b,hb⟩:∃ b,Jf c 1=b:=⟨_,rfl⟩
   have HR:Hid (∀w',Later wr w'->Calls Tryz.prog 98 #[.pointer (some ⟨fb,0,none⟩)] w' λe w2=>e=.returned (.bool b)/\Later w0 w2/\(b=true->FineIn w0 fb c vF vP vW vO vV vR vK 2 w2)):=Hd (λw' hl=>by
    have:=rule1 (HF.out.later hl) d0.out hI hW HP.out;unfold X9 at this;rw[hb]at this
    exact this)
   have e0:∀ W:World,(Instr.index 119 (.agg #[.func (.func 97) #[] #[],.func (.func 98) #[] #[],.func (.func 99) #[] #[],.func (.func 100) #[] #[],.func (.func 101) #[] #[],.func (.func 102) #[] #[],.func (.func 103) #[] #[]]) (.int .i64 1)).run Tryz.prog W=.ok (.agg #[.func (.func 98) #[] #[]]) W:=λW=>by kernel_rfl
   have HB:=Hd hb;clear hb;cases b
   ·go_wp2_with (first
     |(go_at_call 98;(with_reducible refine(HR.out _ La).mono ?_);rintro e w3 ⟨rfl,hl3,hn3⟩;have c0:=Hd hn3;clear hn3)
     |fail)
    go_ret
    have b0:=V3 1 (by omega) HB.out;exact⟨Zw b0.symm,hl3,λe=>by rw[b0]at e;cases e⟩
   ·go_wp2_with (first
     |(go_at_call 98;(with_reducible refine(HR.out _ La).mono ?_);rintro e w3 ⟨rfl,hl3,hn3⟩;have c0:=Hd (hn3 rfl);clear hn3)
     |fail)
    refine⟨⟨2,by omega,rfl,c0.out,λk hk=>?_⟩,by simp only[intOf];omega⟩;rcases(by omega:k<1\/k=1) with h|rfl
    ·exact HP.out k h
    ·exact HB.out
  ·obtain rfl:_=Value.int .i64 2:=hvi
   obtain⟨b,hb⟩:∃ b,Jf c 2=b:=⟨_,rfl⟩
   have HR:Hid (∀w',Later wr w'->Calls Tryz.prog 99 #[.pointer (some ⟨fb,0,none⟩)] w' λe w2=>e=.returned (.bool b)/\Later w0 w2/\(b=true->FineIn w0 fb c vF vP vW vO vV vR vK 3 w2)):=Hd (λw' hl=>by
    have:=rule2 (HF.out.later hl) d0.out hI hW HP.out;unfold X9 at this;rw[hb]at this
    exact this)
   have e0:∀ W:World,(Instr.index 119 (.agg #[.func (.func 97) #[] #[],.func (.func 98) #[] #[],.func (.func 99) #[] #[],.func (.func 100) #[] #[],.func (.func 101) #[] #[],.func (.func 102) #[] #[],.func (.func 103) #[] #[]]) (.int .i64 2)).run Tryz.prog W=.ok (.agg #[.func (.func 99) #[] #[]]) W:=λW=>by kernel_rfl
   have HB:=Hd hb;clear hb;cases b
   ·go_wp2_with (first
     |(go_at_call 99;(with_reducible refine(HR.out _ La).mono ?_);rintro e w3 ⟨rfl,hl3,hn3⟩;have c0:=Hd hn3;clear hn3)
     |fail)
    go_ret
    have b0:=V3 2 (by omega) HB.out;exact⟨Zw b0.symm,hl3,λe=>by rw[b0]at e;cases e⟩
   ·go_wp2_with (first
     |(go_at_call 99;(with_reducible refine(HR.out _ La).mono ?_);rintro e w3 ⟨rfl,hl3,hn3⟩;have c0:=Hd (hn3 rfl);clear hn3)
     |fail)
    refine⟨⟨3,by omega,rfl,c0.out,λk hk=>?_⟩,by simp only[intOf];omega⟩;rcases(by omega:k<2\/k=2) with h|rfl
    ·exact HP.out k h
    ·exact HB.out
  ·obtain rfl:_=Value.int .i64 3:=hvi
   obtain⟨b,hb⟩:∃ b,Jf c 3=b:=⟨_,rfl⟩
   have HR:Hid (∀w',Later wr w'->Calls Tryz.prog 100 #[.pointer (some ⟨fb,0,none⟩)] w' λe w2=>e=.returned (.bool b)/\Later w0 w2/\(b=true->FineIn w0 fb c vF vP vW vO vV vR vK 4 w2)):=Hd (λw' hl=>by
    have:=rule3 (HF.out.later hl) d0.out hI hW HP.out;unfold X9 at this;rw[hb]at this
    exact this)
   have e0:∀ W:World,(Instr.index 119 (.agg #[.func (.func 97) #[] #[],.func (.func 98) #[] #[],.func (.func 99) #[] #[],.func (.func 100) #[] #[],.func (.func 101) #[] #[],.func (.func 102) #[] #[],.func (.func 103) #[] #[]]) (.int .i64 3)).run Tryz.prog W=.ok (.agg #[.func (.func 100) #[] #[]]) W:=λW=>by kernel_rfl
   have HB:=Hd hb;clear hb;cases b
   ·go_wp2_with (first
     |(go_at_call 100;(with_reducible refine(HR.out _ La).mono ?_);rintro e w3 ⟨rfl,hl3,hn3⟩;have c0:=Hd hn3;clear hn3)
     |fail)
    go_ret
    have b0:=V3 3 (by omega) HB.out;exact⟨Zw b0.symm,hl3,λe=>by rw[b0]at e;cases e⟩
   ·go_wp2_with (first
     |(go_at_call 100;(with_reducible refine(HR.out _ La).mono ?_);rintro e w3 ⟨rfl,hl3,hn3⟩;have c0:=Hd (hn3 rfl);clear hn3)
     |fail)
    refine⟨⟨4,by omega,rfl,c0.out,λk hk=>?_⟩,by simp only[intOf];omega⟩;rcases(by omega:k<3\/k=3) with h|rfl
    ·exact HP.out k h
    ·exact HB.out
  ·obtain rfl:_=Value.int .i64 4:=hvi
   obtain⟨b,hb⟩:∃ b,Jf c 4=b:=⟨_,rfl⟩
   have HR:Hid (∀w',Later wr w'->Calls Tryz.prog 101 #[.pointer (some ⟨fb,0,none⟩)] w' λe w2=>e=.returned (.bool b)/\Later w0 w2/\(b=true->FineIn w0 fb c vF vP vW vO vV vR vK 5 w2)):=Hd (λw' hl=>by
    have:=rule4 (HF.out.later hl) d0.out hI hW HP.out;unfold X9 at this;rw[hb]at this
    exact this)
   have e0:∀ W:World,(Instr.index 119 (.agg #[.func (.func 97) #[] #[],.func (.func 98) #[] #[],.func (.func 99) #[] #[],.func (.func 100) #[] #[],.func (.func 101) #[] #[],.func (.func 102) #[] #[],.func (.func 103) #[] #[]]) (.int .i64 4)).run Tryz.prog W=.ok (.agg #[.func (.func 101) #[] #[]]) W:=λW=>by kernel_rfl
   have HB:=Hd hb;clear hb;cases b
   ·go_wp2_with (first
     |(go_at_call 101;(with_reducible refine(HR.out _ La).mono ?_);rintro e w3 ⟨rfl,hl3,hn3⟩;have c0:=Hd hn3;clear hn3)
     |fail)
    go_ret
    have b0:=V3 4 (by omega) HB.out;exact⟨Zw b0.symm,hl3,λe=>by rw[b0]at e;cases e⟩
   ·go_wp2_with (first
     |(go_at_call 101;(with_reducible refine(HR.out _ La).mono ?_);rintro e w3 ⟨rfl,hl3,hn3⟩;have c0:=Hd (hn3 rfl);clear hn3)
     |fail)
    refine⟨⟨5,by omega,rfl,c0.out,λk hk=>?_⟩,by simp only[intOf];omega⟩;rcases(by omega:k<4\/k=4) with h|rfl
    ·exact HP.out k h
    ·exact HB.out
  ·obtain rfl:_=Value.int .i64 5:=hvi
   obtain⟨b,hb⟩:∃ b,Jf c 5=b:=⟨_,rfl⟩
   have HR:Hid (∀w',Later wr w'->Calls Tryz.prog 102 #[.pointer (some ⟨fb,0,none⟩)] w' λe w2=>e=.returned (.bool b)/\Later w0 w2/\(b=true->FineIn w0 fb c vF vP vW vO vV vR vK 6 w2)):=Hd (λw' hl=>by
    have:=rule5 (HF.out.later hl) d0.out hI hW HP.out;unfold X9 at this;rw[hb]at this
    exact this)
   have e0:∀ W:World,(Instr.index 119 (.agg #[.func (.func 97) #[] #[],.func (.func 98) #[] #[],.func (.func 99) #[] #[],.func (.func 100) #[] #[],.func (.func 101) #[] #[],.func (.func 102) #[] #[],.func (.func 103) #[] #[]]) (.int .i64 5)).run Tryz.prog W=.ok (.agg #[.func (.func 102) #[] #[]]) W:=λW=>by kernel_rfl
   have HB:=Hd hb;clear hb;cases b
   ·go_wp2_with (first
     |(go_at_call 102;(with_reducible refine(HR.out _ La).mono ?_);rintro e w3 ⟨rfl,hl3,hn3⟩;have c0:=Hd hn3;clear hn3)
     |fail)
    go_ret
    have b0:=V3 5 (by omega) HB.out;exact⟨Zw b0.symm,hl3,λe=>by rw[b0]at e;cases e⟩
   ·go_wp2_with (first
     |(go_at_call 102;(with_reducible refine(HR.out _ La).mono ?_);rintro e w3 ⟨rfl,hl3,hn3⟩;have c0:=Hd (hn3 rfl);clear hn3)
     |fail)
    refine⟨⟨6,by omega,rfl,c0.out,λk hk=>?_⟩,by simp only[intOf];omega⟩;rcases(by omega:k<5\/k=5) with h|rfl
    ·exact HP.out k h
    ·exact HB.out
  ·obtain rfl:_=Value.int .i64 6:=hvi
   obtain⟨b,hb⟩:∃ b,Jf c 6=b:=⟨_,rfl⟩
   have HR:Hid (∀w',Later wr w'->Calls Tryz.prog 103 #[.pointer (some ⟨fb,0,none⟩)] w' λe w2=>e=.returned (.bool b)/\Later w0 w2/\(b=true->FineIn w0 fb c vF vP vW vO vV vR vK 7 w2)):=Hd (λw' hl=>by
    have:=rule6 (HF.out.later hl) d0.out hI hW HP.out;unfold X9 at this;rw[hb]at this
    exact this)
   have e0:∀ W:World,(Instr.index 119 (.agg #[.func (.func 97) #[] #[],.func (.func 98) #[] #[],.func (.func 99) #[] #[],.func (.func 100) #[] #[],.func (.func 101) #[] #[],.func (.func 102) #[] #[],.func (.func 103) #[] #[]]) (.int .i64 6)).run Tryz.prog W=.ok (.agg #[.func (.func 103) #[] #[]]) W:=λW=>by kernel_rfl
   have HB:=Hd hb;clear hb;cases b
   ·go_wp2_with (first
     |(go_at_call 103;(with_reducible refine(HR.out _ La).mono ?_);rintro e w3 ⟨rfl,hl3,hn3⟩;have c0:=Hd hn3;clear hn3)
     |fail)
    go_ret
    have b0:=V3 6 (by omega) HB.out;exact⟨Zw b0.symm,hl3,λe=>by rw[b0]at e;cases e⟩
   ·go_wp2_with (first
     |(go_at_call 103;(with_reducible refine(HR.out _ La).mono ?_);rintro e w3 ⟨rfl,hl3,hn3⟩;have c0:=Hd (hn3 rfl);clear hn3)
     |fail)
    refine⟨⟨7,by omega,rfl,c0.out,λk hk=>?_⟩,by simp only[intOf];omega⟩;rcases(by omega:k<6\/k=6) with h|rfl
    ·exact HP.out k h
    ·exact HB.out
  ·obtain rfl:_=Value.int .i64 7:=hvi
   go_wp2_with fail
   go_ret
   exact⟨Zw (Zgg HP.out).symm,f0,λ_=>HF.out⟩
