import Derived.Test.YtbchkjfnakabkaaGreatDoorY8
import Derived.ScopeJumps
import Derived.Test.YtbchkjfnakabkaaGreatDoorYM
set_option linter.unusedSimpArgs false
set_option linter.unusedVariables false
set_option maxHeartbeats 2000000
set_option maxRecDepth 100000
namespace Go.Proofs.YtbchkjfnakabkaaGreatDoor
open Go.RowKit PX PC
def fwdQ(P:Program)(l:Nat)(rest:Code)(Q:Exit->Act->World->Prop):Exit->Act->World->Prop
 |.goto l',a,w=>l'=l/\rest.wp P (Exit.noGoto Q) a w
 |e,a,w=>Q e a w
theorem Xf{P:Program}{a:Act}{w:World}{Q:Exit->Act->World->Prop}{c rest:Code}(l:Nat)(hf:findLabel c l=some rest)(h:c.wp P (fwdQ P l rest Q) a w):(Code.scope c).wp P Q a w:=by
 refine wp_scope_jumps l (λa w=>rest.wp P (Exit.noGoto Q) a w) (λ_ _=>0) hf ?_ ?_
 ·intro b k cs;obtain⟨e,a',w',hq,harr⟩:=h b k cs;refine⟨e,a',w',?_,harr⟩;cases e<;>exact hq
 ·intro a w hr b k cs;obtain⟨e,a',w',hq,harr⟩:=hr b k cs;refine⟨e,a',w',?_,harr⟩;cases e<;>first|exact hq|exact False.elim hq
theorem UY{f:FuncId}{args:Array Value}{w:World}{n:Nat}{v:Value}(h:Calls Tryz.prog f args (w.drewN n) λe w'=>e=.returned v/\w'=w.drewN n) :
 Calls Tryz.prog f args (w.drewN n) λe w''=>e=.returned v/\∃ m,w''=w.drewN m:=
 h.mono λ_ _ ⟨he,hm⟩=>⟨he,n,hm⟩
theorem RdAt.drewN{w:World}{rb:Nat}{S:ByteArray}{i:Nat}{f:Int}(h:RdAt w rb S i f)(n:Nat):RdAt (w.drewN n) rb S i f:=h
theorem JF(w:World)(rb:Nat)(S:ByteArray)(i:Nat)(f:Int)(h:RdAt w rb S i f)(hS:S.size<=9223372036854775807)(hi:i<=S.size) :
 Calls Tryz.prog 89 #[.pointer (some ⟨rb,0,none⟩)] w λe w'=>e=.returned (.int .i64 ((S.size:Int) - i))/\RdAt w' rb S i f/\Zp rb w w':=by
 refine(ZeK w rb S i f h hS hi).mono ?_;rintro e w' ⟨he,n,rfl⟩;exact⟨he,h.drewN n,(Only.refl _ w).drewN n⟩
theorem JB{P:Program}{l:Nat}{rest:Code}{Q:Exit->Act->World->Prop}{a:Act}{w:World}:fwdQ P l rest Q .ret a w=Q .ret a w:=rfl
theorem Wm(w:World)(rb:Nat)(S:ByteArray)(i:Nat)(f:Int)(h:RdAt w rb S i f)(hf:f≠0)(v1 v2 v3:Value) :
 Calls Tryz.prog 82 #[.pointer (some ⟨rb,0,none⟩),v1,v2,v3] w λe w'=>e=.returned (.int .i64 0)/\RdAt w' rb S i f/\Zp rb w w':=by
 obtain⟨h0,h1,h2,h3,h4⟩:=h.cells;have H:=Hd h;have q0:=Zb h;have c1:(f != 0)=true:=by simpa using hf
 clear h hf
 go_enter Tryz.func82,Tryz.ntmps82
 go_wp2_with fail
 refine Xf 0 (by rfl) ?_
 go_wp2_with fail
 go_quiet (fail)
 go_wp2_with fail
 go_step3
 refine⟨rfl,?_⟩
 go_wp2_with fail
 rw[Exit.noGoto_ret]
 go_ret
 exact⟨rfl,(H.out.drewN _).fall _,((Only.refl _ w).drewN _).setCell (.inl (show IsPb rb rb from rfl)) _⟩
theorem Wk(w:World)(rb:Nat)(S:ByteArray)(i:Nat)(f:Int)(h:RdAt w rb S i f)(hf:f≠0)(v1 v2 v3:Value) :
 Calls Tryz.prog 85 #[.pointer (some ⟨rb,0,none⟩),v1,v2,v3] w λe w'=>e=.returned (.string ⟨#[]⟩)/\RdAt w' rb S i f/\Zp rb w w':=by
 obtain⟨h0,h1,h2,h3,h4⟩:=h.cells;have H:=Hd h;have q0:=Zb h;have c1:(f != 0)=true:=by simpa using hf
 clear h hf
 go_enter Tryz.func85,Tryz.ntmps85
 go_wp2_with fail
 refine Xf 0 (by rfl) ?_
 go_wp2_with fail
 go_quiet (fail)
 go_wp2_with fail
 go_step3
 refine⟨rfl,?_⟩
 go_wp2_with fail
 rw[Exit.noGoto_ret]
 go_ret
 exact⟨rfl,(H.out.drewN _).fall _,((Only.refl _ w).drewN _).setCell (.inl (show IsPb rb rb from rfl)) _⟩
theorem Wl(w:World)(rb wb:Nat)(S:ByteArray)(i:Nat)(h:RdAt w rb S i 0)(hS:S.size<=9223372036854775807)(hi:i<=S.size)(k:Nat)(hk:1<=k)(hk8:k<=2)(hw:w.cell? ⟨wb,0,none⟩=some (.int .i64 k))(b0:wb≠rb)(hsh:S.size - i<k) :
 Calls Tryz.prog 82 #[.pointer (some ⟨rb,0,none⟩),.int .i64 0,.func (.func 83) #[] #[.pointer (some ⟨wb,0,none⟩)],.func (.func 84) #[] #[]] w λe w'=>e=.returned (.int .i64 0)/\RdAt w' rb S i 10/\Zp rb w w':=by
 obtain⟨h0,h1,h2',h3,h4⟩:=h.cells;have H:=Hd h;have i0:=World.block_lt_of_cell? w _ hw;have HW:=Hd (λ(w1:World) (h1:Zp rb w w1)=>(h1.cell (p:=⟨wb,0,none⟩) i0 b0).trans hw);have e0:=Hd (λ(w1:World) (h1:RdAt w1 rb S i 0)=>JF w1 rb S i 0 h1 hS hi);have hz:decide ((S.size:Int) - i<0)=false:=decide_eq_false (by omega);have C0:IntKind.i64.wrap ((i:Int)+0)=(i:Int)+0:=by rw[IntKind.wrap_i64];omega
 have W0:IntKind.i64.wrap ((S.size:Int) - i - 0)=(S.size:Int) - i - 0:=by rw[IntKind.wrap_i64];omega
 have F0:decide ((S.size:Int) - i<(k:Int))=true:=decide_eq_true (by omega);clear h hw
 go_enter Tryz.func82,Tryz.ntmps82
 go_wp2_with fail
 refine Xf 0 (by rfl) ?_
 go_wp2_with fail
 go_quiet (fail)
 go_upto_region 6 with(first
  |(go_at_call 89;(with_reducible refine(e0.out _ (H.out.drewN _)).mono ?_);rintro e w1 ⟨rfl,hr1,ho1⟩)
  |fail)
 have a0:Zp rb w w1:=((Only.refl _ w).drewN _).thenP ho1;have k0:=HW.out w1 a0;have c0:=Hd a0;have j0:=Hd hr1;clear h0 h1 h2' h3 h4 a0 ho1;obtain⟨h0,h1,h2',h3,h4⟩:=hr1.cells;have A0:(i:Int)<=(S.size:Int):=by omega
 have y0:=Hd (λn T=>BV (w1.drewN n) wb T k k0 (by omega) (by omega));clear hr1
 go_quiet ((go_at_call 83;exact UY (y0.out _ _)))
 go_wp2_with (first
  |(go_at_call 89;(with_reducible refine(e0.out _ (j0.out.drewN _)).mono ?_);rintro e w2 ⟨rfl,hr2,ho2⟩;have m0:=Hd hr2;have d0:=Hd ((c0.out.drewN _).thenP ho2);have k4:=Zc hr2 2;have k2:=Za hr2 2;have q0:=Zb hr2;clear hr2 ho2)
  |fail)
 go_step3
 go_wp2_with fail
 rw[JB]
 go_ret
 exact⟨rfl,m0.out.fall _,d0.out.setCell (.inl (show IsPb rb rb from rfl)) _⟩
theorem ZcO(w:World)(rb wb:Nat)(S:ByteArray)(i:Nat)(h:RdAt w rb S i 0)(hS:S.size<=9223372036854775807)(hi:i<=S.size)(k:Nat)(hk:1<=k)(hk8:k<=2)(hw:w.cell? ⟨wb,0,none⟩=some (.int .i64 k))(b0:wb≠rb)(hok:k<=S.size - i) :
 Calls Tryz.prog 82 #[.pointer (some ⟨rb,0,none⟩),.int .i64 0,.func (.func 83) #[] #[.pointer (some ⟨wb,0,none⟩)],.func (.func 84) #[] #[]] w λe w'=>e=.returned (.int .i64 (numU ((S.data.toList.drop i).take k) 0:Nat))/\RdAt w' rb S (i+k) 0/\Zp rb w w':=by
 obtain⟨h0,h1,h2',h3,h4⟩:=h.cells;have H:=Hd h;have i0:=World.block_lt_of_cell? w _ hw;have HW:=Hd (λ(w1:World) (h1:Zp rb w w1)=>(h1.cell (p:=⟨wb,0,none⟩) i0 b0).trans hw);have e0:=Hd (λ(w1:World) (h1:RdAt w1 rb S i 0)=>JF w1 rb S i 0 h1 hS hi);have hz:decide ((S.size:Int) - i<0)=false:=decide_eq_false (by omega);have C0:IntKind.i64.wrap ((i:Int)+0)=(i:Int)+0:=by rw[IntKind.wrap_i64];omega
 have W0:IntKind.i64.wrap ((S.size:Int) - i - 0)=(S.size:Int) - i - 0:=by rw[IntKind.wrap_i64];omega
 have F0:decide ((S.size:Int) - i<(k:Int))=false:=decide_eq_false (by omega);clear h hw
 go_enter Tryz.func82,Tryz.ntmps82
 go_wp2_with fail
 refine Xf 0 (by rfl) ?_
 go_wp2_with fail
 go_quiet (fail)
 go_upto_region 6 with(first
  |(go_at_call 89;(with_reducible refine(e0.out _ (H.out.drewN _)).mono ?_);rintro e w1 ⟨rfl,hr1,ho1⟩)
  |fail)
 have a0:Zp rb w w1:=((Only.refl _ w).drewN _).thenP ho1;have k0:=HW.out w1 a0;have c0:=Hd a0;have j0:=Hd hr1;clear h0 h1 h2' h3 h4 a0 ho1;obtain⟨h0,h1,h2',h3,h4⟩:=hr1.cells;have A0:(i:Int)<=(S.size:Int):=by omega
 have y0:=Hd (λn T=>BV (w1.drewN n) wb T k k0 (by omega) (by omega));clear hr1
 go_quiet ((go_at_call 83;exact UY (y0.out _ _)))
 go_upto_region 11 with(first
  |(go_at_call 89;(with_reducible refine(e0.out _ (j0.out.drewN _)).mono ?_);rintro e w2 ⟨rfl,hr2,ho2⟩;have m0:=Hd hr2;have d0:=Hd ((c0.out.drewN _).thenP ho2);have k1:=Za hr2 1;have k4:=Zc hr2 1;have q0:=Zb hr2;have P0:(i:Int)+(k:Int)<=9223372036854775807:=(by omega);clear hr2 ho2)
  |fail)
 obtain⟨lo,hlo⟩:∃ lo,i=lo:=⟨_,rfl⟩
 obtain⟨j,hj⟩:∃ j,lo+k=j:=⟨_,rfl⟩
 have f0:(i:Int)+(k:Int)=(j:Int):=by omega
 obtain⟨w3,hw3⟩:∃ w3,w2.setCell ⟨rb,1,none⟩ (.int .i64 ((i:Int)+(k:Int)))=w3:=⟨_,rfl⟩
 have n0:RdAt w3 rb S j 0:=by rw[<-hw3,f0];exact m0.out.go j
 have t0:Zp rb w w3:=by rw[<-hw3];exact d0.out.setCell (.inl (show IsPb rb rb from rfl)) _
 rw[hw3];have z0:=Hd n0;have o0:=Hd t0;obtain⟨g0,g1,g2,g3,g4⟩:=n0.cells;have O0:IntKind.i64.wrap ((j:Int) - (k:Int))=(lo:Int):=by rw[IntKind.wrap_i64];omega
 have i1:j<=S.size:=by omega
 have o1:lo<=j:=by omega
 have n1:j - lo<=2:=by omega
 have H0:=Hd hlo;have HJ:=Hd hj;have m1:(lo:Int)<=(j:Int):=by omega
 have f1:(j:Int)<=(S.size:Int):=by omega
 have l1:(0:Int)<=(lo:Int):=by omega
 have j1:(0:Int)<=(j:Int):=by omega
 clear hw3 n0 t0 f0 hlo hj k1 k4 P0;have s0:(S.extract lo j).size<=2:=by rw[ByteArray.size_extract];omega
 have HN:=Hd (λw'=>Gy w' (S.extract lo j) s0);have q1:=Hd (λ(w':World) (h':Later w3 w')=>show w'.cell? ⟨rb,0,none⟩=some (.string S)/\w'.cell? ⟨rb,1,none⟩=some (.int .i64 j) from⟨h'.cell g0,h'.cell g1⟩);clear s0
 go_region_held3 (fun w'=>w'.cell? ⟨rb,0,none⟩=some (.string S)∧w'.cell? ⟨rb,1,none⟩=some (.int .i64 j))
  (exact q1.out _ La)
  (first
   |(go_at_call 84;(with_reducible refine(HN.out _).mono ?_);rintro e w7 ⟨rfl,hl7⟩)
   |fail)
 have e1:Later w3 w7:=by(repeat(first|assumption|exact Later.refl _|refine Later.drew ?_|refine Later.trans ?_ (by assumption)))
 have a1:=Hd (z0.out.later e1);have b1:=Hd (o0.out.thenP (Only.of_below e1));clear e1 g0 g1 g2 g3 g4;have k4:=Zc a1.out 2;have k2:=Za a1.out 2;have N0:=Zb a1.out
 go_wp2_with fail
 go_step3
 go_wp2_with fail
 rw[JB]
 go_ret
 have r1:j - lo=k:=by have:=HJ.out;omega
 rw[H0.out,HJ.out];refine⟨ZT (by rw[<-r1]),?_,?_⟩
 ·exact a1.out.fall _
 ·exact b1.out.setCell (.inl (show IsPb rb rb from rfl)) _
theorem Wn(w:World)(rb wb:Nat)(S:ByteArray)(i:Nat)(h:RdAt w rb S i 0)(hS:S.size<=9223372036854775807)(hi:i<=S.size)(k:Nat)(hk8:k<=1000)(hw:w.cell? ⟨wb,0,none⟩=some (.int .i64 k))(b0:wb≠rb)(hsh:S.size - i<k) :
 Calls Tryz.prog 85 #[.pointer (some ⟨rb,0,none⟩),.int .i64 0,.func (.func 88) #[] #[.pointer (some ⟨wb,0,none⟩)],.func (.func 87) #[] #[]] w λe w'=>e=.returned (.string ⟨#[]⟩)/\RdAt w' rb S i 10/\Zp rb w w':=by
 obtain⟨h0,h1,h2',h3,h4⟩:=h.cells;have H:=Hd h;have i0:=World.block_lt_of_cell? w _ hw;have HW:=Hd (λ(w1:World) (h1:Zp rb w w1)=>(h1.cell (p:=⟨wb,0,none⟩) i0 b0).trans hw);have e0:=Hd (λ(w1:World) (h1:RdAt w1 rb S i 0)=>JF w1 rb S i 0 h1 hS hi);have hz:decide ((S.size:Int) - i<0)=false:=decide_eq_false (by omega);have C0:IntKind.i64.wrap ((i:Int)+0)=(i:Int)+0:=by rw[IntKind.wrap_i64];omega
 have W0:IntKind.i64.wrap ((S.size:Int) - i - 0)=(S.size:Int) - i - 0:=by rw[IntKind.wrap_i64];omega
 have F0:decide ((S.size:Int) - i<(k:Int))=true:=decide_eq_true (by omega);clear h hw
 go_enter Tryz.func85,Tryz.ntmps85
 go_wp2_with fail
 refine Xf 0 (by rfl) ?_
 go_wp2_with fail
 go_quiet (fail)
 go_upto_region 6 with(first
  |(go_at_call 89;(with_reducible refine(e0.out _ (H.out.drewN _)).mono ?_);rintro e w1 ⟨rfl,hr1,ho1⟩)
  |fail)
 have a0:Zp rb w w1:=((Only.refl _ w).drewN _).thenP ho1;have k0:=HW.out w1 a0;have c0:=Hd a0;have j0:=Hd hr1;clear h0 h1 h2' h3 h4 a0 ho1;obtain⟨h0,h1,h2',h3,h4⟩:=hr1.cells;have A0:(i:Int)<=(S.size:Int):=by omega
 have y0:=Hd (λn T=>WS (w1.drewN n) wb T k k0 (by omega));clear hr1
 go_quiet ((go_at_call 88;exact UY (y0.out _ _)))
 go_wp2_with (first
  |(go_at_call 89;(with_reducible refine(e0.out _ (j0.out.drewN _)).mono ?_);rintro e w2 ⟨rfl,hr2,ho2⟩;have m0:=Hd hr2;have d0:=Hd ((c0.out.drewN _).thenP ho2);have k4:=Zc hr2 2;have k2:=Za hr2 2;have q0:=Zb hr2;clear hr2 ho2)
  |fail)
 go_step3
 go_wp2_with fail
 rw[JB]
 go_ret
 exact⟨rfl,m0.out.fall _,d0.out.setCell (.inl (show IsPb rb rb from rfl)) _⟩
theorem ZcP(w:World)(rb wb:Nat)(S:ByteArray)(i:Nat)(h:RdAt w rb S i 0)(hS:S.size<=9223372036854775807)(hi:i<=S.size)(k:Nat)(hk8:k<=1000)(hw:w.cell? ⟨wb,0,none⟩=some (.int .i64 k))(b0:wb≠rb)(hok:k<=S.size - i) :
 Calls Tryz.prog 85 #[.pointer (some ⟨rb,0,none⟩),.int .i64 0,.func (.func 88) #[] #[.pointer (some ⟨wb,0,none⟩)],.func (.func 87) #[] #[]] w λe w'=>e=.returned (.string (S.extract i (i+k)))/\RdAt w' rb S (i+k) 0/\Zp rb w w':=by
 obtain⟨h0,h1,h2',h3,h4⟩:=h.cells;have H:=Hd h;have i0:=World.block_lt_of_cell? w _ hw;have HW:=Hd (λ(w1:World) (h1:Zp rb w w1)=>(h1.cell (p:=⟨wb,0,none⟩) i0 b0).trans hw);have e0:=Hd (λ(w1:World) (h1:RdAt w1 rb S i 0)=>JF w1 rb S i 0 h1 hS hi);have hz:decide ((S.size:Int) - i<0)=false:=decide_eq_false (by omega);have C0:IntKind.i64.wrap ((i:Int)+0)=(i:Int)+0:=by rw[IntKind.wrap_i64];omega
 have W0:IntKind.i64.wrap ((S.size:Int) - i - 0)=(S.size:Int) - i - 0:=by rw[IntKind.wrap_i64];omega
 have F0:decide ((S.size:Int) - i<(k:Int))=false:=decide_eq_false (by omega);clear h hw
 go_enter Tryz.func85,Tryz.ntmps85
 go_wp2_with fail
 refine Xf 0 (by rfl) ?_
 go_wp2_with fail
 go_quiet (fail)
 go_upto_region 6 with(first
  |(go_at_call 89;(with_reducible refine(e0.out _ (H.out.drewN _)).mono ?_);rintro e w1 ⟨rfl,hr1,ho1⟩)
  |fail)
 have a0:Zp rb w w1:=((Only.refl _ w).drewN _).thenP ho1;have k0:=HW.out w1 a0;have c0:=Hd a0;have j0:=Hd hr1;clear h0 h1 h2' h3 h4 a0 ho1;obtain⟨h0,h1,h2',h3,h4⟩:=hr1.cells;have A0:(i:Int)<=(S.size:Int):=by omega
 have y0:=Hd (λn T=>WS (w1.drewN n) wb T k k0 (by omega));clear hr1
 go_quiet ((go_at_call 88;exact UY (y0.out _ _)))
 go_upto_region 11 with(first
  |(go_at_call 89;(with_reducible refine(e0.out _ (j0.out.drewN _)).mono ?_);rintro e w2 ⟨rfl,hr2,ho2⟩;have m0:=Hd hr2;have d0:=Hd ((c0.out.drewN _).thenP ho2);have k1:=Za hr2 1;have k4:=Zc hr2 1;have q0:=Zb hr2;have P0:(i:Int)+(k:Int)<=9223372036854775807:=(by omega);clear hr2 ho2)
  |fail)
 obtain⟨lo,hlo⟩:∃ lo,i=lo:=⟨_,rfl⟩
 obtain⟨j,hj⟩:∃ j,lo+k=j:=⟨_,rfl⟩
 have f0:(i:Int)+(k:Int)=(j:Int):=by omega
 obtain⟨w3,hw3⟩:∃ w3,w2.setCell ⟨rb,1,none⟩ (.int .i64 ((i:Int)+(k:Int)))=w3:=⟨_,rfl⟩
 have n0:RdAt w3 rb S j 0:=by rw[<-hw3,f0];exact m0.out.go j
 have t0:Zp rb w w3:=by rw[<-hw3];exact d0.out.setCell (.inl (show IsPb rb rb from rfl)) _
 rw[hw3];have z0:=Hd n0;have o0:=Hd t0;obtain⟨g0,g1,g2,g3,g4⟩:=n0.cells;have O0:IntKind.i64.wrap ((j:Int) - (k:Int))=(lo:Int):=by rw[IntKind.wrap_i64];omega
 have i1:j<=S.size:=by omega
 have o1:lo<=j:=by omega
 have n1:j - lo<=S.size:=by omega
 have H0:=Hd hlo;have HJ:=Hd hj;have m1:(lo:Int)<=(j:Int):=by omega
 have f1:(j:Int)<=(S.size:Int):=by omega
 have l1:(0:Int)<=(lo:Int):=by omega
 have j1:(0:Int)<=(j:Int):=by omega
 clear hw3 n0 t0 f0 hlo hj k1 k4 P0
 go_quiet ((go_at_call 87;exact UY (Do _ _)))
 have N0:=Zb z0.out
 go_wp2_with fail
 go_step3
 go_wp2_with fail
 rw[JB]
 go_ret
 rw[H0.out,HJ.out];exact⟨rfl,(z0.out.drewN _).fall _,(o0.out.drewN _).setCell (.inl (show IsPb rb rb from rfl)) _⟩
theorem Qs(w:World)(rb wb:Nat)(S:ByteArray)(i:Nat)(h:RdAt w rb S i 0)(hS:S.size<=9223372036854775807)(hi:i<=S.size)(hw:w.cell? ⟨wb,0,none⟩=some (.int .i64 1024))(b0:wb≠rb)(hsh:S.size - i<2) :
 Calls Tryz.prog 85 #[.pointer (some ⟨rb,0,none⟩),.int .i64 2,.func (.func 86) #[] #[.pointer (some ⟨wb,0,none⟩)],.func (.func 87) #[] #[]] w λe w'=>e=.returned (.string ⟨#[]⟩)/\RdAt w' rb S i 10/\Zp rb w w':=by
 obtain⟨h0,h1,h2',h3,h4⟩:=h.cells;have H:=Hd h;have i0:=World.block_lt_of_cell? w _ hw;have HW:=Hd (λ(w1:World) (h1:Zp rb w w1)=>(h1.cell (p:=⟨wb,0,none⟩) i0 b0).trans hw);have e0:=Hd (λ(w1:World) (h1:RdAt w1 rb S i 0)=>JF w1 rb S i 0 h1 hS hi);have hz:decide ((S.size:Int) - i<2)=true:=decide_eq_true (by omega);clear h hw
 go_enter Tryz.func85,Tryz.ntmps85
 go_wp2_with fail
 refine Xf 0 (by rfl) ?_
 go_wp2_with fail
 go_quiet (fail)
 go_wp2_with (first
  |(go_at_call 89;(with_reducible refine(e0.out _ (H.out.drewN _)).mono ?_);rintro e w1 ⟨rfl,hr1,ho1⟩;have j0:=Hd hr1;have c0:=Hd (((Only.refl (IsPb rb) w).drewN _).thenP ho1);have k4:=Zc hr1 2;have k2:=Za hr1 2;have q0:=Zb hr1;clear hr1 ho1)
  |fail)
 go_step3
 refine⟨rfl,?_⟩
 go_wp2_with fail
 rw[Exit.noGoto_ret]
 go_ret
 exact⟨rfl,j0.out.fall _,c0.out.setCell (.inl (show IsPb rb rb from rfl)) _⟩
theorem DR(w:World)(rb wb:Nat)(S:ByteArray)(i:Nat)(h:RdAt w rb S i 0)(hS:S.size<=9223372036854775807)(hi:i<=S.size)(hw:w.cell? ⟨wb,0,none⟩=some (.int .i64 1024))(b0:wb≠rb)(n:Nat)(hn:numU ((S.data.toList.drop i).take 2) 0=n)(h2:2<=S.size - i)(hlong:1024<n) :
 Calls Tryz.prog 85 #[.pointer (some ⟨rb,0,none⟩),.int .i64 2,.func (.func 86) #[] #[.pointer (some ⟨wb,0,none⟩)],.func (.func 87) #[] #[]] w λe w'=>e=.returned (.string ⟨#[]⟩)/\RdAt w' rb S i 11/\Zp rb w w':=by
 obtain⟨h0,h1,h2',h3,h4⟩:=h.cells;have H:=Hd h;have i0:=World.block_lt_of_cell? w _ hw;have HW:=Hd (λ(w1:World) (h1:Zp rb w w1)=>(h1.cell (p:=⟨wb,0,none⟩) i0 b0).trans hw);have e0:=Hd (λ(w1:World) (h1:RdAt w1 rb S i 0)=>JF w1 rb S i 0 h1 hS hi);have hz:decide ((S.size:Int) - i<2)=false:=decide_eq_false (by omega);have C0:IntKind.i64.wrap ((i:Int)+2)=(i:Int)+2:=by rw[IntKind.wrap_i64];omega
 clear h hw
 go_enter Tryz.func85,Tryz.ntmps85
 go_wp2_with fail
 refine Xf 0 (by rfl) ?_
 go_wp2_with fail
 go_quiet (fail)
 go_upto_region 6 with(first
  |(go_at_call 89;(with_reducible refine(e0.out _ (H.out.drewN _)).mono ?_);rintro e w1 ⟨rfl,hr1,ho1⟩)
  |fail)
 have a0:Zp rb w w1:=((Only.refl _ w).drewN _).thenP ho1;have k0:=HW.out w1 a0;have c0:=Hd a0;have j0:=Hd hr1;clear h0 h1 h2' h3 h4 a0 ho1;obtain⟨h0,h1,h2',h3,h4⟩:=hr1.cells;have A0:(i:Int)<=(S.size:Int):=by omega
 have v0:(S.extract i (i+2)).data.toList=(S.data.toList.drop i).take 2:=by simp[ByteArray.data_extract,Array.toList_extract,List.extract_eq_take_drop]
 have s0:(S.extract i (i+2)).size=2:=by rw[ByteArray.size_extract];omega
 have K0:=Hd (λ(w1':World) (h1':Later w1 w1')=>show Calls Tryz.prog 86 #[.string (S.extract i (i+2)),.pointer (some ⟨wb,0,none⟩)] w1' (λe w'=>e=.returned (.tuple #[.int .i64 0,.int .i64 11])/\Later w1' w') from by
  have h:=Gb w1' wb (S.extract i (i+2)) (by omega) (h1'.cell k0) n (by rw[v0,hn])
  rwa [if_neg (by omega)]at h)
 have S0:=Hd (λ(w1':World) (h1':Later w1 w1')=>show w1'.cell? ⟨rb,0,none⟩=some (.string S)/\w1'.cell? ⟨rb,1,none⟩=some (.int .i64 i) from⟨h1'.cell h0,h1'.cell h1⟩);have I0:(0:Int)<=(i:Int):=by omega
 have T0:(i:Int)<=(i:Int)+2:=by omega
 have M0:(i:Int)+2<=(S.size:Int):=by omega
 have R0:((i:Int)+2).toNat=i+2:=by omega
 have L0:(0:Int)<=(i:Int)+2:=by omega
 clear hr1 v0 s0 hn
 go_region_held3 (fun w'=>w'.cell? ⟨rb,0,none⟩=some (.string S)∧w'.cell? ⟨rb,1,none⟩=some (.int .i64 i))
  (exact S0.out _ La)
  (first
   |(go_at_call 86;(with_reducible refine(K0.out _ La).mono ?_);rintro e w5 ⟨rfl,hl5⟩)
   |fail)
 have l0:Later w1 w5:=by(repeat(first|assumption|exact Later.refl _|refine Later.drew ?_|refine Later.trans ?_ (by assumption)))
 have r0:=Hd (j0.out.later l0);have p0:=Hd (c0.out.thenP (Only.of_below l0));clear l0 h0 h1 h2' h3 h4 I0 T0 M0 R0 L0;have k4:=Zc r0.out 2;have k2:=Za r0.out 2;have q0:=Zb r0.out
 go_wp2_with fail
 go_step3
 go_wp2_with fail
 rw[JB]
 go_ret
 exact⟨rfl,r0.out.fall _,p0.out.setCell (.inl (show IsPb rb rb from rfl)) _⟩
theorem Wj(w:World)(rb wb:Nat)(S:ByteArray)(i:Nat)(h:RdAt w rb S i 0)(hS:S.size<=9223372036854775807)(hi:i<=S.size)(hw:w.cell? ⟨wb,0,none⟩=some (.int .i64 1024))(b0:wb≠rb)(n:Nat)(hn:numU ((S.data.toList.drop i).take 2) 0=n)(h2:2<=S.size - i)(hle:n<=1024)(hsh:S.size - i - 2<n) :
 Calls Tryz.prog 85 #[.pointer (some ⟨rb,0,none⟩),.int .i64 2,.func (.func 86) #[] #[.pointer (some ⟨wb,0,none⟩)],.func (.func 87) #[] #[]] w λe w'=>e=.returned (.string ⟨#[]⟩)/\RdAt w' rb S i 10/\Zp rb w w':=by
 obtain⟨h0,h1,h2',h3,h4⟩:=h.cells;have H:=Hd h;have i0:=World.block_lt_of_cell? w _ hw;have HW:=Hd (λ(w1:World) (h1:Zp rb w w1)=>(h1.cell (p:=⟨wb,0,none⟩) i0 b0).trans hw);have e0:=Hd (λ(w1:World) (h1:RdAt w1 rb S i 0)=>JF w1 rb S i 0 h1 hS hi);have hz:decide ((S.size:Int) - i<2)=false:=decide_eq_false (by omega);have C0:IntKind.i64.wrap ((i:Int)+2)=(i:Int)+2:=by rw[IntKind.wrap_i64];omega
 have W0:IntKind.i64.wrap ((S.size:Int) - i - 2)=(S.size:Int) - i - 2:=by rw[IntKind.wrap_i64];omega
 have F0:decide ((S.size:Int) - i - 2<(n:Int))=true:=decide_eq_true (by omega);clear h hw
 go_enter Tryz.func85,Tryz.ntmps85
 go_wp2_with fail
 refine Xf 0 (by rfl) ?_
 go_wp2_with fail
 go_quiet (fail)
 go_upto_region 6 with(first
  |(go_at_call 89;(with_reducible refine(e0.out _ (H.out.drewN _)).mono ?_);rintro e w1 ⟨rfl,hr1,ho1⟩)
  |fail)
 have a0:Zp rb w w1:=((Only.refl _ w).drewN _).thenP ho1;have k0:=HW.out w1 a0;have c0:=Hd a0;have j0:=Hd hr1;clear h0 h1 h2' h3 h4 a0 ho1;obtain⟨h0,h1,h2',h3,h4⟩:=hr1.cells;have A0:(i:Int)<=(S.size:Int):=by omega
 have v0:(S.extract i (i+2)).data.toList=(S.data.toList.drop i).take 2:=by simp[ByteArray.data_extract,Array.toList_extract,List.extract_eq_take_drop]
 have s0:(S.extract i (i+2)).size=2:=by rw[ByteArray.size_extract];omega
 have K0:=Hd (λ(w1':World) (h1':Later w1 w1')=>show Calls Tryz.prog 86 #[.string (S.extract i (i+2)),.pointer (some ⟨wb,0,none⟩)] w1' (λe w'=>e=.returned (.tuple #[.int .i64 n,.int .i64 0])/\Later w1' w') from by
  have h:=Gb w1' wb (S.extract i (i+2)) (by omega) (h1'.cell k0) n (by rw[v0,hn])
  rwa [if_pos (by omega)]at h)
 have S0:=Hd (λ(w1':World) (h1':Later w1 w1')=>show w1'.cell? ⟨rb,0,none⟩=some (.string S)/\w1'.cell? ⟨rb,1,none⟩=some (.int .i64 i) from⟨h1'.cell h0,h1'.cell h1⟩);have I0:(0:Int)<=(i:Int):=by omega
 have T0:(i:Int)<=(i:Int)+2:=by omega
 have M0:(i:Int)+2<=(S.size:Int):=by omega
 have R0:((i:Int)+2).toNat=i+2:=by omega
 have L0:(0:Int)<=(i:Int)+2:=by omega
 clear hr1 v0 s0 hn
 go_region_held3 (fun w'=>w'.cell? ⟨rb,0,none⟩=some (.string S)∧w'.cell? ⟨rb,1,none⟩=some (.int .i64 i))
  (exact S0.out _ La)
  (first
   |(go_at_call 86;(with_reducible refine(K0.out _ La).mono ?_);rintro e w5 ⟨rfl,hl5⟩)
   |fail)
 have l0:Later w1 w5:=by(repeat(first|assumption|exact Later.refl _|refine Later.drew ?_|refine Later.trans ?_ (by assumption)))
 have r0:=Hd (j0.out.later l0);have p0:=Hd (c0.out.thenP (Only.of_below l0));clear l0 h0 h1 h2' h3 h4 I0 T0 M0 R0 L0
 go_wp2_with (first
  |(go_at_call 89;(with_reducible refine(e0.out _ r0.out).mono ?_);rintro e w2 ⟨rfl,hr2,ho2⟩;have m0:=Hd hr2;have d0:=Hd (p0.out.thenP ho2);have k4:=Zc hr2 2;have k2:=Za hr2 2;have q0:=Zb hr2;clear hr2 ho2)
  |fail)
 go_step3
 go_wp2_with fail
 rw[JB]
 go_ret
 exact⟨rfl,m0.out.fall _,d0.out.setCell (.inl (show IsPb rb rb from rfl)) _⟩
theorem ZcN(w:World)(rb wb:Nat)(S:ByteArray)(i:Nat)(h:RdAt w rb S i 0)(hS:S.size<=9223372036854775807)(hi:i<=S.size)(hw:w.cell? ⟨wb,0,none⟩=some (.int .i64 1024))(b0:wb≠rb)(n:Nat)(hn:numU ((S.data.toList.drop i).take 2) 0=n)(h2:2<=S.size - i)(hle:n<=1024)(hok:n<=S.size - i - 2) :
 Calls Tryz.prog 85 #[.pointer (some ⟨rb,0,none⟩),.int .i64 2,.func (.func 86) #[] #[.pointer (some ⟨wb,0,none⟩)],.func (.func 87) #[] #[]] w λe w'=>e=.returned (.string (S.extract (i+2) (i+2+n)))/\RdAt w' rb S (i+2+n) 0/\Zp rb w w':=by
 obtain⟨h0,h1,h2',h3,h4⟩:=h.cells;have H:=Hd h;have i0:=World.block_lt_of_cell? w _ hw;have HW:=Hd (λ(w1:World) (h1:Zp rb w w1)=>(h1.cell (p:=⟨wb,0,none⟩) i0 b0).trans hw);have e0:=Hd (λ(w1:World) (h1:RdAt w1 rb S i 0)=>JF w1 rb S i 0 h1 hS hi);have hz:decide ((S.size:Int) - i<2)=false:=decide_eq_false (by omega);have C0:IntKind.i64.wrap ((i:Int)+2)=(i:Int)+2:=by rw[IntKind.wrap_i64];omega
 have W0:IntKind.i64.wrap ((S.size:Int) - i - 2)=(S.size:Int) - i - 2:=by rw[IntKind.wrap_i64];omega
 have F0:decide ((S.size:Int) - i - 2<(n:Int))=false:=decide_eq_false (by omega);clear h hw
 go_enter Tryz.func85,Tryz.ntmps85
 go_wp2_with fail
 refine Xf 0 (by rfl) ?_
 go_wp2_with fail
 go_quiet (fail)
 go_upto_region 6 with(first
  |(go_at_call 89;(with_reducible refine(e0.out _ (H.out.drewN _)).mono ?_);rintro e w1 ⟨rfl,hr1,ho1⟩)
  |fail)
 have a0:Zp rb w w1:=((Only.refl _ w).drewN _).thenP ho1;have k0:=HW.out w1 a0;have c0:=Hd a0;have j0:=Hd hr1;clear h0 h1 h2' h3 h4 a0 ho1;obtain⟨h0,h1,h2',h3,h4⟩:=hr1.cells;have A0:(i:Int)<=(S.size:Int):=by omega
 have v0:(S.extract i (i+2)).data.toList=(S.data.toList.drop i).take 2:=by simp[ByteArray.data_extract,Array.toList_extract,List.extract_eq_take_drop]
 have s0:(S.extract i (i+2)).size=2:=by rw[ByteArray.size_extract];omega
 have K0:=Hd (λ(w1':World) (h1':Later w1 w1')=>show Calls Tryz.prog 86 #[.string (S.extract i (i+2)),.pointer (some ⟨wb,0,none⟩)] w1' (λe w'=>e=.returned (.tuple #[.int .i64 n,.int .i64 0])/\Later w1' w') from by
  have h:=Gb w1' wb (S.extract i (i+2)) (by omega) (h1'.cell k0) n (by rw[v0,hn])
  rwa [if_pos (by omega)]at h)
 have S0:=Hd (λ(w1':World) (h1':Later w1 w1')=>show w1'.cell? ⟨rb,0,none⟩=some (.string S)/\w1'.cell? ⟨rb,1,none⟩=some (.int .i64 i) from⟨h1'.cell h0,h1'.cell h1⟩);have I0:(0:Int)<=(i:Int):=by omega
 have T0:(i:Int)<=(i:Int)+2:=by omega
 have M0:(i:Int)+2<=(S.size:Int):=by omega
 have R0:((i:Int)+2).toNat=i+2:=by omega
 have L0:(0:Int)<=(i:Int)+2:=by omega
 clear hr1 v0 s0 hn
 go_region_held3 (fun w'=>w'.cell? ⟨rb,0,none⟩=some (.string S)∧w'.cell? ⟨rb,1,none⟩=some (.int .i64 i))
  (exact S0.out _ La)
  (first
   |(go_at_call 86;(with_reducible refine(K0.out _ La).mono ?_);rintro e w5 ⟨rfl,hl5⟩)
   |fail)
 have l0:Later w1 w5:=by(repeat(first|assumption|exact Later.refl _|refine Later.drew ?_|refine Later.trans ?_ (by assumption)))
 have r0:=Hd (j0.out.later l0);have p0:=Hd (c0.out.thenP (Only.of_below l0));clear l0 h0 h1 h2' h3 h4 I0 T0 M0 R0 L0
 go_upto_region 11 with(first
  |(go_at_call 89;(with_reducible refine(e0.out _ r0.out).mono ?_);rintro e w2 ⟨rfl,hr2,ho2⟩;have m0:=Hd hr2;have d0:=Hd (p0.out.thenP ho2);have k1:=Za hr2 1;have k4:=Zc hr2 1;have q0:=Zb hr2;have P0:(i:Int)+(n:Int)<=9223372036854775807:=(by omega);clear hr2 ho2)
  |fail)
 obtain⟨lo,hlo⟩:∃ lo,i+2=lo:=⟨_,rfl⟩
 obtain⟨j,hj⟩:∃ j,lo+n=j:=⟨_,rfl⟩
 have f0:(i:Int)+(2+(n:Int))=(j:Int):=by omega
 obtain⟨w3,hw3⟩:∃ w3,w2.setCell ⟨rb,1,none⟩ (.int .i64 ((i:Int)+(2+(n:Int))))=w3:=⟨_,rfl⟩
 have n0:RdAt w3 rb S j 0:=by rw[<-hw3,f0];exact m0.out.go j
 have t0:Zp rb w w3:=by rw[<-hw3];exact d0.out.setCell (.inl (show IsPb rb rb from rfl)) _
 rw[hw3];have z0:=Hd n0;have o0:=Hd t0;obtain⟨g0,g1,g2,g3,g4⟩:=n0.cells;have O0:IntKind.i64.wrap ((j:Int) - (n:Int))=(lo:Int):=by rw[IntKind.wrap_i64];omega
 have i1:j<=S.size:=by omega
 have o1:lo<=j:=by omega
 have n1:j - lo<=S.size:=by omega
 have H0:=Hd hlo;have HJ:=Hd hj;have m1:(lo:Int)<=(j:Int):=by omega
 have f1:(j:Int)<=(S.size:Int):=by omega
 have l1:(0:Int)<=(lo:Int):=by omega
 have j1:(0:Int)<=(j:Int):=by omega
 clear hw3 n0 t0 f0 hlo hj k1 k4 P0
 go_quiet ((go_at_call 87;exact UY (Do _ _)))
 have N0:=Zb z0.out
 go_wp2_with fail
 go_step3
 go_wp2_with fail
 rw[JB]
 go_ret
 rw[H0.out,HJ.out];exact⟨rfl,(z0.out.drewN _).fall _,(o0.out.drewN _).setCell (.inl (show IsPb rb rb from rfl)) _⟩
end Go.Proofs.YtbchkjfnakabkaaGreatDoor
namespace Go.Proofs.YtbchkjfnakabkaaGreatDoor
open Go.RowKit PX PC
def ZZ(rb:Nat)(S:ByteArray)(v:Value)(st:RSt)(w:World)(e:Ending)(w':World):Prop:=e=.returned v/\RIn w' rb S st/\Zp rb w w'
theorem RIn.ofNone{w:World}{rb:Nat}{S:ByteArray}{i:Nat}{f:Int}(h:RdAt w rb S i f)(hi:i<=S.size)(hf:f≠0):RIn w rb S none:=⟨i,f,h,hi,.inl ⟨hf,rfl⟩⟩
theorem RIn.ofSome{w:World}{rb:Nat}{S:ByteArray}{i:Nat}(h:RdAt w rb S i 0)(hi:i<=S.size):RIn w rb S (some (S.data.toList.drop i)):=⟨i,0,h,hi,.inr ⟨rfl,rfl⟩⟩
theorem RIn.lt{w:World}{rb:Nat}{S:ByteArray}{st:RSt}(h:RIn w rb S st):rb<w.heap.size:=by
 obtain⟨i,f,h,-, -⟩:=h;exact Zb h
theorem V0{pb:Nat}{a b c:World}(h:Later a b)(k:Zp pb b c):Zp pb a c:=(Only.of_below h).thenP k
theorem Vv(S:ByteArray)(i:Nat):(S.data.toList.drop i).length=S.size - i:=by rw[List.length_drop,UE]
theorem Za8(w:World)(rb wb:Nat)(S:ByteArray)(st:RSt)(h:RIn w rb S st)(hS:S.size<=9223372036854775807)(k:Nat)(hk:1<=k)(hk8:k<=2)(hw:w.cell? ⟨wb,0,none⟩=some (.int .i64 k))(b0:wb≠rb) :
 Calls Tryz.prog 82 #[.pointer (some ⟨rb,0,none⟩),.int .i64 0,.func (.func 83) #[] #[.pointer (some ⟨wb,0,none⟩)],.func (.func 84) #[] #[]] w (ZZ rb S (.int .i64 (getN k st).1) (getN k st).2 w):=by
 obtain⟨i,f,h1,hi,⟨hf,rfl⟩|⟨rfl,rfl⟩⟩:=h
 ·refine(Wm w rb S i f h1 hf _ _ _).mono ?_;rintro e w' ⟨he,hr,ho⟩;exact⟨he,RIn.ofNone hr hi hf,ho⟩
 ·by_cases hsh:S.size - i<k
  ·refine(Wl w rb wb S i h1 hS hi k hk hk8 hw b0 hsh).mono ?_;rintro e w' ⟨he,hr,ho⟩;simp only[getN];rw[if_pos (by rw[Vv];exact hsh)];exact⟨he,RIn.ofNone hr hi (by decide),ho⟩
  ·refine(ZcO w rb wb S i h1 hS hi k hk hk8 hw b0 (by omega)).mono ?_;rintro e w' ⟨he,hr,ho⟩;simp only[getN];rw[if_neg (by rw[Vv];exact hsh)];refine⟨he,?_,ho⟩;have:=RIn.ofSome hr (by omega)
   rwa [<-List.drop_drop]at this
theorem Za7(w:World)(rb wb:Nat)(S:ByteArray)(st:RSt)(h:RIn w rb S st)(hS:S.size<=9223372036854775807)(hw:w.cell? ⟨wb,0,none⟩=some (.int .i64 1024))(b0:wb≠rb) :
 Calls Tryz.prog 85 #[.pointer (some ⟨rb,0,none⟩),.int .i64 2,.func (.func 86) #[] #[.pointer (some ⟨wb,0,none⟩)],.func (.func 87) #[] #[]] w (ZZ rb S (.string (getT st).1) (getT st).2 w):=by
 obtain⟨i,f,h1,hi,⟨hf,rfl⟩|⟨rfl,rfl⟩⟩:=h
 ·refine(Wk w rb S i f h1 hf _ _ _).mono ?_;rintro e w' ⟨he,hr,ho⟩;exact⟨he,RIn.ofNone hr hi hf,ho⟩
 ·by_cases hsh:S.size - i<2
  ·refine(Qs w rb wb S i h1 hS hi hw b0 hsh).mono ?_;rintro e w' ⟨he,hr,ho⟩;simp only[getT];rw[if_pos (by rw[Vv];exact hsh)];exact⟨he,RIn.ofNone hr hi (by decide),ho⟩
  ·obtain⟨n,hn⟩:∃ n,numU ((S.data.toList.drop i).take 2) 0=n:=⟨_,rfl⟩
   simp only[getT];rw[if_neg (by rw[Vv];exact hsh),hn,Vv];by_cases hlong:1024<n
   ·refine(DR w rb wb S i h1 hS hi hw b0 n hn (by omega) hlong).mono ?_;rintro e w' ⟨he,hr,ho⟩;rw[if_pos (.inl hlong)];exact⟨he,RIn.ofNone hr hi (by decide),ho⟩
   ·by_cases hs2:S.size - i - 2<n
    ·refine(Wj w rb wb S i h1 hS hi hw b0 n hn (by omega) (by omega) hs2).mono ?_;rintro e w' ⟨he,hr,ho⟩;rw[if_pos (.inr hs2)];exact⟨he,RIn.ofNone hr hi (by decide),ho⟩
    ·refine(ZcN w rb wb S i h1 hS hi hw b0 n hn (by omega) (by omega) (by omega)).mono ?_;rintro e w' ⟨he,hr,ho⟩;rw[if_neg (by omega)];refine⟨?_,?_,ho⟩
     ·rw[he];refine Zfu (QX ?_);rw[List.drop_drop];simp[ByteArray.data_extract,Array.toList_extract,List.extract_eq_take_drop,bytesOf]
     ·have:=RIn.ofSome hr (by omega)
      rwa [List.drop_drop,List.drop_drop]
theorem Za9(w:World)(rb wb:Nat)(S:ByteArray)(h:RdAt w rb S 0 0)(hS:S.size<=9223372036854775807)(hw:w.cell? ⟨wb,0,none⟩=some (.int .i64 (4:Nat)))(b0:wb≠rb) :
 Calls Tryz.prog 85 #[.pointer (some ⟨rb,0,none⟩),.int .i64 0,.func (.func 88) #[] #[.pointer (some ⟨wb,0,none⟩)],.func (.func 87) #[] #[]] w
  (ZZ rb S (.string (if S.size<4 then⟨#[]⟩ else S.extract 0 4)) (if S.size<4 then none else some (S.data.toList.drop 4)) w):=by
 by_cases hsh:S.size<4
 ·rw[if_pos hsh,if_pos hsh];refine(Wn w rb wb S 0 h hS (by omega) 4 (by omega) hw b0 (by omega)).mono ?_;rintro e w' ⟨he,hr,ho⟩;exact⟨he,RIn.ofNone hr (by omega) (by decide),ho⟩
 ·rw[if_neg hsh,if_neg hsh];refine(ZcP w rb wb S 0 h hS (by omega) 4 (by omega) hw b0 (by omega)).mono ?_;rintro e w' ⟨he,hr,ho⟩;exact⟨he,RIn.ofSome hr (by omega),ho⟩
theorem YN(w:World)(rb:Nat)(S:ByteArray)(st:RSt)(h:RIn w rb S st)(hS:S.size<=9223372036854775807)(k:Nat)(K:Int)(hK:(k:Int)=K)(hk:1<=k)(hk8:k<=2) :
 Calls Tryz.prog 50 #[.pointer (some ⟨rb,0,none⟩),.int .i64 K] w (ZZ rb S (.int .i64 (getN k st).1) (getN k st).2 w):=by
 subst hK;have HT:=Hd (Za8 (w.alloc (.cells #[.int .i64 (k:Int)] 3)) rb w.heap.size S st (h.later ((Later.refl w).alloc _)) hS k hk hk8 (Za (Zd w _) 0) (by have:=h.lt;omega))
 obtain⟨v,hv⟩:∃ v,(getN k st).1=v:=⟨_,rfl⟩
 obtain⟨t,ht⟩:∃ t,(getN k st).2=t:=⟨_,rfl⟩
 rw[hv,ht]at HT ⊢;clear h hS hv ht
 go_enter Tryz.func50,Tryz.ntmps50
 go_wp2_with (first
  |(go_at_call 82;(with_reducible refine HT.out.mono ?_);rintro e w1 ⟨rfl,hr,ho⟩)
  |fail)
 go_ret
 exact⟨rfl,hr,V0 ((Later.refl w).alloc _) ho⟩
theorem ZeN(w:World)(rb:Nat)(S:ByteArray)(st:RSt)(h:RIn w rb S st)(hS:S.size<=9223372036854775807) :
 Calls Tryz.prog 53 #[.pointer (some ⟨rb,0,none⟩),.int .i64 1024] w (ZZ rb S (.string (getT st).1) (getT st).2 w):=by
 have HT:=Hd (Za7 (w.alloc (.cells #[.int .i64 1024] 3)) rb w.heap.size S st (h.later ((Later.refl w).alloc _)) hS (Za (Zd w _) 0) (by have:=h.lt;omega))
 obtain⟨v,hv⟩:∃ v,(getT st).1=v:=⟨_,rfl⟩
 obtain⟨t,ht⟩:∃ t,(getT st).2=t:=⟨_,rfl⟩
 rw[hv,ht]at HT ⊢;clear h hS hv ht
 go_enter Tryz.func53,Tryz.ntmps53
 go_wp2_with (first
  |(go_at_call 85;(with_reducible refine HT.out.mono ?_);rintro e w1 ⟨rfl,hr,ho⟩)
  |fail)
 go_ret
 exact⟨rfl,hr,V0 ((Later.refl w).alloc _) ho⟩
theorem BH(w:World)(rb:Nat)(S:ByteArray)(h:RdAt w rb S 0 0)(hS:S.size<=9223372036854775807) :
 Calls Tryz.prog 54 #[.pointer (some ⟨rb,0,none⟩),.int .i64 4] w (ZZ rb S (.string (if S.size<4 then⟨#[]⟩ else S.extract 0 4)) (if S.size<4 then none else some (S.data.toList.drop 4)) w):=by
 have HT:=Hd (Za9 (w.alloc (.cells #[.int .i64 4] 3)) rb w.heap.size S (h.later ((Later.refl w).alloc _)) hS (Za (Zd w _) 0) (by have:=Zb h;omega))
 obtain⟨v,hv⟩:∃ v,(if S.size<4 then(⟨#[]⟩:ByteArray) else S.extract 0 4)=v:=⟨_,rfl⟩
 obtain⟨t,ht⟩:∃ t,(if S.size<4 then none else some (S.data.toList.drop 4))=t:=⟨_,rfl⟩
 rw[hv,ht]at HT ⊢;clear h hS hv ht
 go_enter Tryz.func54,Tryz.ntmps54
 go_wp2_with (first
  |(go_at_call 85;(with_reducible refine HT.out.mono ?_);rintro e w1 ⟨rfl,hr,ho⟩)
  |fail)
 go_ret
 exact⟨rfl,hr,V0 ((Later.refl w).alloc _) ho⟩
theorem EX(w:World)(rb rc:Nat)(S:ByteArray)(st:RSt)(h:RIn w rb S st)(hS:S.size<=9223372036854775807)(hc:w.cell? ⟨rc,0,none⟩=some (.pointer (some ⟨rb,0,none⟩))) :
 Calls Tryz.prog 49 #[.pointer (some ⟨rc,0,none⟩)] w (ZZ rb S (.int .i64 (getN 1 st).1) (getN 1 st).2 w):=by
 have HT:=Hd (YN w rb S st h hS 1 1 rfl (by omega) (by omega))
 obtain⟨v,hv⟩:∃ v,(getN 1 st).1=v:=⟨_,rfl⟩
 obtain⟨t,ht⟩:∃ t,(getN 1 st).2=t:=⟨_,rfl⟩
 rw[hv,ht]at HT ⊢;clear h hS hv ht
 go_enter Tryz.func49,Tryz.ntmps49
 go_wp2_with (first
  |(go_at_call 50;(with_reducible refine HT.out.mono ?_);rintro e w1 ⟨rfl,hr,ho⟩)
  |fail)
 go_ret
 exact⟨rfl,hr,ho⟩
theorem B5(w:World)(rb rc:Nat)(S:ByteArray)(st:RSt)(h:RIn w rb S st)(hS:S.size<=9223372036854775807)(hc:w.cell? ⟨rc,0,none⟩=some (.pointer (some ⟨rb,0,none⟩))) :
 Calls Tryz.prog 51 #[.pointer (some ⟨rc,0,none⟩)] w (ZZ rb S (.int .i64 (getN 2 st).1) (getN 2 st).2 w):=by
 have HT:=Hd (YN w rb S st h hS 2 2 rfl (by omega) (by omega))
 obtain⟨v,hv⟩:∃ v,(getN 2 st).1=v:=⟨_,rfl⟩
 obtain⟨t,ht⟩:∃ t,(getN 2 st).2=t:=⟨_,rfl⟩
 rw[hv,ht]at HT ⊢;clear h hS hv ht
 go_enter Tryz.func51,Tryz.ntmps51
 go_wp2_with (first
  |(go_at_call 50;(with_reducible refine HT.out.mono ?_);rintro e w1 ⟨rfl,hr,ho⟩)
  |fail)
 go_ret
 exact⟨rfl,hr,ho⟩
theorem Zdg(w:World)(rb rc:Nat)(S:ByteArray)(st:RSt)(h:RIn w rb S st)(hS:S.size<=9223372036854775807)(hc:w.cell? ⟨rc,0,none⟩=some (.pointer (some ⟨rb,0,none⟩))) :
 Calls Tryz.prog 52 #[.pointer (some ⟨rc,0,none⟩)] w (ZZ rb S (.string (getT st).1) (getT st).2 w):=by
 have HT:=Hd (ZeN w rb S st h hS)
 obtain⟨v,hv⟩:∃ v,(getT st).1=v:=⟨_,rfl⟩
 obtain⟨t,ht⟩:∃ t,(getT st).2=t:=⟨_,rfl⟩
 rw[hv,ht]at HT ⊢;clear h hS hv ht
 go_enter Tryz.func52,Tryz.ntmps52
 go_wp2_with (first
  |(go_at_call 53;(with_reducible refine HT.out.mono ?_);rintro e w1 ⟨rfl,hr,ho⟩)
  |fail)
 go_ret
 exact⟨rfl,hr,ho⟩
theorem Zcj(w:World)(rb:Nat)(S:ByteArray)(i:Nat)(f:Int)(h:RdAt w rb S i f) :
 Calls Tryz.prog 90 #[.pointer (some ⟨rb,0,none⟩)] w λe w'=>e=.returned (.tuple #[.int .i64 f,.int .i64 (if f=0 then 0 else i)])/\∃ n,w'=w.drewN n:=by
 obtain⟨h0,h1,h2,h3,h4⟩:=h.cells;by_cases hf:f=0
 ·subst hf;rw[if_pos rfl];clear h
  go_enter Tryz.func90,Tryz.ntmps90
  go_wp2_with fail
  go_ret2
  exact⟨rfl,0,rfl⟩
 ·rw[if_neg hf];have c1:(f != 0)=true:=by simpa using hf
  clear h hf
  go_enter Tryz.func90,Tryz.ntmps90
  go_wp2_with fail
  go_quiet (fail)
  go_wp2_with fail
  go_ret2
  exact⟨rfl,_,rfl⟩
theorem ZeO(w:World)(rb:Nat)(S:ByteArray)(st:RSt)(h:RIn w rb S st)(hS:S.size<=9223372036854775807) :
 Calls Tryz.prog 68 #[.pointer (some ⟨rb,0,none⟩)] w λe w'=>∃ q m:Int,e=.returned (.tuple #[.int .i64 q,.int .i64 m])/\(q=0↔st=some [])/\Zp rb w w':=by
 obtain⟨i,f,h1,hi,hst⟩:=h;have H:=Hd h1;obtain⟨h0,h1',h2,h3,h4⟩:=h1.cells;have HF:=Hd (λ(w1:World) (h:RdAt w1 rb S i f)=>Zcj w1 rb S i f h);have HL:=Hd (λ(w1:World) (h:RdAt w1 rb S i f)=>JF w1 rb S i f h hS hi);clear h1;rcases hst with⟨hf,rfl⟩|⟨rfl,rfl⟩
 ·have c1:(f==0)=false:=by simpa using hf
  have p1:=Hd hf
  obtain⟨x,hx⟩:∃ x:Int,(if f=0 then(0:Int) else i)=x:=⟨_,rfl⟩
  rw[hx]at HF;clear hf hx
  go_enter Tryz.func68,Tryz.ntmps68
  go_wp2_with (first
   |(go_at_call 90;(with_reducible refine(HF.out _ H.out).mono ?_);rintro e w1 ⟨rfl,n,rfl⟩)
   |fail)
  go_ret2
  exact⟨f,x,rfl,by simp[p1.out],(Only.refl _ w).drewN n⟩
 ·by_cases hl:i<S.size
  ·have hd:decide (0<(S.size:Int) - i)=true:=decide_eq_true (by omega)
   have b0:S.data.toList.drop i≠[]:=by
    intro e;have:=congrArg List.length e;rw[Vv]at this;simp at this;omega
   have d1:=Hd b0;clear b0
   go_enter Tryz.func68,Tryz.ntmps68
   go_upto_region 2 with(first
    |(go_at_call 89;(with_reducible refine(HL.out _ H.out).mono ?_);rintro e w1 ⟨rfl,hr,ho⟩;obtain⟨g0,g1,g2,g3,g4⟩:=hr.cells;have HO:=Hd ho;clear hr ho)
    |fail)
   go_quiet (fail)
   go_wp2_with fail
   go_ret2
   exact⟨12,i,rfl,by simp[d1.out],HO.out.drewN _⟩
  ·have hd:decide (0<(S.size:Int) - i)=false:=decide_eq_false (by omega);have b0:S.data.toList.drop i=[]:=List.drop_eq_nil_of_le (by rw[UE];omega);have d1:=Hd b0;clear b0;rw[if_pos rfl]at HF
   go_enter Tryz.func68,Tryz.ntmps68
   go_wp2_with (first
    |(go_at_call 89;(with_reducible refine(HL.out _ H.out).mono ?_);rintro e w1 ⟨rfl,hr,ho⟩;have HR:=Hd hr;have HO:=Hd ho;clear hr ho)
    |(go_at_call 90;(with_reducible refine(HF.out _ HR.out).mono ?_);rintro e w2 ⟨rfl,n,rfl⟩)
    |fail)
   go_ret2
   exact⟨0,0,rfl,by simp[d1.out],HO.out.drewN n⟩
