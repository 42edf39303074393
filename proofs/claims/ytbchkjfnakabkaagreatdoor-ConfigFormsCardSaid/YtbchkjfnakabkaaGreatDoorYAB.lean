import Derived.Test.YtbchkjfnakabkaaGreatDoorY8
import Derived.ScopeJumps
import Derived.Test.YtbchkjfnakabkaaGreatDoorYM
set_option linter.unusedSimpArgs false
set_option linter.unusedVariables false
set_option maxHeartbeats 2000000
set_option maxRecDepth 100000
namespace Go.Proofs.YtbchkjfnakabkaaGreatDoor
open Go.RowKit PX PC
def fwdQ(P:Program)(l:Nat)(rest:Code)(Q:Exit→Act→World→Prop):Exit→Act→World→Prop
 |.goto l',a,w=>l'=l∧rest.wp P (Exit.noGoto Q) a w
 |e,a,w=>Q e a w
theorem Xe{P:Program}{a:Act}{w:World}{Q:Exit→Act→World→Prop}{c rest:Code}(l:Nat)(hf:findLabel c l=some rest)(h:c.wp P (fwdQ P l rest Q) a w):(Code.scope c).wp P Q a w:=by
 refine wp_scope_jumps l (fun a w=>rest.wp P (Exit.noGoto Q) a w) (fun _ _=>0) hf ?_ ?_
 ·intro b k cs;obtain⟨e,a',w',hq,harr⟩:=h b k cs;refine⟨e,a',w',?_,harr⟩;cases e<;>exact hq
 ·intro a w hr b k cs;obtain⟨e,a',w',hq,harr⟩:=hr b k cs;refine⟨e,a',w',?_,harr⟩;cases e<;>first|exact hq|exact False.elim hq
theorem UL{f:FuncId}{args:Array Value}{w:World}{n:Nat}{v:Value}(h:Calls Tryz.prog f args (w.drewN n) fun e w'=>e=.returned v∧w'=w.drewN n) :
 Calls Tryz.prog f args (w.drewN n) fun e w''=>e=.returned v∧∃ m,w''=w.drewN m:=
 h.mono fun _ _ ⟨he,hm⟩=>⟨he,n,hm⟩
theorem RdAt.drewN{w:World}{rb:Nat}{S:ByteArray}{i:Nat}{f:Int}(h:RdAt w rb S i f)(n:Nat):RdAt (w.drewN n) rb S i f:=h
theorem Jq(w:World)(rb:Nat)(S:ByteArray)(i:Nat)(f:Int)(h:RdAt w rb S i f)(hS:S.size≤9223372036854775807)(hi:i≤S.size) :
 Calls Tryz.prog 89 #[.pointer (some ⟨rb,0,none⟩)] w fun e w'=>e=.returned (.int .i64 ((S.size:Int) - i))∧RdAt w' rb S i f∧Zo rb w w':=by
 refine(Zd3 w rb S i f h hS hi).mono ?_;rintro e w' ⟨he,n,rfl⟩;exact⟨he,h.drewN n,(Only.refl _ w).drewN n⟩
theorem Jo{P:Program}{l:Nat}{rest:Code}{Q:Exit→Act→World→Prop}{a:Act}{w:World}:fwdQ P l rest Q .ret a w=Q .ret a w:=rfl
theorem QY(w:World)(rb:Nat)(S:ByteArray)(i:Nat)(f:Int)(h:RdAt w rb S i f)(hf:f≠0)(v1 v2 v3:Value) :
 Calls Tryz.prog 82 #[.pointer (some ⟨rb,0,none⟩),v1,v2,v3] w fun e w'=>e=.returned (.int .i64 0)∧RdAt w' rb S i f∧Zo rb w w':=by
 obtain⟨h0,h1,h2,h3,h4⟩:=h.cells;have H:=Hd h;have hlt:=Za h;have hfb:(f != 0)=true:=by simpa using hf
 clear h hf
 go_enter Tryz.func82,Tryz.ntmps82
 go_wp2_with fail
 refine Xe 0 (by rfl) ?_
 go_wp2_with fail
 go_quiet (fail)
 go_wp2_with fail
 go_step3
 refine⟨rfl,?_⟩
 go_wp2_with fail
 rw[Exit.noGoto_ret]
 go_ret
 exact⟨rfl,(H.out.drewN _).fall _,((Only.refl _ w).drewN _).setCell (.inl (show IsPb rb rb from rfl)) _⟩
theorem QW(w:World)(rb:Nat)(S:ByteArray)(i:Nat)(f:Int)(h:RdAt w rb S i f)(hf:f≠0)(v1 v2 v3:Value) :
 Calls Tryz.prog 85 #[.pointer (some ⟨rb,0,none⟩),v1,v2,v3] w fun e w'=>e=.returned (.string ⟨#[]⟩)∧RdAt w' rb S i f∧Zo rb w w':=by
 obtain⟨h0,h1,h2,h3,h4⟩:=h.cells;have H:=Hd h;have hlt:=Za h;have hfb:(f != 0)=true:=by simpa using hf
 clear h hf
 go_enter Tryz.func85,Tryz.ntmps85
 go_wp2_with fail
 refine Xe 0 (by rfl) ?_
 go_wp2_with fail
 go_quiet (fail)
 go_wp2_with fail
 go_step3
 refine⟨rfl,?_⟩
 go_wp2_with fail
 rw[Exit.noGoto_ret]
 go_ret
 exact⟨rfl,(H.out.drewN _).fall _,((Only.refl _ w).drewN _).setCell (.inl (show IsPb rb rb from rfl)) _⟩
theorem QX(w:World)(rb wb:Nat)(S:ByteArray)(i:Nat)(h:RdAt w rb S i 0)(hS:S.size≤9223372036854775807)(hi:i≤S.size)(k:Nat)(hk:1≤k)(hk8:k≤2)(hw:w.cell? ⟨wb,0,none⟩=some (.int .i64 k))(hne:wb≠rb)(hsh:S.size - i<k) :
 Calls Tryz.prog 82 #[.pointer (some ⟨rb,0,none⟩),.int .i64 0,.func (.func 83) #[] #[.pointer (some ⟨wb,0,none⟩)],.func (.func 84) #[] #[]] w fun e w'=>e=.returned (.int .i64 0)∧RdAt w' rb S i 10∧Zo rb w w':=by
 obtain⟨h0,h1,h2',h3,h4⟩:=h.cells;have H:=Hd h;have hwl:=World.block_lt_of_cell? w _ hw;have HW:=Hd (fun(w1:World) (h1:Zo rb w w1)=>(h1.cell (p:=⟨wb,0,none⟩) hwl hne).trans hw);have HLE:=Hd (fun(w1:World) (h1:RdAt w1 rb S i 0)=>Jq w1 rb S i 0 h1 hS hi);have hz:decide ((S.size:Int) - i<0)=false:=decide_eq_false (by omega);have hwa:IntKind.i64.wrap ((i:Int)+0)=(i:Int)+0:=by rw[IntKind.wrap_i64];omega
 have hwb:IntKind.i64.wrap ((S.size:Int) - i - 0)=(S.size:Int) - i - 0:=by rw[IntKind.wrap_i64];omega
 have hz2:decide ((S.size:Int) - i<(k:Int))=true:=decide_eq_true (by omega);clear h hw
 go_enter Tryz.func82,Tryz.ntmps82
 go_wp2_with fail
 refine Xe 0 (by rfl) ?_
 go_wp2_with fail
 go_quiet (fail)
 go_upto_region 6 with(first
  |(go_at_call 89;(with_reducible refine(HLE.out _ (H.out.drewN _)).mono ?_);rintro e w1 ⟨rfl,hr1,ho1⟩)
  |fail)
 have hon1:Zo rb w w1:=((Only.refl _ w).drewN _).thenP ho1;have hcw:=HW.out w1 hon1;have HON1:=Hd hon1;have HR1:=Hd hr1;clear h0 h1 h2' h3 h4 hon1 ho1;obtain⟨h0,h1,h2',h3,h4⟩:=hr1.cells;have hii:(i:Int)≤(S.size:Int):=by omega
 have HWI:=Hd (fun n T=>Bp (w1.drewN n) wb T k hcw (by omega) (by omega));clear hr1
 go_quiet ((go_at_call 83;exact UL (HWI.out _ _)))
 go_wp2_with (first
  |(go_at_call 89;(with_reducible refine(HLE.out _ (HR1.out.drewN _)).mono ?_);rintro e w2 ⟨rfl,hr2,ho2⟩;have HR2:=Hd hr2;have HON2:=Hd ((HON1.out.drewN _).thenP ho2);have k4:=Zc hr2 2;have k2:=Zb hr2 2;have hlt:=Za hr2;clear hr2 ho2)
  |fail)
 go_step3
 go_wp2_with fail
 rw[Jo]
 go_ret
 exact⟨rfl,HR2.out.fall _,HON2.out.setCell (.inl (show IsPb rb rb from rfl)) _⟩
theorem Zb5(w:World)(rb wb:Nat)(S:ByteArray)(i:Nat)(h:RdAt w rb S i 0)(hS:S.size≤9223372036854775807)(hi:i≤S.size)(k:Nat)(hk:1≤k)(hk8:k≤2)(hw:w.cell? ⟨wb,0,none⟩=some (.int .i64 k))(hne:wb≠rb)(hok:k≤S.size - i) :
 Calls Tryz.prog 82 #[.pointer (some ⟨rb,0,none⟩),.int .i64 0,.func (.func 83) #[] #[.pointer (some ⟨wb,0,none⟩)],.func (.func 84) #[] #[]] w fun e w'=>e=.returned (.int .i64 (numU ((S.data.toList.drop i).take k) 0:Nat))∧RdAt w' rb S (i+k) 0∧Zo rb w w':=by
 obtain⟨h0,h1,h2',h3,h4⟩:=h.cells;have H:=Hd h;have hwl:=World.block_lt_of_cell? w _ hw;have HW:=Hd (fun(w1:World) (h1:Zo rb w w1)=>(h1.cell (p:=⟨wb,0,none⟩) hwl hne).trans hw);have HLE:=Hd (fun(w1:World) (h1:RdAt w1 rb S i 0)=>Jq w1 rb S i 0 h1 hS hi);have hz:decide ((S.size:Int) - i<0)=false:=decide_eq_false (by omega);have hwa:IntKind.i64.wrap ((i:Int)+0)=(i:Int)+0:=by rw[IntKind.wrap_i64];omega
 have hwb:IntKind.i64.wrap ((S.size:Int) - i - 0)=(S.size:Int) - i - 0:=by rw[IntKind.wrap_i64];omega
 have hz2:decide ((S.size:Int) - i<(k:Int))=false:=decide_eq_false (by omega);clear h hw
 go_enter Tryz.func82,Tryz.ntmps82
 go_wp2_with fail
 refine Xe 0 (by rfl) ?_
 go_wp2_with fail
 go_quiet (fail)
 go_upto_region 6 with(first
  |(go_at_call 89;(with_reducible refine(HLE.out _ (H.out.drewN _)).mono ?_);rintro e w1 ⟨rfl,hr1,ho1⟩)
  |fail)
 have hon1:Zo rb w w1:=((Only.refl _ w).drewN _).thenP ho1;have hcw:=HW.out w1 hon1;have HON1:=Hd hon1;have HR1:=Hd hr1;clear h0 h1 h2' h3 h4 hon1 ho1;obtain⟨h0,h1,h2',h3,h4⟩:=hr1.cells;have hii:(i:Int)≤(S.size:Int):=by omega
 have HWI:=Hd (fun n T=>Bp (w1.drewN n) wb T k hcw (by omega) (by omega));clear hr1
 go_quiet ((go_at_call 83;exact UL (HWI.out _ _)))
 go_upto_region 11 with(first
  |(go_at_call 89;(with_reducible refine(HLE.out _ (HR1.out.drewN _)).mono ?_);rintro e w2 ⟨rfl,hr2,ho2⟩;have HR2:=Hd hr2;have HON2:=Hd ((HON1.out.drewN _).thenP ho2);have k1:=Zb hr2 1;have k4:=Zc hr2 1;have hlt:=Za hr2;have hj1:(i:Int)+(k:Int)≤9223372036854775807:=(by omega);clear hr2 ho2)
  |fail)
 obtain⟨lo,hlo⟩:∃ lo,i=lo:=⟨_,rfl⟩
 obtain⟨j,hj⟩:∃ j,lo+k=j:=⟨_,rfl⟩
 have hsum:(i:Int)+(k:Int)=(j:Int):=by omega
 obtain⟨w3,hw3⟩:∃ w3,w2.setCell ⟨rb,1,none⟩ (.int .i64 ((i:Int)+(k:Int)))=w3:=⟨_,rfl⟩
 have hr3:RdAt w3 rb S j 0:=by rw[←hw3,hsum];exact HR2.out.go j
 have ho3:Zo rb w w3:=by rw[←hw3];exact HON2.out.setCell (.inl (show IsPb rb rb from rfl)) _
 rw[hw3];have HR3:=Hd hr3;have HON3:=Hd ho3;obtain⟨g0,g1,g2,g3,g4⟩:=hr3.cells;have hwl2:IntKind.i64.wrap ((j:Int) - (k:Int))=(lo:Int):=by rw[IntKind.wrap_i64];omega
 have hjs:j≤S.size:=by omega
 have hlj:lo≤j:=by omega
 have hjl:j - lo≤2:=by omega
 have HLO:=Hd hlo;have HJ:=Hd hj;have hc1:(lo:Int)≤(j:Int):=by omega
 have hc2:(j:Int)≤(S.size:Int):=by omega
 have hc0:(0:Int)≤(lo:Int):=by omega
 have hc3:(0:Int)≤(j:Int):=by omega
 clear hw3 hr3 ho3 hsum hlo hj k1 k4 hj1;have hes:(S.extract lo j).size≤2:=by rw[ByteArray.size_extract];omega
 have HN:=Hd (fun w'=>Gk w' (S.extract lo j) hes);have HS3:=Hd (fun(w':World) (h':Later w3 w')=>show w'.cell? ⟨rb,0,none⟩=some (.string S)∧w'.cell? ⟨rb,1,none⟩=some (.int .i64 j) from⟨h'.cell g0,h'.cell g1⟩);clear hes
 go_region_held3 (fun w'=>w'.cell? ⟨rb,0,none⟩=some (.string S)∧w'.cell? ⟨rb,1,none⟩=some (.int .i64 j))
  (exact HS3.out _ La)
  (first
   |(go_at_call 84;(with_reducible refine(HN.out _).mono ?_);rintro e w7 ⟨rfl,hl7⟩)
   |fail)
 have hl8:Later w3 w7:=by(repeat(first|assumption|exact Later.refl _|refine Later.drew ?_|refine Later.trans ?_ (by assumption)))
 have HR7:=Hd (HR3.out.later hl8);have HON7:=Hd (HON3.out.thenP (Only.of_below hl8));clear hl8 g0 g1 g2 g3 g4;have k4:=Zc HR7.out 2;have k2:=Zb HR7.out 2;have hlt7:=Za HR7.out
 go_wp2_with fail
 go_step3
 go_wp2_with fail
 rw[Jo]
 go_ret
 have hjk:j - lo=k:=by have:=HJ.out;omega
 rw[HLO.out,HJ.out];refine⟨ZT (by rw[←hjk]),?_,?_⟩
 ·exact HR7.out.fall _
 ·exact HON7.out.setCell (.inl (show IsPb rb rb from rfl)) _
theorem QZ(w:World)(rb wb:Nat)(S:ByteArray)(i:Nat)(h:RdAt w rb S i 0)(hS:S.size≤9223372036854775807)(hi:i≤S.size)(k:Nat)(hk8:k≤1000)(hw:w.cell? ⟨wb,0,none⟩=some (.int .i64 k))(hne:wb≠rb)(hsh:S.size - i<k) :
 Calls Tryz.prog 85 #[.pointer (some ⟨rb,0,none⟩),.int .i64 0,.func (.func 88) #[] #[.pointer (some ⟨wb,0,none⟩)],.func (.func 87) #[] #[]] w fun e w'=>e=.returned (.string ⟨#[]⟩)∧RdAt w' rb S i 10∧Zo rb w w':=by
 obtain⟨h0,h1,h2',h3,h4⟩:=h.cells;have H:=Hd h;have hwl:=World.block_lt_of_cell? w _ hw;have HW:=Hd (fun(w1:World) (h1:Zo rb w w1)=>(h1.cell (p:=⟨wb,0,none⟩) hwl hne).trans hw);have HLE:=Hd (fun(w1:World) (h1:RdAt w1 rb S i 0)=>Jq w1 rb S i 0 h1 hS hi);have hz:decide ((S.size:Int) - i<0)=false:=decide_eq_false (by omega);have hwa:IntKind.i64.wrap ((i:Int)+0)=(i:Int)+0:=by rw[IntKind.wrap_i64];omega
 have hwb:IntKind.i64.wrap ((S.size:Int) - i - 0)=(S.size:Int) - i - 0:=by rw[IntKind.wrap_i64];omega
 have hz2:decide ((S.size:Int) - i<(k:Int))=true:=decide_eq_true (by omega);clear h hw
 go_enter Tryz.func85,Tryz.ntmps85
 go_wp2_with fail
 refine Xe 0 (by rfl) ?_
 go_wp2_with fail
 go_quiet (fail)
 go_upto_region 6 with(first
  |(go_at_call 89;(with_reducible refine(HLE.out _ (H.out.drewN _)).mono ?_);rintro e w1 ⟨rfl,hr1,ho1⟩)
  |fail)
 have hon1:Zo rb w w1:=((Only.refl _ w).drewN _).thenP ho1;have hcw:=HW.out w1 hon1;have HON1:=Hd hon1;have HR1:=Hd hr1;clear h0 h1 h2' h3 h4 hon1 ho1;obtain⟨h0,h1,h2',h3,h4⟩:=hr1.cells;have hii:(i:Int)≤(S.size:Int):=by omega
 have HWI:=Hd (fun n T=>Wu (w1.drewN n) wb T k hcw (by omega));clear hr1
 go_quiet ((go_at_call 88;exact UL (HWI.out _ _)))
 go_wp2_with (first
  |(go_at_call 89;(with_reducible refine(HLE.out _ (HR1.out.drewN _)).mono ?_);rintro e w2 ⟨rfl,hr2,ho2⟩;have HR2:=Hd hr2;have HON2:=Hd ((HON1.out.drewN _).thenP ho2);have k4:=Zc hr2 2;have k2:=Zb hr2 2;have hlt:=Za hr2;clear hr2 ho2)
  |fail)
 go_step3
 go_wp2_with fail
 rw[Jo]
 go_ret
 exact⟨rfl,HR2.out.fall _,HON2.out.setCell (.inl (show IsPb rb rb from rfl)) _⟩
theorem Zb6(w:World)(rb wb:Nat)(S:ByteArray)(i:Nat)(h:RdAt w rb S i 0)(hS:S.size≤9223372036854775807)(hi:i≤S.size)(k:Nat)(hk8:k≤1000)(hw:w.cell? ⟨wb,0,none⟩=some (.int .i64 k))(hne:wb≠rb)(hok:k≤S.size - i) :
 Calls Tryz.prog 85 #[.pointer (some ⟨rb,0,none⟩),.int .i64 0,.func (.func 88) #[] #[.pointer (some ⟨wb,0,none⟩)],.func (.func 87) #[] #[]] w fun e w'=>e=.returned (.string (S.extract i (i+k)))∧RdAt w' rb S (i+k) 0∧Zo rb w w':=by
 obtain⟨h0,h1,h2',h3,h4⟩:=h.cells;have H:=Hd h;have hwl:=World.block_lt_of_cell? w _ hw;have HW:=Hd (fun(w1:World) (h1:Zo rb w w1)=>(h1.cell (p:=⟨wb,0,none⟩) hwl hne).trans hw);have HLE:=Hd (fun(w1:World) (h1:RdAt w1 rb S i 0)=>Jq w1 rb S i 0 h1 hS hi);have hz:decide ((S.size:Int) - i<0)=false:=decide_eq_false (by omega);have hwa:IntKind.i64.wrap ((i:Int)+0)=(i:Int)+0:=by rw[IntKind.wrap_i64];omega
 have hwb:IntKind.i64.wrap ((S.size:Int) - i - 0)=(S.size:Int) - i - 0:=by rw[IntKind.wrap_i64];omega
 have hz2:decide ((S.size:Int) - i<(k:Int))=false:=decide_eq_false (by omega);clear h hw
 go_enter Tryz.func85,Tryz.ntmps85
 go_wp2_with fail
 refine Xe 0 (by rfl) ?_
 go_wp2_with fail
 go_quiet (fail)
 go_upto_region 6 with(first
  |(go_at_call 89;(with_reducible refine(HLE.out _ (H.out.drewN _)).mono ?_);rintro e w1 ⟨rfl,hr1,ho1⟩)
  |fail)
 have hon1:Zo rb w w1:=((Only.refl _ w).drewN _).thenP ho1;have hcw:=HW.out w1 hon1;have HON1:=Hd hon1;have HR1:=Hd hr1;clear h0 h1 h2' h3 h4 hon1 ho1;obtain⟨h0,h1,h2',h3,h4⟩:=hr1.cells;have hii:(i:Int)≤(S.size:Int):=by omega
 have HWI:=Hd (fun n T=>Wu (w1.drewN n) wb T k hcw (by omega));clear hr1
 go_quiet ((go_at_call 88;exact UL (HWI.out _ _)))
 go_upto_region 11 with(first
  |(go_at_call 89;(with_reducible refine(HLE.out _ (HR1.out.drewN _)).mono ?_);rintro e w2 ⟨rfl,hr2,ho2⟩;have HR2:=Hd hr2;have HON2:=Hd ((HON1.out.drewN _).thenP ho2);have k1:=Zb hr2 1;have k4:=Zc hr2 1;have hlt:=Za hr2;have hj1:(i:Int)+(k:Int)≤9223372036854775807:=(by omega);clear hr2 ho2)
  |fail)
 obtain⟨lo,hlo⟩:∃ lo,i=lo:=⟨_,rfl⟩
 obtain⟨j,hj⟩:∃ j,lo+k=j:=⟨_,rfl⟩
 have hsum:(i:Int)+(k:Int)=(j:Int):=by omega
 obtain⟨w3,hw3⟩:∃ w3,w2.setCell ⟨rb,1,none⟩ (.int .i64 ((i:Int)+(k:Int)))=w3:=⟨_,rfl⟩
 have hr3:RdAt w3 rb S j 0:=by rw[←hw3,hsum];exact HR2.out.go j
 have ho3:Zo rb w w3:=by rw[←hw3];exact HON2.out.setCell (.inl (show IsPb rb rb from rfl)) _
 rw[hw3];have HR3:=Hd hr3;have HON3:=Hd ho3;obtain⟨g0,g1,g2,g3,g4⟩:=hr3.cells;have hwl2:IntKind.i64.wrap ((j:Int) - (k:Int))=(lo:Int):=by rw[IntKind.wrap_i64];omega
 have hjs:j≤S.size:=by omega
 have hlj:lo≤j:=by omega
 have hjl:j - lo≤S.size:=by omega
 have HLO:=Hd hlo;have HJ:=Hd hj;have hc1:(lo:Int)≤(j:Int):=by omega
 have hc2:(j:Int)≤(S.size:Int):=by omega
 have hc0:(0:Int)≤(lo:Int):=by omega
 have hc3:(0:Int)≤(j:Int):=by omega
 clear hw3 hr3 ho3 hsum hlo hj k1 k4 hj1
 go_quiet ((go_at_call 87;exact UL (WT _ _)))
 have hlt7:=Za HR3.out
 go_wp2_with fail
 go_step3
 go_wp2_with fail
 rw[Jo]
 go_ret
 rw[HLO.out,HJ.out];exact⟨rfl,(HR3.out.drewN _).fall _,(HON3.out.drewN _).setCell (.inl (show IsPb rb rb from rfl)) _⟩
theorem G9(w:World)(rb wb:Nat)(S:ByteArray)(i:Nat)(h:RdAt w rb S i 0)(hS:S.size≤9223372036854775807)(hi:i≤S.size)(hw:w.cell? ⟨wb,0,none⟩=some (.int .i64 1024))(hne:wb≠rb)(hsh:S.size - i<2) :
 Calls Tryz.prog 85 #[.pointer (some ⟨rb,0,none⟩),.int .i64 2,.func (.func 86) #[] #[.pointer (some ⟨wb,0,none⟩)],.func (.func 87) #[] #[]] w fun e w'=>e=.returned (.string ⟨#[]⟩)∧RdAt w' rb S i 10∧Zo rb w w':=by
 obtain⟨h0,h1,h2',h3,h4⟩:=h.cells;have H:=Hd h;have hwl:=World.block_lt_of_cell? w _ hw;have HW:=Hd (fun(w1:World) (h1:Zo rb w w1)=>(h1.cell (p:=⟨wb,0,none⟩) hwl hne).trans hw);have HLE:=Hd (fun(w1:World) (h1:RdAt w1 rb S i 0)=>Jq w1 rb S i 0 h1 hS hi);have hz:decide ((S.size:Int) - i<2)=true:=decide_eq_true (by omega);clear h hw
 go_enter Tryz.func85,Tryz.ntmps85
 go_wp2_with fail
 refine Xe 0 (by rfl) ?_
 go_wp2_with fail
 go_quiet (fail)
 go_wp2_with (first
  |(go_at_call 89;(with_reducible refine(HLE.out _ (H.out.drewN _)).mono ?_);rintro e w1 ⟨rfl,hr1,ho1⟩;have HR1:=Hd hr1;have HON1:=Hd (((Only.refl (IsPb rb) w).drewN _).thenP ho1);have k4:=Zc hr1 2;have k2:=Zb hr1 2;have hlt:=Za hr1;clear hr1 ho1)
  |fail)
 go_step3
 refine⟨rfl,?_⟩
 go_wp2_with fail
 rw[Exit.noGoto_ret]
 go_ret
 exact⟨rfl,HR1.out.fall _,HON1.out.setCell (.inl (show IsPb rb rb from rfl)) _⟩
theorem Dt(w:World)(rb wb:Nat)(S:ByteArray)(i:Nat)(h:RdAt w rb S i 0)(hS:S.size≤9223372036854775807)(hi:i≤S.size)(hw:w.cell? ⟨wb,0,none⟩=some (.int .i64 1024))(hne:wb≠rb)(n:Nat)(hn:numU ((S.data.toList.drop i).take 2) 0=n)(h2:2≤S.size - i)(hlong:1024<n) :
 Calls Tryz.prog 85 #[.pointer (some ⟨rb,0,none⟩),.int .i64 2,.func (.func 86) #[] #[.pointer (some ⟨wb,0,none⟩)],.func (.func 87) #[] #[]] w fun e w'=>e=.returned (.string ⟨#[]⟩)∧RdAt w' rb S i 11∧Zo rb w w':=by
 obtain⟨h0,h1,h2',h3,h4⟩:=h.cells;have H:=Hd h;have hwl:=World.block_lt_of_cell? w _ hw;have HW:=Hd (fun(w1:World) (h1:Zo rb w w1)=>(h1.cell (p:=⟨wb,0,none⟩) hwl hne).trans hw);have HLE:=Hd (fun(w1:World) (h1:RdAt w1 rb S i 0)=>Jq w1 rb S i 0 h1 hS hi);have hz:decide ((S.size:Int) - i<2)=false:=decide_eq_false (by omega);have hwa:IntKind.i64.wrap ((i:Int)+2)=(i:Int)+2:=by rw[IntKind.wrap_i64];omega
 clear h hw
 go_enter Tryz.func85,Tryz.ntmps85
 go_wp2_with fail
 refine Xe 0 (by rfl) ?_
 go_wp2_with fail
 go_quiet (fail)
 go_upto_region 6 with(first
  |(go_at_call 89;(with_reducible refine(HLE.out _ (H.out.drewN _)).mono ?_);rintro e w1 ⟨rfl,hr1,ho1⟩)
  |fail)
 have hon1:Zo rb w w1:=((Only.refl _ w).drewN _).thenP ho1;have hcw:=HW.out w1 hon1;have HON1:=Hd hon1;have HR1:=Hd hr1;clear h0 h1 h2' h3 h4 hon1 ho1;obtain⟨h0,h1,h2',h3,h4⟩:=hr1.cells;have hii:(i:Int)≤(S.size:Int):=by omega
 have hex:(S.extract i (i+2)).data.toList=(S.data.toList.drop i).take 2:=by simp[ByteArray.data_extract,Array.toList_extract,List.extract_eq_take_drop]
 have hes:(S.extract i (i+2)).size=2:=by rw[ByteArray.size_extract];omega
 have HTX:=Hd (fun(w1':World) (h1':Later w1 w1')=>show Calls Tryz.prog 86 #[.string (S.extract i (i+2)),.pointer (some ⟨wb,0,none⟩)] w1' (fun e w'=>e=.returned (.tuple #[.int .i64 0,.int .i64 11])∧Later w1' w') from by
  have h:=EY w1' wb (S.extract i (i+2)) (by omega) (h1'.cell hcw) n (by rw[hex,hn])
  rwa [if_neg (by omega)]at h)
 have HS1:=Hd (fun(w1':World) (h1':Later w1 w1')=>show w1'.cell? ⟨rb,0,none⟩=some (.string S)∧w1'.cell? ⟨rb,1,none⟩=some (.int .i64 i) from⟨h1'.cell h0,h1'.cell h1⟩);have hb0:(0:Int)≤(i:Int):=by omega
 have hb1:(i:Int)≤(i:Int)+2:=by omega
 have hb2:(i:Int)+2≤(S.size:Int):=by omega
 have hb3:((i:Int)+2).toNat=i+2:=by omega
 have hb4:(0:Int)≤(i:Int)+2:=by omega
 clear hr1 hex hes hn
 go_region_held3 (fun w'=>w'.cell? ⟨rb,0,none⟩=some (.string S)∧w'.cell? ⟨rb,1,none⟩=some (.int .i64 i))
  (exact HS1.out _ La)
  (first
   |(go_at_call 86;(with_reducible refine(HTX.out _ La).mono ?_);rintro e w5 ⟨rfl,hl5⟩)
   |fail)
 have hl6:Later w1 w5:=by(repeat(first|assumption|exact Later.refl _|refine Later.drew ?_|refine Later.trans ?_ (by assumption)))
 have HR5:=Hd (HR1.out.later hl6);have HON5:=Hd (HON1.out.thenP (Only.of_below hl6));clear hl6 h0 h1 h2' h3 h4 hb0 hb1 hb2 hb3 hb4;have k4:=Zc HR5.out 2;have k2:=Zb HR5.out 2;have hlt:=Za HR5.out
 go_wp2_with fail
 go_step3
 go_wp2_with fail
 rw[Jo]
 go_ret
 exact⟨rfl,HR5.out.fall _,HON5.out.setCell (.inl (show IsPb rb rb from rfl)) _⟩
theorem QV(w:World)(rb wb:Nat)(S:ByteArray)(i:Nat)(h:RdAt w rb S i 0)(hS:S.size≤9223372036854775807)(hi:i≤S.size)(hw:w.cell? ⟨wb,0,none⟩=some (.int .i64 1024))(hne:wb≠rb)(n:Nat)(hn:numU ((S.data.toList.drop i).take 2) 0=n)(h2:2≤S.size - i)(hle:n≤1024)(hsh:S.size - i - 2<n) :
 Calls Tryz.prog 85 #[.pointer (some ⟨rb,0,none⟩),.int .i64 2,.func (.func 86) #[] #[.pointer (some ⟨wb,0,none⟩)],.func (.func 87) #[] #[]] w fun e w'=>e=.returned (.string ⟨#[]⟩)∧RdAt w' rb S i 10∧Zo rb w w':=by
 obtain⟨h0,h1,h2',h3,h4⟩:=h.cells;have H:=Hd h;have hwl:=World.block_lt_of_cell? w _ hw;have HW:=Hd (fun(w1:World) (h1:Zo rb w w1)=>(h1.cell (p:=⟨wb,0,none⟩) hwl hne).trans hw);have HLE:=Hd (fun(w1:World) (h1:RdAt w1 rb S i 0)=>Jq w1 rb S i 0 h1 hS hi);have hz:decide ((S.size:Int) - i<2)=false:=decide_eq_false (by omega);have hwa:IntKind.i64.wrap ((i:Int)+2)=(i:Int)+2:=by rw[IntKind.wrap_i64];omega
 have hwb:IntKind.i64.wrap ((S.size:Int) - i - 2)=(S.size:Int) - i - 2:=by rw[IntKind.wrap_i64];omega
 have hz2:decide ((S.size:Int) - i - 2<(n:Int))=true:=decide_eq_true (by omega);clear h hw
 go_enter Tryz.func85,Tryz.ntmps85
 go_wp2_with fail
 refine Xe 0 (by rfl) ?_
 go_wp2_with fail
 go_quiet (fail)
 go_upto_region 6 with(first
  |(go_at_call 89;(with_reducible refine(HLE.out _ (H.out.drewN _)).mono ?_);rintro e w1 ⟨rfl,hr1,ho1⟩)
  |fail)
 have hon1:Zo rb w w1:=((Only.refl _ w).drewN _).thenP ho1;have hcw:=HW.out w1 hon1;have HON1:=Hd hon1;have HR1:=Hd hr1;clear h0 h1 h2' h3 h4 hon1 ho1;obtain⟨h0,h1,h2',h3,h4⟩:=hr1.cells;have hii:(i:Int)≤(S.size:Int):=by omega
 have hex:(S.extract i (i+2)).data.toList=(S.data.toList.drop i).take 2:=by simp[ByteArray.data_extract,Array.toList_extract,List.extract_eq_take_drop]
 have hes:(S.extract i (i+2)).size=2:=by rw[ByteArray.size_extract];omega
 have HTX:=Hd (fun(w1':World) (h1':Later w1 w1')=>show Calls Tryz.prog 86 #[.string (S.extract i (i+2)),.pointer (some ⟨wb,0,none⟩)] w1' (fun e w'=>e=.returned (.tuple #[.int .i64 n,.int .i64 0])∧Later w1' w') from by
  have h:=EY w1' wb (S.extract i (i+2)) (by omega) (h1'.cell hcw) n (by rw[hex,hn])
  rwa [if_pos (by omega)]at h)
 have HS1:=Hd (fun(w1':World) (h1':Later w1 w1')=>show w1'.cell? ⟨rb,0,none⟩=some (.string S)∧w1'.cell? ⟨rb,1,none⟩=some (.int .i64 i) from⟨h1'.cell h0,h1'.cell h1⟩);have hb0:(0:Int)≤(i:Int):=by omega
 have hb1:(i:Int)≤(i:Int)+2:=by omega
 have hb2:(i:Int)+2≤(S.size:Int):=by omega
 have hb3:((i:Int)+2).toNat=i+2:=by omega
 have hb4:(0:Int)≤(i:Int)+2:=by omega
 clear hr1 hex hes hn
 go_region_held3 (fun w'=>w'.cell? ⟨rb,0,none⟩=some (.string S)∧w'.cell? ⟨rb,1,none⟩=some (.int .i64 i))
  (exact HS1.out _ La)
  (first
   |(go_at_call 86;(with_reducible refine(HTX.out _ La).mono ?_);rintro e w5 ⟨rfl,hl5⟩)
   |fail)
 have hl6:Later w1 w5:=by(repeat(first|assumption|exact Later.refl _|refine Later.drew ?_|refine Later.trans ?_ (by assumption)))
 have HR5:=Hd (HR1.out.later hl6);have HON5:=Hd (HON1.out.thenP (Only.of_below hl6));clear hl6 h0 h1 h2' h3 h4 hb0 hb1 hb2 hb3 hb4
 go_wp2_with (first
  |(go_at_call 89;(with_reducible refine(HLE.out _ HR5.out).mono ?_);rintro e w2 ⟨rfl,hr2,ho2⟩;have HR2:=Hd hr2;have HON2:=Hd (HON5.out.thenP ho2);have k4:=Zc hr2 2;have k2:=Zb hr2 2;have hlt:=Za hr2;clear hr2 ho2)
  |fail)
 go_step3
 go_wp2_with fail
 rw[Jo]
 go_ret
 exact⟨rfl,HR2.out.fall _,HON2.out.setCell (.inl (show IsPb rb rb from rfl)) _⟩
theorem Zb4(w:World)(rb wb:Nat)(S:ByteArray)(i:Nat)(h:RdAt w rb S i 0)(hS:S.size≤9223372036854775807)(hi:i≤S.size)(hw:w.cell? ⟨wb,0,none⟩=some (.int .i64 1024))(hne:wb≠rb)(n:Nat)(hn:numU ((S.data.toList.drop i).take 2) 0=n)(h2:2≤S.size - i)(hle:n≤1024)(hok:n≤S.size - i - 2) :
 Calls Tryz.prog 85 #[.pointer (some ⟨rb,0,none⟩),.int .i64 2,.func (.func 86) #[] #[.pointer (some ⟨wb,0,none⟩)],.func (.func 87) #[] #[]] w fun e w'=>e=.returned (.string (S.extract (i+2) (i+2+n)))∧RdAt w' rb S (i+2+n) 0∧Zo rb w w':=by
 obtain⟨h0,h1,h2',h3,h4⟩:=h.cells;have H:=Hd h;have hwl:=World.block_lt_of_cell? w _ hw;have HW:=Hd (fun(w1:World) (h1:Zo rb w w1)=>(h1.cell (p:=⟨wb,0,none⟩) hwl hne).trans hw);have HLE:=Hd (fun(w1:World) (h1:RdAt w1 rb S i 0)=>Jq w1 rb S i 0 h1 hS hi);have hz:decide ((S.size:Int) - i<2)=false:=decide_eq_false (by omega);have hwa:IntKind.i64.wrap ((i:Int)+2)=(i:Int)+2:=by rw[IntKind.wrap_i64];omega
 have hwb:IntKind.i64.wrap ((S.size:Int) - i - 2)=(S.size:Int) - i - 2:=by rw[IntKind.wrap_i64];omega
 have hz2:decide ((S.size:Int) - i - 2<(n:Int))=false:=decide_eq_false (by omega);clear h hw
 go_enter Tryz.func85,Tryz.ntmps85
 go_wp2_with fail
 refine Xe 0 (by rfl) ?_
 go_wp2_with fail
 go_quiet (fail)
 go_upto_region 6 with(first
  |(go_at_call 89;(with_reducible refine(HLE.out _ (H.out.drewN _)).mono ?_);rintro e w1 ⟨rfl,hr1,ho1⟩)
  |fail)
 have hon1:Zo rb w w1:=((Only.refl _ w).drewN _).thenP ho1;have hcw:=HW.out w1 hon1;have HON1:=Hd hon1;have HR1:=Hd hr1;clear h0 h1 h2' h3 h4 hon1 ho1;obtain⟨h0,h1,h2',h3,h4⟩:=hr1.cells;have hii:(i:Int)≤(S.size:Int):=by omega
 have hex:(S.extract i (i+2)).data.toList=(S.data.toList.drop i).take 2:=by simp[ByteArray.data_extract,Array.toList_extract,List.extract_eq_take_drop]
 have hes:(S.extract i (i+2)).size=2:=by rw[ByteArray.size_extract];omega
 have HTX:=Hd (fun(w1':World) (h1':Later w1 w1')=>show Calls Tryz.prog 86 #[.string (S.extract i (i+2)),.pointer (some ⟨wb,0,none⟩)] w1' (fun e w'=>e=.returned (.tuple #[.int .i64 n,.int .i64 0])∧Later w1' w') from by
  have h:=EY w1' wb (S.extract i (i+2)) (by omega) (h1'.cell hcw) n (by rw[hex,hn])
  rwa [if_pos (by omega)]at h)
 have HS1:=Hd (fun(w1':World) (h1':Later w1 w1')=>show w1'.cell? ⟨rb,0,none⟩=some (.string S)∧w1'.cell? ⟨rb,1,none⟩=some (.int .i64 i) from⟨h1'.cell h0,h1'.cell h1⟩);have hb0:(0:Int)≤(i:Int):=by omega
 have hb1:(i:Int)≤(i:Int)+2:=by omega
 have hb2:(i:Int)+2≤(S.size:Int):=by omega
 have hb3:((i:Int)+2).toNat=i+2:=by omega
 have hb4:(0:Int)≤(i:Int)+2:=by omega
 clear hr1 hex hes hn
 go_region_held3 (fun w'=>w'.cell? ⟨rb,0,none⟩=some (.string S)∧w'.cell? ⟨rb,1,none⟩=some (.int .i64 i))
  (exact HS1.out _ La)
  (first
   |(go_at_call 86;(with_reducible refine(HTX.out _ La).mono ?_);rintro e w5 ⟨rfl,hl5⟩)
   |fail)
 have hl6:Later w1 w5:=by(repeat(first|assumption|exact Later.refl _|refine Later.drew ?_|refine Later.trans ?_ (by assumption)))
 have HR5:=Hd (HR1.out.later hl6);have HON5:=Hd (HON1.out.thenP (Only.of_below hl6));clear hl6 h0 h1 h2' h3 h4 hb0 hb1 hb2 hb3 hb4
 go_upto_region 11 with(first
  |(go_at_call 89;(with_reducible refine(HLE.out _ HR5.out).mono ?_);rintro e w2 ⟨rfl,hr2,ho2⟩;have HR2:=Hd hr2;have HON2:=Hd (HON5.out.thenP ho2);have k1:=Zb hr2 1;have k4:=Zc hr2 1;have hlt:=Za hr2;have hj1:(i:Int)+(n:Int)≤9223372036854775807:=(by omega);clear hr2 ho2)
  |fail)
 obtain⟨lo,hlo⟩:∃ lo,i+2=lo:=⟨_,rfl⟩
 obtain⟨j,hj⟩:∃ j,lo+n=j:=⟨_,rfl⟩
 have hsum:(i:Int)+(2+(n:Int))=(j:Int):=by omega
 obtain⟨w3,hw3⟩:∃ w3,w2.setCell ⟨rb,1,none⟩ (.int .i64 ((i:Int)+(2+(n:Int))))=w3:=⟨_,rfl⟩
 have hr3:RdAt w3 rb S j 0:=by rw[←hw3,hsum];exact HR2.out.go j
 have ho3:Zo rb w w3:=by rw[←hw3];exact HON2.out.setCell (.inl (show IsPb rb rb from rfl)) _
 rw[hw3];have HR3:=Hd hr3;have HON3:=Hd ho3;obtain⟨g0,g1,g2,g3,g4⟩:=hr3.cells;have hwl2:IntKind.i64.wrap ((j:Int) - (n:Int))=(lo:Int):=by rw[IntKind.wrap_i64];omega
 have hjs:j≤S.size:=by omega
 have hlj:lo≤j:=by omega
 have hjl:j - lo≤S.size:=by omega
 have HLO:=Hd hlo;have HJ:=Hd hj;have hc1:(lo:Int)≤(j:Int):=by omega
 have hc2:(j:Int)≤(S.size:Int):=by omega
 have hc0:(0:Int)≤(lo:Int):=by omega
 have hc3:(0:Int)≤(j:Int):=by omega
 clear hw3 hr3 ho3 hsum hlo hj k1 k4 hj1
 go_quiet ((go_at_call 87;exact UL (WT _ _)))
 have hlt7:=Za HR3.out
 go_wp2_with fail
 go_step3
 go_wp2_with fail
 rw[Jo]
 go_ret
 rw[HLO.out,HJ.out];exact⟨rfl,(HR3.out.drewN _).fall _,(HON3.out.drewN _).setCell (.inl (show IsPb rb rb from rfl)) _⟩
end Go.Proofs.YtbchkjfnakabkaaGreatDoor
namespace Go.Proofs.YtbchkjfnakabkaaGreatDoor
open Go.RowKit PX PC
def ZY(rb:Nat)(S:ByteArray)(v:Value)(st:RSt)(w:World)(e:Ending)(w':World):Prop:=e=.returned v∧RIn w' rb S st∧Zo rb w w'
theorem RIn.ofNone{w:World}{rb:Nat}{S:ByteArray}{i:Nat}{f:Int}(h:RdAt w rb S i f)(hi:i≤S.size)(hf:f≠0):RIn w rb S none:=⟨i,f,h,hi,.inl ⟨hf,rfl⟩⟩
theorem RIn.ofSome{w:World}{rb:Nat}{S:ByteArray}{i:Nat}(h:RdAt w rb S i 0)(hi:i≤S.size):RIn w rb S (some (S.data.toList.drop i)):=⟨i,0,h,hi,.inr ⟨rfl,rfl⟩⟩
theorem RIn.lt{w:World}{rb:Nat}{S:ByteArray}{st:RSt}(h:RIn w rb S st):rb<w.heap.size:=by
 obtain⟨i,f,h,-, -⟩:=h;exact Za h
theorem VJ{pb:Nat}{a b c:World}(h:Later a b)(k:Zo pb b c):Zo pb a c:=(Only.of_below h).thenP k
theorem Vc(S:ByteArray)(i:Nat):(S.data.toList.drop i).length=S.size - i:=by rw[List.length_drop,Us]
theorem Zay(w:World)(rb wb:Nat)(S:ByteArray)(st:RSt)(h:RIn w rb S st)(hS:S.size≤9223372036854775807)(k:Nat)(hk:1≤k)(hk8:k≤2)(hw:w.cell? ⟨wb,0,none⟩=some (.int .i64 k))(hne:wb≠rb) :
 Calls Tryz.prog 82 #[.pointer (some ⟨rb,0,none⟩),.int .i64 0,.func (.func 83) #[] #[.pointer (some ⟨wb,0,none⟩)],.func (.func 84) #[] #[]] w (ZY rb S (.int .i64 (getN k st).1) (getN k st).2 w):=by
 obtain⟨i,f,h1,hi,⟨hf,rfl⟩|⟨rfl,rfl⟩⟩:=h
 ·refine(QY w rb S i f h1 hf _ _ _).mono ?_;rintro e w' ⟨he,hr,ho⟩;exact⟨he,RIn.ofNone hr hi hf,ho⟩
 ·by_cases hsh:S.size - i<k
  ·refine(QX w rb wb S i h1 hS hi k hk hk8 hw hne hsh).mono ?_;rintro e w' ⟨he,hr,ho⟩;simp only[getN];rw[if_pos (by rw[Vc];exact hsh)];exact⟨he,RIn.ofNone hr hi (by decide),ho⟩
  ·refine(Zb5 w rb wb S i h1 hS hi k hk hk8 hw hne (by omega)).mono ?_;rintro e w' ⟨he,hr,ho⟩;simp only[getN];rw[if_neg (by rw[Vc];exact hsh)];refine⟨he,?_,ho⟩;have:=RIn.ofSome hr (by omega)
   rwa [←List.drop_drop]at this
theorem Zax(w:World)(rb wb:Nat)(S:ByteArray)(st:RSt)(h:RIn w rb S st)(hS:S.size≤9223372036854775807)(hw:w.cell? ⟨wb,0,none⟩=some (.int .i64 1024))(hne:wb≠rb) :
 Calls Tryz.prog 85 #[.pointer (some ⟨rb,0,none⟩),.int .i64 2,.func (.func 86) #[] #[.pointer (some ⟨wb,0,none⟩)],.func (.func 87) #[] #[]] w (ZY rb S (.string (getT st).1) (getT st).2 w):=by
 obtain⟨i,f,h1,hi,⟨hf,rfl⟩|⟨rfl,rfl⟩⟩:=h
 ·refine(QW w rb S i f h1 hf _ _ _).mono ?_;rintro e w' ⟨he,hr,ho⟩;exact⟨he,RIn.ofNone hr hi hf,ho⟩
 ·by_cases hsh:S.size - i<2
  ·refine(G9 w rb wb S i h1 hS hi hw hne hsh).mono ?_;rintro e w' ⟨he,hr,ho⟩;simp only[getT];rw[if_pos (by rw[Vc];exact hsh)];exact⟨he,RIn.ofNone hr hi (by decide),ho⟩
  ·obtain⟨n,hn⟩:∃ n,numU ((S.data.toList.drop i).take 2) 0=n:=⟨_,rfl⟩
   simp only[getT];rw[if_neg (by rw[Vc];exact hsh),hn,Vc];by_cases hlong:1024<n
   ·refine(Dt w rb wb S i h1 hS hi hw hne n hn (by omega) hlong).mono ?_;rintro e w' ⟨he,hr,ho⟩;rw[if_pos (.inl hlong)];exact⟨he,RIn.ofNone hr hi (by decide),ho⟩
   ·by_cases hs2:S.size - i - 2<n
    ·refine(QV w rb wb S i h1 hS hi hw hne n hn (by omega) (by omega) hs2).mono ?_;rintro e w' ⟨he,hr,ho⟩;rw[if_pos (.inr hs2)];exact⟨he,RIn.ofNone hr hi (by decide),ho⟩
    ·refine(Zb4 w rb wb S i h1 hS hi hw hne n hn (by omega) (by omega) (by omega)).mono ?_;rintro e w' ⟨he,hr,ho⟩;rw[if_neg (by omega)];refine⟨?_,?_,ho⟩
     ·rw[he];refine ZeK (QA ?_);rw[List.drop_drop];simp[ByteArray.data_extract,Array.toList_extract,List.extract_eq_take_drop,bytesOf]
     ·have:=RIn.ofSome hr (by omega)
      rwa [List.drop_drop,List.drop_drop]
theorem Zaz(w:World)(rb wb:Nat)(S:ByteArray)(h:RdAt w rb S 0 0)(hS:S.size≤9223372036854775807)(hw:w.cell? ⟨wb,0,none⟩=some (.int .i64 (4:Nat)))(hne:wb≠rb) :
 Calls Tryz.prog 85 #[.pointer (some ⟨rb,0,none⟩),.int .i64 0,.func (.func 88) #[] #[.pointer (some ⟨wb,0,none⟩)],.func (.func 87) #[] #[]] w
  (ZY rb S (.string (if S.size<4 then⟨#[]⟩ else S.extract 0 4)) (if S.size<4 then none else some (S.data.toList.drop 4)) w):=by
 by_cases hsh:S.size<4
 ·rw[if_pos hsh,if_pos hsh];refine(QZ w rb wb S 0 h hS (by omega) 4 (by omega) hw hne (by omega)).mono ?_;rintro e w' ⟨he,hr,ho⟩;exact⟨he,RIn.ofNone hr (by omega) (by decide),ho⟩
 ·rw[if_neg hsh,if_neg hsh];refine(Zb6 w rb wb S 0 h hS (by omega) 4 (by omega) hw hne (by omega)).mono ?_;rintro e w' ⟨he,hr,ho⟩;exact⟨he,RIn.ofSome hr (by omega),ho⟩
theorem YH(w:World)(rb:Nat)(S:ByteArray)(st:RSt)(h:RIn w rb S st)(hS:S.size≤9223372036854775807)(k:Nat)(K:Int)(hK:(k:Int)=K)(hk:1≤k)(hk8:k≤2) :
 Calls Tryz.prog 50 #[.pointer (some ⟨rb,0,none⟩),.int .i64 K] w (ZY rb S (.int .i64 (getN k st).1) (getN k st).2 w):=by
 subst hK;have HT:=Hd (Zay (w.alloc (.cells #[.int .i64 (k:Int)] 3)) rb w.heap.size S st (h.later ((Later.refl w).alloc _)) hS k hk hk8 (Zb (Ze w _) 0) (by have:=h.lt;omega))
 obtain⟨v,hv⟩:∃ v,(getN k st).1=v:=⟨_,rfl⟩
 obtain⟨t,ht⟩:∃ t,(getN k st).2=t:=⟨_,rfl⟩
 rw[hv,ht]at HT ⊢;clear h hS hv ht
 go_enter Tryz.func50,Tryz.ntmps50
 go_wp2_with (first
  |(go_at_call 82;(with_reducible refine HT.out.mono ?_);rintro e w1 ⟨rfl,hr,ho⟩)
  |fail)
 go_ret
 exact⟨rfl,hr,VJ ((Later.refl w).alloc _) ho⟩
theorem Zd6(w:World)(rb:Nat)(S:ByteArray)(st:RSt)(h:RIn w rb S st)(hS:S.size≤9223372036854775807) :
 Calls Tryz.prog 53 #[.pointer (some ⟨rb,0,none⟩),.int .i64 1024] w (ZY rb S (.string (getT st).1) (getT st).2 w):=by
 have HT:=Hd (Zax (w.alloc (.cells #[.int .i64 1024] 3)) rb w.heap.size S st (h.later ((Later.refl w).alloc _)) hS (Zb (Ze w _) 0) (by have:=h.lt;omega))
 obtain⟨v,hv⟩:∃ v,(getT st).1=v:=⟨_,rfl⟩
 obtain⟨t,ht⟩:∃ t,(getT st).2=t:=⟨_,rfl⟩
 rw[hv,ht]at HT ⊢;clear h hS hv ht
 go_enter Tryz.func53,Tryz.ntmps53
 go_wp2_with (first
  |(go_at_call 85;(with_reducible refine HT.out.mono ?_);rintro e w1 ⟨rfl,hr,ho⟩)
  |fail)
 go_ret
 exact⟨rfl,hr,VJ ((Later.refl w).alloc _) ho⟩
theorem Bb(w:World)(rb:Nat)(S:ByteArray)(h:RdAt w rb S 0 0)(hS:S.size≤9223372036854775807) :
 Calls Tryz.prog 54 #[.pointer (some ⟨rb,0,none⟩),.int .i64 4] w (ZY rb S (.string (if S.size<4 then⟨#[]⟩ else S.extract 0 4)) (if S.size<4 then none else some (S.data.toList.drop 4)) w):=by
 have HT:=Hd (Zaz (w.alloc (.cells #[.int .i64 4] 3)) rb w.heap.size S (h.later ((Later.refl w).alloc _)) hS (Zb (Ze w _) 0) (by have:=Za h;omega))
 obtain⟨v,hv⟩:∃ v,(if S.size<4 then(⟨#[]⟩:ByteArray) else S.extract 0 4)=v:=⟨_,rfl⟩
 obtain⟨t,ht⟩:∃ t,(if S.size<4 then none else some (S.data.toList.drop 4))=t:=⟨_,rfl⟩
 rw[hv,ht]at HT ⊢;clear h hS hv ht
 go_enter Tryz.func54,Tryz.ntmps54
 go_wp2_with (first
  |(go_at_call 85;(with_reducible refine HT.out.mono ?_);rintro e w1 ⟨rfl,hr,ho⟩)
  |fail)
 go_ret
 exact⟨rfl,hr,VJ ((Later.refl w).alloc _) ho⟩
theorem EM(w:World)(rb rc:Nat)(S:ByteArray)(st:RSt)(h:RIn w rb S st)(hS:S.size≤9223372036854775807)(hc:w.cell? ⟨rc,0,none⟩=some (.pointer (some ⟨rb,0,none⟩))) :
 Calls Tryz.prog 49 #[.pointer (some ⟨rc,0,none⟩)] w (ZY rb S (.int .i64 (getN 1 st).1) (getN 1 st).2 w):=by
 have HT:=Hd (YH w rb S st h hS 1 1 rfl (by omega) (by omega))
 obtain⟨v,hv⟩:∃ v,(getN 1 st).1=v:=⟨_,rfl⟩
 obtain⟨t,ht⟩:∃ t,(getN 1 st).2=t:=⟨_,rfl⟩
 rw[hv,ht]at HT ⊢;clear h hS hv ht
 go_enter Tryz.func49,Tryz.ntmps49
 go_wp2_with (first
  |(go_at_call 50;(with_reducible refine HT.out.mono ?_);rintro e w1 ⟨rfl,hr,ho⟩)
  |fail)
 go_ret
 exact⟨rfl,hr,ho⟩
theorem By(w:World)(rb rc:Nat)(S:ByteArray)(st:RSt)(h:RIn w rb S st)(hS:S.size≤9223372036854775807)(hc:w.cell? ⟨rc,0,none⟩=some (.pointer (some ⟨rb,0,none⟩))) :
 Calls Tryz.prog 51 #[.pointer (some ⟨rc,0,none⟩)] w (ZY rb S (.int .i64 (getN 2 st).1) (getN 2 st).2 w):=by
 have HT:=Hd (YH w rb S st h hS 2 2 rfl (by omega) (by omega))
 obtain⟨v,hv⟩:∃ v,(getN 2 st).1=v:=⟨_,rfl⟩
 obtain⟨t,ht⟩:∃ t,(getN 2 st).2=t:=⟨_,rfl⟩
 rw[hv,ht]at HT ⊢;clear h hS hv ht
 go_enter Tryz.func51,Tryz.ntmps51
 go_wp2_with (first
  |(go_at_call 50;(with_reducible refine HT.out.mono ?_);rintro e w1 ⟨rfl,hr,ho⟩)
  |fail)
 go_ret
 exact⟨rfl,hr,ho⟩
theorem Zcy(w:World)(rb rc:Nat)(S:ByteArray)(st:RSt)(h:RIn w rb S st)(hS:S.size≤9223372036854775807)(hc:w.cell? ⟨rc,0,none⟩=some (.pointer (some ⟨rb,0,none⟩))) :
 Calls Tryz.prog 52 #[.pointer (some ⟨rc,0,none⟩)] w (ZY rb S (.string (getT st).1) (getT st).2 w):=by
 have HT:=Hd (Zd6 w rb S st h hS)
 obtain⟨v,hv⟩:∃ v,(getT st).1=v:=⟨_,rfl⟩
 obtain⟨t,ht⟩:∃ t,(getT st).2=t:=⟨_,rfl⟩
 rw[hv,ht]at HT ⊢;clear h hS hv ht
 go_enter Tryz.func52,Tryz.ntmps52
 go_wp2_with (first
  |(go_at_call 53;(with_reducible refine HT.out.mono ?_);rintro e w1 ⟨rfl,hr,ho⟩)
  |fail)
 go_ret
 exact⟨rfl,hr,ho⟩
theorem ZbE(w:World)(rb:Nat)(S:ByteArray)(i:Nat)(f:Int)(h:RdAt w rb S i f) :
 Calls Tryz.prog 90 #[.pointer (some ⟨rb,0,none⟩)] w fun e w'=>e=.returned (.tuple #[.int .i64 f,.int .i64 (if f=0 then 0 else i)])∧∃ n,w'=w.drewN n:=by
 obtain⟨h0,h1,h2,h3,h4⟩:=h.cells;by_cases hf:f=0
 ·subst hf;rw[if_pos rfl];clear h
  go_enter Tryz.func90,Tryz.ntmps90
  go_wp2_with fail
  go_ret2
  exact⟨rfl,0,rfl⟩
 ·rw[if_neg hf];have hfb:(f != 0)=true:=by simpa using hf
  clear h hf
  go_enter Tryz.func90,Tryz.ntmps90
  go_wp2_with fail
  go_quiet (fail)
  go_wp2_with fail
  go_ret2
  exact⟨rfl,_,rfl⟩
theorem Zd7(w:World)(rb:Nat)(S:ByteArray)(st:RSt)(h:RIn w rb S st)(hS:S.size≤9223372036854775807) :
 Calls Tryz.prog 68 #[.pointer (some ⟨rb,0,none⟩)] w fun e w'=>∃ q m:Int,e=.returned (.tuple #[.int .i64 q,.int .i64 m])∧(q=0↔st=some [])∧Zo rb w w':=by
 obtain⟨i,f,h1,hi,hst⟩:=h;have H:=Hd h1;obtain⟨h0,h1',h2,h3,h4⟩:=h1.cells;have HF:=Hd (fun(w1:World) (h:RdAt w1 rb S i f)=>ZbE w1 rb S i f h);have HL:=Hd (fun(w1:World) (h:RdAt w1 rb S i f)=>Jq w1 rb S i f h hS hi);clear h1;rcases hst with⟨hf,rfl⟩|⟨rfl,rfl⟩
 ·have hfb:(f==0)=false:=by simpa using hf
  have HFF:=Hd hf
  obtain⟨x,hx⟩:∃ x:Int,(if f=0 then(0:Int) else i)=x:=⟨_,rfl⟩
  rw[hx]at HF;clear hf hx
  go_enter Tryz.func68,Tryz.ntmps68
  go_wp2_with (first
   |(go_at_call 90;(with_reducible refine(HF.out _ H.out).mono ?_);rintro e w1 ⟨rfl,n,rfl⟩)
   |fail)
  go_ret2
  exact⟨f,x,rfl,by simp[HFF.out],(Only.refl _ w).drewN n⟩
 ·by_cases hl:i<S.size
  ·have hd:decide (0<(S.size:Int) - i)=true:=decide_eq_true (by omega)
   have hne:S.data.toList.drop i≠[]:=by
    intro e;have:=congrArg List.length e;rw[Vc]at this;simp at this;omega
   have HNE:=Hd hne;clear hne
   go_enter Tryz.func68,Tryz.ntmps68
   go_upto_region 2 with(first
    |(go_at_call 89;(with_reducible refine(HL.out _ H.out).mono ?_);rintro e w1 ⟨rfl,hr,ho⟩;obtain⟨g0,g1,g2,g3,g4⟩:=hr.cells;have HO:=Hd ho;clear hr ho)
    |fail)
   go_quiet (fail)
   go_wp2_with fail
   go_ret2
   exact⟨12,i,rfl,by simp[HNE.out],HO.out.drewN _⟩
  ·have hd:decide (0<(S.size:Int) - i)=false:=decide_eq_false (by omega);have hne:S.data.toList.drop i=[]:=List.drop_eq_nil_of_le (by rw[Us];omega);have HNE:=Hd hne;clear hne;rw[if_pos rfl]at HF
   go_enter Tryz.func68,Tryz.ntmps68
   go_wp2_with (first
    |(go_at_call 89;(with_reducible refine(HL.out _ H.out).mono ?_);rintro e w1 ⟨rfl,hr,ho⟩;have HR:=Hd hr;have HO:=Hd ho;clear hr ho)
    |(go_at_call 90;(with_reducible refine(HF.out _ HR.out).mono ?_);rintro e w2 ⟨rfl,n,rfl⟩)
    |fail)
   go_ret2
   exact⟨0,0,rfl,by simp[HNE.out],HO.out.drewN n⟩
end Go.Proofs.YtbchkjfnakabkaaGreatDoor
