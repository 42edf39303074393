/- The walks of taken[int], taken[string]; of Num, Text, Bytes. (Printed by gen_ya.py; its head stands in ya_head.lean.) -/
import Derived.Test.YtbchkjfnakabkaaGreatDoorY8
import Derived.ScopeJumps
set_option linter.unusedSimpArgs false
set_option linter.unusedVariables false
namespace Go.Proofs.YtbchkjfnakabkaaGreatDoor
open Go.RowKit PX PC
def fwdQ (P:Program) (l:Nat) (rest:Code) (Q:Exit→Act→World→Prop):Exit→Act→World→Prop
 | .goto l',a,w=>l'=l∧rest.wp P (Exit.noGoto Q) a w
 | e,a,w=>Q e a w
theorem wp_scope_fwd {P:Program} {a:Act} {w:World} {Q:Exit→Act→World→Prop} {c rest:Code} (l:Nat) (hf:findLabel c l=some rest) (h:c.wp P (fwdQ P l rest Q) a w):(Code.scope c).wp P Q a w:=by
 refine wp_scope_jumps l (fun a w=>rest.wp P (Exit.noGoto Q) a w) (fun _ _=>0) hf ?_ ?_
 ·intro b k cs
  obtain ⟨e,a',w',hq,harr⟩:=h b k cs
  refine⟨e,a',w',?_,harr⟩
  cases e<;>exact hq
 ·intro a w hr b k cs
  obtain ⟨e,a',w',hq,harr⟩:=hr b k cs
  refine⟨e,a',w',?_,harr⟩
  cases e<;>first | exact hq | exact False.elim hq
theorem cquiet1 {f:FuncId} {args:Array Value} {w:World} {n:Nat} {v:Value} (h:Calls Tryz.prog f args (w.drewN n) fun e w'=>e=.returned v∧w'=w.drewN n) :
 Calls Tryz.prog f args (w.drewN n) fun e w''=>e=.returned v∧∃ m,w''=w.drewN m:=
 h.mono fun _ _ ⟨he,hm⟩=>⟨he,n,hm⟩
theorem RdAt.drewN {w:World} {rb:Nat} {S:ByteArray} {i:Nat} {f:Int} (h:RdAt w rb S i f) (n:Nat):RdAt (w.drewN n) rb S i f:=h
theorem cleft_w (w:World) (rb:Nat) (S:ByteArray) (i:Nat) (f:Int) (h:RdAt w rb S i f) (hS:S.size≤9223372036854775807) (hi:i≤S.size) :
 Calls Tryz.prog 89 #[.pointer (some ⟨rb,0,none⟩)] w fun e w'=>e=.returned (.int .i64 ((S.size:Int) - i))∧RdAt w' rb S i f∧OnlyP rb w w':=by
 refine (cleft_any w rb S i f h hS hi).mono ?_
 rintro e w' ⟨he,n,rfl⟩
 exact⟨he,h.drewN n,(Only.refl _ w).drewN n⟩
theorem fwdQ_ret {P:Program} {l:Nat} {rest:Code} {Q:Exit→Act→World→Prop} {a:Act} {w:World}:fwdQ P l rest Q .ret a w=Q .ret a w:=rfl
set_option maxRecDepth 100000 in
set_option maxHeartbeats 1000000 in
theorem takenI_fault (w:World) (rb:Nat) (S:ByteArray) (i:Nat) (f:Int) (h:RdAt w rb S i f) (hf:f≠0) (v1 v2 v3:Value) :
 Calls Tryz.prog 82 #[.pointer (some ⟨rb,0,none⟩),v1,v2,v3] w fun e w'=>e=.returned (.int .i64 0)∧RdAt w' rb S i f∧OnlyP rb w w':=by
 obtain ⟨h0,h1,h2,h3,h4⟩:=h.cells
 have H:=Lib.hid h
 have hlt:=lt_of_block h
 have hfb:(f != 0)=true:=by simpa using hf
 clear h hf
 go_enter Tryz.func82,Tryz.ntmps82
 go_wp2_with fail
 refine wp_scope_fwd 0 (by rfl) ?_
 go_wp2_with fail
 go_quiet (fail)
 go_wp2_with fail
 go_step3
 refine⟨rfl,?_⟩
 go_wp2_with fail
 rw [Exit.noGoto_ret]
 go_ret
 exact⟨rfl,(H.out.drewN _).fall _,((Only.refl _ w).drewN _).setCell (.inl (show IsPb rb rb from rfl)) _⟩
set_option maxRecDepth 100000 in
set_option maxHeartbeats 1000000 in
theorem takenS_fault (w:World) (rb:Nat) (S:ByteArray) (i:Nat) (f:Int) (h:RdAt w rb S i f) (hf:f≠0) (v1 v2 v3:Value) :
 Calls Tryz.prog 85 #[.pointer (some ⟨rb,0,none⟩),v1,v2,v3] w fun e w'=>e=.returned (.string ⟨#[]⟩)∧RdAt w' rb S i f∧OnlyP rb w w':=by
 obtain ⟨h0,h1,h2,h3,h4⟩:=h.cells
 have H:=Lib.hid h
 have hlt:=lt_of_block h
 have hfb:(f != 0)=true:=by simpa using hf
 clear h hf
 go_enter Tryz.func85,Tryz.ntmps85
 go_wp2_with fail
 refine wp_scope_fwd 0 (by rfl) ?_
 go_wp2_with fail
 go_quiet (fail)
 go_wp2_with fail
 go_step3
 refine⟨rfl,?_⟩
 go_wp2_with fail
 rw [Exit.noGoto_ret]
 go_ret
 exact⟨rfl,(H.out.drewN _).fall _,((Only.refl _ w).drewN _).setCell (.inl (show IsPb rb rb from rfl)) _⟩
set_option maxRecDepth 100000 in
set_option maxHeartbeats 2000000 in
theorem takenI_short (w:World) (rb wb:Nat) (S:ByteArray) (i:Nat) (h:RdAt w rb S i 0) (hS:S.size≤9223372036854775807) (hi:i≤S.size) (k:Nat) (hk:1≤k) (hk8:k≤2) (hw:w.cell? ⟨wb,0,none⟩=some (.int .i64 k)) (hne:wb≠rb) (hsh:S.size - i<k) :
 Calls Tryz.prog 82 #[.pointer (some ⟨rb,0,none⟩),.int .i64 0,.func (.func 83) #[] #[.pointer (some ⟨wb,0,none⟩)],.func (.func 84) #[] #[]] w fun e w'=>e=.returned (.int .i64 0)∧RdAt w' rb S i 10∧OnlyP rb w w':=by
 obtain ⟨h0,h1,h2',h3,h4⟩:=h.cells
 have H:=Lib.hid h
 have hwl:=World.block_lt_of_cell? w _ hw
 have HW:=Lib.hid (fun (w1:World) (h1:OnlyP rb w w1)=>(h1.cell (p:=⟨wb,0,none⟩) hwl hne).trans hw)
 have HLE:=Lib.hid (fun (w1:World) (h1:RdAt w1 rb S i 0)=>cleft_w w1 rb S i 0 h1 hS hi)
 have hz:decide ((S.size:Int) - i<0)=false:=decide_eq_false (by omega)
 have hwa:IntKind.i64.wrap ((i:Int)+0)=(i:Int)+0:=by rw [IntKind.wrap_i64];omega
 have hwb:IntKind.i64.wrap ((S.size:Int) - i - 0)=(S.size:Int) - i - 0:=by rw [IntKind.wrap_i64];omega
 have hz2:decide ((S.size:Int) - i<(k:Int))=true:=decide_eq_true (by omega)
 clear h hw
 go_enter Tryz.func82,Tryz.ntmps82
 go_wp2_with fail
 refine wp_scope_fwd 0 (by rfl) ?_
 go_wp2_with fail
 go_quiet (fail)
 go_upto_region 6 with (first
  | (go_at_call 89;(with_reducible refine (HLE.out _ (H.out.drewN _)).mono ?_);rintro e w1 ⟨rfl,hr1,ho1⟩)
  | fail)
 have hon1:OnlyP rb w w1:=((Only.refl _ w).drewN _).thenP ho1
 have hcw:=HW.out w1 hon1
 have HON1:=Lib.hid hon1
 have HR1:=Lib.hid hr1
 clear h0 h1 h2' h3 h4 hon1 ho1
 obtain ⟨h0,h1,h2',h3,h4⟩:=hr1.cells
 have hii:(i:Int)≤(S.size:Int):=by omega
 have HWI:=Lib.hid (fun n T=>wide_any (w1.drewN n) wb T k hcw (by omega) (by omega))
 clear hr1
 go_quiet ((go_at_call 83;exact cquiet1 (HWI.out _ _)))
 go_wp2_with (first
  | (go_at_call 89;(with_reducible refine (HLE.out _ (HR1.out.drewN _)).mono ?_);rintro e w2 ⟨rfl,hr2,ho2⟩;have HR2:=Lib.hid hr2;have HON2:=Lib.hid ((HON1.out.drewN _).thenP ho2);have k4:=free_of_block hr2 2;have k2:=cell_of_block hr2 2;have hlt:=lt_of_block hr2;clear hr2 ho2)
  | fail)
 go_step3
 go_wp2_with fail
 rw [fwdQ_ret]
 go_ret
 exact⟨rfl,HR2.out.fall _,HON2.out.setCell (.inl (show IsPb rb rb from rfl)) _⟩
set_option maxRecDepth 100000 in
set_option maxHeartbeats 2000000 in
theorem takenI_ok (w:World) (rb wb:Nat) (S:ByteArray) (i:Nat) (h:RdAt w rb S i 0) (hS:S.size≤9223372036854775807) (hi:i≤S.size) (k:Nat) (hk:1≤k) (hk8:k≤2) (hw:w.cell? ⟨wb,0,none⟩=some (.int .i64 k)) (hne:wb≠rb) (hok:k≤S.size - i) :
 Calls Tryz.prog 82 #[.pointer (some ⟨rb,0,none⟩),.int .i64 0,.func (.func 83) #[] #[.pointer (some ⟨wb,0,none⟩)],.func (.func 84) #[] #[]] w fun e w'=>e=.returned (.int .i64 (numU ((S.data.toList.drop i).take k) 0:Nat))∧RdAt w' rb S (i+k) 0∧OnlyP rb w w':=by
 obtain ⟨h0,h1,h2',h3,h4⟩:=h.cells
 have H:=Lib.hid h
 have hwl:=World.block_lt_of_cell? w _ hw
 have HW:=Lib.hid (fun (w1:World) (h1:OnlyP rb w w1)=>(h1.cell (p:=⟨wb,0,none⟩) hwl hne).trans hw)
 have HLE:=Lib.hid (fun (w1:World) (h1:RdAt w1 rb S i 0)=>cleft_w w1 rb S i 0 h1 hS hi)
 have hz:decide ((S.size:Int) - i<0)=false:=decide_eq_false (by omega)
 have hwa:IntKind.i64.wrap ((i:Int)+0)=(i:Int)+0:=by rw [IntKind.wrap_i64];omega
 have hwb:IntKind.i64.wrap ((S.size:Int) - i - 0)=(S.size:Int) - i - 0:=by rw [IntKind.wrap_i64];omega
 have hz2:decide ((S.size:Int) - i<(k:Int))=false:=decide_eq_false (by omega)
 clear h hw
 go_enter Tryz.func82,Tryz.ntmps82
 go_wp2_with fail
 refine wp_scope_fwd 0 (by rfl) ?_
 go_wp2_with fail
 go_quiet (fail)
 go_upto_region 6 with (first
  | (go_at_call 89;(with_reducible refine (HLE.out _ (H.out.drewN _)).mono ?_);rintro e w1 ⟨rfl,hr1,ho1⟩)
  | fail)
 have hon1:OnlyP rb w w1:=((Only.refl _ w).drewN _).thenP ho1
 have hcw:=HW.out w1 hon1
 have HON1:=Lib.hid hon1
 have HR1:=Lib.hid hr1
 clear h0 h1 h2' h3 h4 hon1 ho1
 obtain ⟨h0,h1,h2',h3,h4⟩:=hr1.cells
 have hii:(i:Int)≤(S.size:Int):=by omega
 have HWI:=Lib.hid (fun n T=>wide_any (w1.drewN n) wb T k hcw (by omega) (by omega))
 clear hr1
 go_quiet ((go_at_call 83;exact cquiet1 (HWI.out _ _)))
 go_upto_region 11 with (first
  | (go_at_call 89;(with_reducible refine (HLE.out _ (HR1.out.drewN _)).mono ?_);rintro e w2 ⟨rfl,hr2,ho2⟩;have HR2:=Lib.hid hr2;have HON2:=Lib.hid ((HON1.out.drewN _).thenP ho2);have k1:=cell_of_block hr2 1;have k4:=free_of_block hr2 1;have hlt:=lt_of_block hr2;have hj1:(i:Int)+(k:Int)≤9223372036854775807:=(by omega);clear hr2 ho2)
  | fail)
 obtain ⟨lo,hlo⟩:∃ lo,i=lo:=⟨_,rfl⟩
 obtain ⟨j,hj⟩:∃ j,lo+k=j:=⟨_,rfl⟩
 have hsum:(i:Int)+(k:Int)=(j:Int):=by omega
 obtain ⟨w3,hw3⟩:∃ w3,w2.setCell ⟨rb,1,none⟩ (.int .i64 ((i:Int)+(k:Int)))=w3:=⟨_,rfl⟩
 have hr3:RdAt w3 rb S j 0:=by rw [←hw3,hsum];exact HR2.out.go j
 have ho3:OnlyP rb w w3:=by rw [←hw3];exact HON2.out.setCell (.inl (show IsPb rb rb from rfl)) _
 rw [hw3]
 have HR3:=Lib.hid hr3
 have HON3:=Lib.hid ho3
 obtain ⟨g0,g1,g2,g3,g4⟩:=hr3.cells
 have hwl2:IntKind.i64.wrap ((j:Int) - (k:Int))=(lo:Int):=by rw [IntKind.wrap_i64];omega
 have hjs:j≤S.size:=by omega
 have hlj:lo≤j:=by omega
 have hjl:j - lo≤2:=by omega
 have HLO:=Lib.hid hlo
 have HJ:=Lib.hid hj
 have hc1:(lo:Int)≤(j:Int):=by omega
 have hc2:(j:Int)≤(S.size:Int):=by omega
 have hc0:(0:Int)≤(lo:Int):=by omega
 have hc3:(0:Int)≤(j:Int):=by omega
 clear hw3 hr3 ho3 hsum hlo hj k1 k4 hj1
 have hes:(S.extract lo j).size≤2:=by rw [ByteArray.size_extract];omega
 have HN:=Lib.hid (fun w'=>cnumber_any w' (S.extract lo j) hes)
 have HS3:=Lib.hid (fun (w':World) (h':Later w3 w')=>show w'.cell? ⟨rb,0,none⟩=some (.string S)∧w'.cell? ⟨rb,1,none⟩=some (.int .i64 j) from ⟨h'.cell g0,h'.cell g1⟩)
 clear hes
 go_region_held3 (fun w'=>w'.cell? ⟨rb,0,none⟩=some (.string S)∧w'.cell? ⟨rb,1,none⟩=some (.int .i64 j))
  (exact HS3.out _ (by repeat (first | assumption | exact Later.refl _ | refine Later.drew ?_ | refine Later.trans ?_ (by assumption))))
  (first
   | (go_at_call 84;(with_reducible refine (HN.out _).mono ?_);rintro e w7 ⟨rfl,hl7⟩)
   | fail)
 have hl8:Later w3 w7:=by (repeat (first | assumption | exact Later.refl _ | refine Later.drew ?_ | refine Later.trans ?_ (by assumption)))
 have HR7:=Lib.hid (HR3.out.later hl8)
 have HON7:=Lib.hid (HON3.out.thenP (Only.of_below hl8))
 clear hl8 g0 g1 g2 g3 g4
 have k4:=free_of_block HR7.out 2
 have k2:=cell_of_block HR7.out 2
 have hlt7:=lt_of_block HR7.out
 go_wp2_with fail
 go_step3
 go_wp2_with fail
 rw [fwdQ_ret]
 go_ret
 have hjk:j - lo=k:=by have:=HJ.out;omega
 rw [HLO.out,HJ.out]
 refine⟨ret_int (by rw [←hjk]),?_,?_⟩
 ·exact HR7.out.fall _
 ·exact HON7.out.setCell (.inl (show IsPb rb rb from rfl)) _
set_option maxRecDepth 100000 in
set_option maxHeartbeats 2000000 in
theorem takenB_short (w:World) (rb wb:Nat) (S:ByteArray) (i:Nat) (h:RdAt w rb S i 0) (hS:S.size≤9223372036854775807) (hi:i≤S.size) (k:Nat) (hk8:k≤1000) (hw:w.cell? ⟨wb,0,none⟩=some (.int .i64 k)) (hne:wb≠rb) (hsh:S.size - i<k) :
 Calls Tryz.prog 85 #[.pointer (some ⟨rb,0,none⟩),.int .i64 0,.func (.func 88) #[] #[.pointer (some ⟨wb,0,none⟩)],.func (.func 87) #[] #[]] w fun e w'=>e=.returned (.string ⟨#[]⟩)∧RdAt w' rb S i 10∧OnlyP rb w w':=by
 obtain ⟨h0,h1,h2',h3,h4⟩:=h.cells
 have H:=Lib.hid h
 have hwl:=World.block_lt_of_cell? w _ hw
 have HW:=Lib.hid (fun (w1:World) (h1:OnlyP rb w w1)=>(h1.cell (p:=⟨wb,0,none⟩) hwl hne).trans hw)
 have HLE:=Lib.hid (fun (w1:World) (h1:RdAt w1 rb S i 0)=>cleft_w w1 rb S i 0 h1 hS hi)
 have hz:decide ((S.size:Int) - i<0)=false:=decide_eq_false (by omega)
 have hwa:IntKind.i64.wrap ((i:Int)+0)=(i:Int)+0:=by rw [IntKind.wrap_i64];omega
 have hwb:IntKind.i64.wrap ((S.size:Int) - i - 0)=(S.size:Int) - i - 0:=by rw [IntKind.wrap_i64];omega
 have hz2:decide ((S.size:Int) - i<(k:Int))=true:=decide_eq_true (by omega)
 clear h hw
 go_enter Tryz.func85,Tryz.ntmps85
 go_wp2_with fail
 refine wp_scope_fwd 0 (by rfl) ?_
 go_wp2_with fail
 go_quiet (fail)
 go_upto_region 6 with (first
  | (go_at_call 89;(with_reducible refine (HLE.out _ (H.out.drewN _)).mono ?_);rintro e w1 ⟨rfl,hr1,ho1⟩)
  | fail)
 have hon1:OnlyP rb w w1:=((Only.refl _ w).drewN _).thenP ho1
 have hcw:=HW.out w1 hon1
 have HON1:=Lib.hid hon1
 have HR1:=Lib.hid hr1
 clear h0 h1 h2' h3 h4 hon1 ho1
 obtain ⟨h0,h1,h2',h3,h4⟩:=hr1.cells
 have hii:(i:Int)≤(S.size:Int):=by omega
 have HWI:=Lib.hid (fun n T=>longB_any (w1.drewN n) wb T k hcw (by omega))
 clear hr1
 go_quiet ((go_at_call 88;exact cquiet1 (HWI.out _ _)))
 go_wp2_with (first
  | (go_at_call 89;(with_reducible refine (HLE.out _ (HR1.out.drewN _)).mono ?_);rintro e w2 ⟨rfl,hr2,ho2⟩;have HR2:=Lib.hid hr2;have HON2:=Lib.hid ((HON1.out.drewN _).thenP ho2);have k4:=free_of_block hr2 2;have k2:=cell_of_block hr2 2;have hlt:=lt_of_block hr2;clear hr2 ho2)
  | fail)
 go_step3
 go_wp2_with fail
 rw [fwdQ_ret]
 go_ret
 exact⟨rfl,HR2.out.fall _,HON2.out.setCell (.inl (show IsPb rb rb from rfl)) _⟩
set_option maxRecDepth 100000 in
set_option maxHeartbeats 2000000 in
theorem takenB_ok (w:World) (rb wb:Nat) (S:ByteArray) (i:Nat) (h:RdAt w rb S i 0) (hS:S.size≤9223372036854775807) (hi:i≤S.size) (k:Nat) (hk8:k≤1000) (hw:w.cell? ⟨wb,0,none⟩=some (.int .i64 k)) (hne:wb≠rb) (hok:k≤S.size - i) :
 Calls Tryz.prog 85 #[.pointer (some ⟨rb,0,none⟩),.int .i64 0,.func (.func 88) #[] #[.pointer (some ⟨wb,0,none⟩)],.func (.func 87) #[] #[]] w fun e w'=>e=.returned (.string (S.extract i (i+k)))∧RdAt w' rb S (i+k) 0∧OnlyP rb w w':=by
 obtain ⟨h0,h1,h2',h3,h4⟩:=h.cells
 have H:=Lib.hid h
 have hwl:=World.block_lt_of_cell? w _ hw
 have HW:=Lib.hid (fun (w1:World) (h1:OnlyP rb w w1)=>(h1.cell (p:=⟨wb,0,none⟩) hwl hne).trans hw)
 have HLE:=Lib.hid (fun (w1:World) (h1:RdAt w1 rb S i 0)=>cleft_w w1 rb S i 0 h1 hS hi)
 have hz:decide ((S.size:Int) - i<0)=false:=decide_eq_false (by omega)
 have hwa:IntKind.i64.wrap ((i:Int)+0)=(i:Int)+0:=by rw [IntKind.wrap_i64];omega
 have hwb:IntKind.i64.wrap ((S.size:Int) - i - 0)=(S.size:Int) - i - 0:=by rw [IntKind.wrap_i64];omega
 have hz2:decide ((S.size:Int) - i<(k:Int))=false:=decide_eq_false (by omega)
 clear h hw
 go_enter Tryz.func85,Tryz.ntmps85
 go_wp2_with fail
 refine wp_scope_fwd 0 (by rfl) ?_
 go_wp2_with fail
 go_quiet (fail)
 go_upto_region 6 with (first
  | (go_at_call 89;(with_reducible refine (HLE.out _ (H.out.drewN _)).mono ?_);rintro e w1 ⟨rfl,hr1,ho1⟩)
  | fail)
 have hon1:OnlyP rb w w1:=((Only.refl _ w).drewN _).thenP ho1
 have hcw:=HW.out w1 hon1
 have HON1:=Lib.hid hon1
 have HR1:=Lib.hid hr1
 clear h0 h1 h2' h3 h4 hon1 ho1
 obtain ⟨h0,h1,h2',h3,h4⟩:=hr1.cells
 have hii:(i:Int)≤(S.size:Int):=by omega
 have HWI:=Lib.hid (fun n T=>longB_any (w1.drewN n) wb T k hcw (by omega))
 clear hr1
 go_quiet ((go_at_call 88;exact cquiet1 (HWI.out _ _)))
 go_upto_region 11 with (first
  | (go_at_call 89;(with_reducible refine (HLE.out _ (HR1.out.drewN _)).mono ?_);rintro e w2 ⟨rfl,hr2,ho2⟩;have HR2:=Lib.hid hr2;have HON2:=Lib.hid ((HON1.out.drewN _).thenP ho2);have k1:=cell_of_block hr2 1;have k4:=free_of_block hr2 1;have hlt:=lt_of_block hr2;have hj1:(i:Int)+(k:Int)≤9223372036854775807:=(by omega);clear hr2 ho2)
  | fail)
 obtain ⟨lo,hlo⟩:∃ lo,i=lo:=⟨_,rfl⟩
 obtain ⟨j,hj⟩:∃ j,lo+k=j:=⟨_,rfl⟩
 have hsum:(i:Int)+(k:Int)=(j:Int):=by omega
 obtain ⟨w3,hw3⟩:∃ w3,w2.setCell ⟨rb,1,none⟩ (.int .i64 ((i:Int)+(k:Int)))=w3:=⟨_,rfl⟩
 have hr3:RdAt w3 rb S j 0:=by rw [←hw3,hsum];exact HR2.out.go j
 have ho3:OnlyP rb w w3:=by rw [←hw3];exact HON2.out.setCell (.inl (show IsPb rb rb from rfl)) _
 rw [hw3]
 have HR3:=Lib.hid hr3
 have HON3:=Lib.hid ho3
 obtain ⟨g0,g1,g2,g3,g4⟩:=hr3.cells
 have hwl2:IntKind.i64.wrap ((j:Int) - (k:Int))=(lo:Int):=by rw [IntKind.wrap_i64];omega
 have hjs:j≤S.size:=by omega
 have hlj:lo≤j:=by omega
 have hjl:j - lo≤S.size:=by omega
 have HLO:=Lib.hid hlo
 have HJ:=Lib.hid hj
 have hc1:(lo:Int)≤(j:Int):=by omega
 have hc2:(j:Int)≤(S.size:Int):=by omega
 have hc0:(0:Int)≤(lo:Int):=by omega
 have hc3:(0:Int)≤(j:Int):=by omega
 clear hw3 hr3 ho3 hsum hlo hj k1 k4 hj1
 go_quiet ((go_at_call 87;exact cquiet1 (csame_any _ _)))
 have hlt7:=lt_of_block HR3.out
 go_wp2_with fail
 go_step3
 go_wp2_with fail
 rw [fwdQ_ret]
 go_ret
 rw [HLO.out,HJ.out]
 exact⟨rfl,(HR3.out.drewN _).fall _,(HON3.out.drewN _).setCell (.inl (show IsPb rb rb from rfl)) _⟩
set_option maxRecDepth 100000 in
set_option maxHeartbeats 2000000 in
theorem takenT_short2 (w:World) (rb wb:Nat) (S:ByteArray) (i:Nat) (h:RdAt w rb S i 0) (hS:S.size≤9223372036854775807) (hi:i≤S.size) (hw:w.cell? ⟨wb,0,none⟩=some (.int .i64 1024)) (hne:wb≠rb) (hsh:S.size - i<2) :
 Calls Tryz.prog 85 #[.pointer (some ⟨rb,0,none⟩),.int .i64 2,.func (.func 86) #[] #[.pointer (some ⟨wb,0,none⟩)],.func (.func 87) #[] #[]] w fun e w'=>e=.returned (.string ⟨#[]⟩)∧RdAt w' rb S i 10∧OnlyP rb w w':=by
 obtain ⟨h0,h1,h2',h3,h4⟩:=h.cells
 have H:=Lib.hid h
 have hwl:=World.block_lt_of_cell? w _ hw
 have HW:=Lib.hid (fun (w1:World) (h1:OnlyP rb w w1)=>(h1.cell (p:=⟨wb,0,none⟩) hwl hne).trans hw)
 have HLE:=Lib.hid (fun (w1:World) (h1:RdAt w1 rb S i 0)=>cleft_w w1 rb S i 0 h1 hS hi)
 have hz:decide ((S.size:Int) - i<2)=true:=decide_eq_true (by omega)
 clear h hw
 go_enter Tryz.func85,Tryz.ntmps85
 go_wp2_with fail
 refine wp_scope_fwd 0 (by rfl) ?_
 go_wp2_with fail
 go_quiet (fail)
 go_wp2_with (first
  | (go_at_call 89;(with_reducible refine (HLE.out _ (H.out.drewN _)).mono ?_);rintro e w1 ⟨rfl,hr1,ho1⟩;have HR1:=Lib.hid hr1;have HON1:=Lib.hid (((Only.refl (IsPb rb) w).drewN _).thenP ho1);have k4:=free_of_block hr1 2;have k2:=cell_of_block hr1 2;have hlt:=lt_of_block hr1;clear hr1 ho1)
  | fail)
 go_step3
 refine⟨rfl,?_⟩
 go_wp2_with fail
 rw [Exit.noGoto_ret]
 go_ret
 exact⟨rfl,HR1.out.fall _,HON1.out.setCell (.inl (show IsPb rb rb from rfl)) _⟩
set_option maxRecDepth 100000 in
set_option maxHeartbeats 2000000 in
theorem takenT_long (w:World) (rb wb:Nat) (S:ByteArray) (i:Nat) (h:RdAt w rb S i 0) (hS:S.size≤9223372036854775807) (hi:i≤S.size) (hw:w.cell? ⟨wb,0,none⟩=some (.int .i64 1024)) (hne:wb≠rb) (n:Nat) (hn:numU ((S.data.toList.drop i).take 2) 0=n) (h2:2≤S.size - i) (hlong:1024<n) :
 Calls Tryz.prog 85 #[.pointer (some ⟨rb,0,none⟩),.int .i64 2,.func (.func 86) #[] #[.pointer (some ⟨wb,0,none⟩)],.func (.func 87) #[] #[]] w fun e w'=>e=.returned (.string ⟨#[]⟩)∧RdAt w' rb S i 11∧OnlyP rb w w':=by
 obtain ⟨h0,h1,h2',h3,h4⟩:=h.cells
 have H:=Lib.hid h
 have hwl:=World.block_lt_of_cell? w _ hw
 have HW:=Lib.hid (fun (w1:World) (h1:OnlyP rb w w1)=>(h1.cell (p:=⟨wb,0,none⟩) hwl hne).trans hw)
 have HLE:=Lib.hid (fun (w1:World) (h1:RdAt w1 rb S i 0)=>cleft_w w1 rb S i 0 h1 hS hi)
 have hz:decide ((S.size:Int) - i<2)=false:=decide_eq_false (by omega)
 have hwa:IntKind.i64.wrap ((i:Int)+2)=(i:Int)+2:=by rw [IntKind.wrap_i64];omega
 clear h hw
 go_enter Tryz.func85,Tryz.ntmps85
 go_wp2_with fail
 refine wp_scope_fwd 0 (by rfl) ?_
 go_wp2_with fail
 go_quiet (fail)
 go_upto_region 6 with (first
  | (go_at_call 89;(with_reducible refine (HLE.out _ (H.out.drewN _)).mono ?_);rintro e w1 ⟨rfl,hr1,ho1⟩)
  | fail)
 have hon1:OnlyP rb w w1:=((Only.refl _ w).drewN _).thenP ho1
 have hcw:=HW.out w1 hon1
 have HON1:=Lib.hid hon1
 have HR1:=Lib.hid hr1
 clear h0 h1 h2' h3 h4 hon1 ho1
 obtain ⟨h0,h1,h2',h3,h4⟩:=hr1.cells
 have hii:(i:Int)≤(S.size:Int):=by omega
 have hex:(S.extract i (i+2)).data.toList=(S.data.toList.drop i).take 2:=by simp [ByteArray.data_extract,Array.toList_extract,List.extract_eq_take_drop]
 have hes:(S.extract i (i+2)).size=2:=by rw [ByteArray.size_extract];omega
 have HTX:=Lib.hid (fun (w1':World) (h1':Later w1 w1')=>show Calls Tryz.prog 86 #[.string (S.extract i (i+2)),.pointer (some ⟨wb,0,none⟩)] w1' (fun e w'=>e=.returned (.tuple #[.int .i64 0,.int .i64 11])∧Later w1' w') from by
  have h:=longT_any w1' wb (S.extract i (i+2)) (by omega) (h1'.cell hcw) n (by rw [hex,hn])
  rwa [if_neg (by omega)] at h)
 have HS1:=Lib.hid (fun (w1':World) (h1':Later w1 w1')=>show w1'.cell? ⟨rb,0,none⟩=some (.string S)∧w1'.cell? ⟨rb,1,none⟩=some (.int .i64 i) from ⟨h1'.cell h0,h1'.cell h1⟩)
 have hb0:(0:Int)≤(i:Int):=by omega
 have hb1:(i:Int)≤(i:Int)+2:=by omega
 have hb2:(i:Int)+2≤(S.size:Int):=by omega
 have hb3:((i:Int)+2).toNat=i+2:=by omega
 have hb4:(0:Int)≤(i:Int)+2:=by omega
 clear hr1 hex hes hn
 go_region_held3 (fun w'=>w'.cell? ⟨rb,0,none⟩=some (.string S)∧w'.cell? ⟨rb,1,none⟩=some (.int .i64 i))
  (exact HS1.out _ (by repeat (first | assumption | exact Later.refl _ | refine Later.drew ?_ | refine Later.trans ?_ (by assumption))))
  (first
   | (go_at_call 86;(with_reducible refine (HTX.out _ (by repeat (first | assumption | exact Later.refl _ | refine Later.drew ?_ | refine Later.trans ?_ (by assumption)))).mono ?_);rintro e w5 ⟨rfl,hl5⟩)
   | fail)
 have hl6:Later w1 w5:=by (repeat (first | assumption | exact Later.refl _ | refine Later.drew ?_ | refine Later.trans ?_ (by assumption)))
 have HR5:=Lib.hid (HR1.out.later hl6)
 have HON5:=Lib.hid (HON1.out.thenP (Only.of_below hl6))
 clear hl6 h0 h1 h2' h3 h4 hb0 hb1 hb2 hb3 hb4
 have k4:=free_of_block HR5.out 2
 have k2:=cell_of_block HR5.out 2
 have hlt:=lt_of_block HR5.out
 go_wp2_with fail
 go_step3
 go_wp2_with fail
 rw [fwdQ_ret]
 go_ret
 exact⟨rfl,HR5.out.fall _,HON5.out.setCell (.inl (show IsPb rb rb from rfl)) _⟩
set_option maxRecDepth 100000 in
set_option maxHeartbeats 2000000 in
theorem takenT_short (w:World) (rb wb:Nat) (S:ByteArray) (i:Nat) (h:RdAt w rb S i 0) (hS:S.size≤9223372036854775807) (hi:i≤S.size) (hw:w.cell? ⟨wb,0,none⟩=some (.int .i64 1024)) (hne:wb≠rb) (n:Nat) (hn:numU ((S.data.toList.drop i).take 2) 0=n) (h2:2≤S.size - i) (hle:n≤1024) (hsh:S.size - i - 2<n) :
 Calls Tryz.prog 85 #[.pointer (some ⟨rb,0,none⟩),.int .i64 2,.func (.func 86) #[] #[.pointer (some ⟨wb,0,none⟩)],.func (.func 87) #[] #[]] w fun e w'=>e=.returned (.string ⟨#[]⟩)∧RdAt w' rb S i 10∧OnlyP rb w w':=by
 obtain ⟨h0,h1,h2',h3,h4⟩:=h.cells
 have H:=Lib.hid h
 have hwl:=World.block_lt_of_cell? w _ hw
 have HW:=Lib.hid (fun (w1:World) (h1:OnlyP rb w w1)=>(h1.cell (p:=⟨wb,0,none⟩) hwl hne).trans hw)
 have HLE:=Lib.hid (fun (w1:World) (h1:RdAt w1 rb S i 0)=>cleft_w w1 rb S i 0 h1 hS hi)
 have hz:decide ((S.size:Int) - i<2)=false:=decide_eq_false (by omega)
 have hwa:IntKind.i64.wrap ((i:Int)+2)=(i:Int)+2:=by rw [IntKind.wrap_i64];omega
 have hwb:IntKind.i64.wrap ((S.size:Int) - i - 2)=(S.size:Int) - i - 2:=by rw [IntKind.wrap_i64];omega
 have hz2:decide ((S.size:Int) - i - 2<(n:Int))=true:=decide_eq_true (by omega)
 clear h hw
 go_enter Tryz.func85,Tryz.ntmps85
 go_wp2_with fail
 refine wp_scope_fwd 0 (by rfl) ?_
 go_wp2_with fail
 go_quiet (fail)
 go_upto_region 6 with (first
  | (go_at_call 89;(with_reducible refine (HLE.out _ (H.out.drewN _)).mono ?_);rintro e w1 ⟨rfl,hr1,ho1⟩)
  | fail)
 have hon1:OnlyP rb w w1:=((Only.refl _ w).drewN _).thenP ho1
 have hcw:=HW.out w1 hon1
 have HON1:=Lib.hid hon1
 have HR1:=Lib.hid hr1
 clear h0 h1 h2' h3 h4 hon1 ho1
 obtain ⟨h0,h1,h2',h3,h4⟩:=hr1.cells
 have hii:(i:Int)≤(S.size:Int):=by omega
 have hex:(S.extract i (i+2)).data.toList=(S.data.toList.drop i).take 2:=by simp [ByteArray.data_extract,Array.toList_extract,List.extract_eq_take_drop]
 have hes:(S.extract i (i+2)).size=2:=by rw [ByteArray.size_extract];omega
 have HTX:=Lib.hid (fun (w1':World) (h1':Later w1 w1')=>show Calls Tryz.prog 86 #[.string (S.extract i (i+2)),.pointer (some ⟨wb,0,none⟩)] w1' (fun e w'=>e=.returned (.tuple #[.int .i64 n,.int .i64 0])∧Later w1' w') from by
  have h:=longT_any w1' wb (S.extract i (i+2)) (by omega) (h1'.cell hcw) n (by rw [hex,hn])
  rwa [if_pos (by omega)] at h)
 have HS1:=Lib.hid (fun (w1':World) (h1':Later w1 w1')=>show w1'.cell? ⟨rb,0,none⟩=some (.string S)∧w1'.cell? ⟨rb,1,none⟩=some (.int .i64 i) from ⟨h1'.cell h0,h1'.cell h1⟩)
 have hb0:(0:Int)≤(i:Int):=by omega
 have hb1:(i:Int)≤(i:Int)+2:=by omega
 have hb2:(i:Int)+2≤(S.size:Int):=by omega
 have hb3:((i:Int)+2).toNat=i+2:=by omega
 have hb4:(0:Int)≤(i:Int)+2:=by omega
 clear hr1 hex hes hn
 go_region_held3 (fun w'=>w'.cell? ⟨rb,0,none⟩=some (.string S)∧w'.cell? ⟨rb,1,none⟩=some (.int .i64 i))
  (exact HS1.out _ (by repeat (first | assumption | exact Later.refl _ | refine Later.drew ?_ | refine Later.trans ?_ (by assumption))))
  (first
   | (go_at_call 86;(with_reducible refine (HTX.out _ (by repeat (first | assumption | exact Later.refl _ | refine Later.drew ?_ | refine Later.trans ?_ (by assumption)))).mono ?_);rintro e w5 ⟨rfl,hl5⟩)
   | fail)
 have hl6:Later w1 w5:=by (repeat (first | assumption | exact Later.refl _ | refine Later.drew ?_ | refine Later.trans ?_ (by assumption)))
 have HR5:=Lib.hid (HR1.out.later hl6)
 have HON5:=Lib.hid (HON1.out.thenP (Only.of_below hl6))
 clear hl6 h0 h1 h2' h3 h4 hb0 hb1 hb2 hb3 hb4
 go_wp2_with (first
  | (go_at_call 89;(with_reducible refine (HLE.out _ HR5.out).mono ?_);rintro e w2 ⟨rfl,hr2,ho2⟩;have HR2:=Lib.hid hr2;have HON2:=Lib.hid (HON5.out.thenP ho2);have k4:=free_of_block hr2 2;have k2:=cell_of_block hr2 2;have hlt:=lt_of_block hr2;clear hr2 ho2)
  | fail)
 go_step3
 go_wp2_with fail
 rw [fwdQ_ret]
 go_ret
 exact⟨rfl,HR2.out.fall _,HON2.out.setCell (.inl (show IsPb rb rb from rfl)) _⟩
set_option maxRecDepth 100000 in
set_option maxHeartbeats 2000000 in
theorem takenT_ok (w:World) (rb wb:Nat) (S:ByteArray) (i:Nat) (h:RdAt w rb S i 0) (hS:S.size≤9223372036854775807) (hi:i≤S.size) (hw:w.cell? ⟨wb,0,none⟩=some (.int .i64 1024)) (hne:wb≠rb) (n:Nat) (hn:numU ((S.data.toList.drop i).take 2) 0=n) (h2:2≤S.size - i) (hle:n≤1024) (hok:n≤S.size - i - 2) :
 Calls Tryz.prog 85 #[.pointer (some ⟨rb,0,none⟩),.int .i64 2,.func (.func 86) #[] #[.pointer (some ⟨wb,0,none⟩)],.func (.func 87) #[] #[]] w fun e w'=>e=.returned (.string (S.extract (i+2) (i+2+n)))∧RdAt w' rb S (i+2+n) 0∧OnlyP rb w w':=by
 obtain ⟨h0,h1,h2',h3,h4⟩:=h.cells
 have H:=Lib.hid h
 have hwl:=World.block_lt_of_cell? w _ hw
 have HW:=Lib.hid (fun (w1:World) (h1:OnlyP rb w w1)=>(h1.cell (p:=⟨wb,0,none⟩) hwl hne).trans hw)
 have HLE:=Lib.hid (fun (w1:World) (h1:RdAt w1 rb S i 0)=>cleft_w w1 rb S i 0 h1 hS hi)
 have hz:decide ((S.size:Int) - i<2)=false:=decide_eq_false (by omega)
 have hwa:IntKind.i64.wrap ((i:Int)+2)=(i:Int)+2:=by rw [IntKind.wrap_i64];omega
 have hwb:IntKind.i64.wrap ((S.size:Int) - i - 2)=(S.size:Int) - i - 2:=by rw [IntKind.wrap_i64];omega
 have hz2:decide ((S.size:Int) - i - 2<(n:Int))=false:=decide_eq_false (by omega)
 clear h hw
 go_enter Tryz.func85,Tryz.ntmps85
 go_wp2_with fail
 refine wp_scope_fwd 0 (by rfl) ?_
 go_wp2_with fail
 go_quiet (fail)
 go_upto_region 6 with (first
  | (go_at_call 89;(with_reducible refine (HLE.out _ (H.out.drewN _)).mono ?_);rintro e w1 ⟨rfl,hr1,ho1⟩)
  | fail)
 have hon1:OnlyP rb w w1:=((Only.refl _ w).drewN _).thenP ho1
 have hcw:=HW.out w1 hon1
 have HON1:=Lib.hid hon1
 have HR1:=Lib.hid hr1
 clear h0 h1 h2' h3 h4 hon1 ho1
 obtain ⟨h0,h1,h2',h3,h4⟩:=hr1.cells
 have hii:(i:Int)≤(S.size:Int):=by omega
 have hex:(S.extract i (i+2)).data.toList=(S.data.toList.drop i).take 2:=by simp [ByteArray.data_extract,Array.toList_extract,List.extract_eq_take_drop]
 have hes:(S.extract i (i+2)).size=2:=by rw [ByteArray.size_extract];omega
 have HTX:=Lib.hid (fun (w1':World) (h1':Later w1 w1')=>show Calls Tryz.prog 86 #[.string (S.extract i (i+2)),.pointer (some ⟨wb,0,none⟩)] w1' (fun e w'=>e=.returned (.tuple #[.int .i64 n,.int .i64 0])∧Later w1' w') from by
  have h:=longT_any w1' wb (S.extract i (i+2)) (by omega) (h1'.cell hcw) n (by rw [hex,hn])
  rwa [if_pos (by omega)] at h)
 have HS1:=Lib.hid (fun (w1':World) (h1':Later w1 w1')=>show w1'.cell? ⟨rb,0,none⟩=some (.string S)∧w1'.cell? ⟨rb,1,none⟩=some (.int .i64 i) from ⟨h1'.cell h0,h1'.cell h1⟩)
 have hb0:(0:Int)≤(i:Int):=by omega
 have hb1:(i:Int)≤(i:Int)+2:=by omega
 have hb2:(i:Int)+2≤(S.size:Int):=by omega
 have hb3:((i:Int)+2).toNat=i+2:=by omega
 have hb4:(0:Int)≤(i:Int)+2:=by omega
 clear hr1 hex hes hn
 go_region_held3 (fun w'=>w'.cell? ⟨rb,0,none⟩=some (.string S)∧w'.cell? ⟨rb,1,none⟩=some (.int .i64 i))
  (exact HS1.out _ (by repeat (first | assumption | exact Later.refl _ | refine Later.drew ?_ | refine Later.trans ?_ (by assumption))))
  (first
   | (go_at_call 86;(with_reducible refine (HTX.out _ (by repeat (first | assumption | exact Later.refl _ | refine Later.drew ?_ | refine Later.trans ?_ (by assumption)))).mono ?_);rintro e w5 ⟨rfl,hl5⟩)
   | fail)
 have hl6:Later w1 w5:=by (repeat (first | assumption | exact Later.refl _ | refine Later.drew ?_ | refine Later.trans ?_ (by assumption)))
 have HR5:=Lib.hid (HR1.out.later hl6)
 have HON5:=Lib.hid (HON1.out.thenP (Only.of_below hl6))
 clear hl6 h0 h1 h2' h3 h4 hb0 hb1 hb2 hb3 hb4
 go_upto_region 11 with (first
  | (go_at_call 89;(with_reducible refine (HLE.out _ HR5.out).mono ?_);rintro e w2 ⟨rfl,hr2,ho2⟩;have HR2:=Lib.hid hr2;have HON2:=Lib.hid (HON5.out.thenP ho2);have k1:=cell_of_block hr2 1;have k4:=free_of_block hr2 1;have hlt:=lt_of_block hr2;have hj1:(i:Int)+(n:Int)≤9223372036854775807:=(by omega);clear hr2 ho2)
  | fail)
 obtain ⟨lo,hlo⟩:∃ lo,i+2=lo:=⟨_,rfl⟩
 obtain ⟨j,hj⟩:∃ j,lo+n=j:=⟨_,rfl⟩
 have hsum:(i:Int)+(2+(n:Int))=(j:Int):=by omega
 obtain ⟨w3,hw3⟩:∃ w3,w2.setCell ⟨rb,1,none⟩ (.int .i64 ((i:Int)+(2+(n:Int))))=w3:=⟨_,rfl⟩
 have hr3:RdAt w3 rb S j 0:=by rw [←hw3,hsum];exact HR2.out.go j
 have ho3:OnlyP rb w w3:=by rw [←hw3];exact HON2.out.setCell (.inl (show IsPb rb rb from rfl)) _
 rw [hw3]
 have HR3:=Lib.hid hr3
 have HON3:=Lib.hid ho3
 obtain ⟨g0,g1,g2,g3,g4⟩:=hr3.cells
 have hwl2:IntKind.i64.wrap ((j:Int) - (n:Int))=(lo:Int):=by rw [IntKind.wrap_i64];omega
 have hjs:j≤S.size:=by omega
 have hlj:lo≤j:=by omega
 have hjl:j - lo≤S.size:=by omega
 have HLO:=Lib.hid hlo
 have HJ:=Lib.hid hj
 have hc1:(lo:Int)≤(j:Int):=by omega
 have hc2:(j:Int)≤(S.size:Int):=by omega
 have hc0:(0:Int)≤(lo:Int):=by omega
 have hc3:(0:Int)≤(j:Int):=by omega
 clear hw3 hr3 ho3 hsum hlo hj k1 k4 hj1
 go_quiet ((go_at_call 87;exact cquiet1 (csame_any _ _)))
 have hlt7:=lt_of_block HR3.out
 go_wp2_with fail
 go_step3
 go_wp2_with fail
 rw [fwdQ_ret]
 go_ret
 rw [HLO.out,HJ.out]
 exact⟨rfl,(HR3.out.drewN _).fall _,(HON3.out.drewN _).setCell (.inl (show IsPb rb rb from rfl)) _⟩
end Go.Proofs.YtbchkjfnakabkaaGreatDoor
