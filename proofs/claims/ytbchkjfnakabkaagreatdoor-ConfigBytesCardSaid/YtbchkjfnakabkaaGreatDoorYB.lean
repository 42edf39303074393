/- The walks of Num, Text, Bytes, Done, and of Parse's one, two and text. (Printed by gen_yb.py.) -/
import Derived.Test.YtbchkjfnakabkaaGreatDoorYA
set_option linter.unusedSimpArgs false
set_option linter.unusedVariables false
namespace Go.Proofs.YtbchkjfnakabkaaGreatDoor
open Go.RowKit PX PC
def RdPost (rb:Nat) (S:ByteArray) (v:Value) (st:RSt) (w:World) (e:Ending) (w':World):Prop:=e=.returned v∧RIn w' rb S st∧OnlyP rb w w'
theorem RIn.ofNone {w:World} {rb:Nat} {S:ByteArray} {i:Nat} {f:Int} (h:RdAt w rb S i f) (hi:i≤S.size) (hf:f≠0):RIn w rb S none:=⟨i,f,h,hi,.inl ⟨hf,rfl⟩⟩
theorem RIn.ofSome {w:World} {rb:Nat} {S:ByteArray} {i:Nat} (h:RdAt w rb S i 0) (hi:i≤S.size):RIn w rb S (some (S.data.toList.drop i)):=⟨i,0,h,hi,.inr ⟨rfl,rfl⟩⟩
theorem RIn.lt {w:World} {rb:Nat} {S:ByteArray} {st:RSt} (h:RIn w rb S st):rb<w.heap.size:=by
 obtain ⟨i,f,h,-, -⟩:=h
 exact lt_of_block h
theorem later_onlyR {pb:Nat} {a b c:World} (h:Later a b) (k:OnlyP pb b c):OnlyP pb a c:=(Only.of_below h).thenP k
theorem drop_len (S:ByteArray) (i:Nat):(S.data.toList.drop i).length=S.size - i:=by rw [List.length_drop,baList]
theorem takenI_any (w:World) (rb wb:Nat) (S:ByteArray) (st:RSt) (h:RIn w rb S st) (hS:S.size≤9223372036854775807) (k:Nat) (hk:1≤k) (hk8:k≤2) (hw:w.cell? ⟨wb,0,none⟩=some (.int .i64 k)) (hne:wb≠rb) :
 Calls Tryz.prog 82 #[.pointer (some ⟨rb,0,none⟩),.int .i64 0,.func (.func 83) #[] #[.pointer (some ⟨wb,0,none⟩)],.func (.func 84) #[] #[]] w (RdPost rb S (.int .i64 (getN k st).1) (getN k st).2 w):=by
 obtain ⟨i,f,h1,hi,⟨hf,rfl⟩ | ⟨rfl,rfl⟩⟩:=h
 ·refine (takenI_fault w rb S i f h1 hf _ _ _).mono ?_
  rintro e w' ⟨he,hr,ho⟩
  exact⟨he,RIn.ofNone hr hi hf,ho⟩
 ·by_cases hsh:S.size - i<k
  ·refine (takenI_short w rb wb S i h1 hS hi k hk hk8 hw hne hsh).mono ?_
   rintro e w' ⟨he,hr,ho⟩
   simp only [getN]
   rw [if_pos (by rw [drop_len];exact hsh)]
   exact⟨he,RIn.ofNone hr hi (by decide),ho⟩
  ·refine (takenI_ok w rb wb S i h1 hS hi k hk hk8 hw hne (by omega)).mono ?_
   rintro e w' ⟨he,hr,ho⟩
   simp only [getN]
   rw [if_neg (by rw [drop_len];exact hsh)]
   refine⟨he,?_,ho⟩
   have:=RIn.ofSome hr (by omega)
   rwa [←List.drop_drop] at this
theorem takenT_any (w:World) (rb wb:Nat) (S:ByteArray) (st:RSt) (h:RIn w rb S st) (hS:S.size≤9223372036854775807) (hw:w.cell? ⟨wb,0,none⟩=some (.int .i64 1024)) (hne:wb≠rb) :
 Calls Tryz.prog 85 #[.pointer (some ⟨rb,0,none⟩),.int .i64 2,.func (.func 86) #[] #[.pointer (some ⟨wb,0,none⟩)],.func (.func 87) #[] #[]] w (RdPost rb S (.string (getT st).1) (getT st).2 w):=by
 obtain ⟨i,f,h1,hi,⟨hf,rfl⟩ | ⟨rfl,rfl⟩⟩:=h
 ·refine (takenS_fault w rb S i f h1 hf _ _ _).mono ?_
  rintro e w' ⟨he,hr,ho⟩
  exact⟨he,RIn.ofNone hr hi hf,ho⟩
 ·by_cases hsh:S.size - i<2
  ·refine (takenT_short2 w rb wb S i h1 hS hi hw hne hsh).mono ?_
   rintro e w' ⟨he,hr,ho⟩
   simp only [getT]
   rw [if_pos (by rw [drop_len];exact hsh)]
   exact⟨he,RIn.ofNone hr hi (by decide),ho⟩
  ·obtain ⟨n,hn⟩:∃ n,numU ((S.data.toList.drop i).take 2) 0=n:=⟨_,rfl⟩
   simp only [getT]
   rw [if_neg (by rw [drop_len];exact hsh),hn,drop_len]
   by_cases hlong:1024<n
   ·refine (takenT_long w rb wb S i h1 hS hi hw hne n hn (by omega) hlong).mono ?_
    rintro e w' ⟨he,hr,ho⟩
    rw [if_pos (.inl hlong)]
    exact⟨he,RIn.ofNone hr hi (by decide),ho⟩
   ·by_cases hs2:S.size - i - 2<n
    ·refine (takenT_short w rb wb S i h1 hS hi hw hne n hn (by omega) (by omega) hs2).mono ?_
     rintro e w' ⟨he,hr,ho⟩
     rw [if_pos (.inr hs2)]
     exact⟨he,RIn.ofNone hr hi (by decide),ho⟩
    ·refine (takenT_ok w rb wb S i h1 hS hi hw hne n hn (by omega) (by omega) (by omega)).mono ?_
     rintro e w' ⟨he,hr,ho⟩
     rw [if_neg (by omega)]
     refine⟨?_,?_,ho⟩
     ·rw [he]
      refine ret_strC (baExt ?_)
      rw [List.drop_drop]
      simp [ByteArray.data_extract,Array.toList_extract,List.extract_eq_take_drop,bytesOf]
     ·have:=RIn.ofSome hr (by omega)
      rwa [List.drop_drop,List.drop_drop]
theorem takenB_any (w:World) (rb wb:Nat) (S:ByteArray) (h:RdAt w rb S 0 0) (hS:S.size≤9223372036854775807) (hw:w.cell? ⟨wb,0,none⟩=some (.int .i64 (4:Nat))) (hne:wb≠rb) :
 Calls Tryz.prog 85 #[.pointer (some ⟨rb,0,none⟩),.int .i64 0,.func (.func 88) #[] #[.pointer (some ⟨wb,0,none⟩)],.func (.func 87) #[] #[]] w
  (RdPost rb S (.string (if S.size<4 then ⟨#[]⟩ else S.extract 0 4)) (if S.size<4 then none else some (S.data.toList.drop 4)) w):=by
 by_cases hsh:S.size<4
 ·rw [if_pos hsh,if_pos hsh]
  refine (takenB_short w rb wb S 0 h hS (by omega) 4 (by omega) hw hne (by omega)).mono ?_
  rintro e w' ⟨he,hr,ho⟩
  exact⟨he,RIn.ofNone hr (by omega) (by decide),ho⟩
 ·rw [if_neg hsh,if_neg hsh]
  refine (takenB_ok w rb wb S 0 h hS (by omega) 4 (by omega) hw hne (by omega)).mono ?_
  rintro e w' ⟨he,hr,ho⟩
  exact⟨he,RIn.ofSome hr (by omega),ho⟩
set_option maxRecDepth 100000 in
theorem cNum_any (w:World) (rb:Nat) (S:ByteArray) (st:RSt) (h:RIn w rb S st) (hS:S.size≤9223372036854775807) (k:Nat) (K:Int) (hK:(k:Int)=K) (hk:1≤k) (hk8:k≤2) :
 Calls Tryz.prog 50 #[.pointer (some ⟨rb,0,none⟩),.int .i64 K] w (RdPost rb S (.int .i64 (getN k st).1) (getN k st).2 w):=by
 subst hK
 have HT:=Lib.hid (takenI_any (w.alloc (.cells #[.int .i64 (k:Int)] 3)) rb w.heap.size S st (h.later ((Later.refl w).alloc _)) hS k hk hk8 (cell_of_block (alloc_block w _) 0) (by have:=h.lt;omega))
 obtain ⟨v,hv⟩:∃ v,(getN k st).1=v:=⟨_,rfl⟩
 obtain ⟨t,ht⟩:∃ t,(getN k st).2=t:=⟨_,rfl⟩
 rw [hv,ht] at HT ⊢
 clear h hS hv ht
 go_enter Tryz.func50,Tryz.ntmps50
 go_wp2_with (first
  | (go_at_call 82;(with_reducible refine HT.out.mono ?_);rintro e w1 ⟨rfl,hr,ho⟩)
  | fail)
 go_ret
 exact⟨rfl,hr,later_onlyR ((Later.refl w).alloc _) ho⟩
set_option maxRecDepth 100000 in
theorem cText_any (w:World) (rb:Nat) (S:ByteArray) (st:RSt) (h:RIn w rb S st) (hS:S.size≤9223372036854775807) :
 Calls Tryz.prog 53 #[.pointer (some ⟨rb,0,none⟩),.int .i64 1024] w (RdPost rb S (.string (getT st).1) (getT st).2 w):=by
 have HT:=Lib.hid (takenT_any (w.alloc (.cells #[.int .i64 1024] 3)) rb w.heap.size S st (h.later ((Later.refl w).alloc _)) hS (cell_of_block (alloc_block w _) 0) (by have:=h.lt;omega))
 obtain ⟨v,hv⟩:∃ v,(getT st).1=v:=⟨_,rfl⟩
 obtain ⟨t,ht⟩:∃ t,(getT st).2=t:=⟨_,rfl⟩
 rw [hv,ht] at HT ⊢
 clear h hS hv ht
 go_enter Tryz.func53,Tryz.ntmps53
 go_wp2_with (first
  | (go_at_call 85;(with_reducible refine HT.out.mono ?_);rintro e w1 ⟨rfl,hr,ho⟩)
  | fail)
 go_ret
 exact⟨rfl,hr,later_onlyR ((Later.refl w).alloc _) ho⟩
set_option maxRecDepth 100000 in
theorem cBytes4_any (w:World) (rb:Nat) (S:ByteArray) (h:RdAt w rb S 0 0) (hS:S.size≤9223372036854775807) :
 Calls Tryz.prog 54 #[.pointer (some ⟨rb,0,none⟩),.int .i64 4] w (RdPost rb S (.string (if S.size<4 then ⟨#[]⟩ else S.extract 0 4)) (if S.size<4 then none else some (S.data.toList.drop 4)) w):=by
 have HT:=Lib.hid (takenB_any (w.alloc (.cells #[.int .i64 4] 3)) rb w.heap.size S (h.later ((Later.refl w).alloc _)) hS (cell_of_block (alloc_block w _) 0) (by have:=lt_of_block h;omega))
 obtain ⟨v,hv⟩:∃ v,(if S.size<4 then (⟨#[]⟩:ByteArray) else S.extract 0 4)=v:=⟨_,rfl⟩
 obtain ⟨t,ht⟩:∃ t,(if S.size<4 then none else some (S.data.toList.drop 4))=t:=⟨_,rfl⟩
 rw [hv,ht] at HT ⊢
 clear h hS hv ht
 go_enter Tryz.func54,Tryz.ntmps54
 go_wp2_with (first
  | (go_at_call 85;(with_reducible refine HT.out.mono ?_);rintro e w1 ⟨rfl,hr,ho⟩)
  | fail)
 go_ret
 exact⟨rfl,hr,later_onlyR ((Later.refl w).alloc _) ho⟩
set_option maxRecDepth 100000 in
theorem rd_one (w:World) (rb rc:Nat) (S:ByteArray) (st:RSt) (h:RIn w rb S st) (hS:S.size≤9223372036854775807) (hc:w.cell? ⟨rc,0,none⟩=some (.pointer (some ⟨rb,0,none⟩))) :
 Calls Tryz.prog 49 #[.pointer (some ⟨rc,0,none⟩)] w (RdPost rb S (.int .i64 (getN 1 st).1) (getN 1 st).2 w):=by
 have HT:=Lib.hid (cNum_any w rb S st h hS 1 1 rfl (by omega) (by omega))
 obtain ⟨v,hv⟩:∃ v,(getN 1 st).1=v:=⟨_,rfl⟩
 obtain ⟨t,ht⟩:∃ t,(getN 1 st).2=t:=⟨_,rfl⟩
 rw [hv,ht] at HT ⊢
 clear h hS hv ht
 go_enter Tryz.func49,Tryz.ntmps49
 go_wp2_with (first
  | (go_at_call 50;(with_reducible refine HT.out.mono ?_);rintro e w1 ⟨rfl,hr,ho⟩)
  | fail)
 go_ret
 exact⟨rfl,hr,ho⟩
set_option maxRecDepth 100000 in
theorem rd_two (w:World) (rb rc:Nat) (S:ByteArray) (st:RSt) (h:RIn w rb S st) (hS:S.size≤9223372036854775807) (hc:w.cell? ⟨rc,0,none⟩=some (.pointer (some ⟨rb,0,none⟩))) :
 Calls Tryz.prog 51 #[.pointer (some ⟨rc,0,none⟩)] w (RdPost rb S (.int .i64 (getN 2 st).1) (getN 2 st).2 w):=by
 have HT:=Lib.hid (cNum_any w rb S st h hS 2 2 rfl (by omega) (by omega))
 obtain ⟨v,hv⟩:∃ v,(getN 2 st).1=v:=⟨_,rfl⟩
 obtain ⟨t,ht⟩:∃ t,(getN 2 st).2=t:=⟨_,rfl⟩
 rw [hv,ht] at HT ⊢
 clear h hS hv ht
 go_enter Tryz.func51,Tryz.ntmps51
 go_wp2_with (first
  | (go_at_call 50;(with_reducible refine HT.out.mono ?_);rintro e w1 ⟨rfl,hr,ho⟩)
  | fail)
 go_ret
 exact⟨rfl,hr,ho⟩
set_option maxRecDepth 100000 in
theorem rd_txt (w:World) (rb rc:Nat) (S:ByteArray) (st:RSt) (h:RIn w rb S st) (hS:S.size≤9223372036854775807) (hc:w.cell? ⟨rc,0,none⟩=some (.pointer (some ⟨rb,0,none⟩))) :
 Calls Tryz.prog 52 #[.pointer (some ⟨rc,0,none⟩)] w (RdPost rb S (.string (getT st).1) (getT st).2 w):=by
 have HT:=Lib.hid (cText_any w rb S st h hS)
 obtain ⟨v,hv⟩:∃ v,(getT st).1=v:=⟨_,rfl⟩
 obtain ⟨t,ht⟩:∃ t,(getT st).2=t:=⟨_,rfl⟩
 rw [hv,ht] at HT ⊢
 clear h hS hv ht
 go_enter Tryz.func52,Tryz.ntmps52
 go_wp2_with (first
  | (go_at_call 53;(with_reducible refine HT.out.mono ?_);rintro e w1 ⟨rfl,hr,ho⟩)
  | fail)
 go_ret
 exact⟨rfl,hr,ho⟩
set_option maxRecDepth 100000 in
theorem cFault_any (w:World) (rb:Nat) (S:ByteArray) (i:Nat) (f:Int) (h:RdAt w rb S i f) :
 Calls Tryz.prog 90 #[.pointer (some ⟨rb,0,none⟩)] w fun e w'=>e=.returned (.tuple #[.int .i64 f,.int .i64 (if f=0 then 0 else i)])∧∃ n,w'=w.drewN n:=by
 obtain ⟨h0,h1,h2,h3,h4⟩:=h.cells
 by_cases hf:f=0
 ·subst hf
  rw [if_pos rfl]
  clear h
  go_enter Tryz.func90,Tryz.ntmps90
  go_wp2_with fail
  go_ret2
  exact⟨rfl,0,rfl⟩
 ·rw [if_neg hf]
  have hfb:(f != 0)=true:=by simpa using hf
  clear h hf
  go_enter Tryz.func90,Tryz.ntmps90
  go_wp2_with fail
  go_quiet (fail)
  go_wp2_with fail
  go_ret2
  exact⟨rfl,_,rfl⟩
set_option maxRecDepth 100000 in
theorem cDone_any (w:World) (rb:Nat) (S:ByteArray) (st:RSt) (h:RIn w rb S st) (hS:S.size≤9223372036854775807) :
 Calls Tryz.prog 68 #[.pointer (some ⟨rb,0,none⟩)] w fun e w'=>∃ q m:Int,e=.returned (.tuple #[.int .i64 q,.int .i64 m])∧(q=0↔st=some [])∧OnlyP rb w w':=by
 obtain ⟨i,f,h1,hi,hst⟩:=h
 have H:=Lib.hid h1
 obtain ⟨h0,h1',h2,h3,h4⟩:=h1.cells
 have HF:=Lib.hid (fun (w1:World) (h:RdAt w1 rb S i f)=>cFault_any w1 rb S i f h)
 have HL:=Lib.hid (fun (w1:World) (h:RdAt w1 rb S i f)=>cleft_w w1 rb S i f h hS hi)
 clear h1
 rcases hst with ⟨hf,rfl⟩ | ⟨rfl,rfl⟩
 ·have hfb:(f==0)=false:=by simpa using hf
  have HFF:=Lib.hid hf
  obtain ⟨x,hx⟩:∃ x:Int,(if f=0 then (0:Int) else i)=x:=⟨_,rfl⟩
  rw [hx] at HF
  clear hf hx
  go_enter Tryz.func68,Tryz.ntmps68
  go_wp2_with (first
   | (go_at_call 90;(with_reducible refine (HF.out _ H.out).mono ?_);rintro e w1 ⟨rfl,n,rfl⟩)
   | fail)
  go_ret2
  exact⟨f,x,rfl,by simp [HFF.out],(Only.refl _ w).drewN n⟩
 ·by_cases hl:i<S.size
  ·have hd:decide (0<(S.size:Int) - i)=true:=decide_eq_true (by omega)
   have hne:S.data.toList.drop i≠[]:=by
    intro e
    have:=congrArg List.length e
    rw [drop_len] at this
    simp at this;omega
   have HNE:=Lib.hid hne
   clear hne
   go_enter Tryz.func68,Tryz.ntmps68
   go_upto_region 2 with (first
    | (go_at_call 89;(with_reducible refine (HL.out _ H.out).mono ?_);rintro e w1 ⟨rfl,hr,ho⟩;obtain ⟨g0,g1,g2,g3,g4⟩:=hr.cells;have HO:=Lib.hid ho;clear hr ho)
    | fail)
   go_quiet (fail)
   go_wp2_with fail
   go_ret2
   exact⟨12,i,rfl,by simp [HNE.out],HO.out.drewN _⟩
  ·have hd:decide (0<(S.size:Int) - i)=false:=decide_eq_false (by omega)
   have hne:S.data.toList.drop i=[]:=List.drop_eq_nil_of_le (by rw [baList];omega)
   have HNE:=Lib.hid hne
   clear hne
   rw [if_pos rfl] at HF
   go_enter Tryz.func68,Tryz.ntmps68
   go_wp2_with (first
    | (go_at_call 89;(with_reducible refine (HL.out _ H.out).mono ?_);rintro e w1 ⟨rfl,hr,ho⟩;have HR:=Lib.hid hr;have HO:=Lib.hid ho;clear hr ho)
    | (go_at_call 90;(with_reducible refine (HF.out _ HR.out).mono ?_);rintro e w2 ⟨rfl,n,rfl⟩)
    | fail)
   go_ret2
   exact⟨0,0,rfl,by simp [HNE.out],HO.out.drewN n⟩
end Go.Proofs.YtbchkjfnakabkaaGreatDoor
