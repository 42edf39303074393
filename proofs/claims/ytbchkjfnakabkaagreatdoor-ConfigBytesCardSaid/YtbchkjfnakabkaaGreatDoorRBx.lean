/- RBx, merged: RB1 RB2 RB3 RB4. -/
import Derived.Test.YtbchkjfnakabkaaGreatDoorY7
import Derived.Test.YtbchkjfnakabkaaGreatDoorYD
import Derived.Laws.OwnMore
import Derived.BigQuiet
set_option linter.unusedSimpArgs false
set_option linter.unusedVariables false
namespace Go.Proofs.YtbchkjfnakabkaaGreatDoor
open Go.RowKit PX PC
theorem shr_I64 (n:Int) (i:Nat) (h:I64 n):I64 (n/2 ^ (8*i)):=by
 obtain ⟨h1,h2⟩:=h
 have hp:(1:Int)≤2 ^ (8*i):=by
  have:=Nat.one_le_two_pow (n:=8*i)
  exact_mod_cast this
 refine⟨?_,?_⟩
 ·rw [Int.le_ediv_iff_mul_le (by omega)]
  have:(-9223372036854775808:Int)*2 ^ (8*i)≤-9223372036854775808*1:=Int.mul_le_mul_of_nonpos_left (by omega) hp
  omega
 ·refine Int.le_of_lt_add_one ((Int.ediv_lt_iff_lt_mul (by omega)).2 ?_)
  have:((9223372036854775807:Int)+1)*1≤(9223372036854775807+1)*2 ^ (8*i):=Int.mul_le_mul_of_nonneg_left hp (by omega)
  omega
theorem and255 (x:Int) (h:I64 x):Go.bits .and .i64 x 255=x%256:=by
 unfold Go.bits
 simp only
 obtain ⟨h1,h2⟩:=h
 have ha:(BitVec.ofInt IntKind.i64.bits x).toNat=(x%18446744073709551616).toNat:=by
  rw [BitVec.toNat_ofInt]
  rfl
 have hb:(BitVec.ofInt IntKind.i64.bits (255:Int)).toNat=255:=by decide
 have hand:(x%18446744073709551616).toNat &&& 255=(x%18446744073709551616).toNat%256:=Nat.and_two_pow_sub_one_eq_mod _ 8
 rw [BitVec.toNat_and,ha,hb,hand,IntKind.wrap_i64]
 omega
set_option maxRecDepth 100000 in
set_option maxHeartbeats 2000000 in
theorem rput_any1 (w:World) (n:Int) (hn:I64 n) (k:Nat) (hk:k≤8) (hk1:1≤k) :
 Calls Tryz.prog 80 #[.int .i64 n,.int .i64 k] w fun e w'=>e=.returned (.string ⟨(putI n k).toArray⟩)∧Later w w':=by
 obtain ⟨iU,hiU,hz0,hz1,hz2⟩:=info_parts info_u8c
 have hki:(k:Int)≤8:=by omega
 have hki1:(1:Int)≤(k:Int):=by omega
 obtain ⟨hn1,hn2⟩:=hn
 go_enter Tryz.func80,Tryz.ntmps80
 go_upto_region 2 with fail
 generalize hWe:World.alloc _ _=we
 have hoe:we.ownsRow w.heap.size 5 1 (.slice (some ⟨w.heap.size,0,none⟩) 0 0) 0 (u8C ((putI n k).take 0)):=by rw [←hWe];exact World.ownsRow_lit w #[] 0 (Nat.le_refl _) (by unfold maxLen;omega) rfl
 have hle:Below w.heap.size w we:=by rw [←hWe];exact Below.alloc (Below.refl _ _) (Nat.le_refl _) _
 clear hWe
 go_wp2_with fail
 go_loopw [5,6] (fun vb vi wr=>∃ j:Nat,j≤k∧vi=.int .i64 ((k:Int) - 1 - j)∧wr.ownsRow w.heap.size 5 1 vb ((putI n k).take j).length (u8C ((putI n k).take j))∧Below w.heap.size w wr) (fun _ vi _=>(intOf vi+1).toNat)
 case atStart=>exact⟨0,by omega,by simp,hoe,hle⟩
 case round=>
  obtain ⟨j,hj,rfl,hown,hbel⟩:=hrel
  have HO:=Lib.hid hown
  clear hown
  by_cases hlt:j<k
  ·obtain ⟨i,hi⟩:∃ i:Nat,(k:Int) - 1 - j=i:=⟨k - 1 - j,by omega⟩
   rw [hi]
   have hi7:i≤7:=by omega
   have hik:k - 1 - j=i:=by omega
   obtain ⟨u,hu⟩:∃ u,UInt8.ofNat (n/256 ^ (k - 1 - j)%256).toNat=u:=⟨_,rfl⟩
   have hbe:=putI_get n k j hlt
   rw [hu] at hbe
   have HLS:=Lib.hid hbe
   have hz:n/2 ^ (8*i)%256=(u.toNat:Int):=by
    rw [←hu,hik];exact (putByte n i).symm
   obtain ⟨z,hzz⟩:∃ z:Int,(u.toNat:Int)=z:=⟨_,rfl⟩
   rw [hzz] at hz
   have HZZ:=Lib.hid hzz
   have hlen:((putI n k).take j).length≤8:=by rw [List.length_take,putI_len];omega
   have HI:=Lib.hid hi
   have hand:Go.bits .and .i64 (n/2 ^ (8*i)) 255=n/2 ^ (8*i)%256:=and255 _ (by exact shr_I64 n i ⟨hn1,hn2⟩)
   have hcw:IntKind.u8.wrap z=z:=by rw [IntKind.wrap_u8];have:=u.toNat_lt;have:=HZZ.out;omega
   clear hi hik hu hbe hzz
   obtain ⟨L,hL⟩:∃ L,(putI n k).take j=L:=⟨_,rfl⟩
   rw [hL] at HO HLS hlen
   clear hL
   go_wp2_with (first
    | (at_builtin;refine wpList_append_own _ rfl (.tmp 20) (.tmp 27) 145 rfl w.heap.size 5 iU (.int .u8 0) 1 1 Tryz.underlying145 hiU hz0 hz1 hz2 rfl (by decide) _ _ _ rfl (HO.out.alloc _) ⟨wr.heap.size,0,none⟩ 1 1 [.int .u8 z] rfl rfl (cells_newC wr [.int .u8 z] 5) (by intro u hu;rw [List.mem_singleton.1 hu];rfl) (by unfold maxLen;omega) (by omega) (by have:=hbel.size;simp;omega) ?_;intro v' w1 hown1 hgrow1 _)
    | fail)
   have hown2:w1.ownsRow w.heap.size 5 1 v' (L++[u]).length (u8C (L++[u])):=by
    rw [u8C_snoc,HZZ.out,List.length_append]
    exact hown1
   refine⟨⟨j+1,by omega,?_,?_,?_⟩,?_⟩
   ·show Value.int .i64 _=Value.int .i64 _
    congr 1
    have:=HI.out
    omega
   ·rw [HLS.out];exact hown2
   ·exact Below.grown (hbel.alloc (by have:=hbel.size;omega) (.cells #[.int .u8 z] 5)) hgrow1 (by have:=hbel.size;simp;omega) (fun q hq=>((HO.out.alloc (.cells #[.int .u8 z] 5)).lt q hq).1)
   ·simp only [intOf];omega
  ·obtain rfl:j=k:=by omega
   have hneg:(j:Int) - 1 - j=-1:=by omega
   rw [hneg]
   have ho:=HO.out
   rw [List.take_of_length_le (by rw [putI_len];exact Nat.le_refl _)] at ho
   have hcv:=conv_u8 ho rfl
   clear ho hneg HO
   go_wp2_with fail
   go_ret
   exact⟨rfl,hbel⟩
end Go.Proofs.YtbchkjfnakabkaaGreatDoor
namespace Go.Proofs.YtbchkjfnakabkaaGreatDoor
open Go.RowKit PX PC
def intC (n:Int):List Value:=[.int .i64 n]
theorem allFit_app (w:Nat):∀ (l m:List Int),allFit w (l++m)=(allFit w l&&allFit w m)
 | [],m=>by simp [allFit]
 | n::l,m=>by simp only [List.cons_append,allFit,allFit_app w l m,Bool.and_assoc]
theorem allFit_no {w:Nat} {l:List Int} (j:Nat) (h:allFit w (l.take j)=false):allFit w l=false:=by
 have e:l=l.take j++l.drop j:=(List.take_append_drop j l).symm
 rw [e,allFit_app,h,Bool.false_and]
theorem numsB_snoc2 (w:Nat):∀ (l:List Int) (n:Int),numsB w (l++[n])=numsB w l++putI n w
 | [],n=>by simp [numsB]
 | m::l,n=>by simp only [List.cons_append,numsB,numsB_snoc2 w l n,List.append_assoc]
theorem numsB_len2 (w:Nat):∀ (l:List Int),(numsB w l).length=l.length*w
 | []=>by simp [numsB]
 | n::l=>by simp only [numsB,List.length_append,putI_len,numsB_len2 w l,List.length_cons,Nat.add_mul];omega
def mostI (w:Nat):Int:=if w=2 then 65535 else 255
theorem fitsB_most {w:Nat} (hw:w=1∨w=2) (n:Int):fitsB w n=decide (0≤n∧n≤mostI w):=by
 unfold fitsB mostI
 rcases hw with rfl | rfl
 ·rw [if_neg (by decide),show (256:Int) ^ 1=256 from rfl]
  congr 1
  apply propext
  omega
 ·rw [if_pos rfl,show (256:Int) ^ 2=65536 from rfl]
  congr 1
  apply propext
  omega
set_option maxRecDepth 100000 in
set_option maxHeartbeats 1000000 in
theorem rfits_any (w:World) (k:Nat) (hk:k=1∨k=2) (v:Value) (l:List Int) (hrow:RowAt w 1 v (l.map intC)) (hI:∀ n∈l,I64 n) :
 Calls Tryz.prog 45 #[.int .i64 k,v] w fun e w'=>e=.returned (.bool (allFit k l))∧Later w w':=by
 obtain ⟨a,cap,rfl,h1,h2,h3⟩:=row_val hrow
 have HROW:=Lib.hid hrow
 obtain ⟨M,hM⟩:∃ M,mostI k=M:=⟨_,rfl⟩
 have HF:=Lib.hid (fun n=>(fitsB_most hk n).trans (by rw [hM]))
 obtain ⟨K,hK⟩:∃ K:Int,(k:Int)=K:=⟨_,rfl⟩
 have hk2:(K==2)=decide (k=2):=by rcases hk with rfl | rfl<;>(subst hK;rfl)
 have HM:=Lib.hid hM
 rw [hK]
 clear hrow hM hK
 have HL:∀ (wr:World) (j:Nat),True:=fun _ _=>trivial
 clear HL
 rcases hk with rfl | rfl
 ·have hq:(K==2)=false:=hk2
  obtain rfl:M=255:=HM.out.symm
  clear hk2
  go_enter Tryz.func45,Tryz.ntmps45
  go_wp2_with fail
  go_loopw [6] (fun vi wr=>∃ j:Nat,j≤l.length∧vi=.int .i64 (j:Int)∧allFit 1 (l.take j)=true∧Later w wr) (fun vi _=>l.length - (intOf vi).toNat)
  case atStart=>exact⟨0,by omega,rfl,rfl,Later.refl _⟩
  case round=>
   obtain ⟨j,hj,rfl,hf,hb⟩:=hrel
   by_cases hlt:j<l.length
   ·obtain ⟨b,o,rfl,hb',hcc⟩:=row_at (HROW.out.later hb) hlt
    have hs:=Lib.hid (show allFit 1 (l.take (j+1))=fitsB 1 l[j] by rw [take_succ_snoc hlt,allFit_app,hf];simp [allFit])
    obtain ⟨n,hn⟩:∃ n,l[j]=n:=⟨_,rfl⟩
    rw [hn] at hcc hs
    have c0:=hcc 0 (by omega)
    simp only [intC,List.getElem?_cons_zero,Nat.add_zero,Nat.mul_one] at c0
    clear hcc hn
    have hfn:=HF.out n
    by_cases h0:n<0
    ·have d0:decide (n<0)=true:=decide_eq_true h0
     have hno:=Lib.hid (show fitsB 1 n=false by rw [hfn];exact decide_eq_false (by omega))
     clear h0 hfn
     go_wp2_with fail
     go_ret
     exact⟨ret_bool (allFit_no (j+1) (hs.out.trans hno.out)).symm,hb⟩
    ·have d0:decide (n<0)=false:=decide_eq_false h0
     by_cases h1:255<n
     ·have d1:decide (255<n)=true:=decide_eq_true h1
      have hno:=Lib.hid (show fitsB 1 n=false by rw [hfn];exact decide_eq_false (by omega))
      clear h0 h1 hfn
      go_wp2_with fail
      go_ret
      exact⟨ret_bool (allFit_no (j+1) (hs.out.trans hno.out)).symm,hb⟩
     ·have d1:decide (255<n)=false:=decide_eq_false h1
      have hyes:=Lib.hid (show fitsB 1 n=true by rw [hfn];exact decide_eq_true (by omega))
      clear h0 h1 hfn
      go_wp2_with fail
      exact⟨⟨j+1,by omega,by simp,hs.out.trans hyes.out,hb⟩,by simp only [intOf];omega⟩
   ·go_wp2_with fail
    go_ret
    refine⟨ret_bool ?_,hb⟩
    rw [List.take_of_length_le (by omega)] at hf
    exact hf.symm
 ·have hq:(K==2)=true:=hk2
  obtain rfl:M=65535:=HM.out.symm
  clear hk2
  go_enter Tryz.func45,Tryz.ntmps45
  go_wp2_with fail
  go_loopw [6] (fun vi wr=>∃ j:Nat,j≤l.length∧vi=.int .i64 (j:Int)∧allFit 2 (l.take j)=true∧Later w wr) (fun vi _=>l.length - (intOf vi).toNat)
  case atStart=>exact⟨0,by omega,rfl,rfl,Later.refl _⟩
  case round=>
   obtain ⟨j,hj,rfl,hf,hb⟩:=hrel
   by_cases hlt:j<l.length
   ·obtain ⟨b,o,rfl,hb',hcc⟩:=row_at (HROW.out.later hb) hlt
    have hs:=Lib.hid (show allFit 2 (l.take (j+1))=fitsB 2 l[j] by rw [take_succ_snoc hlt,allFit_app,hf];simp [allFit])
    obtain ⟨n,hn⟩:∃ n,l[j]=n:=⟨_,rfl⟩
    rw [hn] at hcc hs
    have c0:=hcc 0 (by omega)
    simp only [intC,List.getElem?_cons_zero,Nat.add_zero,Nat.mul_one] at c0
    clear hcc hn
    have hfn:=HF.out n
    by_cases h0:n<0
    ·have d0:decide (n<0)=true:=decide_eq_true h0
     have hno:=Lib.hid (show fitsB 2 n=false by rw [hfn];exact decide_eq_false (by omega))
     clear h0 hfn
     go_wp2_with fail
     go_ret
     exact⟨ret_bool (allFit_no (j+1) (hs.out.trans hno.out)).symm,hb⟩
    ·have d0:decide (n<0)=false:=decide_eq_false h0
     by_cases h1:65535<n
     ·have d1:decide (65535<n)=true:=decide_eq_true h1
      have hno:=Lib.hid (show fitsB 2 n=false by rw [hfn];exact decide_eq_false (by omega))
      clear h0 h1 hfn
      go_wp2_with fail
      go_ret
      exact⟨ret_bool (allFit_no (j+1) (hs.out.trans hno.out)).symm,hb⟩
     ·have d1:decide (65535<n)=false:=decide_eq_false h1
      have hyes:=Lib.hid (show fitsB 2 n=true by rw [hfn];exact decide_eq_true (by omega))
      clear h0 h1 hfn
      go_wp2_with fail
      exact⟨⟨j+1,by omega,by simp,hs.out.trans hyes.out,hb⟩,by simp only [intOf];omega⟩
   ·go_wp2_with fail
    go_ret
    refine⟨ret_bool ?_,hb⟩
    rw [List.take_of_length_le (by omega)] at hf
    exact hf.symm
theorem rput_any (w:World) (n:Int) (hn:I64 n) (k:Nat) (hk:k≤8) (hk1:1≤k) :
 Calls Tryz.prog 80 #[.int .i64 n,.int .i64 k] w fun e w'=>e=.returned (.string (putS n k))∧Later w w':=rput_any1 w n hn k hk hk1
set_option maxRecDepth 100000 in
theorem rputText_any (w:World) (s:ByteArray) (hs:s.size≤9223372036854775807) :
 Calls Tryz.prog 81 #[.string s] w fun e w'=>e=.returned (.tuple #[.string (textS s),.int .i64 (if s.size≤1024 then 0 else 11)])∧Later w w':=by
 by_cases h:s.size≤1024
 ·rw [if_pos h,←textS_eq s h]
  have hp:=putS_size s.size 2
  have HP:=Lib.hid (show Calls Tryz.prog 80 #[.int .i64 (s.size:Int),.int .i64 2] w fun e w'=>e=.returned (.string (putS s.size 2))∧Later w w' from rput_any w s.size ⟨by omega,by omega⟩ 2 (by omega) (by omega))
  have hcc:¬ 9223372036854775807<(putS (s.size:Int) 2).size+s.size:=by omega
  clear hp
  go_enter Tryz.func81,Tryz.ntmps81
  go_wp2_with (first
   | (go_at_call 80;(with_reducible refine HP.out.mono ?_);rintro e w1 ⟨rfl,hl1⟩)
   | fail)
  go_ret2
  exact⟨rfl,hl1⟩
 ·rw [if_neg h]
  have hts:textS s=⟨#[]⟩:=baExt (by rw [textS_list,textB,if_neg h])
  rw [hts]
  clear hts
  go_enter Tryz.func81,Tryz.ntmps81
  go_wp2_with fail
  go_ret2
  exact⟨rfl,Later.refl _⟩
set_option maxRecDepth 100000 in
theorem rtext_any (w:World) (s:ByteArray) (hs:s.size≤9223372036854775807) :
 Calls Tryz.prog 47 #[.string s] w fun e w'=>e=.returned (.tuple #[.string (textS s),.bool (textOK s)])∧Later w w':=by
 have HT:=Lib.hid (rputText_any w s hs)
 by_cases h:s.size≤1024
 ·rw [if_pos h] at HT
  have ho:textOK s=true:=by unfold textOK;exact decide_eq_true h
  rw [ho]
  clear h ho
  go_enter Tryz.func47,Tryz.ntmps47
  go_wp2_with (first
   | (go_at_call 81;(with_reducible refine HT.out.mono ?_);rintro e w1 ⟨rfl,hl1⟩)
   | fail)
  go_ret2
  exact⟨rfl,hl1⟩
 ·rw [if_neg h] at HT
  have ho:textOK s=false:=by unfold textOK;exact decide_eq_false h
  rw [ho]
  clear h ho
  go_enter Tryz.func47,Tryz.ntmps47
  go_wp2_with (first
   | (go_at_call 81;(with_reducible refine HT.out.mono ?_);rintro e w1 ⟨rfl,hl1⟩)
   | fail)
  go_ret2
  exact⟨rfl,hl1⟩
set_option maxRecDepth 100000 in
set_option maxHeartbeats 1000000 in
theorem rnums_any (w:World) (k:Nat) (hk:k=1∨k=2) (v:Value) (l:List Int) (hrow:RowAt w 1 v (l.map intC)) (hI:∀ n∈l,I64 n) (hl:l.length≤1000) :
 Calls Tryz.prog 46 #[.int .i64 k,v] w fun e w'=>e=.returned (.string (bytesOf (numsB k l)))∧Later w w':=by
 obtain ⟨a,cap,rfl,h1,h2,h3⟩:=row_val hrow
 have HROW:=Lib.hid hrow
 have HP:=Lib.hid (fun (w':World) (n:Int) (hn:I64 n)=>rput_any w' n hn k (by omega) (by omega))
 obtain ⟨K,hK⟩:∃ K:Int,(k:Int)=K:=⟨_,rfl⟩
 have hk2:k≤2:=by omega
 rw [hK] at HP ⊢
 clear hrow hK hk
 go_enter Tryz.func46,Tryz.ntmps46
 go_wp2_with fail
 go_loopw [5,6] (fun vs vi wr=>∃ j:Nat,j≤l.length∧vi=.int .i64 (j:Int)∧vs=.string (bytesOf (numsB k (l.take j)))∧Later w wr) (fun _ vi _=>l.length - (intOf vi).toNat)
 case atStart=>exact⟨0,by omega,rfl,rfl,Later.refl _⟩
 case round=>
  obtain ⟨j,hj,rfl,rfl,hb⟩:=hrel
  by_cases hlt:j<l.length
  ·obtain ⟨b,o,rfl,hb',hcc⟩:=row_at (HROW.out.later hb) hlt
   have hs:=Lib.hid (show bytesOf (numsB k (l.take j))++putS l[j] k=bytesOf (numsB k (l.take (j+1))) by
    rw [take_succ_snoc hlt,numsB_snoc2]
    refine baExt ?_
    rw [baApp,putS_list]
    show (numsB k (l.take j)).toArray.toList++_=(numsB k (l.take j)++_).toArray.toList
    simp)
   have hz:(bytesOf (numsB k (l.take j))).size≤2000:=by
    show (numsB k (l.take j)).toArray.size≤2000
    rw [List.size_toArray,numsB_len2,List.length_take]
    have:min j l.length*k≤1000*2:=Nat.mul_le_mul (by omega) hk2
    omega
   have hI1:=hI _ (List.getElem_mem hlt)
   obtain ⟨n,hn⟩:∃ n,l[j]=n:=⟨_,rfl⟩
   rw [hn] at hcc hs hI1
   have c0:=hcc 0 (by omega)
   simp only [intC,List.getElem?_cons_zero,Nat.add_zero,Nat.mul_one] at c0
   have HP1:=Lib.hid (HP.out wr n hI1)
   have hps:=putS_size n k
   have hcat:¬ 9223372036854775807<(bytesOf (numsB k (l.take j))).size+(putS n k).size:=by omega
   obtain ⟨S,hS⟩:∃ S,bytesOf (numsB k (l.take j))=S:=⟨_,rfl⟩
   rw [hS] at hs hcat ⊢
   clear hcc hn hI1 hS hz hps
   go_wp2_with (first
    | (go_at_call 80;(with_reducible refine HP1.out.mono ?_);rintro e w1 ⟨rfl,hl1⟩)
    | fail)
   exact⟨⟨j+1,by omega,by simp,by rw [hs.out],hb.trans hl1⟩,by simp only [intOf];omega⟩
  ·have hall:l.take j=l:=List.take_of_length_le (by omega)
   rw [hall]
   go_wp2_with fail
   go_ret
   exact⟨rfl,hb⟩
end Go.Proofs.YtbchkjfnakabkaaGreatDoor
namespace Go.Proofs.YtbchkjfnakabkaaGreatDoor
open Go.RowKit PX PC
theorem idx_byte2 (S:ByteArray) (i:Nat) (hi:i<S.size) (w:World):(Instr.index 9 (.string S) (.int .i64 i)).run Tryz.prog w=.ok (.int .u8 ((S.data.toList.getD i 0).toNat:Int)) w:=by
 have hl:i<S.data.toList.length:=by rw [Array.length_toList];exact hi
 have h:(0:Int)≤(i:Int)∧(i:Int)<(S.size:Int):=by omega
 rw [run_index_string (h:=Tryz.underlying9),dif_pos h,List.getD_eq_getElem?_getD,List.getElem?_eq_getElem hl]
 rfl
def CAt (w:World) (cb:Nat) (S:ByteArray) (i:Nat) (f:Bool):Prop:=w.heap[cb]?=some (.cells #[.string S,.int .i64 i,.bool f] 111 (0,0))
def CIn (w:World) (cb:Nat) (S:ByteArray) (st:RSt):Prop:=
 ∃ (i:Nat) (f:Bool),CAt w cb S i f∧i≤S.size∧((f=true∧st=none)∨(f=false∧st=some (S.data.toList.drop i)))
def Near (S:ByteArray) (n:Nat) (st:RSt):Prop:=∀ r,st=some r→S.size≤r.length+n
theorem Near.mono {S:ByteArray} {n m:Nat} {st:RSt} (h:Near S n st) (hm:n≤m):Near S m st:=fun r e=>by have:=h r e;omega
theorem Near.getN {S:ByteArray} {n k:Nat} {st:RSt} (h:Near S n st):Near S (n+k) (getN k st).2:=by
 intro r e
 cases st with
 | none=>cases e
 | some q=>
  have:=h q rfl
  simp only [PC.getN] at e
  split at e
  ·cases e
  ·cases e
   rw [List.length_drop]
   omega
theorem Near.getT {S:ByteArray} {n:Nat} {st:RSt} (h:Near S n st):Near S (n+1026) (getT st).2:=by
 intro r e
 cases st with
 | none=>cases e
 | some q=>
  have:=h q rfl
  simp only [PC.getT] at e
  split at e
  ·cases e
  ·split at e
   ·cases e
   ·cases e
    rw [List.length_drop,List.length_drop]
    omega
theorem Near.many {α:Type} {S:ByteArray} {g:RSt→α × RSt} {c:Nat} (hg:∀ n s,Near S n s→Near S (n+c) (g s).2):∀ (m n:Nat) (s:RSt),Near S n s→Near S (n+m*c) (many g m s).2
 | 0,n,s,h=>by simpa [PC.many] using h
 | m+1,n,s,h=>by
  have:=Near.many hg m (n+c) _ (hg n s h)
  refine Near.mono (st:=(PC.many g m (g s).2).2) this ?_
  rw [Nat.add_mul];omega
theorem CAt.later {w w':World} {cb:Nat} {S:ByteArray} {i:Nat} {f:Bool} (h:CAt w cb S i f) (hl:Later w w'):CAt w' cb S i f:=hl.block h
theorem CIn.later {w w':World} {cb:Nat} {S:ByteArray} {st:RSt} (h:CIn w cb S st) (hl:Later w w'):CIn w' cb S st:=by
 obtain ⟨i,f,h1,h2,h3⟩:=h
 exact⟨i,f,h1.later hl,h2,h3⟩
theorem CAt.cells {w:World} {cb:Nat} {S:ByteArray} {i:Nat} {f:Bool} (h:CAt w cb S i f):w.cell? ⟨cb,0,none⟩=some (.string S)∧w.cell? ⟨cb,1,none⟩=some (.int .i64 i)∧w.cell? ⟨cb,2,none⟩=some (.bool f)∧w.frozen? ⟨cb,1,none⟩=false∧w.frozen? ⟨cb,2,none⟩=false:=
 ⟨cell_of_block h 0,cell_of_block h 1,cell_of_block h 2,free_of_block h 1,free_of_block h 2⟩
theorem CAt.go {w:World} {cb:Nat} {S:ByteArray} {i:Nat} {f:Bool} (h:CAt w cb S i f) (j:Nat):CAt (w.setCell ⟨cb,1,none⟩ (.int .i64 j)) cb S j f:=setCell_block h 1 _
theorem CAt.lose {w:World} {cb:Nat} {S:ByteArray} {i:Nat} {f:Bool} (h:CAt w cb S i f):CAt (w.setCell ⟨cb,2,none⟩ (.bool true)) cb S i true:=setCell_block h 2 _
theorem CAt.drewN {w:World} {cb:Nat} {S:ByteArray} {i:Nat} {f:Bool} (h:CAt w cb S i f) (n:Nat):CAt (w.drewN n) cb S i f:=h
theorem CIn.lt {w:World} {cb:Nat} {S:ByteArray} {st:RSt} (h:CIn w cb S st):cb<w.heap.size:=by
 obtain ⟨i,f,h,-, -⟩:=h
 exact lt_of_block h
theorem CIn.ofNone {w:World} {cb:Nat} {S:ByteArray} {i:Nat} (h:CAt w cb S i true) (hi:i≤S.size):CIn w cb S none:=⟨i,true,h,hi,.inl ⟨rfl,rfl⟩⟩
theorem CIn.ofSome {w:World} {cb:Nat} {S:ByteArray} {i:Nat} (h:CAt w cb S i false) (hi:i≤S.size):CIn w cb S (some (S.data.toList.drop i)):=⟨i,false,h,hi,.inr ⟨rfl,rfl⟩⟩
def CPost (cb:Nat) (S:ByteArray) (v:Value) (st:RSt) (w:World) (e:Ending) (w':World):Prop:=e=.returned v∧CIn w' cb S st∧OnlyP cb w w'
set_option maxRecDepth 100000 in
set_option maxHeartbeats 1000000 in
theorem rnum_lost (w:World) (cb:Nat) (S:ByteArray) (i:Nat) (h:CAt w cb S i true) (K:Int) :
 Calls Tryz.prog 69 #[.pointer (some ⟨cb,0,none⟩),.int .i64 K] w fun e w'=>e=.returned (.int .i64 0)∧CAt w' cb S i true∧OnlyP cb w w':=by
 obtain ⟨h0,h1,h2,h3,h4⟩:=h.cells
 have H:=Lib.hid h
 have hlt:=lt_of_block h
 clear h
 go_enter Tryz.func69,Tryz.ntmps69
 go_wp2_with fail
 go_quiet (fail)
 go_wp2_with fail
 go_ret
 exact⟨rfl,(H.out.drewN _).lose,((Only.refl _ w).drewN _).setCell (.inl (show IsPb cb cb from rfl)) _⟩
set_option maxRecDepth 100000 in
set_option maxHeartbeats 1000000 in
theorem rnum_short (w:World) (cb:Nat) (S:ByteArray) (i:Nat) (h:CAt w cb S i false) (k:Nat) (K:Int) (hK:(k:Int)=K) (hk8:k≤2) (hi:i≤2000000) (hsh:S.size<i+k) :
 Calls Tryz.prog 69 #[.pointer (some ⟨cb,0,none⟩),.int .i64 K] w fun e w'=>e=.returned (.int .i64 0)∧CAt w' cb S i true∧OnlyP cb w w':=by
 obtain ⟨h0,h1,h2,h3,h4⟩:=h.cells
 have H:=Lib.hid h
 have hlt:=lt_of_block h
 have hwa:IntKind.i64.wrap ((i:Int)+K)=(i:Int)+K:=by rw [IntKind.wrap_i64];omega
 have hd:decide ((S.size:Int)<(i:Int)+K)=true:=decide_eq_true (by omega)
 clear h hK hsh hi hk8
 go_enter Tryz.func69,Tryz.ntmps69
 go_wp2_with fail
 go_quiet (fail)
 go_wp2_with fail
 go_ret
 exact⟨rfl,(H.out.drewN _).lose,((Only.refl _ w).drewN _).setCell (.inl (show IsPb cb cb from rfl)) _⟩
set_option maxRecDepth 100000 in
set_option maxHeartbeats 2000000 in
theorem rnum_ok (w:World) (cb:Nat) (S:ByteArray) (i:Nat) (h:CAt w cb S i false) (k:Nat) (K:Int) (hK:(k:Int)=K) (hk8:k≤2) (hi:i≤2000000) (hsh:i+k≤S.size) :
 Calls Tryz.prog 69 #[.pointer (some ⟨cb,0,none⟩),.int .i64 K] w fun e w'=>e=.returned (.int .i64 (numU ((S.data.toList.drop i).take k) 0:Nat))∧CAt w' cb S (i+k) false∧OnlyP cb w w':=by
 obtain ⟨h0,h1,h2,h3,h4⟩:=h.cells
 have H:=Lib.hid h
 have hlt:=lt_of_block h
 have hwa:IntKind.i64.wrap ((i:Int)+K)=(i:Int)+K:=by rw [IntKind.wrap_i64];omega
 have hd:decide ((S.size:Int)<(i:Int)+K)=false:=decide_eq_false (by omega)
 have HKK:=Lib.hid hK
 clear h
 go_enter Tryz.func69,Tryz.ntmps69
 go_wp2_with fail
 go_quiet (fail)
 go_wp2_with fail
 clear h0 h1 h2 h3 h4
 go_loopw [5,6] (fun vn vi wr=>∃ j:Nat,j≤k∧vi=.int .i64 (j:Int)∧vn=.int .i64 (numU ((S.data.toList.drop i).take j) 0:Nat)∧Later w wr) (fun _ vi _=>k - (intOf vi).toNat)
 case atStart=>exact⟨0,by omega,rfl,rfl,Later.drewN (Later.refl _) _⟩
 case round=>
  obtain ⟨j,hj,rfl,rfl,hl⟩:=hrel
  obtain ⟨h0,h1,h2,h3,h4⟩:=(H.out.later hl).cells
  by_cases hjk:j<k
  ·have hdj:decide ((j:Int)<K)=true:=decide_eq_true (by omega)
   have hsz:i+j<S.size:=by omega
   have hix:∀ W,(Instr.index 9 (.string S) (.int .i64 ((i:Int)+(j:Int)))).run Tryz.prog W=.ok (.int .u8 ((S.data.toList.getD (i+j) 0).toNat:Int)) W:=fun W=>by
    have:=idx_byte2 S (i+j) hsz W
    simpa using this
   have hlj:j<(S.data.toList.drop i).length:=by rw [List.length_drop,baList];omega
   have hg:S.data.toList.getD (i+j) 0=(S.data.toList.drop i)[j]:=by
    rw [List.getElem_drop,List.getD_eq_getElem?_getD,List.getElem?_eq_getElem (by rw [baList];omega)];rfl
   have HT:=Lib.hid (show numU ((S.data.toList.drop i).take (j+1)) 0=numU ((S.data.toList.drop i).take j) 0*256+(S.data.toList.getD (i+j) 0).toNat by
    rw [List.take_succ_eq_append_getElem hlj,numU_snoc,hg])
   have hr1:numU ((S.data.toList.drop i).take j) 0<256:=by
    have h2:=numU_lt ((S.data.toList.drop i).take j)
    have h3:((S.data.toList.drop i).take j).length≤1:=by rw [List.length_take];omega
    have h4:256 ^ ((S.data.toList.drop i).take j).length≤256 ^ 1:=Nat.pow_le_pow_right (by omega) h3
    omega
   obtain ⟨u,hu⟩:∃ u,S.data.toList.getD (i+j) 0=u:=⟨_,rfl⟩
   rw [hu] at HT hix
   have hub:=UInt8.toNat_lt u
   obtain ⟨z,hz⟩:∃ z:Int,(u.toNat:Int)=z:=⟨_,rfl⟩
   rw [hz] at hix
   have hz0:0≤z:=by omega
   have hz1:z≤255:=by omega
   have HZ:=Lib.hid hz
   obtain ⟨n,hn⟩:∃ n,numU ((S.data.toList.drop i).take j) 0=n:=⟨_,rfl⟩
   rw [hn] at HT hr1 ⊢
   have hwj:IntKind.i64.wrap ((i:Int)+(j:Int))=(i:Int)+(j:Int):=by rw [IntKind.wrap_i64];omega
   have hw2:IntKind.i64.wrap (256*(n:Int))=256*(n:Int):=by rw [IntKind.wrap_i64];omega
   have hw3:IntKind.i64.wrap (256*(n:Int)+z)=256*(n:Int)+z:=by rw [IntKind.wrap_i64];omega
   have hw4:IntKind.i64.wrap z=z:=by rw [IntKind.wrap_i64];omega
   clear hg hlj hu hz hn hub
   go_wp2_with fail
   go_quiet (fail)
   go_wp2_with fail
   refine⟨⟨j+1,by omega,by simp,?_,Later.drewN hl _⟩,by simp only [intOf];omega⟩
   rw [HT.out]
   have:=HZ.out
   congr 1
   omega
  ·obtain rfl:j=k:=by omega
   have hdj:decide ((j:Int)<K)=false:=decide_eq_false (by omega)
   have H9:=Lib.hid ((H.out.later hl))
   have ho:=Lib.hid (show OnlyP cb w wr from Only.of_below hl)
   have hlt9:=lt_of_block H9.out
   go_wp2_with fail
   go_ret
   refine⟨rfl,?_,ho.out.setCell (.inl (show IsPb cb cb from rfl)) _⟩
   have:=H9.out.go (i+j)
   have e:((i+j:Nat):Int)=(i:Int)+K:=by have:=HKK.out;omega
   rwa [e] at this
theorem rcnum_any (w:World) (cb:Nat) (S:ByteArray) (st:RSt) (h:CIn w cb S st) (hn:Near S 2000000 st) (k:Nat) (K:Int) (hK:(k:Int)=K) (hk8:k≤2) :
 Calls Tryz.prog 69 #[.pointer (some ⟨cb,0,none⟩),.int .i64 K] w (CPost cb S (.int .i64 (getN k st).1) (getN k st).2 w):=by
 obtain ⟨i,f,h1,hi,⟨rfl,rfl⟩ | ⟨rfl,rfl⟩⟩:=h
 ·refine (rnum_lost w cb S i h1 K).mono ?_
  rintro e w' ⟨he,hr,ho⟩
  exact⟨he,CIn.ofNone hr hi,ho⟩
 ·have hn2:i≤2000000:=by have:=hn _ rfl;rw [drop_len] at this;omega
  by_cases hsh:S.size<i+k
  ·refine (rnum_short w cb S i h1 k K hK hk8 hn2 hsh).mono ?_
   rintro e w' ⟨he,hr,ho⟩
   simp only [getN]
   rw [if_pos (by rw [drop_len];omega)]
   exact⟨he,CIn.ofNone hr hi,ho⟩
  ·refine (rnum_ok w cb S i h1 k K hK hk8 hn2 (by omega)).mono ?_
   rintro e w' ⟨he,hr,ho⟩
   simp only [getN]
   rw [if_neg (by rw [drop_len];omega)]
   refine⟨he,?_,ho⟩
   have:=CIn.ofSome hr (by omega)
   rwa [←List.drop_drop] at this
end Go.Proofs.YtbchkjfnakabkaaGreatDoor
namespace Go.Proofs.YtbchkjfnakabkaaGreatDoor
open Go.RowKit PX PC
def NumIs (w:World) (cb:Nat) (S:ByteArray) (n:Int) (i:Nat) (f:Bool):Prop:=
 Calls Tryz.prog 69 #[.pointer (some ⟨cb,0,none⟩),.int .i64 2] w fun e w'=>e=.returned (.int .i64 n)∧CAt w' cb S i f∧OnlyP cb w w'
def TextIs (w:World) (cb:Nat) (S T:ByteArray) (i:Nat) (f:Bool):Prop:=
 Calls Tryz.prog 70 #[.pointer (some ⟨cb,0,none⟩)] w fun e w'=>e=.returned (.string T)∧CAt w' cb S i f∧OnlyP cb w w'
set_option maxRecDepth 100000 in
set_option maxHeartbeats 1000000 in
theorem rtext_lost (w:World) (cb:Nat) (S:ByteArray) (n:Int) (i:Nat) (h:NumIs w cb S n i true):TextIs w cb S ⟨#[]⟩ i true:=by
 unfold NumIs at h
 have H:=Lib.hid h
 clear h
 unfold TextIs
 go_enter Tryz.func70,Tryz.ntmps70
 go_upto_region 2 with (first
  | (go_at_call 69;(with_reducible refine H.out.mono ?_);rintro e w1 ⟨rfl,hr1,ho1⟩)
  | fail)
 obtain ⟨h0,h1,h2,h3,h4⟩:=hr1.cells
 have HR:=Lib.hid hr1
 have HO:=Lib.hid ho1
 have hlt:=lt_of_block hr1
 clear hr1 ho1
 go_quiet (fail)
 go_wp2_with fail
 go_ret
 exact⟨rfl,(HR.out.drewN _).lose,(HO.out.drewN _).setCell (.inl (show IsPb cb cb from rfl)) _⟩
set_option maxRecDepth 100000 in
set_option maxHeartbeats 1000000 in
theorem rtext_long (w:World) (cb:Nat) (S:ByteArray) (n:Nat) (i:Nat) (h:NumIs w cb S n i false) (hn:1024<n):TextIs w cb S ⟨#[]⟩ i true:=by
 unfold NumIs at h
 have H:=Lib.hid h
 have hd:decide ((1024:Int)<(n:Int))=true:=decide_eq_true (by omega)
 clear h hn
 unfold TextIs
 go_enter Tryz.func70,Tryz.ntmps70
 go_upto_region 2 with (first
  | (go_at_call 69;(with_reducible refine H.out.mono ?_);rintro e w1 ⟨rfl,hr1,ho1⟩)
  | fail)
 obtain ⟨h0,h1,h2,h3,h4⟩:=hr1.cells
 have HR:=Lib.hid hr1
 have HO:=Lib.hid ho1
 have hlt:=lt_of_block hr1
 clear hr1 ho1
 go_quiet (fail)
 go_wp2_with fail
 go_ret
 exact⟨rfl,(HR.out.drewN _).lose,(HO.out.drewN _).setCell (.inl (show IsPb cb cb from rfl)) _⟩
set_option maxRecDepth 100000 in
set_option maxHeartbeats 1000000 in
theorem rtext_short (w:World) (cb:Nat) (S:ByteArray) (n:Nat) (i:Nat) (h:NumIs w cb S n i false) (hn:n≤1024) (hi:i≤3000000) (hs:S.size<i+n):TextIs w cb S ⟨#[]⟩ i true:=by
 unfold NumIs at h
 have H:=Lib.hid h
 have hd:decide ((1024:Int)<(n:Int))=false:=decide_eq_false (by omega)
 have hwa:IntKind.i64.wrap ((i:Int)+(n:Int))=(i:Int)+(n:Int):=by rw [IntKind.wrap_i64];omega
 have hd2:decide ((S.size:Int)<(i:Int)+(n:Int))=true:=decide_eq_true (by omega)
 clear h hn hi hs
 unfold TextIs
 go_enter Tryz.func70,Tryz.ntmps70
 go_upto_region 2 with (first
  | (go_at_call 69;(with_reducible refine H.out.mono ?_);rintro e w1 ⟨rfl,hr1,ho1⟩)
  | fail)
 obtain ⟨h0,h1,h2,h3,h4⟩:=hr1.cells
 have HR:=Lib.hid hr1
 have HO:=Lib.hid ho1
 have hlt:=lt_of_block hr1
 clear hr1 ho1
 go_quiet (fail)
 go_wp2_with fail
 go_ret
 exact⟨rfl,(HR.out.drewN _).lose,(HO.out.drewN _).setCell (.inl (show IsPb cb cb from rfl)) _⟩
set_option maxRecDepth 100000 in
set_option maxHeartbeats 1000000 in
theorem rtext_ok (w:World) (cb:Nat) (S:ByteArray) (n:Nat) (i:Nat) (h:NumIs w cb S n i false) (hn:n≤1024) (hi:i≤3000000) (hs:i+n≤S.size):TextIs w cb S (S.extract i (i+n)) (i+n) false:=by
 unfold NumIs at h
 have H:=Lib.hid h
 have hd:decide ((1024:Int)<(n:Int))=false:=decide_eq_false (by omega)
 have hwa:IntKind.i64.wrap ((i:Int)+(n:Int))=(i:Int)+(n:Int):=by rw [IntKind.wrap_i64];omega
 have hd2:decide ((S.size:Int)<(i:Int)+(n:Int))=false:=decide_eq_false (by omega)
 have hb0:(0:Int)≤(i:Int):=by omega
 have hb1:(i:Int)≤(i:Int)+(n:Int):=by omega
 have hb2:(i:Int)+(n:Int)≤(S.size:Int):=by omega
 have hb3:((i:Int)+(n:Int)).toNat=i+n:=by omega
 have hb4:(0:Int)≤(i:Int)+(n:Int):=by omega
 clear h hn hi
 unfold TextIs
 go_enter Tryz.func70,Tryz.ntmps70
 go_upto_region 2 with (first
  | (go_at_call 69;(with_reducible refine H.out.mono ?_);rintro e w1 ⟨rfl,hr1,ho1⟩)
  | fail)
 obtain ⟨h0,h1,h2,h3,h4⟩:=hr1.cells
 have HR:=Lib.hid hr1
 have HO:=Lib.hid ho1
 have hlt:=lt_of_block hr1
 clear hr1 ho1
 go_quiet (fail)
 go_wp2_with fail
 go_quiet (fail)
 go_wp2_with fail
 go_ret
 refine⟨rfl,?_,(HO.out.drewN _).setCell (.inl (show IsPb cb cb from rfl)) _⟩
 rw [←Int.natCast_add]
 exact (HR.out.drewN _).go (i+n)
theorem rctext_any (w:World) (cb:Nat) (S:ByteArray) (st:RSt) (h:CIn w cb S st) (hn:Near S 2000000 st) :
 Calls Tryz.prog 70 #[.pointer (some ⟨cb,0,none⟩)] w (CPost cb S (.string (getT st).1) (getT st).2 w):=by
 obtain ⟨i,f,h1,hi,⟨rfl,rfl⟩ | ⟨rfl,rfl⟩⟩:=h
 ·refine (rtext_lost w cb S 0 i (rnum_lost w cb S i h1 2)).mono ?_
  rintro e w' ⟨he,hr,ho⟩
  exact⟨he,CIn.ofNone hr hi,ho⟩
 ·have hn2:i≤2000000:=by have:=hn _ rfl;rw [drop_len] at this;omega
  by_cases hsh:S.size<i+2
  ·refine (rtext_lost w cb S 0 i (rnum_short w cb S i h1 2 2 rfl (by omega) hn2 hsh)).mono ?_
   rintro e w' ⟨he,hr,ho⟩
   simp only [getT]
   rw [if_pos (by rw [drop_len];omega)]
   exact⟨he,CIn.ofNone hr hi,ho⟩
  ·have HN:=rnum_ok w cb S i h1 2 2 rfl (by omega) hn2 (by omega)
   obtain ⟨n,hnn⟩:∃ n,numU ((S.data.toList.drop i).take 2) 0=n:=⟨_,rfl⟩
   simp only [getT]
   rw [if_neg (by rw [drop_len];omega),hnn,drop_len]
   rw [hnn] at HN
   by_cases hlong:1024<n
   ·refine (rtext_long w cb S n (i+2) HN hlong).mono ?_
    rintro e w' ⟨he,hr,ho⟩
    rw [if_pos (.inl hlong)]
    exact⟨he,CIn.ofNone hr (by omega),ho⟩
   ·by_cases hs2:S.size<i+2+n
    ·refine (rtext_short w cb S n (i+2) HN (by omega) (by omega) hs2).mono ?_
     rintro e w' ⟨he,hr,ho⟩
     rw [if_pos (.inr (by omega))]
     exact⟨he,CIn.ofNone hr (by omega),ho⟩
    ·refine (rtext_ok w cb S n (i+2) HN (by omega) (by omega) (by omega)).mono ?_
     rintro e w' ⟨he,hr,ho⟩
     rw [if_neg (by omega)]
     refine⟨?_,?_,ho⟩
     ·rw [he]
      refine ret_strC (baExt ?_)
      rw [List.drop_drop]
      simp [ByteArray.data_extract,Array.toList_extract,List.extract_eq_take_drop,bytesOf]
     ·have:=CIn.ofSome hr (by omega)
      rwa [List.drop_drop,List.drop_drop]
end Go.Proofs.YtbchkjfnakabkaaGreatDoor
