/- The walks of the form's rules. -/
import Derived.Test.YtbchkjfnakabkaaGreatDoorNCx
import Derived.Test.YtbchkjfnakabkaaGreatDoorR4
import Derived.Test.YtbchkjfnakabkaaGreatDoorY7
set_option linter.unusedSimpArgs false
set_option linter.unusedVariables false
namespace Go.Proofs.YtbchkjfnakabkaaGreatDoor
open Go.RowKit PX PC
def PatPost (S:ByteArray) (w:World) (e:Ending) (w':World):Prop:=∃ (Y:RxA) (n:Int),e=.returned (.tuple #[.agg (cellsA Y),.int .i64 n])∧(n==0)=isRead S.data.toList∧Later w w'
theorem parse_pat (w:World) (S:ByteArray):Calls Tryz.prog 150 #[.string S] w (PatPost S w):=by
 refine (parse_any w S).mono fun e w' ⟨hb,h⟩=>?_
 rcases h with ⟨X,hp,rfl,-⟩ | ⟨n,hp,rfl⟩
 ·exact⟨X,0,rfl,by rw [isRead_iff.2 ⟨_,hp⟩];rfl,hb⟩
 ·refine⟨_,n,rfl,?_,hb⟩
  rw [isRead_false.2 ⟨_,hp⟩]
  rcases parseR_err hp with rfl | rfl<;>rfl
set_option maxRecDepth 100000 in
theorem cpattern_any (w:World) (S:ByteArray):Calls Tryz.prog 125 #[.string S] w fun e w'=>e=.returned (.bool (isRead S.data.toList))∧Later w w':=by
 have HP:=Lib.hid (parse_pat w S)
 have HSZ:=Lib.hid (fun (Y:RxA)=>show (#[.int .i64 0,.int .i64 0,.int .i64 0,.int .u64 0,.int .u64 0,.int .u64 0,.int .u64 0,.slice none 0 0]:Array Value).size=(cellsA Y).size by rw [cellsA_size];rfl)
 go_enter Tryz.func125,Tryz.ntmps125
 go_wp2_with (first
  | (go_at_call 150;(with_reducible refine HP.out.mono ?_);rintro e w1 ⟨Y,n,rfl,hn,hl1⟩)
  | refine wpList_store_row rfl 141 (.tmp 3) (.tmp 8) rfl w1.heap.size (cellsA Y) rfl rfl 141 _ (alloc_block w1 _) (info_rxA Y) (HSZ.out Y) (cellsA_one Y) ?_
  | fail)
 go_ret
 exact⟨rfl,below_setR (hl1.alloc _) hl1.size _⟩
noncomputable def ruEnds (c:Cfg) (x:Ru):Bool:=(c.lvl x.fr&&c.lvl x.tu)&&!rchB c.flows x.fr x.tu
def ruWith (x:Ru):Bool:=if x.act=2 then isRead x.wth.data.toList else x.wth.data.toList.isEmpty
theorem ruOK_eq (c:Cfg) (x:Ru):ruOK c x=(ruEnds c x&&(inB x.act 0 2&&(isRead x.pat.data.toList&&ruWith x))):=rfl
theorem lvl_lev {c:Cfg} {n:Int} (h:c.lvl n=true):lev c.levels n:=by
 unfold Cfg.lvl at h;rw [inB_iff] at h;unfold lev;omega
set_option maxRecDepth 100000 in
set_option maxHeartbeats 4000000 in
theorem rules1_any (w:World) (cb fb:Nat) (c:Cfg) (x:Ru) (vF vP vW vO vV vR vK lv:Value) (h:FormIn w fb c vF vP vW vO vV vR vK lv) (hL:LatOf w c lv)
 (hcb:w.cell? ⟨cb,0,none⟩=some (.pointer (some ⟨fb,0,none⟩))) :
 Calls Tryz.prog 124 #[ruV x,.pointer (some ⟨cb,0,none⟩)] w fun e w'=>e=.returned (.bool (ruOK c x))∧Later w w':=by
 rw [ruOK_eq]
 obtain ⟨f,t,k,P,W⟩:=x
 have hlev:=hL.lev
 obtain ⟨lb,N,U,D,rfl,hN,hat,hLR⟩:=hL.ok
 obtain ⟨w1,hw1⟩:∃ w1,w.alloc (.cells #[.int .i64 f,.int .i64 t,.int .i64 k,.string P,.string W] 53)=w1:=⟨_,rfl⟩
 have hlw:Later w w1:=by rw [←hw1];exact (Later.refl w).alloc _
 obtain ⟨xb,hxb⟩:∃ xb,w.heap.size=xb:=⟨_,rfl⟩
 have hblk:w1.heap[xb]?=some (.cells #[.int .i64 f,.int .i64 t,.int .i64 k,.string P,.string W] 53 (0,0)):=by rw [←hw1];exact alloc_at hxb
 have h1:=h.later hlw
 have hat1:=hat.later hlw
 have cc:=hlw.cell hcb
 have kl:w1.cell? ⟨fb,17,none⟩=some (.pointer (some ⟨lb,0,none⟩)):=h1.cell 17
 have HC:=Lib.hid (fun (w2:World) (h2:Later w1 w2)=>And.intro (cell_of_block (h2.block hblk) 0) (And.intro (cell_of_block (h2.block hblk) 1) (And.intro (cell_of_block (h2.block hblk) 2) (And.intro (cell_of_block (h2.block hblk) 3) (cell_of_block (h2.block hblk) 4)))))
 have HLV:=Lib.hid (fun (w2:World) (h2:Later w1 w2) (n:Int)=>flevel_any w2 fb c n ((h1.later h2).cell 0) hlev.1 hlev.2)
 have HFL:=Lib.hid (fun (w2:World) (h2:Later w1 w2)=>lat_flows w2 lb N f t U D (hat1.later h2) hLR.up hLR.hi)
 have HK:=Lib.hid (fun w2=>cin_any w2 k 0 2)
 have HPT:=Lib.hid (fun w2=>cpattern_any w2 P)
 have HWT:=Lib.hid (fun w2=>cpattern_any w2 W)
 have he:ruEnds c ⟨f,t,k,P,W⟩=((c.lvl f&&c.lvl t)&&!rchB c.flows f t):=rfl
 have hwi:ruWith ⟨f,t,k,P,W⟩=if k=2 then isRead W.data.toList else W.data.toList.isEmpty:=rfl
 have hfr:c.lvl f=true→c.lvl t=true→flowsR N U f t=rchB c.flows f t:=fun q1 q2=>by
  have r1:=lvl_lev q1
  have r2:=lvl_lev q2
  rw [hN] at r1 r2
  exact flowsR_rch hLR r1 r2
 obtain ⟨E,hE⟩:∃ E,ruEnds c ⟨f,t,k,P,W⟩=E:=⟨_,rfl⟩
 obtain ⟨Z,hZ⟩:∃ Z,ruWith ⟨f,t,k,P,W⟩=Z:=⟨_,rfl⟩
 rw [hE] at he
 rw [hZ] at hwi
 rw [hE,hZ]
 obtain ⟨p1,hp1⟩:∃ p,c.lvl f=p:=⟨_,rfl⟩
 obtain ⟨p2,hp2⟩:∃ p,c.lvl t=p:=⟨_,rfl⟩
 obtain ⟨fl,hfl⟩:∃ p,flowsR N U f t=p:=⟨_,rfl⟩
 obtain ⟨rb,hrb⟩:∃ p,rchB c.flows f t=p:=⟨_,rfl⟩
 obtain ⟨k1,hk1⟩:∃ p,inB k 0 2=p:=⟨_,rfl⟩
 obtain ⟨rp,hrp⟩:∃ p,isRead P.data.toList=p:=⟨_,rfl⟩
 rw [hp1,hp2,hrb] at he
 rw [hp1,hp2,hfl,hrb] at hfr
 have HP1:=Lib.hid hp1
 have HP2:=Lib.hid hp2
 have HLB:=Lib.hid (fun (w2:World) (h2:Later w1 w2) (n:Int) (b:Bool) (hb:c.lvl n=b)=>show Calls Tryz.prog 109 #[.pointer (some ⟨fb,0,none⟩),.int .i64 n] w2 fun e w'=>e=.returned (.bool b)∧w'=w2 from hb▸HLV.out w2 h2 n)
 rw [hfl] at HFL
 rw [hk1] at HK
 rw [hrp] at HPT
 show Calls Tryz.prog 124 #[.agg #[.int .i64 f,.int .i64 t,.int .i64 k,.string P,.string W],.pointer (some ⟨cb,0,none⟩)] w fun e w'=>e=.returned (.bool (E&&(inB k 0 2&&(isRead P.data.toList&&Z))))∧Later w w'
 rw [hk1,hrp]
 have HW1:=Lib.hid hw1
 have HLW:=Lib.hid hlw
 have HE:=Lib.hid he
 have HWI:=Lib.hid hwi
 have HFR:=Lib.hid hfr
 clear h hat h1 hat1 hcb hblk hw1 hlw he hwi hp1 hp2 hfl hrb hk1 hrp hE hZ hfr hLR hN hlev HLV
 obtain ⟨c0,c1,c2,c3,c4⟩:=HC.out w1 (Later.refl _)
 go_enter Tryz.func124,Tryz.ntmps124
 go_upto_region 1 with fail
 rw [HW1.out]
 go_cut [4] from 6 to 27 (fun v wx=>v=.bool E∧Later w1 wx)
 case first=>
  cases p1
  ·go_quiet ((first
    | (go_at_call 109;exact Calls.quiet_of_same (HLB.out _ (Later.drewN (Later.refl _) _) _ _ (by first | exact HP1.out | exact HP2.out)))
    | fail))
   go_wp2_with fail
   go_meet
   case rel=>exact⟨by rw [HE.out];rfl,Later.drewN (Later.refl _) _⟩
  ·cases p2
   ·go_quiet ((first
     | (go_at_call 109;exact Calls.quiet_of_same (HLB.out _ (Later.drewN (Later.refl _) _) _ _ (by first | exact HP1.out | exact HP2.out)))
     | fail))
    go_wp2_with fail
    go_meet
    case rel=>exact⟨by rw [HE.out];rfl,Later.drewN (Later.refl _) _⟩
   ·have hf:=HFR.out rfl rfl
    subst hf
    go_quiet ((first
     | (go_at_call 109;exact Calls.quiet_of_same (HLB.out _ (Later.drewN (Later.refl _) _) _ _ (by first | exact HP1.out | exact HP2.out)))
     | (go_at_call 116;exact Calls.quiet_of_same (HFL.out _ (Later.drewN (Later.refl _) _)))
     | fail))
    go_wp2_with fail
    go_meet
    case rel=>exact⟨by rw [HE.out];rfl,Later.drewN (Later.refl _) _⟩
 case rest=>
  obtain ⟨rfl,hwc⟩:=hcut
  obtain ⟨w3,hw3⟩:∃ w3,wc=w3:=⟨_,rfl⟩
  rw [hw3] at hwc ⊢
  clear hw3 c0 c1 c2 c3 c4 cc kl
  obtain ⟨c0,c1,c2,c3,c4⟩:=HC.out w3 hwc
  go_upto_if 33 with fail
  go_cut [5] from 33 to 36 (fun v wx=>v=.bool Z∧Later w3 wx)
  case first=>
   by_cases hk:k=2
   ·have hkb:(k==2)=true:=by simpa using hk
    have HZ:=Lib.hid (show Z=isRead W.data.toList by rw [HWI.out,if_pos hk])
    clear hk
    go_wp2_with (first
     | (go_at_call 125;(with_reducible refine (HWT.out _).mono ?_);rintro e w4 ⟨rfl,hl4⟩)
     | fail)
    go_meet
    case rel=>exact⟨by rw [HZ.out],hl4⟩
   ·have hkb:(k==2)=false:=by simpa using hk
    have HZ:=Lib.hid (show Z=W.data.toList.isEmpty by rw [HWI.out,if_neg hk])
    clear hk
    go_wp2_with fail
    go_meet
    case rel=>exact⟨by rw [HZ.out,←ByteArray.toList_eq],Later.refl _⟩
  case rest=>
   obtain ⟨rfl,hwd⟩:=hcut
   obtain ⟨w4,hw4⟩:∃ w4,wc=w4:=⟨_,rfl⟩
   rw [hw4] at hwd ⊢
   clear hw4 c0 c1 c2 c3 c4
   obtain ⟨c0,c1,c2,c3,c4⟩:=HC.out w4 (hwc.trans hwd)
   have hlf:Later w w4:=HLW.out.trans (hwc.trans hwd)
   cases E
   ·go_wp2_with fail
    go_ret
    exact⟨rfl,hlf⟩
   ·cases k1
    ·go_wp2_with (first
      | (go_at_call 23;(with_reducible refine (HK.out _).mono ?_);rintro e w5 ⟨rfl,rfl⟩)
      | fail)
     go_ret
     exact⟨rfl,hlf⟩
    ·cases rp
     ·go_wp2_with (first
       | (go_at_call 23;(with_reducible refine (HK.out _).mono ?_);rintro e w5 ⟨rfl,rfl⟩)
       | (go_at_call 125;(with_reducible refine (HPT.out _).mono ?_);rintro e w5 ⟨rfl,hl5⟩)
       | fail)
      go_ret
      exact⟨rfl,hlf.trans hl5⟩
     ·go_wp2_with (first
       | (go_at_call 23;(with_reducible refine (HK.out _).mono ?_);rintro e w5 ⟨rfl,rfl⟩)
       | (go_at_call 125;(with_reducible refine (HPT.out _).mono ?_);rintro e w5 ⟨rfl,hl5⟩)
       | fail)
      go_ret
      exact⟨ret_bool (by simp),hlf.trans hl5⟩
set_option maxRecDepth 100000 in
theorem frules_any (w:World) (fb:Nat) (c:Cfg) (vF vP vW vO vV vR vK lv:Value) (h:FormIn w fb c vF vP vW vO vV vR vK lv) (hL:LatOf w c lv) :
 Calls Tryz.prog 102 #[.pointer (some ⟨fb,0,none⟩)] w fun e w'=>e=.returned (.bool c.rulesB)∧Later w w':=by
 obtain ⟨a,cap,rfl,hl1,hl2,hl3⟩:=row_val h.rR
 obtain ⟨cb,w1,hcb,hw1,hlw,hblk,hcell⟩:=box_form (w:=w) (fb:=fb)
 have h1:=h.later hlw
 have hL1:=hL.later hlw
 have k4:w1.cell? ⟨fb,12,none⟩=some (.slice a c.rules.length cap):=h1.cell 12
 have HALL:=Lib.hid (all_ru w1 _ c.rules h1.rR 124 #[.pointer (some ⟨cb,0,none⟩)] (enters_of Tryz.func124 (by kernel_rfl) rfl) (ruOK c) (by omega) (fun w2 h2 x hx=>rules1_any w2 cb fb c x vF vP vW vO vV _ vK lv (h1.later h2) (hL1.later h2) (h2.cell hcell)))
 have hp:c.rulesB=(decide (c.rules.length≤32)&&c.rules.all (ruOK c)):=rfl
 rw [hp]
 obtain ⟨n,hn⟩:∃ n,c.rules.length=n:=⟨_,rfl⟩
 obtain ⟨q,hq⟩:∃ q,c.rules.all (ruOK c)=q:=⟨_,rfl⟩
 rw [hq] at HALL ⊢
 rw [hn] at HALL k4 hl1 hl3 ⊢
 have HW1:=Lib.hid hw1
 have HLW:=Lib.hid hlw
 clear h h1 hp hn hq hblk hw1 hlw hL hL1
 by_cases hi:n≤32
 ·rw [decide_eq_true hi]
  have hd:decide ((n:Int)≤32)=true:=decide_eq_true (by omega)
  go_enter Tryz.func102,Tryz.ntmps102
  go_upto_region 1 with fail
  rw [HW1.out]
  go_wp2_with (first
   | (go_at_call 123;(with_reducible refine HALL.out.mono ?_);rintro e w' ⟨rfl,hl1⟩)
   | fail)
  go_ret
  exact⟨ret_bool (by simp),HLW.out.trans hl1⟩
 ·rw [decide_eq_false hi]
  have hd:decide ((n:Int)≤32)=false:=decide_eq_false (by omega)
  go_enter Tryz.func102,Tryz.ntmps102
  go_upto_region 1 with fail
  rw [HW1.out]
  go_wp2_with fail
  go_ret
  exact⟨ret_bool (by simp),HLW.out⟩
end Go.Proofs.YtbchkjfnakabkaaGreatDoor
