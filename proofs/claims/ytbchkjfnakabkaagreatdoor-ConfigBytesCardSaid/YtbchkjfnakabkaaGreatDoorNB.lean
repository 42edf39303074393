/- The walks of the form's ports. -/
import Derived.Test.YtbchkjfnakabkaaGreatDoorN6A
import Derived.Deep.CutRange
set_option linter.unusedSimpArgs false
set_option linter.unusedVariables false
namespace Go.Proofs.YtbchkjfnakabkaaGreatDoor
open Go.RowKit PX PC
theorem flowsR_rch {N:Nat} {l:List (Int × Int)} {U D:List Int} (h:LatR N l U D) {a b:Int} (ha:lev N a) (hb:lev N b):flowsR N U a b=rchB l a b:=by
 unfold flowsR
 rw [levD_iff.2 ha,levD_iff.2 hb]
 unfold lev at ha hb
 obtain ⟨x,rfl⟩:=Int.eq_ofNat_of_zero_le ha.1
 obtain ⟨y,rfl⟩:=Int.eq_ofNat_of_zero_le hb.1
 rw [Bool.eq_iff_iff,rchB_iff]
 simpa using h.ubit x y (by omega)
structure LatOf (w:World) (c:Cfg) (lv:Value):Prop where
 ok:∃ (lb N:Nat) (U D:List Int),lv=.pointer (some ⟨lb,0,none⟩)∧c.levels=N∧LatAt w lb N U D∧LatR N c.flows U D
theorem LatOf.later {w w':World} {c:Cfg} {lv:Value} (h:LatOf w c lv) (hl:Later w w'):LatOf w' c lv:=by
 obtain ⟨lb,N,U,D,h1,h2,h3,h4⟩:=h.ok
 exact⟨lb,N,U,D,h1,h2,h3.later hl,h4⟩
theorem LatOf.lev {w:World} {c:Cfg} {lv:Value} (h:LatOf w c lv):LevOK c:=by
 obtain ⟨lb,N,U,D,h1,h2,h3,h4⟩:=h.ok
 have:=h4.lo;have:=h4.hi
 unfold LevOK;omega
theorem prt_iff {c:Cfg} {n:Int}:c.prt n=true↔0≤n∧n<c.parts.length:=by unfold Cfg.prt;rw [inB_iff];omega
theorem levelOf_nat {c:Cfg} {i:Nat} (h:i<c.parts.length):c.levelOf (i:Int)=c.parts[i].level:=by
 unfold Cfg.levelOf
 rw [Int.toNat_natCast,List.getElem?_eq_getElem h];rfl
theorem beq_dec (a b:Int):(a==b)=decide (a=b):=by rw [Bool.eq_iff_iff];simp
def portEnds (c:Cfg) (x:Por):Bool:=(c.prt x.fr&&c.prt x.tu)&&decide (x.fr≠x.tu)
def portSize (x:Por):Bool:=inB x.size 1 255&&(inB x.depth 1 8&&(decide (x.kind=1) || decide (x.depth=1)))
theorem porOK_eq (c:Cfg) (x:Por):porOK c x=(inB x.kind 0 1&&(portEnds c x&&(portSize x&&rchB c.flows (c.levelOf x.fr) (c.levelOf x.tu)))):=rfl
set_option maxRecDepth 100000 in
set_option maxHeartbeats 4000000 in
theorem ports1_any (w:World) (cb fb:Nat) (c:Cfg) (x:Por) (vF vP vW vO vV vR vK lv:Value) (h:FormIn w fb c vF vP vW vO vV vR vK lv) (hL:LatOf w c lv) (hP:∀ p∈c.parts,lev c.levels p.level)
 (hcb:w.cell? ⟨cb,0,none⟩=some (.pointer (some ⟨fb,0,none⟩))) :
 Calls Tryz.prog 115 #[porV x,.pointer (some ⟨cb,0,none⟩)] w fun e w'=>e=.returned (.bool (porOK c x))∧Later w w':=by
 rw [porOK_eq]
 obtain ⟨k,f,t,s,d⟩:=x
 obtain ⟨a,cap,rfl,hl1,hl2,hl3⟩:=row_val h.rP
 obtain ⟨w1,hw1⟩:∃ w1,w.alloc (.cells #[.int .i64 k,.int .i64 f,.int .i64 t,.int .i64 s,.int .i64 d] 51)=w1:=⟨_,rfl⟩
 have hlw:Later w w1:=by rw [←hw1];exact (Later.refl w).alloc _
 obtain ⟨xb,hxb⟩:∃ xb,w.heap.size=xb:=⟨_,rfl⟩
 have hblk:w1.heap[xb]?=some (.cells #[.int .i64 k,.int .i64 f,.int .i64 t,.int .i64 s,.int .i64 d] 51 (0,0)):=by rw [←hw1];exact alloc_at hxb
 have h1:=h.later hlw
 have hL1:=hL.later hlw
 have c0:=cell_of_block hblk 0
 have c1:=cell_of_block hblk 1
 have c2:=cell_of_block hblk 2
 have c3:=cell_of_block hblk 3
 have c4:=cell_of_block hblk 4
 have cc:=hlw.cell hcb
 have k2:w1.cell? ⟨fb,2,none⟩=some (.slice a c.parts.length cap):=h1.cell 2
 have kl:w1.cell? ⟨fb,17,none⟩=some lv:=h1.cell 17
 have HPF:=Lib.hid (fpart_any w1 fb c f a cap k2 (by omega))
 have HPT:=Lib.hid (fpart_any w1 fb c t a cap k2 (by omega))
 have HS:=Lib.hid (cin_any w1 s 1 255)
 have HD:=Lib.hid (cin_any w1 d 1 8)
 have HK:=Lib.hid (fun w2=>cin_any w2 k 0 1)
 have he:portEnds c ⟨k,f,t,s,d⟩=((c.prt f&&c.prt t)&&decide (f≠t)):=rfl
 have hsz:portSize ⟨k,f,t,s,d⟩=(inB s 1 255&&(inB d 1 8&&(decide (k=1) || decide (d=1)))):=rfl
 obtain ⟨E,hE⟩:∃ E,portEnds c ⟨k,f,t,s,d⟩=E:=⟨_,rfl⟩
 obtain ⟨Z,hZ⟩:∃ Z,portSize ⟨k,f,t,s,d⟩=Z:=⟨_,rfl⟩
 rw [hE] at he
 rw [hZ] at hsz
 rw [hE,hZ]
 obtain ⟨p1,hp1⟩:∃ p,c.prt f=p:=⟨_,rfl⟩
 obtain ⟨p2,hp2⟩:∃ p,c.prt t=p:=⟨_,rfl⟩
 obtain ⟨s1,hs1⟩:∃ p,inB s 1 255=p:=⟨_,rfl⟩
 obtain ⟨d1,hd1⟩:∃ p,inB d 1 8=p:=⟨_,rfl⟩
 obtain ⟨k1,hk1⟩:∃ p,inB k 0 1=p:=⟨_,rfl⟩
 rw [hp1] at HPF he
 rw [hp2] at HPT he
 rw [hs1] at HS hsz
 rw [hd1] at HD hsz
 rw [hk1] at HK
 show Calls Tryz.prog 115 #[.agg #[.int .i64 k,.int .i64 f,.int .i64 t,.int .i64 s,.int .i64 d],.pointer (some ⟨cb,0,none⟩)] w fun e w'=>e=.returned (.bool (inB k 0 1&&(E&&(Z&&rchB c.flows (c.levelOf f) (c.levelOf t)))))∧Later w w'
 obtain ⟨Rr,hRr⟩:∃ Rr,rchB c.flows (c.levelOf f) (c.levelOf t)=Rr:=⟨_,rfl⟩
 rw [hk1,hRr]
 have HW1:=Lib.hid hw1
 have HLW:=Lib.hid hlw
 have HE:=Lib.hid he
 have HSZ:=Lib.hid hsz
 have HH:=Lib.hid (And.intro h1 hL1)
 have HP:=Lib.hid (And.intro hp1 (And.intro hp2 (And.intro hk1 (And.intro hRr hE))))
 clear h hL h1 hL1 hcb hblk hw1 hlw he hsz hp1 hp2 hs1 hd1 hk1 hE hZ hRr
 go_enter Tryz.func115,Tryz.ntmps115
 go_upto_region 1 with fail
 rw [HW1.out]
 go_cut [4] from 6 to 22 (fun v wx=>v=.bool E∧wx=w1)
 case first=>
  cases p1
  ·go_wp2_with (first
    | (go_at_call 111;(with_reducible refine HPF.out.mono ?_);rintro e w' ⟨rfl,rfl⟩)
    | fail)
   go_meet
   case rel=>exact⟨by rw [HE.out];rfl,rfl⟩
  ·cases p2
   ·go_wp2_with (first
     | (go_at_call 111;(with_reducible refine HPF.out.mono ?_);rintro e w' ⟨rfl,rfl⟩)
     | (go_at_call 111;(with_reducible refine HPT.out.mono ?_);rintro e w' ⟨rfl,rfl⟩)
     | fail)
    go_meet
    case rel=>exact⟨by rw [HE.out];rfl,rfl⟩
   ·go_wp2_with (first
     | (go_at_call 111;(with_reducible refine HPF.out.mono ?_);rintro e w' ⟨rfl,rfl⟩)
     | (go_at_call 111;(with_reducible refine HPT.out.mono ?_);rintro e w' ⟨rfl,rfl⟩)
     | fail)
    go_meet
    case rel=>exact⟨by rw [HE.out];simp [bne];exact beq_dec _ _,rfl⟩
 case rest=>
  obtain ⟨rfl,rfl⟩:=hcut
  go_upto_region 2 with fail
  go_cut [5] from 23 to 40 (fun v wx=>v=.bool Z∧wx=wc)
  case first=>
   cases s1
   ·go_wp2_with (first
     | (go_at_call 23;(with_reducible refine HS.out.mono ?_);rintro e w' ⟨rfl,rfl⟩)
     | fail)
    go_meet
    case rel=>exact⟨by rw [HSZ.out];rfl,rfl⟩
   ·cases d1
    ·go_wp2_with (first
      | (go_at_call 23;(with_reducible refine HS.out.mono ?_);rintro e w' ⟨rfl,rfl⟩)
      | (go_at_call 23;(with_reducible refine HD.out.mono ?_);rintro e w' ⟨rfl,rfl⟩)
      | fail)
     go_meet
     case rel=>exact⟨by rw [HSZ.out];rfl,rfl⟩
    ·by_cases hk:k=1
     ·have hkb:(k==1)=true:=by simpa using hk
      have hkd:decide (k=1)=true:=by simpa using hk
      rw [hkd] at HSZ
      clear hk hkd
      go_wp2_with (first
       | (go_at_call 23;(with_reducible refine HS.out.mono ?_);rintro e w' ⟨rfl,rfl⟩)
       | (go_at_call 23;(with_reducible refine HD.out.mono ?_);rintro e w' ⟨rfl,rfl⟩)
       | fail)
      go_meet
      case rel=>exact⟨by rw [HSZ.out];rfl,rfl⟩
     ·have hkb:(k==1)=false:=by simpa using hk
      have hkd:decide (k=1)=false:=by simpa using hk
      rw [hkd] at HSZ
      clear hk hkd
      go_wp2_with (first
       | (go_at_call 23;(with_reducible refine HS.out.mono ?_);rintro e w' ⟨rfl,rfl⟩)
       | (go_at_call 23;(with_reducible refine HD.out.mono ?_);rintro e w' ⟨rfl,rfl⟩)
       | fail)
      go_meet
      case rel=>exact⟨by rw [HSZ.out];simp;exact beq_dec _ _,rfl⟩
  case rest=>
   obtain ⟨rfl,hwc⟩:=hcut
   obtain ⟨W,hW⟩:∃ W,wc=W:=⟨_,rfl⟩
   rw [hW] at hwc ⊢
   subst hwc
   clear hW
   go_upto_region 3 with fail
   cases k1
   ·go_quiet ((go_at_call 23;exact Calls.quiet_of_same (HK.out _)))
    go_wp2_with fail
    go_ret
    exact⟨rfl,Later.drewN HLW.out _⟩
   ·cases E
    ·go_quiet ((go_at_call 23;exact Calls.quiet_of_same (HK.out _)))
     go_wp2_with fail
     go_ret
     exact⟨rfl,Later.drewN HLW.out _⟩
    ·cases Z
     ·go_quiet ((go_at_call 23;exact Calls.quiet_of_same (HK.out _)))
      go_wp2_with fail
      go_ret
      exact⟨rfl,Later.drewN HLW.out _⟩
     ·obtain ⟨e1,e2,-, e4,-⟩:=HP.out
      have hp12:p1=true∧p2=true:=by
       have:=HE.out
       cases p1<;>cases p2<;>simp at this<;>simp
      obtain ⟨rfl,rfl⟩:=hp12
      obtain ⟨f0,f1⟩:=prt_iff.1 e1
      obtain ⟨t0,t1⟩:=prt_iff.1 e2
      obtain ⟨i,rfl⟩:=Int.eq_ofNat_of_zero_le f0
      obtain ⟨j,rfl⟩:=Int.eq_ofNat_of_zero_le t0
      have hil:i<c.parts.length:=by omega
      have hjl:j<c.parts.length:=by omega
      obtain ⟨b,o,rfl,hb,hc⟩:=row_at HH.out.1.rP hil
      obtain ⟨b',o',hbo,hb',hc'⟩:=row_at HH.out.1.rP hjl
      have hbo1:b'=b∧o'=o:=by
       have:=Option.some.inj hbo
       injection this with q1 q2 q3
       exact⟨q1.symm,q2.symm⟩
      obtain ⟨rfl,rfl⟩:=hbo1
      have r1:=hc 0 (by omega)
      have r2:=hc' 0 (by omega)
      have hli:=hP _ (List.getElem_mem hil)
      have hlj:=hP _ (List.getElem_mem hjl)
      rw [levelOf_nat hil,levelOf_nat hjl] at e4
      obtain ⟨lb,N,U,D,hlv,hN,hat,hLR⟩:=HH.out.2.ok
      subst hlv
      rw [hN] at hli hlj
      have HFL:=Lib.hid (fun w2 (h:Later W w2)=>lat_flows w2 lb N c.parts[i].level c.parts[j].level U D (hat.later h) hLR.up hLR.hi)
      rw [flowsR_rch hLR hli hlj,e4] at HFL
      obtain ⟨X,hX⟩:∃ X,c.parts[i]=X:=⟨_,rfl⟩
      obtain ⟨Y,hY⟩:∃ Y,c.parts[j]=Y:=⟨_,rfl⟩
      rw [hX] at r1 HFL
      rw [hY] at r2 HFL
      simp only [partC,List.getElem?_cons_zero,Nat.add_zero] at r1 r2
      obtain ⟨n,hn⟩:∃ n,c.parts.length=n:=⟨_,rfl⟩
      rw [hn] at f1 t1 k2 hl1 hl3
      clear hbo hc hc' hli hlj e1 e2 e4 hX hY hn hP HH HP hat hLR hN hil hjl
      go_quiet ((first
       | (go_at_call 23;exact Calls.quiet_of_same (HK.out _))
       | (go_at_call 116;exact Calls.quiet_of_same (HFL.out _ (Later.drewN (Later.refl _) _)))))
      go_wp2_with fail
      go_ret
      exact⟨rfl,Later.drewN HLW.out _⟩
end Go.Proofs.YtbchkjfnakabkaaGreatDoor
