/- N6A, merged: N6 NA. -/
import Derived.Test.YtbchkjfnakabkaaGreatDoorN5
import Derived.Test.YtbchkjfnakabkaaGreatDoorN4
set_option linter.unusedSimpArgs false
set_option linter.unusedVariables false
namespace Go.Proofs.YtbchkjfnakabkaaGreatDoor
open Go.RowKit PX PC
def formA (c:Cfg) (vF vP vW vO vV vR vK lv:Value):Array Value:=#[.int .i64 c.levels,vF,vP,vW,vO,vV,.int .i64 c.audit.level,.int .i64 c.audit.first,.int .i64 c.audit.count,.int .i64 c.audit.journal,.int .i64 c.boot,.int .i64 c.sectors,vR,vK,.string c.login,.int .i64 c.recovery,.int .i64 c.bound,lv]
structure FormIn (w:World) (fb:Nat) (c:Cfg) (vF vP vW vO vV vR vK lv:Value):Prop where
 blk:w.heap[fb]?=some (.cells (formA c vF vP vW vO vV vR vK lv) 61 (0,0))
 rF:RowAt w 2 vF (c.flows.map flowC)
 rP:RowAt w 2 vP (c.parts.map partC)
 rW:RowAt w 3 vW (c.windows.map winC)
 rO:RowAt w 5 vO (c.ports.map porC)
 rV:RowAt w 4 vV (c.volumes.map volC)
 rR:RowAt w 5 vR (c.rules.map ruC)
 rK:RowAt w 1 vK (c.keys.map keyC)
theorem FormIn.later {w w':World} {fb:Nat} {c:Cfg} {vF vP vW vO vV vR vK lv:Value} (h:FormIn w fb c vF vP vW vO vV vR vK lv) (hl:Later w w'):FormIn w' fb c vF vP vW vO vV vR vK lv:=
 ⟨hl.block h.blk,h.rF.later hl,h.rP.later hl,h.rW.later hl,h.rO.later hl,h.rV.later hl,h.rR.later hl,h.rK.later hl⟩
theorem FormIn.cell {w:World} {fb:Nat} {c:Cfg} {vF vP vW vO vV vR vK lv:Value} (h:FormIn w fb c vF vP vW vO vV vR vK lv) (j:Nat):w.cell? ⟨fb,j,none⟩=(formA c vF vP vW vO vV vR vK lv)[j]?:=cell_of_block h.blk j
theorem inB_yes {n lo hi:Int} (h0:lo≤n) (h1:n≤hi):inB n lo hi=true:=by unfold inB;rw [decide_eq_true h0,decide_eq_true h1];rfl
theorem inB_no {n lo hi:Int} (h:¬ (lo≤n∧n≤hi)):inB n lo hi=false:=by rw [Bool.eq_false_iff];exact fun k=>h (inB_iff.1 k)
set_option maxRecDepth 100000 in
theorem cin_any (w:World) (n lo hi:Int):Calls Tryz.prog 23 #[.int .i64 n,.int .i64 lo,.int .i64 hi] w fun e w'=>e=.returned (.bool (inB n lo hi))∧w'=w:=by
 by_cases h0:lo≤n
 ·by_cases h1:n≤hi
  ·rw [inB_yes h0 h1]
   go_enter Tryz.func23,Tryz.ntmps23
   go_wp2_with fail
   go_ret
   exact⟨rfl,rfl⟩
  ·rw [inB_no (fun h=>h1 h.2)]
   go_enter Tryz.func23,Tryz.ntmps23
   go_wp2_with fail
   go_ret
   exact⟨rfl,rfl⟩
 ·rw [inB_no (fun h=>h0 h.1)]
  go_enter Tryz.func23,Tryz.ntmps23
  go_wp2_with fail
  go_ret
  exact⟨rfl,rfl⟩
set_option maxRecDepth 100000 in
theorem flevel_any (w:World) (fb:Nat) (c:Cfg) (n:Int) (hc:w.cell? ⟨fb,0,none⟩=some (.int .i64 c.levels)) (h1:1≤c.levels) (h8:c.levels≤8) :
 Calls Tryz.prog 109 #[.pointer (some ⟨fb,0,none⟩),.int .i64 n] w fun e w'=>e=.returned (.bool (c.lvl n))∧w'=w:=by
 have HIN:=Lib.hid (show Calls Tryz.prog 23 #[.int .i64 n,.int .i64 0,.int .i64 (c.levels - 1)] w fun e w'=>e=.returned (.bool (c.lvl n))∧w'=w from cin_any w n 0 (c.levels - 1))
 obtain ⟨b,hb⟩:∃ b,c.lvl n=b:=⟨_,rfl⟩
 rw [hb] at HIN ⊢
 obtain ⟨L,hL⟩:∃ L,c.levels=L:=⟨_,rfl⟩
 rw [hL] at HIN hc h1 h8
 clear hb hL
 go_enter Tryz.func109,Tryz.ntmps109
 go_wp2_with (first
  | (go_at_call 23;(with_reducible refine HIN.out.mono ?_);rintro e w' ⟨rfl,rfl⟩)
  | fail)
 go_ret
 exact⟨rfl,rfl⟩
set_option maxRecDepth 100000 in
theorem fpart_any (w:World) (fb:Nat) (c:Cfg) (n:Int) (a:Option Addr) (cap:Nat) (hc:w.cell? ⟨fb,2,none⟩=some (.slice a c.parts.length cap)) (hl:c.parts.length≤140737488355328) :
 Calls Tryz.prog 111 #[.pointer (some ⟨fb,0,none⟩),.int .i64 n] w fun e w'=>e=.returned (.bool (c.prt n))∧w'=w:=by
 have HIN:=Lib.hid (show Calls Tryz.prog 23 #[.int .i64 n,.int .i64 0,.int .i64 ((c.parts.length:Int) - 1)] w fun e w'=>e=.returned (.bool (c.prt n))∧w'=w from cin_any w n 0 _)
 obtain ⟨b,hb⟩:∃ b,c.prt n=b:=⟨_,rfl⟩
 rw [hb] at HIN ⊢
 obtain ⟨L,hL⟩:∃ L,c.parts.length=L:=⟨_,rfl⟩
 rw [hL] at HIN hc hl
 clear hb hL
 go_enter Tryz.func111,Tryz.ntmps111
 go_wp2_with (first
  | (go_at_call 23;(with_reducible refine HIN.out.mono ?_);rintro e w' ⟨rfl,rfl⟩)
  | fail)
 go_ret
 exact⟨rfl,rfl⟩
theorem sumT_snoc:∀ (l:List Win) (x:Win) (k i:Int),sumT (l++[x]) k i=sumT l k i+(if x.kind=k∧x.index=i then x.ticks else 0)
 | [],x,k,i=>by simp [sumT]
 | y::l,x,k,i=>by simp only [List.cons_append,sumT,sumT_snoc l x k i];omega
theorem sumT_bd:∀ (l:List Win) (k i:Int),(∀x∈l,1≤x.ticks∧x.ticks≤255)→0≤sumT l k i∧sumT l k i≤255*l.length
 | [],k,i,_=>by simp [sumT]
 | y::l,k,i,h=>by
  have h1:=sumT_bd l k i fun x hx=>h x (List.mem_cons_of_mem y hx)
  have h2:=h y List.mem_cons_self
  simp only [sumT,List.length_cons]
  split<;>omega
def WinsFew (c:Cfg):Prop:=c.windows.length≤64∧∀ x∈c.windows,1≤x.ticks∧x.ticks≤255
set_option maxRecDepth 100000 in
set_option maxHeartbeats 1000000 in
theorem fticks_any (w:World) (fb:Nat) (c:Cfg) (v:Value) (k i:Int) (hc:w.cell? ⟨fb,3,none⟩=some v) (hrow:RowAt w 3 v (c.windows.map winC)) (hw:WinsFew c) :
 Calls Tryz.prog 77 #[.pointer (some ⟨fb,0,none⟩),.int .i64 k,.int .i64 i] w fun e w'=>e=.returned (.int .i64 (c.tk k i))∧Later w w':=by
 obtain ⟨a,cap,rfl,hl1,hl2,hl3⟩:=row_val hrow
 have HROW:=Lib.hid hrow
 have HW:=Lib.hid hw
 have htk:c.tk k i=sumT c.windows k i:=rfl
 rw [htk]
 obtain ⟨l,hl⟩:∃ l,c.windows=l:=⟨_,rfl⟩
 have HW2:=Lib.hid (show l.length≤64∧∀ x∈l,1≤x.ticks∧x.ticks≤255 by rw [←hl];exact hw)
 have hl64:=HW2.out.1
 rw [hl] at hc HROW hl1 hl3 ⊢
 clear hrow hw htk HW hl
 go_enter Tryz.func77,Tryz.ntmps77
 go_wp2_with fail
 go_loopw [7,16] (fun vn vi wr=>∃ j:Nat,j≤l.length∧vi=.int .i64 (j:Int)∧vn=.int .i64 (sumT (l.take j) k i)∧Later w wr) (fun _ vi _=>l.length - (intOf vi).toNat)
 case atStart=>exact⟨0,by omega,rfl,rfl,Later.refl _⟩
 case round=>
  obtain ⟨j,hj,rfl,rfl,hb⟩:=hrel
  by_cases hlt:j<l.length
  ·obtain ⟨b,o,rfl,hb',hcc⟩:=row_at (HROW.out.later hb) hlt
   have htk:=List.take_succ_eq_append_getElem hlt
   have hbd:=sumT_bd (l.take j) k i (fun x hx=>HW2.out.2 x (List.mem_of_mem_take hx))
   have hlj:(l.take j).length≤64:=by rw [List.length_take];omega
   have hx2:=HW2.out.2 _ (List.getElem_mem hlt)
   obtain ⟨x,hx⟩:∃ x,l[j]=x:=⟨_,rfl⟩
   rw [hx] at hcc htk hx2
   have HS:Hid (sumT (l.take (j+1)) k i=sumT (l.take j) k i+(if x.kind=k∧x.index=i then x.ticks else 0)):=Lib.hid (by rw [htk,sumT_snoc])
   obtain ⟨s,hs⟩:∃ s,sumT (l.take j) k i=s:=⟨_,rfl⟩
   rw [hs] at HS hbd ⊢
   obtain ⟨hs0,hs1⟩:=hbd
   have hs2:s≤16320:=by omega
   clear hx htk hs hs1 hlj
   obtain ⟨x1,x2,x3⟩:=x
   have c0:=hcc 0 (by omega)
   have c1:=hcc 1 (by omega)
   have c2:=hcc 2 (by omega)
   simp only [winC,List.getElem?_cons_zero,List.getElem?_cons_succ,Nat.add_zero,Nat.mul_one] at c0 c1 c2
   clear hcc
   obtain ⟨hx3,hx4⟩:=hx2
   simp only at hx3 hx4
   by_cases h1:x1=k
   ·have d1:(x1==k)=true:=by simpa using h1
    by_cases h2:x2=i
    ·have d2:(x2==i)=true:=by simpa using h2
     have H12:=Lib.hid (And.intro h1 h2)
     clear h1 h2
     go_wp2_with fail
     refine⟨⟨j+1,by omega,by simp,?_,hb.alloc _⟩,by simp only [intOf];omega⟩
     rw [HS.out,if_pos H12.out]
    ·have d2:(x2==i)=false:=by simpa using h2
     have H12:=Lib.hid h2
     clear h1 h2
     go_wp2_with fail
     refine⟨⟨j+1,by omega,by simp,?_,hb.alloc _⟩,by simp only [intOf];omega⟩
     rw [HS.out,if_neg (fun e=>H12.out e.2),Int.add_zero]
   ·have d1:(x1==k)=false:=by simpa using h1
    have H12:=Lib.hid h1
    clear h1
    go_wp2_with fail
    refine⟨⟨j+1,by omega,by simp,?_,hb.alloc _⟩,by simp only [intOf];omega⟩
    rw [HS.out,if_neg (fun e=>H12.out e.1),Int.add_zero]
  ·go_wp2_with fail
   go_ret
   refine⟨ret_int ?_,hb⟩
   rw [List.take_of_length_le (by omega)]
def hasW (c:Cfg) (k i:Int):Bool:=hasT c.windows k i
set_option maxRecDepth 100000 in
theorem fhas_any (w:World) (fb:Nat) (c:Cfg) (v:Value) (k i:Int) (hc:w.cell? ⟨fb,3,none⟩=some v) (hrow:RowAt w 3 v (c.windows.map winC)) (hw:WinsFew c) :
 Calls Tryz.prog 113 #[.pointer (some ⟨fb,0,none⟩),.int .i64 k,.int .i64 i] w fun e w'=>e=.returned (.bool (hasW c k i))∧Later w w':=by
 have HT:=Lib.hid (fticks_any w fb c v k i hc hrow hw)
 have hh:hasW c k i=decide (0<c.tk k i):=rfl
 rw [hh]
 obtain ⟨t,ht⟩:∃ t,c.tk k i=t:=⟨_,rfl⟩
 rw [ht] at HT ⊢
 clear hc hrow hw hh ht
 go_enter Tryz.func113,Tryz.ntmps113
 go_wp2_with (first
  | (go_at_call 77;(with_reducible refine HT.out.mono ?_);rintro e w' ⟨rfl,hl1⟩)
  | fail)
 go_ret
 exact⟨rfl,hl1⟩
set_option maxRecDepth 100000 in
theorem up_any (w:World) (a b:Int) (ha:0≤a) (ha2:a≤1000000) (hb:0<b) (hb2:b≤1000000):Calls Tryz.prog 76 #[.int .i64 a,.int .i64 b] w fun e w'=>e=.returned (.int .i64 (upI a b))∧w'=w:=by
 have hu:upI a b=(a+b - 1)/b:=rfl
 rw [hu]
 clear hu
 go_enter Tryz.func76,Tryz.ntmps76
 go_wp2_with fail
 go_ret
 exact⟨rfl,rfl⟩
end Go.Proofs.YtbchkjfnakabkaaGreatDoor
namespace Go.Proofs.YtbchkjfnakabkaaGreatDoor
open Go.RowKit PX PC
def LevOK (c:Cfg):Prop:=1≤c.levels∧c.levels≤8
set_option maxRecDepth 100000 in
theorem parts1_any (w:World) (cb fb:Nat) (c:Cfg) (x:Prt) (hcb:w.cell? ⟨cb,0,none⟩=some (.pointer (some ⟨fb,0,none⟩))) (hc0:w.cell? ⟨fb,0,none⟩=some (.int .i64 c.levels)) (hL:LevOK c) :
 Calls Tryz.prog 108 #[partV x,.pointer (some ⟨cb,0,none⟩)] w fun e w'=>e=.returned (.bool (partOK c x))∧Later w w':=by
 obtain ⟨x1,x2⟩:=x
 have hcl:=World.block_lt_of_cell? w _ hcb
 have HLV:=Lib.hid (fun (w1:World) (h:Later w w1)=>flevel_any w1 fb c x1 (h.cell hc0) hL.1 hL.2)
 have HIN:=Lib.hid (fun (w1:World)=>cin_any w1 x2 1 16)
 have hp:partOK c ⟨x1,x2⟩=(inB x2 1 16&&c.lvl x1):=rfl
 rw [hp]
 clear hp hc0
 obtain ⟨q,hq⟩:∃ q,c.lvl x1=q:=⟨_,rfl⟩
 rw [hq] at HLV ⊢
 clear hq
 show Calls Tryz.prog 108 #[.agg #[.int .i64 x1,.int .i64 x2],.pointer (some ⟨cb,0,none⟩)] w _
 cases hi:inB x2 1 16
 ·rw [hi] at HIN
  clear hi
  go_enter Tryz.func108,Tryz.ntmps108
  go_wp2_with (first
   | (go_at_call 23;(with_reducible refine (HIN.out _).mono ?_);rintro e w' ⟨rfl,rfl⟩)
   | fail)
  go_ret
  exact⟨rfl,(Later.refl w).alloc _⟩
 ·rw [hi] at HIN
  clear hi
  go_enter Tryz.func108,Tryz.ntmps108
  go_wp2_with (first
   | (go_at_call 23;(with_reducible refine (HIN.out _).mono ?_);rintro e w' ⟨rfl,rfl⟩)
   | (go_at_call 109;(with_reducible refine (HLV.out _ ((Later.refl w).alloc _)).mono ?_);rintro e w' ⟨rfl,rfl⟩)
   | fail)
  go_ret
  exact⟨ret_bool (by simp),(Later.refl w).alloc _⟩
theorem box_form {w:World} {fb:Nat}:∃ (cb:Nat) (w1:World),w.heap.size=cb∧w.alloc (.cells #[.pointer (some ⟨fb,0,none⟩)] 58)=w1∧Later w w1∧w1.heap[cb]?=some (.cells #[.pointer (some ⟨fb,0,none⟩)] 58 (0,0))∧w1.cell? ⟨cb,0,none⟩=some (.pointer (some ⟨fb,0,none⟩)):=
 ⟨_,_,rfl,rfl,(Later.refl w).alloc _,alloc_block w _,cell_of_block (alloc_block w _) 0⟩
set_option maxRecDepth 100000 in
theorem fparts_any (w:World) (fb:Nat) (c:Cfg) (vF vP vW vO vV vR vK lv:Value) (h:FormIn w fb c vF vP vW vO vV vR vK lv) (hL:LevOK c) :
 Calls Tryz.prog 98 #[.pointer (some ⟨fb,0,none⟩)] w fun e w'=>e=.returned (.bool c.partsB)∧Later w w':=by
 obtain ⟨a,cap,rfl,hl1,hl2,hl3⟩:=row_val h.rP
 obtain ⟨cb,w1,hcb,hw1,hlw,hblk,hcell⟩:=box_form (w:=w) (fb:=fb)
 have h1:=h.later hlw
 have k2:=h1.cell 2
 have HALL:=Lib.hid (all_part w1 _ c.parts h1.rP 108 #[.pointer (some ⟨cb,0,none⟩)] (enters_of Tryz.func108 (by kernel_rfl) rfl) (partOK c) (by omega) (fun w2 h2 x hx=>parts1_any w2 cb fb c x (h2.cell hcell) (h2.cell (h1.cell 0)) hL))
 have HIN:=Lib.hid (fun (w1:World)=>cin_any w1 (c.parts.length:Int) 1 8)
 have hp:c.partsB=(inB c.parts.length 1 8&&c.parts.all (partOK c)):=rfl
 rw [hp]
 obtain ⟨n,hn⟩:∃ n,c.parts.length=n:=⟨_,rfl⟩
 obtain ⟨q,hq⟩:∃ q,c.parts.all (partOK c)=q:=⟨_,rfl⟩
 rw [hq] at HALL ⊢
 simp only [formA] at k2
 rw [hn] at HALL HIN k2 hl1 hl3 ⊢
 have k2':w1.cell? ⟨fb,2,none⟩=some (.slice a n cap):=k2
 have HW1:=Lib.hid hw1
 have HLW:=Lib.hid hlw
 clear h h1 k2 hp hn hq hblk hw1 hlw
 cases hi:inB n 1 8
 ·rw [hi] at HIN
  clear hi
  go_enter Tryz.func98,Tryz.ntmps98
  go_upto_region 1 with fail
  rw [HW1.out]
  go_wp2_with (first
   | (go_at_call 23;(with_reducible refine (HIN.out _).mono ?_);rintro e w' ⟨rfl,rfl⟩)
   | fail)
  go_ret
  exact⟨rfl,HLW.out⟩
 ·rw [hi] at HIN
  clear hi
  go_enter Tryz.func98,Tryz.ntmps98
  go_upto_region 1 with fail
  rw [HW1.out]
  go_wp2_with (first
   | (go_at_call 23;(with_reducible refine (HIN.out _).mono ?_);rintro e w' ⟨rfl,rfl⟩)
   | (go_at_call 107;(with_reducible refine HALL.out.mono ?_);rintro e w' ⟨rfl,hl1⟩)
   | fail)
  go_ret
  exact⟨ret_bool (by simp),HLW.out.trans hl1⟩
end Go.Proofs.YtbchkjfnakabkaaGreatDoor
