/- The walk of the form's need. -/
import Derived.Test.YtbchkjfnakabkaaGreatDoorNK
import Derived.Test.YtbchkjfnakabkaaGreatDoorNP
import Derived.Test.YtbchkjfnakabkaaGreatDoorYP
set_option linter.unusedSimpArgs false
set_option linter.unusedVariables false
namespace Go.Proofs.YtbchkjfnakabkaaGreatDoor
open Go.RowKit PX PC Go.Maps
theorem pairsN_pos {l:List Ru} (hl:∀ r∈l,lev 8 r.fr∧lev 8 r.tu) (hne:l≠[]):1≤pairsN l:=by
 cases l with
 | nil=>exact absurd rfl hne
 | cons r l=>
  obtain ⟨⟨a0,a1⟩,b0,b1⟩:=hl r (List.mem_cons_self ..)
  unfold pairsN
  refine List.length_pos_iff.2 (List.ne_nil_of_mem (a:=r.fr.toNat*8+r.tu.toNat) (List.mem_filter.2 ⟨by simp;omega,?_⟩))
  rw [List.any_cons,Bool.or_eq_true,Bool.and_eq_true,decide_eq_true_eq,decide_eq_true_eq]
  refine .inl ⟨?_,?_⟩<;>omega
theorem pairsN_le (l:List Ru):pairsN l≤64:=by
 unfold pairsN
 exact Nat.le_trans (List.length_filter_le ..) (by simp)
theorem upI_le {a b:Int} (ha:0≤a) (hb:0<b):upI a b≤a:=by
 unfold upI
 have h1:=Int.ediv_mul_le (a+b - 1) (show b≠0 by omega)
 obtain ⟨q,hq⟩:∃ q,(a+b - 1)/b=q:=⟨_,rfl⟩
 rw [hq] at h1 ⊢
 rcases (by omega:q≤a∨a+1≤q) with h | h
 ·exact h
 ·exfalso
  have h2:(a+1)*b≤q*b:=Int.mul_le_mul_of_nonneg_right h (by omega)
  have e:(a+1)*b=a*b+b:=by rw [Int.add_mul,Int.one_mul]
  have h3:a*1≤a*b:=Int.mul_le_mul_of_nonneg_left (by omega) ha
  omega
theorem mostOf_bd (W:List Win) (l:List Prt) (h:∀ q∈l,0<sumT W 2 q.level):0≤mostOf W l∧mostOf W l≤l.length:=by
 refine⟨maxOf_nonneg _,maxOf_le (by omega) fun x hx=>?_⟩
 obtain ⟨q,hq,rfl⟩:=List.mem_map.1 hx
 have h1:=upI_le (a:=(cntL l q.level:Int)) (by omega) (h q hq)
 have h2:=cntL_le l q.level
 omega
theorem cntF_zero:(fun _:Int=>(0:Int))=fun k=>(cntL [] k:Int):=by funext k;rfl
theorem cntF_succ (l:List Prt) (p:Prt):(fun k=>if k=p.level then (cntL l p.level:Int)+1 else (cntL l k:Int))=fun k=>(cntL (l++[p]) k:Int):=by
 funext k
 rw [cntL_snoc]
 by_cases h:k=p.level
 ·subst h;simp
 ·rw [if_neg h,if_neg (fun e=>h e.symm)];simp
structure NeedOK (c:Cfg):Prop where
 wins:WinsFew c
 parts:1≤c.parts.length∧c.parts.length≤8
 ticks:∀ q∈c.parts,0<sumT c.windows 2 q.level
 plev:∀ q∈c.parts,lev 8 q.level
 few:c.rules.length≤32
 levs:∀ r∈c.rules,lev 8 r.fr∧lev 8 r.tu
 guard:c.rules≠[]→0<c.tk 4 0
theorem needOK_of {c:Cfg} (h:c.fine=true):NeedOK c:=by
 obtain ⟨h1,h2,h3,h4,h5,h6,h7⟩:=fine_parts h
 have L:=latB_iff.1 h1
 have hlo:=L.lo
 have hhi:=L.hi
 have hw:WinsFew c:=by
  have h3':=h3
  unfold Cfg.windowsB at h3'
  rw [Bool.and_eq_true,Bool.and_eq_true] at h3'
  exact wins_few h3'.1.1 h3'.1.2
 refine⟨hw,?_,parts_ticks h3,(fun q hq=>by have:=parts_lev h2 q hq;unfold lev at this ⊢;omega),?_,?_,fun hne=>rules_guard h3 hne⟩
 ·unfold Cfg.partsB at h2
  rw [Bool.and_eq_true,inB_iff] at h2
  omega
 ·unfold Cfg.rulesB at h6
  rw [Bool.and_eq_true,decide_eq_true_eq] at h6
  exact h6.1
 ·intro r hr
  unfold Cfg.rulesB at h6
  rw [Bool.and_eq_true,List.all_eq_true] at h6
  have:=h6.2 r hr
  unfold ruOK at this
  simp only [Bool.and_eq_true] at this
  have a:=lvl_lev this.1.1.1
  have b:=lvl_lev this.1.1.2
  unfold lev at a b ⊢
  omega
theorem cfg_need (c:Cfg) (h:NeedOK c):c.need=2+(if c.rules=[] then mostOf c.windows c.parts else max (mostOf c.windows c.parts) (upI (4*(pairsN c.rules:Int)) (c.tk 4 0))):=by
 unfold Cfg.need Cfg.mostR
 rw [←mostOf_all]
 have:=(mostOf_bd c.windows c.parts h.ticks).1
 by_cases e:c.rules=[]
 ·rw [if_pos e,e];simp;omega
 ·rw [if_neg e,if_neg (by simpa using e)]
set_option maxRecDepth 100000 in
set_option maxHeartbeats 8000000 in
theorem need_any (w:World) (fb:Nat) (c:Cfg) (vF vP vW vO vV vR vK lv:Value) (h:FormIn w fb c vF vP vW vO vV vR vK lv) (hN:NeedOK c) :
 Calls Tryz.prog 24 #[.pointer (some ⟨fb,0,none⟩)] w fun e w'=>e=.returned (.int .i64 c.need)∧Later w w':=by
 have hmm:=@run_makeMap Tryz.prog
 obtain ⟨aP,cP,rfl,p1,p2,p3⟩:=row_val h.rP
 obtain ⟨aW,cW,rfl,q1,q2,q3⟩:=row_val h.rW
 obtain ⟨aR,cR,rfl,r1,r2,r3⟩:=row_val h.rR
 have HF:=Lib.hid h
 have HC:=Lib.hid (fun (w':World) (hl:Later w w')=>And.intro (show w'.cell? ⟨fb,2,none⟩=some (.slice aP c.parts.length cP) from (h.later hl).cell 2) (show w'.cell? ⟨fb,12,none⟩=some (.slice aR c.rules.length cR) from (h.later hl).cell 12))
 have HTK:=Lib.hid (fun (w':World) (hl:Later w w') (k i:Int)=>fticks_any w' fb c _ k i (show w'.cell? ⟨fb,3,none⟩=some (.slice aW c.windows.length cW) from (h.later hl).cell 3) (h.rW.later hl) hN.wins)
 have HNO:=Lib.hid hN
 have hp8:=hN.parts.2
 have hr32:=hN.few
 have hlP:=h.rP
 have hlR:=h.rR
 obtain ⟨n,hn⟩:∃ n,c.parts.length=n:=⟨_,rfl⟩
 obtain ⟨m,hm⟩:∃ n,c.rules.length=n:=⟨_,rfl⟩
 have HPR:=Lib.hid (fun (w':World) (hl:Later w w')=>hlP.later hl)
 have HRR:=Lib.hid (fun (w':World) (hl:Later w w')=>hlR.later hl)
 have HNN:=Lib.hid (And.intro hn hm)
 rw [hn] at hp8 p1 p3 HC HPR
 rw [hm] at hr32 r1 r3 HC HRR
 obtain ⟨mb,hmb⟩:∃ mb,w.heap.size=mb:=⟨_,rfl⟩
 obtain ⟨w1,hw1⟩:∃ w1,w.alloc (.map #[] 0)=w1:=⟨_,rfl⟩
 have hl1:Later w w1:=by rw [←hw1];exact (Later.refl _).alloc _
 have hi0:IMap w1 mb 0 (fun k=>(cntL (c.parts.take 0) k:Int)):=by rw [←hw1,←hmb,show (fun k=>(cntL (c.parts.take 0) k:Int))=fun _:Int=>(0:Int) from cntF_zero.symm];exact IMap.made w
 have HMB:=Lib.hid hmb
 have HMB2:=Lib.hid (show w.heap.size≤mb by omega)
 have HW1:=Lib.hid hw1
 obtain ⟨k0,k1⟩:=HC.out w1 hl1
 clear h hN hlP hlR hn hm hmb hw1
 go_enter Tryz.func24,Tryz.ntmps24
 go_upto_region 3 with fail
 rw [HW1.out,HMB.out]
 go_wp2_with fail
 go_loopw [3,17] (fun vm vi wr=>∃ j:Nat,j≤n∧vi=.int .i64 (j:Int)∧vm=.int .i64 (mostOf c.windows (c.parts.take j))∧IMap wr mb j (fun k=>(cntL (c.parts.take j) k:Int))∧Later w wr) (fun _ vi _=>n - (intOf vi).toNat)
 case atStart=>exact⟨0,by omega,rfl,rfl,hi0,hl1⟩
 case round=>
  obtain ⟨j,hj,rfl,rfl,him,hb⟩:=hrel
  clear hi0 k0 k1
  by_cases hlt:j<n
  ·have hlt2:j<c.parts.length:=by rw [HNN.out.1];exact hlt
   obtain ⟨b,o,rfl,hb',hcc⟩:=row_at (HPR.out wr hb) hlt2
   have hsn:=take_succ_snoc hlt2
   have hmo:=mostOf_snoc c.windows (c.parts.take j) c.parts[j] (fun q hq=>HNO.out.ticks q (by rw [←hsn] at hq;exact List.mem_of_mem_take hq))
   have hcf:=cntF_succ (c.parts.take j) c.parts[j]
   have htk:=HNO.out.ticks _ (List.getElem_mem hlt2)
   have hbd:=mostOf_bd c.windows (c.parts.take j) (fun q hq=>HNO.out.ticks q (List.mem_of_mem_take hq))
   have htb:=sumT_bd c.windows 2 c.parts[j].level HNO.out.wins.2
   have hcn:=cntL_le (c.parts.take j) c.parts[j].level
   have hcn2:=cntL_snoc (c.parts.take j) c.parts[j] c.parts[j].level
   rw [if_pos rfl] at hcn2
   rw [List.length_take] at hbd hcn
   rw [←hsn] at hmo hcf hcn2
   rw [hcn2] at hmo
   obtain ⟨x,hx⟩:∃ x,c.parts[j]=x:=⟨_,rfl⟩
   rw [hx] at hcc hmo hcf htk htb hcn hcn2
   have HXE:=Lib.hid hx
   clear hx hsn
   obtain ⟨x1,x2⟩:=x
   have c0:=hcc 0 (by omega)
   have c1:=hcc 1 (by omega)
   simp only [partC,List.getElem?_cons_zero,List.getElem?_cons_succ,Nat.add_zero] at c0 c1
   clear hcc
   have hw64:=HNO.out.wins.1
   obtain ⟨mo,hmo1⟩:∃ mo,mostOf c.windows (c.parts.take j)=mo:=⟨_,rfl⟩
   obtain ⟨mo2,hmo2⟩:∃ mo,mostOf c.windows (c.parts.take (j+1))=mo:=⟨_,rfl⟩
   obtain ⟨cn,hcn1⟩:∃ cn,cntL (c.parts.take j) x1=cn:=⟨_,rfl⟩
   obtain ⟨tk,htk1⟩:∃ tk,sumT c.windows 2 x1=tk:=⟨_,rfl⟩
   simp only at hcf hmo htk htb hcn hcn2
   rw [hmo1,hmo2,hcn1,htk1] at hmo
   rw [htk1] at htk htb
   rw [hmo1] at hbd ⊢
   rw [hcn1] at hcn hcf hcn2
   have HCN1:=Lib.hid (show ((cntL (c.parts.take j) x1:Nat):Int)=(cn:Int) by rw [hcn1])
   have hcw:IntKind.i64.wrap ((cn:Int)+1)=(cn:Int)+1:=by rw [IntKind.wrap_i64];omega
   have HMO:=Lib.hid (And.intro hmo1 (And.intro hmo2 (And.intro hmo hcf)))
   have hpl:=HNO.out.plev _ (List.getElem_mem hlt2)
   obtain ⟨pb,hpb⟩:∃ pb,wr.heap.size=pb:=⟨_,rfl⟩
   obtain ⟨w2,hw2⟩:∃ w2,wr.alloc (.cells #[.int .i64 x1,.int .i64 x2] 49)=w2:=⟨_,rfl⟩
   have hl2:Later wr w2:=by rw [←hw2];exact (Later.refl _).alloc _
   have hpk:w2.heap[pb]?=some (.cells #[.int .i64 x1,.int .i64 x2] 49 (0,0)):=by rw [←hw2,←hpb];exact alloc_block wr _
   have hmlt:=him.lt
   have hmp:¬ (some pb=some mb):=fun e=>by have:=Option.some.inj e;omega
   have hpb2:pb<w2.heap.size:=lt_of_block hpk
   have him2:=him.later hl2
   have HIM2:=Lib.hid him2
   have HPK:=Lib.hid hpk
   have hw64:=HNO.out.wins.1
   have HUP:=Lib.hid (fun w'=>up_any w' ((cn:Int)+1) tk (by omega) (by omega) htk (by omega))
   have HT2:=Lib.hid (fun (w':World) (hl:Later w w')=>HTK.out w' hl 2 x1)
   rw [show c.tk 2 x1=tk from htk1] at HT2
   have HW2:=Lib.hid hw2
   have HPB:=Lib.hid hpb
   have hx8:-9223372036854775808≤x1∧x1≤9223372036854775807:=by unfold lev at hpl;rw [HXE.out] at hpl;simp only at hpl;omega
   have HXX:=Lib.hid hx8
   have k0:=cell_of_block hpk 0
   have hcn8:cn≤8:=by omega
   have hwn:=Later.trans hb hl2
   clear him him2 hmo hmo1 hmo2 hcf hcn1 htk1 hw2 hpb hpk htb hbd hcn hcn2 hmlt
   go_upto_region 6 with fail
   rw [HW2.out,HPB.out]
   go_upto_region 7 with (first
    | (at_lookup;refine wpList_lookup_imap rfl _ _ 121 rfl Tryz.underlying121 mb j _ rfl HIM2.out x1 rfl hx8 ?_;rw [HCN1.out])
    | (at_mapUpdate;refine wpList_update_imap rfl _ _ _ 121 rfl Tryz.underlying121 mb j _ rfl HIM2.out (by unfold maxLen;omega) x1 ((cn:Int)+1) rfl rfl hx8 (by omega) ?_;intro w3 him3 hg3)
    | fail)
   have him3':IMap w3 mb (j+1) (fun k=>(cntL (c.parts.take (j+1)) k:Int)):=(congrArg (IMap w3 mb (j+1)) HMO.out.2.2.2).mp him3
   have hw3:Later w w3:=Later.grown hwn hg3 (fun k e=>by cases e;exact HMB2.out)
   have hpk3:w3.heap[pb]?=some (.cells #[.int .i64 x1,.int .i64 x2] 49 (0,0)):=(hg3.block pb hpb2 hmp).trans HPK.out
   have hcnt:((cntL (c.parts.take (j+1)) x1:Nat):Int)=(cn:Int)+1:=by
    have:=congrFun HMO.out.2.2.2 x1
    simp only [if_true] at this
    exact this.symm
   have HS:=Lib.hid (fun (w':World) (hl:Later w3 w')=>And.intro (cell_of_block (hl.block hpk3) 0) (show (Instr.lookup 121 (.map (some mb)) (.int .i64 x1) false).run Tryz.prog w'=.ok (.int .i64 ((cn:Int)+1)) w' from (((him3'.later hl).lookup Tryz.underlying121 HXX.out).trans (by rw [hcnt]))))
   have HIM3:=Lib.hid him3'
   clear him3 him3' hg3 hpk3 hcnt
   go_region_held3 (fun w'=>w'.cell? ⟨pb,0,none⟩=some (.int .i64 x1)∧(Instr.lookup 121 (.map (some mb)) (.int .i64 x1) false).run Tryz.prog w'=.ok (.int .i64 ((cn:Int)+1)) w')
    (exact (fun hl=>(HS.out _ hl)) (by repeat (first | assumption | exact Later.refl _ | refine Later.drew ?_ | refine Later.drewN ?_ _ | refine Later.alloc ?_ _ | refine Later.trans ?_ (by assumption))))
    (first
     | (go_at_call 77;(with_reducible refine (HT2.out _ (by repeat (first | assumption | exact Later.refl _ | refine Later.drew ?_ | refine Later.drewN ?_ _ | refine Later.alloc ?_ _ | refine Later.trans ?_ (by assumption)))).mono ?_);rintro e w4 ⟨rfl,hl4⟩)
     | (go_at_call 76;(with_reducible refine (HUP.out _).mono ?_);rintro e w5 ⟨rfl,hw5⟩;obtain rfl:=hw5.symm)
     | fail)
   all_goals (
    go_wp2_with fail
    refine⟨⟨j+1,by omega,by simp,?_,HIM3.out.later (by repeat (first | assumption | exact Later.refl _ | refine Later.drew ?_ | refine Later.drewN ?_ _ | refine Later.alloc ?_ _ | refine Later.trans ?_ (by assumption))),(by repeat (first | assumption | exact Later.refl _ | refine Later.drew ?_ | refine Later.drewN ?_ _ | refine Later.alloc ?_ _ | refine Later.trans ?_ (by assumption)))⟩,by simp only [intOf];omega⟩
    rw [HMO.out.2.1,HMO.out.2.2.1,Int.natCast_add]
    rfl)
  ·obtain rfl:j=n:=by omega
   have hall:c.parts.take j=c.parts:=by rw [←HNN.out.1,List.take_length]
   rw [hall]
   have hbd:=mostOf_bd c.windows c.parts HNO.out.ticks
   rw [HNN.out.1] at hbd
   have hnd:=cfg_need c HNO.out
   obtain ⟨mo,hmo⟩:∃ mo,mostOf c.windows c.parts=mo:=⟨_,rfl⟩
   rw [hmo] at hbd hnd ⊢
   have HND:=Lib.hid hnd
   obtain ⟨mb2,hmb2⟩:∃ mb,wr.heap.size=mb:=⟨_,rfl⟩
   obtain ⟨w2,hw2⟩:∃ w2,wr.alloc (.map #[] 0)=w2:=⟨_,rfl⟩
   have hl2:Later wr w2:=by rw [←hw2];exact (Later.refl _).alloc _
   have hi0:PMap w2 mb2 0 (c.rules.take 0):=by rw [←hw2,←hmb2];exact PMap.made wr
   have HM2:=Lib.hid hmb2
   have HW2:=Lib.hid hw2
   have hms:w.heap.size≤mb2:=by have:=hb.out.size;omega
   have hbw:Later w w2:=hb.trans hl2
   obtain ⟨k0,k1⟩:=HC.out w2 hbw
   clear him hall hmo hnd hmb2 hw2
   go_upto_region 10 with fail
   rw [HW2.out,HM2.out]
   go_wp2_with fail
   go_loopw [45] (fun vi wq=>∃ i:Nat,i≤m∧vi=.int .i64 (i:Int)∧PMap wq mb2 i (c.rules.take i)∧Later w wq) (fun vi _=>m - (intOf vi).toNat)
   case atStart=>exact⟨0,by omega,rfl,hi0,hbw⟩
   case round=>
    obtain ⟨i,hi,rfl,hpm,hbq⟩:=hrel
    clear hi0 k0 k1
    by_cases hlt2:i<m
    ·have hlt3:i<c.rules.length:=by rw [HNN.out.2];exact hlt2
     obtain ⟨b,o,rfl,hb',hcc⟩:=row_at (HRR.out _ hbq) hlt3
     have hsn:=take_succ_snoc hlt3
     have hlv:=HNO.out.levs _ (List.getElem_mem hlt3)
     obtain ⟨x,hx⟩:∃ x,c.rules[i]=x:=⟨_,rfl⟩
     rw [hx] at hcc hsn hlv
     have HSN:=Lib.hid hsn
     clear hx hsn
     obtain ⟨x1,x2,x3,x4,x5⟩:=x
     have c0:=hcc 0 (by omega)
     have c1:=hcc 1 (by omega)
     have c2:=hcc 2 (by omega)
     have c3:=hcc 3 (by omega)
     have c4:=hcc 4 (by omega)
     simp only [ruC,List.getElem?_cons_zero,List.getElem?_cons_succ,Nat.add_zero] at c0 c1 c2 c3 c4
     clear hcc
     unfold lev at hlv
     simp only at hlv
     have hx1:-9223372036854775808≤x1∧x1≤9223372036854775807:=by omega
     have hx2:-9223372036854775808≤x2∧x2≤9223372036854775807:=by omega
     have HPM:=Lib.hid (hpm.later ((Later.refl _).alloc (.cells #[.int .i64 x1,.int .i64 x2,.int .i64 x3,.string x4,.string x5] 53)))
     clear hpm hlv
     go_wp2_with (first
      | (at_mapUpdate;refine wpList_update_pmap rfl _ _ _ 122 rfl Tryz.underlying122 mb2 i _ rfl HPM.out (by unfold maxLen;omega) ⟨x1,x2,x3,x4,x5⟩ rfl rfl hx1 hx2 ?_;intro w7 hpm7 hg7)
      | fail)
     refine⟨⟨i+1,by omega,by simp,?_,Later.grown (hbq.alloc _) hg7 (fun k e=>by cases e;exact hms)⟩,by simp only [intOf];omega⟩
     rw [HSN.out];exact hpm7
    ·obtain rfl:i=m:=by omega
     have hpm2:=hpm
     rw [show c.rules.take i=c.rules by rw [←HNN.out.2,List.take_length]] at hpm2
     have HPM:=Lib.hid hpm2
     have HTG:=Lib.hid (fun (w':World) (hl:Later w w')=>HTK.out w' hl 4 0)
     have hp64:=pairsN_le c.rules
     obtain ⟨pn,hpn⟩:∃ pn,pairsN c.rules=pn:=⟨_,rfl⟩
     have HPN:=Lib.hid hpn
     rw [hpn] at hp64
     by_cases hr:c.rules=[]
     ·have hp0:pn=0:=by rw [←hpn,hr];rfl
      have hnn:c.need=2+mo:=by rw [HND.out,if_pos hr]
      subst hp0
      have hsw:IntKind.i64.wrap (2+mo)=2+mo:=by rw [IntKind.wrap_i64];omega
      clear hpn hr hpm hpm2
      go_wp2_with (first
       | (at_len;refine wpList_len_pmap rfl _ 122 rfl Tryz.underlying122 mb2 i c.rules rfl HPM.out HNO.out.levs ?_;rw [HPN.out])
       | fail)
      go_ret
      exact⟨ret_int hnn.symm,hbq⟩
     ·have hp1:1≤pn:=by rw [←hpn];exact pairsN_pos HNO.out.levs hr
      have hg:=HNO.out.guard hr
      have htb:=sumT_bd c.windows 4 0 HNO.out.wins.2
      have hw64:=HNO.out.wins.1
      have hnn:c.need=2+max mo (upI (4*(pn:Int)) (c.tk 4 0)):=by rw [HND.out,if_neg hr,hpn]
      obtain ⟨tk,htk⟩:∃ tk,c.tk 4 0=tk:=⟨_,rfl⟩
      rw [show sumT c.windows 4 0=tk from htk] at htb
      rw [htk] at hg hnn HTG
      have HUP:=Lib.hid (fun w'=>up_any w' (4*(pn:Int)) tk (by omega) (by omega) hg (by omega))
      have hul:=upI_le (a:=4*(pn:Int)) (by omega) hg
      have hun:=upI_nonneg (a:=4*(pn:Int)) (by omega) hg
      obtain ⟨u,hu⟩:∃ u,upI (4*(pn:Int)) tk=u:=⟨_,rfl⟩
      rw [hu] at HUP hul hun hnn
      have hdd:decide ((0:Int)<(pn:Int))=true:=decide_eq_true (by omega)
      have hmw:IntKind.i64.wrap (4*(pn:Int))=4*(pn:Int):=by rw [IntKind.wrap_i64];omega
      obtain ⟨mx,hmx⟩:∃ mx,max mo u=mx:=⟨_,rfl⟩
      have hmx2:0≤mx∧mx≤1000:=by omega
      rw [hmx] at hnn
      have hsw:IntKind.i64.wrap (2+mx)=2+mx:=by rw [IntKind.wrap_i64];omega
      clear hpn hr hpm hpm2 hu htk hp64 htb hul hun hg
      go_wp2_with (first
       | (at_len;refine wpList_len_pmap rfl _ 122 rfl Tryz.underlying122 mb2 i c.rules rfl HPM.out HNO.out.levs ?_;rw [HPN.out])
       | (go_at_call 77;(with_reducible refine (HTG.out _ (by repeat (first | assumption | exact Later.refl _ | refine Later.drew ?_ | refine Later.drewN ?_ _ | refine Later.alloc ?_ _ | refine Later.trans ?_ (by assumption)))).mono ?_);rintro e w4 ⟨rfl,hl4⟩)
       | (go_at_call 76;(with_reducible refine (HUP.out _).mono ?_);rintro e w5 ⟨rfl,hw5⟩;obtain rfl:=hw5.symm)
       | fail)
      go_ret
      exact⟨ret_int hnn.symm,hbq.trans hl4⟩
end Go.Proofs.YtbchkjfnakabkaaGreatDoor
