/- The walk of config.Print. (Printed by gen_y7.py.) -/
import Derived.Test.YtbchkjfnakabkaaGreatDoorY6
set_option linter.unusedSimpArgs false
set_option linter.unusedVariables false
namespace Go.Proofs.YtbchkjfnakabkaaGreatDoor
open Go.RowKit PX PC
structure CfgI (c:Cfg):Prop where
 levels:I64 c.levels
 flows:∀ x∈c.flows,flowI x
 parts:∀ x∈c.parts,partI x
 windows:∀ x∈c.windows,winI x
 ports:∀ x∈c.ports,porI x
 volumes:∀ x∈c.volumes,volI x
 audit:volI c.audit
 boot:I64 c.boot
 sectors:I64 c.sectors
 rules:∀ x∈c.rules,ruI x
 keys:∀ x∈c.keys,keyI x
 login:c.login.size≤9223372036854775807
 recovery:I64 c.recovery
 bound:I64 c.bound
def magicS:ByteArray:=⟨#[67,83,84,49]⟩
def printS (c:Cfg):ByteArray:=if c.laid then bytesOf c.bytes else ⟨#[]⟩
def printE (c:Cfg):Int:=if c.laid then 0 else 111
theorem lb_size {α:Type} (p:Lays α) (m k:Nat) (hm:∀ x,(p.b x).length≤m) (l:List α) (hl:l.length*k≤140737488355328) (hk:1≤k) (S:ByteArray) (B:Nat) (hS:S.size≤B):(S++bytesOf (listB p l)).size≤B+(1+140737488355328*m):=by
 have h1:=listB_len p m hm l
 have h2:l.length≤l.length*k:=Nat.le_mul_of_pos_right _ hk
 have h3:l.length*m≤140737488355328*m:=Nat.mul_le_mul_right _ (by omega)
 rw [ByteArray.size_append,show (bytesOf (listB p l)).size=(listB p l).length by show (listB p l).toArray.size=_;simp]
 omega
def S0 (c:Cfg):ByteArray:=magicS
def L0 (c:Cfg):Bool:=false
def S1 (c:Cfg):ByteArray:=S0 c++numsS 1 [c.levels]
def L1 (c:Cfg):Bool:=L0 c || !allFit 1 [c.levels]
def S2 (c:Cfg):ByteArray:=S1 c++bytesOf (listB flowP c.flows)
def L2 (c:Cfg):Bool:=L1 c || !listOK flowP c.flows
def S3 (c:Cfg):ByteArray:=S2 c++bytesOf (listB partP c.parts)
def L3 (c:Cfg):Bool:=L2 c || !listOK partP c.parts
def S4 (c:Cfg):ByteArray:=S3 c++bytesOf (listB winP c.windows)
def L4 (c:Cfg):Bool:=L3 c || !listOK winP c.windows
def S5 (c:Cfg):ByteArray:=S4 c++bytesOf (listB porP c.ports)
def L5 (c:Cfg):Bool:=L4 c || !listOK porP c.ports
def S6 (c:Cfg):ByteArray:=S5 c++bytesOf (listB volP c.volumes)
def L6 (c:Cfg):Bool:=L5 c || !listOK volP c.volumes
def S7 (c:Cfg):ByteArray:=S6 c++numsS 2 [c.audit.first,c.audit.count,c.audit.journal,c.boot,c.sectors]
def L7 (c:Cfg):Bool:=L6 c || !allFit 2 [c.audit.first,c.audit.count,c.audit.journal,c.boot,c.sectors]
def S8 (c:Cfg):ByteArray:=S7 c++bytesOf (listB ruP c.rules)
def L8 (c:Cfg):Bool:=L7 c || !listOK ruP c.rules
def S9 (c:Cfg):ByteArray:=S8 c++bytesOf (listB keyP c.keys)
def L9 (c:Cfg):Bool:=L8 c || !listOK keyP c.keys
def S10 (c:Cfg):ByteArray:=S9 c++textS c.login
def L10 (c:Cfg):Bool:=L9 c || !textOK c.login
def S11 (c:Cfg):ByteArray:=S10 c++numsS 2 [c.recovery,c.bound]
def L11 (c:Cfg):Bool:=L10 c || !allFit 2 [c.recovery,c.bound]
theorem S_all (c:Cfg):S11 c=bytesOf c.bytes:=by
 refine baExt ?_
 simp only [S11,S10,S9,S8,S7,S6,S5,S4,S3,S2,S1,S0,baApp,List.append_assoc]
 rfl
theorem L_all (c:Cfg):(L11 c || decide (c.audit.level≠0))=!c.laid:=by
 simp only [L11,L10,L9,L8,L7,L6,L5,L4,L3,L2,L1,L0,Cfg.laid,Bool.not_and,Bool.or_assoc,Bool.false_or,decide_not]
structure FewC (c:Cfg):Prop where
 flows:c.flows.length*2≤140737488355328
 parts:c.parts.length*2≤140737488355328
 windows:c.windows.length*3≤140737488355328
 ports:c.ports.length*5≤140737488355328
 volumes:c.volumes.length*4≤140737488355328
 rules:c.rules.length*5≤140737488355328
 keys:c.keys.length*1≤140737488355328
theorem CfgIn.few {w:World} {cs:List Value} {c:Cfg} (h:CfgIn w cs c):FewC c:=by
 obtain ⟨vF,vP,vW,vO,vV,vR,vK,h0,h1,h2,h3,h4,h5,h6,h7⟩:=h.rows
 obtain ⟨_,_,_,_,_,g1⟩:=row_val h1
 obtain ⟨_,_,_,_,_,g2⟩:=row_val h2
 obtain ⟨_,_,_,_,_,g3⟩:=row_val h3
 obtain ⟨_,_,_,_,_,g4⟩:=row_val h4
 obtain ⟨_,_,_,_,_,g5⟩:=row_val h5
 obtain ⟨_,_,_,_,_,g6⟩:=row_val h6
 obtain ⟨_,_,_,_,_,g7⟩:=row_val h7
 exact⟨g1,g2,g3,g4,g5,g6,g7⟩
theorem s0 (c:Cfg):(S0 c).size≤4:=Nat.le_refl 4
theorem s1 (c:Cfg) (h:FewC c):(S1 c).size≤6:=by
 have:=s0 c
 unfold S1;rw [ByteArray.size_append,numsS_size];simp only [List.length_cons,List.length_nil];omega
theorem s2 (c:Cfg) (h:FewC c):(S2 c).size≤562949953421319:=lb_size flowP 4 2 flow_len c.flows h.flows (by omega) _ _ (s1 c h)
theorem s3 (c:Cfg) (h:FewC c):(S3 c).size≤1125899906842632:=lb_size partP 4 2 part_len c.parts h.parts (by omega) _ _ (s2 c h)
theorem s4 (c:Cfg) (h:FewC c):(S4 c).size≤1970324836974601:=lb_size winP 6 3 win_len c.windows h.windows (by omega) _ _ (s3 c h)
theorem s5 (c:Cfg) (h:FewC c):(S5 c).size≤3377699720527882:=lb_size porP 10 5 por_len c.ports h.ports (by omega) _ _ (s4 c h)
theorem s6 (c:Cfg) (h:FewC c):(S6 c).size≤4785074604081163:=lb_size volP 10 4 vol_len c.volumes h.volumes (by omega) _ _ (s5 c h)
theorem s7 (c:Cfg) (h:FewC c):(S7 c).size≤4785074604081173:=by
 have:=s6 c h
 unfold S7;rw [ByteArray.size_append,numsS_size];simp only [List.length_cons,List.length_nil];omega
theorem s8 (c:Cfg) (h:FewC c):(S8 c).size≤296111675499610134:=lb_size ruP 2070 5 ru_len c.rules h.rules (by omega) _ _ (s7 c h)
theorem s9 (c:Cfg) (h:FewC c):(S9 c).size≤441071288505597975:=lb_size keyP 1030 1 key_len c.keys h.keys (by omega) _ _ (s8 c h)
theorem s10 (c:Cfg) (h:FewC c):(S10 c).size≤441071288505599001:=by
 have:=s9 c h
 have:=textS_size c.login
 unfold S10;rw [ByteArray.size_append];omega
structure BoxC (w1:World) (p cb pb:Nat) (c:Cfg) (vF vP vW vO vV vR vK:Value):Prop where
 box:w1.cell? ⟨p,0,none⟩=some (.int .i64 c.levels)∧w1.cell? ⟨p,1,none⟩=some (vF)∧w1.cell? ⟨p,2,none⟩=some (vP)∧w1.cell? ⟨p,3,none⟩=some (vW)∧w1.cell? ⟨p,4,none⟩=some (vO)∧w1.cell? ⟨p,5,none⟩=some (vV)∧w1.cell? ⟨p,6,none⟩=some (.int .i64 c.audit.level)∧w1.cell? ⟨p,7,none⟩=some (.int .i64 c.audit.first)∧w1.cell? ⟨p,8,none⟩=some (.int .i64 c.audit.count)∧w1.cell? ⟨p,9,none⟩=some (.int .i64 c.audit.journal)∧w1.cell? ⟨p,10,none⟩=some (.int .i64 c.boot)∧w1.cell? ⟨p,11,none⟩=some (.int .i64 c.sectors)∧w1.cell? ⟨p,12,none⟩=some (vR)∧w1.cell? ⟨p,13,none⟩=some (vK)∧w1.cell? ⟨p,14,none⟩=some (.string c.login)∧w1.cell? ⟨p,15,none⟩=some (.int .i64 c.recovery)∧w1.cell? ⟨p,16,none⟩=some (.int .i64 c.bound)
 cbx:w1.cell? ⟨cb,0,none⟩=some (.pointer (some ⟨pb,0,none⟩))
set_option maxRecDepth 100000 in
set_option maxHeartbeats 8000000 in
theorem print_core (w:World) (C:Array Value) (c:Cfg) (vF vP vW vO vV vR vK:Value) (hC:C=#[.int .i64 c.levels,vF,vP,vW,vO,vV,.int .i64 c.audit.level,.int .i64 c.audit.first,.int .i64 c.audit.count,.int .i64 c.audit.journal,.int .i64 c.boot,.int .i64 c.sectors,vR,vK,.string c.login,.int .i64 c.recovery,.int .i64 c.bound]) (hr1:RowAt w 2 vF (c.flows.map flowC)) (hr2:RowAt w 2 vP (c.parts.map partC)) (hr3:RowAt w 3 vW (c.windows.map winC)) (hr4:RowAt w 5 vO (c.ports.map porC)) (hr5:RowAt w 4 vV (c.volumes.map volC)) (hr6:RowAt w 5 vR (c.rules.map ruC)) (hr7:RowAt w 1 vK (c.keys.map keyC)) (hI:CfgI c) (hF:FewC c) :
 Calls Tryz.prog 15 #[.agg C] w fun e w'=>e=.returned (.tuple #[.string (printS c),.int .i64 (printE c)])∧Later w w':=by
 obtain ⟨w3,hw3⟩:∃ w3,((w.alloc (.cells C 32)).alloc (.cells #[.string magicS,.bool false] 69)).alloc (.cells #[.pointer (some ⟨w.heap.size+1,0,none⟩)] 67)=w3:=⟨_,rfl⟩
 obtain ⟨p,hp⟩:∃ p,w.heap.size=p:=⟨_,rfl⟩
 have hl3:Later w w3:=by rw [←hw3];exact (((Later.refl w).alloc _).alloc _).alloc _
 have hbp:w3.heap[p]?=some (.cells C 32 (0,0)):=by rw [←hw3,←hp];exact alloc_old (alloc_old (alloc_block w _) _) _
 have hbb:PrAt w3 (p+1) magicS false:=by unfold PrAt;rw [←hw3,←hp];exact alloc_old (alloc_at (by simp)) _
 have hbc:w3.heap[p+2]?=some (.cells #[.pointer (some ⟨p+1,0,none⟩)] 67 (0,0)):=by rw [←hw3,←hp];exact alloc_at (by simp)
 rw [hp] at hw3
 have HBOX:=Lib.hid (fun (w1:World) (h1:OnlyP (p+1) w3 w1)=>show BoxC w1 p (p+2) (p+1) c vF vP vW vO vV vR vK from by
  have hb1:=(h1.block p (lt_of_block hbp) (by show ¬p=p+1;omega)).trans hbp
  have hb2:=(h1.block (p+2) (lt_of_block hbc) (by show ¬p+2=p+1;omega)).trans hbc
  subst hC
  exact⟨⟨cell_of_block hb1 0,cell_of_block hb1 1,cell_of_block hb1 2,cell_of_block hb1 3,cell_of_block hb1 4,cell_of_block hb1 5,cell_of_block hb1 6,cell_of_block hb1 7,cell_of_block hb1 8,cell_of_block hb1 9,cell_of_block hb1 10,cell_of_block hb1 11,cell_of_block hb1 12,cell_of_block hb1 13,cell_of_block hb1 14,cell_of_block hb1 15,cell_of_block hb1 16⟩,cell_of_block hb2 0⟩)
 have HCB:=Lib.hid (fun (w1:World) (h1:OnlyP (p+1) w3 w1)=>(HBOX.out w1 h1).cbx)
 have HLT:=Lib.hid (fun (w1:World) (h1:OnlyP (p+1) w3 w1)=>show Later w w1 from Below.trans hl3 (Only.below h1 hl3.size (fun k hk=>by rw [show k=p+1 from hk];omega)))
 have HW3:=Lib.hid hw3
 have HP:=Lib.hid hp
 have H0:=Lib.hid (fun (w1:World) (h2:PrAt w1 (p+1) (S0 c) (L0 c)) (g:Nat) (hg:w1.heap[g]?=some (.cells #[.int .i64 c.levels] 3 (0,0))) (hge:p+2≤g)=>(show Calls Tryz.prog 30 #[.pointer (some ⟨p+1,0,none⟩),.int .i64 1,.slice (some ⟨g,0,none⟩) 1 1] w1 (PrPost (p+1) (S1 c) (L1 c) w1) from cnum_post w1 (p+1) (S0 c) (L0 c) h2 1 1 (.inl ⟨rfl,rfl⟩) [c.levels] g 1 _ _ hg rfl (by omega) (by intro n hn;rw [List.mem_singleton.1 hn];exact hI.levels) 1 rfl (by have:=s0 c;simp only [List.length_cons,List.length_nil];omega)))
 have H1:=Lib.hid (fun (w1:World) (h1:OnlyP (p+1) w3 w1) (h2:PrAt w1 (p+1) (S1 c) (L1 c))=>(show Calls Tryz.prog 31 #[.pointer (some ⟨p+1,0,none⟩),vF,.func (.func 32) #[] #[.pointer (some ⟨p+2,0,none⟩)]] w1 (PrPost (p+1) (S2 c) (L2 c) w1) from lists_flow w w1 (HLT.out w1 h1) (p+1) (p+2) (S1 c) (L1 c) h2 (by omega) (HCB.out w1 h1) (by omega) vF c.flows hr1 hI.flows (by have:=s1 c hF;omega)))
 have H2:=Lib.hid (fun (w1:World) (h1:OnlyP (p+1) w3 w1) (h2:PrAt w1 (p+1) (S2 c) (L2 c))=>(show Calls Tryz.prog 33 #[.pointer (some ⟨p+1,0,none⟩),vP,.func (.func 34) #[] #[.pointer (some ⟨p+2,0,none⟩)]] w1 (PrPost (p+1) (S3 c) (L3 c) w1) from lists_part w w1 (HLT.out w1 h1) (p+1) (p+2) (S2 c) (L2 c) h2 (by omega) (HCB.out w1 h1) (by omega) vP c.parts hr2 hI.parts (by have:=s2 c hF;omega)))
 have H3:=Lib.hid (fun (w1:World) (h1:OnlyP (p+1) w3 w1) (h2:PrAt w1 (p+1) (S3 c) (L3 c))=>(show Calls Tryz.prog 35 #[.pointer (some ⟨p+1,0,none⟩),vW,.func (.func 36) #[] #[.pointer (some ⟨p+2,0,none⟩)]] w1 (PrPost (p+1) (S4 c) (L4 c) w1) from lists_win w w1 (HLT.out w1 h1) (p+1) (p+2) (S3 c) (L3 c) h2 (by omega) (HCB.out w1 h1) (by omega) vW c.windows hr3 hI.windows (by have:=s3 c hF;omega)))
 have H4:=Lib.hid (fun (w1:World) (h1:OnlyP (p+1) w3 w1) (h2:PrAt w1 (p+1) (S4 c) (L4 c))=>(show Calls Tryz.prog 37 #[.pointer (some ⟨p+1,0,none⟩),vO,.func (.func 38) #[] #[.pointer (some ⟨p+2,0,none⟩)]] w1 (PrPost (p+1) (S5 c) (L5 c) w1) from lists_por w w1 (HLT.out w1 h1) (p+1) (p+2) (S4 c) (L4 c) h2 (by omega) (HCB.out w1 h1) (by omega) vO c.ports hr4 hI.ports (by have:=s4 c hF;omega)))
 have H5:=Lib.hid (fun (w1:World) (h1:OnlyP (p+1) w3 w1) (h2:PrAt w1 (p+1) (S5 c) (L5 c))=>(show Calls Tryz.prog 39 #[.pointer (some ⟨p+1,0,none⟩),vV,.func (.func 40) #[] #[.pointer (some ⟨p+2,0,none⟩)]] w1 (PrPost (p+1) (S6 c) (L6 c) w1) from lists_vol w w1 (HLT.out w1 h1) (p+1) (p+2) (S5 c) (L5 c) h2 (by omega) (HCB.out w1 h1) (by omega) vV c.volumes hr5 hI.volumes (by have:=s5 c hF;omega)))
 have H6:=Lib.hid (fun (w1:World) (h2:PrAt w1 (p+1) (S6 c) (L6 c)) (g:Nat) (hg:w1.heap[g]?=some (.cells #[.int .i64 c.audit.first,.int .i64 c.audit.count,.int .i64 c.audit.journal,.int .i64 c.boot,.int .i64 c.sectors] 3 (0,0))) (hge:p+2≤g)=>(show Calls Tryz.prog 30 #[.pointer (some ⟨p+1,0,none⟩),.int .i64 2,.slice (some ⟨g,0,none⟩) 5 5] w1 (PrPost (p+1) (S7 c) (L7 c) w1) from cnum_post w1 (p+1) (S6 c) (L6 c) h2 2 2 (.inr ⟨rfl,rfl⟩) [c.audit.first,c.audit.count,c.audit.journal,c.boot,c.sectors] g 5 _ _ hg rfl (by omega) (by intro n hn;have h3:=hI.audit.2;simp only [List.mem_cons,List.not_mem_nil,or_false] at hn h3;rcases hn with rfl | rfl | rfl | rfl | rfl;exact h3 _ (.inl rfl);exact h3 _ (.inr (.inl rfl));exact h3 _ (.inr (.inr rfl));exact hI.boot;exact hI.sectors) 5 rfl (by have:=s6 c hF;simp only [List.length_cons,List.length_nil];omega)))
 have H7:=Lib.hid (fun (w1:World) (h1:OnlyP (p+1) w3 w1) (h2:PrAt w1 (p+1) (S7 c) (L7 c))=>(show Calls Tryz.prog 41 #[.pointer (some ⟨p+1,0,none⟩),vR,.func (.func 42) #[] #[.pointer (some ⟨p+2,0,none⟩)]] w1 (PrPost (p+1) (S8 c) (L8 c) w1) from lists_ru w w1 (HLT.out w1 h1) (p+1) (p+2) (S7 c) (L7 c) h2 (by omega) (HCB.out w1 h1) (by omega) vR c.rules hr6 hI.rules (by have:=s7 c hF;omega)))
 have H8:=Lib.hid (fun (w1:World) (h1:OnlyP (p+1) w3 w1) (h2:PrAt w1 (p+1) (S8 c) (L8 c))=>(show Calls Tryz.prog 44 #[.pointer (some ⟨p+1,0,none⟩),vK,.func (.func 43) #[.pointer (some ⟨p+1,0,none⟩)] #[]] w1 (PrPost (p+1) (S9 c) (L9 c) w1) from lists_key w w1 (HLT.out w1 h1) (p+1) (S8 c) (L8 c) h2 (by omega) vK c.keys hr7 hI.keys (by have:=s8 c hF;omega)))
 have H9:=Lib.hid (fun (w1:World) (h2:PrAt w1 (p+1) (S9 c) (L9 c))=>(show Calls Tryz.prog 43 #[.pointer (some ⟨p+1,0,none⟩),.string c.login] w1 (PrPost (p+1) (S10 c) (L10 c) w1) from ctext_any w1 (p+1) (S9 c) (L9 c) h2 c.login hI.login (by have:=s9 c hF;omega)))
 have H10:=Lib.hid (fun (w1:World) (h2:PrAt w1 (p+1) (S10 c) (L10 c)) (g:Nat) (hg:w1.heap[g]?=some (.cells #[.int .i64 c.recovery,.int .i64 c.bound] 3 (0,0))) (hge:p+2≤g)=>(show Calls Tryz.prog 30 #[.pointer (some ⟨p+1,0,none⟩),.int .i64 2,.slice (some ⟨g,0,none⟩) 2 2] w1 (PrPost (p+1) (S11 c) (L11 c) w1) from cnum_post w1 (p+1) (S10 c) (L10 c) h2 2 2 (.inr ⟨rfl,rfl⟩) [c.recovery,c.bound] g 2 _ _ hg rfl (by omega) (by intro n hn;simp only [List.mem_cons,List.not_mem_nil,or_false] at hn;rcases hn with rfl | rfl;exact hI.recovery;exact hI.bound) 2 rfl (by have:=s10 c hF;simp only [List.length_cons,List.length_nil];omega)))
 have HE0:=Lib.hid (show PrAt w3 (p+1) (S0 c) (L0 c) from hbb)
 have HO0:=Lib.hid (Only.refl (IsPb (p+1)) w3)
 have HSA:=Lib.hid (S_all c)
 have HLA:=Lib.hid (L_all c)
 have hgp:p+2<w3.heap.size:=lt_of_block hbc
 clear hr1 hr2 hr3 hr4 hr5 hr6 hr7 hI hF hbb hbc hbp hl3 hC hw3 hp
 go_enter Tryz.func15,Tryz.ntmps15
 go_upto_region 2 with fail
 rw [HP.out]
 first | rw [show (⟨#[67,83,84,49]⟩:ByteArray)=magicS from rfl] | skip
 rw [HW3.out]
 obtain ⟨⟨k0,k1,k2,k3,k4,k5,k6,k7,k8,k9,k10,k11,k12,k13,k14,k15,k16⟩,kc⟩:=HBOX.out w3 HO0.out
 have hgs0:p+2≤w3.heap.size:=Nat.le_trans (Nat.le_of_lt hgp) HO0.out.size
 go_upto_region 3 with (first
  | (go_at_call 30;(with_reducible refine (H0.out _ (HE0.out.later ((Later.refl w3).alloc _)) _ (alloc_block _ _) hgs0).mono ?_);rintro e w4 ⟨rfl,hpr,hon⟩;have HE1:=Lib.hid hpr;have HO1:=Lib.hid (HO0.out.thenP (later_only ((Later.refl w3).alloc _) hon));clear hpr hon)
  | fail)
 clear k0 k1 k2 k3 k4 k5 k6 k7 k8 k9 k10 k11 k12 k13 k14 k15 k16 kc
 obtain ⟨⟨k0,k1,k2,k3,k4,k5,k6,k7,k8,k9,k10,k11,k12,k13,k14,k15,k16⟩,kc⟩:=HBOX.out w4 HO1.out
 go_upto_region 4 with (first
  | (go_at_call 31;(with_reducible refine (H1.out _ HO1.out HE1.out).mono ?_);rintro e w5 ⟨rfl,hpr,hon⟩;have HE2:=Lib.hid hpr;have HO2:=Lib.hid (HO1.out.thenP hon);clear hpr hon)
  | fail)
 clear k0 k1 k2 k3 k4 k5 k6 k7 k8 k9 k10 k11 k12 k13 k14 k15 k16 kc
 obtain ⟨⟨k0,k1,k2,k3,k4,k5,k6,k7,k8,k9,k10,k11,k12,k13,k14,k15,k16⟩,kc⟩:=HBOX.out w5 HO2.out
 go_upto_region 5 with (first
  | (go_at_call 33;(with_reducible refine (H2.out _ HO2.out HE2.out).mono ?_);rintro e w6 ⟨rfl,hpr,hon⟩;have HE3:=Lib.hid hpr;have HO3:=Lib.hid (HO2.out.thenP hon);clear hpr hon)
  | fail)
 clear k0 k1 k2 k3 k4 k5 k6 k7 k8 k9 k10 k11 k12 k13 k14 k15 k16 kc
 obtain ⟨⟨k0,k1,k2,k3,k4,k5,k6,k7,k8,k9,k10,k11,k12,k13,k14,k15,k16⟩,kc⟩:=HBOX.out w6 HO3.out
 go_upto_region 6 with (first
  | (go_at_call 35;(with_reducible refine (H3.out _ HO3.out HE3.out).mono ?_);rintro e w7 ⟨rfl,hpr,hon⟩;have HE4:=Lib.hid hpr;have HO4:=Lib.hid (HO3.out.thenP hon);clear hpr hon)
  | fail)
 clear k0 k1 k2 k3 k4 k5 k6 k7 k8 k9 k10 k11 k12 k13 k14 k15 k16 kc
 obtain ⟨⟨k0,k1,k2,k3,k4,k5,k6,k7,k8,k9,k10,k11,k12,k13,k14,k15,k16⟩,kc⟩:=HBOX.out w7 HO4.out
 go_upto_region 7 with (first
  | (go_at_call 37;(with_reducible refine (H4.out _ HO4.out HE4.out).mono ?_);rintro e w8 ⟨rfl,hpr,hon⟩;have HE5:=Lib.hid hpr;have HO5:=Lib.hid (HO4.out.thenP hon);clear hpr hon)
  | fail)
 clear k0 k1 k2 k3 k4 k5 k6 k7 k8 k9 k10 k11 k12 k13 k14 k15 k16 kc
 obtain ⟨⟨k0,k1,k2,k3,k4,k5,k6,k7,k8,k9,k10,k11,k12,k13,k14,k15,k16⟩,kc⟩:=HBOX.out w8 HO5.out
 go_upto_region 8 with (first
  | (go_at_call 39;(with_reducible refine (H5.out _ HO5.out HE5.out).mono ?_);rintro e w9 ⟨rfl,hpr,hon⟩;have HE6:=Lib.hid hpr;have HO6:=Lib.hid (HO5.out.thenP hon);clear hpr hon)
  | fail)
 clear k0 k1 k2 k3 k4 k5 k6 k7 k8 k9 k10 k11 k12 k13 k14 k15 k16 kc
 obtain ⟨⟨k0,k1,k2,k3,k4,k5,k6,k7,k8,k9,k10,k11,k12,k13,k14,k15,k16⟩,kc⟩:=HBOX.out w9 HO6.out
 have hgs6:p+2≤w9.heap.size:=Nat.le_trans (Nat.le_of_lt hgp) HO6.out.size
 go_upto_region 9 with (first
  | (go_at_call 30;(with_reducible refine (H6.out _ (HE6.out.later ((Later.refl w9).alloc _)) _ (alloc_block _ _) hgs6).mono ?_);rintro e w10 ⟨rfl,hpr,hon⟩;have HE7:=Lib.hid hpr;have HO7:=Lib.hid (HO6.out.thenP (later_only ((Later.refl w9).alloc _) hon));clear hpr hon)
  | fail)
 clear k0 k1 k2 k3 k4 k5 k6 k7 k8 k9 k10 k11 k12 k13 k14 k15 k16 kc
 obtain ⟨⟨k0,k1,k2,k3,k4,k5,k6,k7,k8,k9,k10,k11,k12,k13,k14,k15,k16⟩,kc⟩:=HBOX.out w10 HO7.out
 go_upto_region 10 with (first
  | (go_at_call 41;(with_reducible refine (H7.out _ HO7.out HE7.out).mono ?_);rintro e w11 ⟨rfl,hpr,hon⟩;have HE8:=Lib.hid hpr;have HO8:=Lib.hid (HO7.out.thenP hon);clear hpr hon)
  | fail)
 clear k0 k1 k2 k3 k4 k5 k6 k7 k8 k9 k10 k11 k12 k13 k14 k15 k16 kc
 obtain ⟨⟨k0,k1,k2,k3,k4,k5,k6,k7,k8,k9,k10,k11,k12,k13,k14,k15,k16⟩,kc⟩:=HBOX.out w11 HO8.out
 go_upto_region 11 with (first
  | (go_at_call 44;(with_reducible refine (H8.out _ HO8.out HE8.out).mono ?_);rintro e w12 ⟨rfl,hpr,hon⟩;have HE9:=Lib.hid hpr;have HO9:=Lib.hid (HO8.out.thenP hon);clear hpr hon)
  | fail)
 clear k0 k1 k2 k3 k4 k5 k6 k7 k8 k9 k10 k11 k12 k13 k14 k15 k16 kc
 obtain ⟨⟨k0,k1,k2,k3,k4,k5,k6,k7,k8,k9,k10,k11,k12,k13,k14,k15,k16⟩,kc⟩:=HBOX.out w12 HO9.out
 go_upto_region 12 with (first
  | (go_at_call 43;(with_reducible refine (H9.out _ HE9.out).mono ?_);rintro e w13 ⟨rfl,hpr,hon⟩;have HE10:=Lib.hid hpr;have HO10:=Lib.hid (HO9.out.thenP hon);clear hpr hon)
  | fail)
 clear k0 k1 k2 k3 k4 k5 k6 k7 k8 k9 k10 k11 k12 k13 k14 k15 k16 kc
 obtain ⟨⟨k0,k1,k2,k3,k4,k5,k6,k7,k8,k9,k10,k11,k12,k13,k14,k15,k16⟩,kc⟩:=HBOX.out w13 HO10.out
 have hgs10:p+2≤w13.heap.size:=Nat.le_trans (Nat.le_of_lt hgp) HO10.out.size
 go_upto_region 13 with (first
  | (go_at_call 30;(with_reducible refine (H10.out _ (HE10.out.later ((Later.refl w13).alloc _)) _ (alloc_block _ _) hgs10).mono ?_);rintro e w14 ⟨rfl,hpr,hon⟩;have HE11:=Lib.hid hpr;have HO11:=Lib.hid (HO10.out.thenP (later_only ((Later.refl w13).alloc _) hon));clear hpr hon)
  | fail)
 clear k0 k1 k2 k3 k4 k5 k6 k7 k8 k9 k10 k11 k12 k13 k14 k15 k16 kc
 obtain ⟨⟨k0,k1,k2,k3,k4,k5,k6,k7,k8,k9,k10,k11,k12,k13,k14,k15,k16⟩,kc⟩:=HBOX.out w14 HO11.out
 have HL:=Lib.hid (HLT.out w14 HO11.out)
 have hcs:=fits_lost (L11 c) (decide (c.audit.level=0))
 have hla:=HLA.out
 have hsa:=HSA.out
 have hpr:=HE11.out
 rw [hsa] at hpr
 rw [decide_not] at hla
 rw [hla] at hcs
 obtain ⟨LL,hLL⟩:∃ LL,L11 c=LL:=⟨_,rfl⟩
 rw [hLL] at hcs hpr
 obtain ⟨q0,q1,-, -⟩:=hpr.cells
 clear hla hsa hpr hLL
 rcases hcs with ⟨rfl,hB⟩ | ⟨rfl,hA,hB⟩ | ⟨rfl,hA,hB⟩
 ·have hlaid:c.laid=false:=by simpa using hB
  have HX:Hid (printS c=⟨#[]⟩∧printE c=111):=Lib.hid (by unfold printS printE;rw [hlaid];exact⟨rfl,rfl⟩)
  clear hB hlaid
  go_wp2_with fail
  go_ret2
  rw [HX.out.1,HX.out.2]
  exact⟨rfl,HL.out⟩
 ·have hlaid:c.laid=true:=by simpa using hB
  have HX:Hid (printS c=bytesOf c.bytes∧printE c=0):=Lib.hid (by unfold printS printE;rw [hlaid];exact⟨rfl,rfl⟩)
  have hA2:(c.audit.level != 0)=false:=by simpa using hA
  clear hB hlaid hA
  go_wp2_with fail
  go_ret2
  rw [HX.out.1,HX.out.2]
  exact⟨rfl,HL.out⟩
 ·have hlaid:c.laid=false:=by simpa using hB
  have HX:Hid (printS c=⟨#[]⟩∧printE c=111):=Lib.hid (by unfold printS printE;rw [hlaid];exact⟨rfl,rfl⟩)
  have hA2:(c.audit.level != 0)=true:=by simpa using hA
  clear hB hlaid hA
  go_wp2_with fail
  go_ret2
  rw [HX.out.1,HX.out.2]
  exact⟨rfl,HL.out⟩
theorem print_cfg (w:World) (cs:List Value) (c:Cfg) (h:CfgIn w cs c) (hI:CfgI c) :
 Calls Tryz.prog 15 #[.agg cs.toArray] w fun e w'=>e=.returned (.tuple #[.string (printS c),.int .i64 (printE c)])∧Later w w':=by
 have hF:=h.few
 obtain ⟨vF,vP,vW,vO,vV,vR,vK,h0,h1,h2,h3,h4,h5,h6,h7⟩:=h.rows
 subst h0
 exact print_core w _ c vF vP vW vO vV vR vK rfl h1 h2 h3 h4 h5 h6 h7 hI hF
end Go.Proofs.YtbchkjfnakabkaaGreatDoor
