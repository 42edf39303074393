/- The walk of the document's Parse. (Printed by gen_rb5.py.) -/
import Derived.Test.YtbchkjfnakabkaaGreatDoorRBx
import Derived.Test.YtbchkjfnakabkaaGreatDoorYE
import Derived.Laws.OwnMore
set_option linter.unusedSimpArgs false
set_option linter.unusedVariables false
namespace Go.Proofs.YtbchkjfnakabkaaGreatDoor
open Go.RowKit PX PC
structure PIn (w0:World) (cb gb:Nat) (S:ByteArray) (C:Array Value) (st:RSt) (w:World):Prop where
 r:CIn w cb S st
 g:w.heap[gb]?=some (.cells C 32 (0,0))
 o:OnlyT cb gb 0 w0 w
theorem CIn.only {r:Nat→Prop} {w w':World} {cb:Nat} {S:ByteArray} {st:RSt} (h:CIn w cb S st) (ho:Only r w w') (hr:¬ r cb):CIn w' cb S st:=by
 obtain ⟨i,f,h1,h2,h3⟩:=h
 exact⟨i,f,(ho.block cb (lt_of_block h1) hr).trans h1,h2,h3⟩
theorem CIn.put {w:World} {cb bx:Nat} {S:ByteArray} {st:RSt} (h:CIn w cb S st) (hne:¬ bx=cb) (j:Nat) (v:Value):CIn (w.setCell ⟨bx,j,none⟩ v) cb S st:=
 h.only (r:=fun k=>k=bx) ((Only.refl (fun k=>k=bx) w).setCell (p:=⟨bx,j,none⟩) (.inl rfl) v) (fun e=>hne e.symm)
theorem PIn.num {w0 w w':World} {cb gb:Nat} {S:ByteArray} {C:Array Value} {st st':RSt} (h:PIn w0 cb gb S C st w) (hr:CIn w' cb S st') (ho:OnlyP cb w w') (hne:¬ gb=cb):PIn w0 cb gb S C st' w':=
 ⟨hr,(ho.block gb (lt_of_block h.g) hne).trans h.g,h.o.thenP ho⟩
theorem PIn.put {w0 w:World} {cb gb:Nat} {S:ByteArray} {C:Array Value} {st:RSt} (h:PIn w0 cb gb S C st w) (hne:¬ gb=cb) (j:Nat) (v:Value):PIn w0 cb gb S (C.setIfInBounds j v) st (w.setCell ⟨gb,j,none⟩ v):=
 ⟨h.r.put hne j v,setCell_block h.g j v,h.o.setC j v⟩
theorem PIn.round {w0 wr w3 wz:World} {cb gb:Nat} {S:ByteArray} {C:Array Value} {st st':RSt} {row:Option Nat} {ob:Obj} (h:PIn w0 cb gb S C st wr) (ho:OnlyP cb wr w3) (hr:CIn w3 cb S st') (hg:(w3.alloc ob).grownBy wz row) (hrow:∀ q,row=some q→w0.heap.size≤q) (hcb:cb<w0.heap.size) (hgb:gb<w0.heap.size) (hne:¬ gb=cb) (j:Nat) (v:Value) :
 PIn w0 cb gb S (C.setIfInBounds j v) st' (wz.setCell ⟨gb,j,none⟩ v)∧wz.heap[gb]?=some (.cells C 32 (0,0)):=by
 have g3:=(ho.block gb (lt_of_block h.g) hne).trans h.g
 have hs0:=h.o.size
 have hs1:=ho.size
 have gz:wz.heap[gb]?=some (.cells C 32 (0,0)):=(hg.block gb (by simp;omega) (fun e=>by have:=hrow gb e.symm;omega)).trans (alloc_old g3 _)
 refine⟨⟨CIn.put ?_ hne j v,setCell_block gz j v,OnlyT.setC ?_ j v⟩,gz⟩
 ·obtain ⟨i,f,q1,q2,q3⟩:=hr
  exact⟨i,f,(hg.block cb (by simp;omega) (fun e=>by have:=hrow cb e.symm;omega)).trans (alloc_old q1 _),q2,q3⟩
 ·exact ((h.o.thenP ho).alloc ob).grown hg (fun q hq=>.inr (hrow q hq))
theorem own_put {w:World} {B k n:Nat} {e:TypeId} {v:Value} {xs:List Value} (h:w.ownsRow B e k v n xs) {gb:Nat} (hg:gb<B) (j:Nat) (u:Value):(w.setCell ⟨gb,j,none⟩ u).ownsRow B e k v n xs:=
 Only.ownsRow (r:=fun k=>k=gb) ((Only.refl (fun k=>k=gb) w).setCell (p:=⟨gb,j,none⟩) (.inl rfl) u) h (fun q hq (e:q=gb)=>by have:=(h.lt q hq).1;omega)
theorem own_num {w w':World} {B k n:Nat} {e:TypeId} {v:Value} {xs:List Value} (h:w.ownsRow B e k v n xs) {cb:Nat} (ho:OnlyP cb w w') (hc:cb<B):w'.ownsRow B e k v n xs:=
 Only.ownsRow ho h (fun q hq (e:q=cb)=>by have:=(h.lt q hq).1;omega)
theorem many_get {α:Type} (g:RSt→α × RSt) (N:Nat) (s:RSt):(many g N s).1.length=N:=many_len g N s
def ZC:Array Value:=#[.int .i64 0,.slice none 0 0,.slice none 0 0,.slice none 0 0,.slice none 0 0,.slice none 0 0,.int .i64 0,.int .i64 0,.int .i64 0,.int .i64 0,.int .i64 0,.int .i64 0,.slice none 0 0,.slice none 0 0,.string ⟨#[]⟩,.int .i64 0,.int .i64 0]
theorem zc_size:ZC.size=17:=rfl
theorem zc_one:∀ v∈ZC,v.oneCell'=true:=by
 intro v hv
 have hv':v∈ZC.toList:=Array.mem_def.1 hv
 simp only [ZC,List.mem_cons,List.not_mem_nil,or_false] at hv'
 (repeat' (rcases hv' with hv' | hv'))<;>(subst_vars;rfl)
theorem near1_F {S:ByteArray}:∀ n s,Near S n s→Near S (n+2) (flowG s).2:=fun n s h=>Near.mono (Near.getN (Near.getN h)) (by omega)
theorem near_F {S:ByteArray} {n:Nat} {s:RSt} (h:Near S n s):Near S (n+511) (getL flowG s).2:=by
 have h1:Near S (n+1) (getN 1 s).2:=Near.getN h
 have h2:=Near.many near1_F (getN 1 s).1.toNat (n+1) _ h1
 have h3:=(getN_bd 1 s).2
 have h4:(256:Int) ^ 1=256:=rfl
 exact Near.mono (st:=(getL flowG s).2) h2 (by have:(getN 1 s).1.toNat*2≤255*2:=Nat.mul_le_mul_right _ (by omega);omega)
theorem near1_P {S:ByteArray}:∀ n s,Near S n s→Near S (n+2) (partG s).2:=fun n s h=>Near.mono (Near.getN (Near.getN h)) (by omega)
theorem near_P {S:ByteArray} {n:Nat} {s:RSt} (h:Near S n s):Near S (n+511) (getL partG s).2:=by
 have h1:Near S (n+1) (getN 1 s).2:=Near.getN h
 have h2:=Near.many near1_P (getN 1 s).1.toNat (n+1) _ h1
 have h3:=(getN_bd 1 s).2
 have h4:(256:Int) ^ 1=256:=rfl
 exact Near.mono (st:=(getL partG s).2) h2 (by have:(getN 1 s).1.toNat*2≤255*2:=Nat.mul_le_mul_right _ (by omega);omega)
theorem near1_W {S:ByteArray}:∀ n s,Near S n s→Near S (n+3) (winG s).2:=fun n s h=>Near.mono (Near.getN (Near.getN (Near.getN h))) (by omega)
theorem near_W {S:ByteArray} {n:Nat} {s:RSt} (h:Near S n s):Near S (n+766) (getL winG s).2:=by
 have h1:Near S (n+1) (getN 1 s).2:=Near.getN h
 have h2:=Near.many near1_W (getN 1 s).1.toNat (n+1) _ h1
 have h3:=(getN_bd 1 s).2
 have h4:(256:Int) ^ 1=256:=rfl
 exact Near.mono (st:=(getL winG s).2) h2 (by have:(getN 1 s).1.toNat*3≤255*3:=Nat.mul_le_mul_right _ (by omega);omega)
theorem near1_O {S:ByteArray}:∀ n s,Near S n s→Near S (n+5) (porG s).2:=fun n s h=>Near.mono (Near.getN (Near.getN (Near.getN (Near.getN (Near.getN h))))) (by omega)
theorem near_O {S:ByteArray} {n:Nat} {s:RSt} (h:Near S n s):Near S (n+1276) (getL porG s).2:=by
 have h1:Near S (n+1) (getN 1 s).2:=Near.getN h
 have h2:=Near.many near1_O (getN 1 s).1.toNat (n+1) _ h1
 have h3:=(getN_bd 1 s).2
 have h4:(256:Int) ^ 1=256:=rfl
 exact Near.mono (st:=(getL porG s).2) h2 (by have:(getN 1 s).1.toNat*5≤255*5:=Nat.mul_le_mul_right _ (by omega);omega)
theorem near1_V {S:ByteArray}:∀ n s,Near S n s→Near S (n+7) (volG s).2:=fun n s h=>Near.mono (Near.getN (Near.getN (Near.getN (Near.getN h)))) (by omega)
theorem near_V {S:ByteArray} {n:Nat} {s:RSt} (h:Near S n s):Near S (n+1786) (getL volG s).2:=by
 have h1:Near S (n+1) (getN 1 s).2:=Near.getN h
 have h2:=Near.many near1_V (getN 1 s).1.toNat (n+1) _ h1
 have h3:=(getN_bd 1 s).2
 have h4:(256:Int) ^ 1=256:=rfl
 exact Near.mono (st:=(getL volG s).2) h2 (by have:(getN 1 s).1.toNat*7≤255*7:=Nat.mul_le_mul_right _ (by omega);omega)
theorem near1_R {S:ByteArray}:∀ n s,Near S n s→Near S (n+2055) (ruG s).2:=fun n s h=>Near.mono (Near.getT (Near.getT (Near.getN (Near.getN (Near.getN h))))) (by omega)
theorem near_R {S:ByteArray} {n:Nat} {s:RSt} (h:Near S n s):Near S (n+524026) (getL ruG s).2:=by
 have h1:Near S (n+1) (getN 1 s).2:=Near.getN h
 have h2:=Near.many near1_R (getN 1 s).1.toNat (n+1) _ h1
 have h3:=(getN_bd 1 s).2
 have h4:(256:Int) ^ 1=256:=rfl
 exact Near.mono (st:=(getL ruG s).2) h2 (by have:(getN 1 s).1.toNat*2055≤255*2055:=Nat.mul_le_mul_right _ (by omega);omega)
theorem near1_K {S:ByteArray}:∀ n s,Near S n s→Near S (n+1026) (getT s).2:=fun n s h=>Near.mono (Near.getT h) (by omega)
theorem near_K {S:ByteArray} {n:Nat} {s:RSt} (h:Near S n s):Near S (n+261631) (getL getT s).2:=by
 have h1:Near S (n+1) (getN 1 s).2:=Near.getN h
 have h2:=Near.many near1_K (getN 1 s).1.toNat (n+1) _ h1
 have h3:=(getN_bd 1 s).2
 have h4:(256:Int) ^ 1=256:=rfl
 exact Near.mono (st:=(getL getT s).2) h2 (by have:(getN 1 s).1.toNat*1026≤255*1026:=Nat.mul_le_mul_right _ (by omega);omega)
theorem doc_no {S:ByteArray} {t0 t:RSt} {c:Cfg} (hm:S.data.toList.take 4=magic) (h3:some (S.data.toList.drop 4)=t0) (hg:cfgG t0=(c,t)) (hr:t≠some []):parseC S.data.toList=none:=by
 rw [parseC,if_pos hm,h3,hg,if_neg hr]
theorem doc_yes {S:ByteArray} {t0 t:RSt} {c:Cfg} (hm:S.data.toList.take 4=magic) (h3:some (S.data.toList.drop 4)=t0) (hg:cfgG t0=(c,t)) (hr:t=some []):parseC S.data.toList=some c:=by
 rw [parseC,if_pos hm,h3,hg,if_pos hr]
theorem doc_bad {S:ByteArray} (hm:S.data.toList.take 4≠magic):parseC S.data.toList=none:=by rw [parseC,if_neg hm]
theorem count_of {α:Type} (g:RSt→α × RSt) (t:RSt):∃ (N:Nat) (s:RSt),(getN 1 t).1=(N:Int)∧(getN 1 t).2=s∧getL g t=many g N s∧N≤255:=by
 have h:=getN_bd 1 t
 have h4:(256:Int) ^ 1=256:=rfl
 refine⟨(getN 1 t).1.toNat,_,by omega,rfl,rfl,by omega⟩
set_option maxRecDepth 100000 in
set_option maxHeartbeats 16000000 in
theorem rparse_good (w:World) (S:ByteArray) (hS:S.size≤9223372036854775807) (h4:4≤S.size) (hmg:S.data.toList.take 4=magic):Calls Tryz.prog 18 #[.string S] w (ParsePost S w):=by
 obtain ⟨t0,ht0⟩:∃ t0:RSt,some (S.data.toList.drop 4)=t0:=⟨_,rfl⟩
 have n0:Near S 4 t0:=by rw [←ht0];intro r e;cases e;rw [drop_len];omega
 obtain ⟨qa,hqa⟩:∃ x,(getN 1 t0).1=x:=⟨_,rfl⟩
 obtain ⟨t1,ht1⟩:∃ x,(getN 1 t0).2=x:=⟨_,rfl⟩
 have n1:Near S 5 t1:=by rw [←ht1];exact Near.getN n0
 obtain ⟨qf,hqf⟩:∃ x,(getL flowG t1).1=x:=⟨_,rfl⟩
 obtain ⟨t2,ht2⟩:∃ x,(getL flowG t1).2=x:=⟨_,rfl⟩
 have n2:Near S 516 t2:=by rw [←ht2];exact (near_F n1)
 obtain ⟨qp,hqp⟩:∃ x,(getL partG t2).1=x:=⟨_,rfl⟩
 obtain ⟨t3,ht3⟩:∃ x,(getL partG t2).2=x:=⟨_,rfl⟩
 have n3:Near S 1027 t3:=by rw [←ht3];exact (near_P n2)
 obtain ⟨qwn,hqwn⟩:∃ x,(getL winG t3).1=x:=⟨_,rfl⟩
 obtain ⟨t4,ht4⟩:∃ x,(getL winG t3).2=x:=⟨_,rfl⟩
 have n4:Near S 1793 t4:=by rw [←ht4];exact (near_W n3)
 obtain ⟨qpo,hqpo⟩:∃ x,(getL porG t4).1=x:=⟨_,rfl⟩
 obtain ⟨t5,ht5⟩:∃ x,(getL porG t4).2=x:=⟨_,rfl⟩
 have n5:Near S 3069 t5:=by rw [←ht5];exact (near_O n4)
 obtain ⟨qv,hqv⟩:∃ x,(getL volG t5).1=x:=⟨_,rfl⟩
 obtain ⟨t6,ht6⟩:∃ x,(getL volG t5).2=x:=⟨_,rfl⟩
 have n6:Near S 4855 t6:=by rw [←ht6];exact (near_V n5)
 obtain ⟨qx,hqx⟩:∃ x,(getN 2 t6).1=x:=⟨_,rfl⟩
 obtain ⟨t7,ht7⟩:∃ x,(getN 2 t6).2=x:=⟨_,rfl⟩
 have n7:Near S 4857 t7:=by rw [←ht7];exact Near.getN n6
 obtain ⟨qy,hqy⟩:∃ x,(getN 2 t7).1=x:=⟨_,rfl⟩
 obtain ⟨t8,ht8⟩:∃ x,(getN 2 t7).2=x:=⟨_,rfl⟩
 have n8:Near S 4859 t8:=by rw [←ht8];exact Near.getN n7
 obtain ⟨qz,hqz⟩:∃ x,(getN 2 t8).1=x:=⟨_,rfl⟩
 obtain ⟨t9,ht9⟩:∃ x,(getN 2 t8).2=x:=⟨_,rfl⟩
 have n9:Near S 4861 t9:=by rw [←ht9];exact Near.getN n8
 obtain ⟨qbo,hqbo⟩:∃ x,(getN 2 t9).1=x:=⟨_,rfl⟩
 obtain ⟨t10,ht10⟩:∃ x,(getN 2 t9).2=x:=⟨_,rfl⟩
 have n10:Near S 4863 t10:=by rw [←ht10];exact Near.getN n9
 obtain ⟨qsc,hqsc⟩:∃ x,(getN 2 t10).1=x:=⟨_,rfl⟩
 obtain ⟨t11,ht11⟩:∃ x,(getN 2 t10).2=x:=⟨_,rfl⟩
 have n11:Near S 4865 t11:=by rw [←ht11];exact Near.getN n10
 obtain ⟨qr,hqr⟩:∃ x,(getL ruG t11).1=x:=⟨_,rfl⟩
 obtain ⟨t12,ht12⟩:∃ x,(getL ruG t11).2=x:=⟨_,rfl⟩
 have n12:Near S 528891 t12:=by rw [←ht12];exact (near_R n11)
 obtain ⟨qk,hqk⟩:∃ x,(getL getT t12).1=x:=⟨_,rfl⟩
 obtain ⟨t13,ht13⟩:∃ x,(getL getT t12).2=x:=⟨_,rfl⟩
 have n13:Near S 790522 t13:=by rw [←ht13];exact (near_K n12)
 obtain ⟨ql,hql⟩:∃ x,(getT t13).1=x:=⟨_,rfl⟩
 obtain ⟨t14,ht14⟩:∃ x,(getT t13).2=x:=⟨_,rfl⟩
 have n14:Near S 791548 t14:=by rw [←ht14];exact Near.getT n13
 obtain ⟨qm,hqm⟩:∃ x,(getN 2 t14).1=x:=⟨_,rfl⟩
 obtain ⟨t15,ht15⟩:∃ x,(getN 2 t14).2=x:=⟨_,rfl⟩
 have n15:Near S 791550 t15:=by rw [←ht15];exact Near.getN n14
 obtain ⟨qn,hqn⟩:∃ x,(getN 2 t15).1=x:=⟨_,rfl⟩
 obtain ⟨t16,ht16⟩:∃ x,(getN 2 t15).2=x:=⟨_,rfl⟩
 have n16:Near S 791552 t16:=by rw [←ht16];exact Near.getN n15
 have HG:Hid (cfgG t0=(⟨qa,qf,qp,qwn,qpo,qv,⟨0,qx,qy,qz⟩,qbo,qsc,qr,qk,ql,qm,qn⟩,t16)):=Lib.hid (by
  simp only [cfgG,hqa,ht1,hqf,ht2,hqp,ht3,hqwn,ht4,hqpo,ht5,hqv,ht6,hqx,ht7,hqy,ht8,hqz,ht9,hqbo,ht10,hqsc,ht11,hqr,ht12,hqk,ht13,hql,ht14,hqm,ht15,hqn,ht16])
 obtain ⟨PT,hPT⟩:∃ PT,ParsePost S w=PT:=⟨_,rfl⟩
 rw [hPT]
 have HPT:=Lib.hid hPT
 have HMG:=Lib.hid hmg
 obtain ⟨cb,hcb⟩:∃ cb,w.heap.size+1=cb:=⟨_,rfl⟩
 obtain ⟨rp,hrp⟩:∃ rp,w.heap.size=rp:=⟨_,rfl⟩
 have HCB:=Lib.hid hcb
 have HRP:=Lib.hid hrp
 have hcr:cb=rp+1:=by omega
 have HCR:=Lib.hid hcr
 clear hcb hrp hcr
 have HC0:=Lib.hid (fun w' (h:CIn w' cb S t0)=>rcnum_any w' cb S t0 h (n0.mono (by omega)) 1 1 rfl (by omega))
 rw [hqa,ht1] at HC0
 have HC1:=Lib.hid (fun w' (h:CIn w' cb S t1)=>rcnum_any w' cb S t1 h (n1.mono (by omega)) 1 1 rfl (by omega))
 obtain ⟨NF,sF,hNF,hsF,hlF,hbF⟩:∃ (N:Nat) (s:RSt),(getN 1 t1).1=(N:Int)∧(getN 1 t1).2=s∧getL flowG t1=many flowG N s∧N≤255:=count_of flowG t1
 rw [hNF,hsF] at HC1
 have nnF:Near S 6 sF:=by rw [←hsF];exact Near.getN n1
 have NMF:=Lib.hid (fun (j:Nat) (hj:j≤255)=>(show Near S 516 (many flowG j sF).2 from Near.mono (Near.many near1_F j _ _ nnF) (by have:j*2≤255*2:=Nat.mul_le_mul_right _ hj;omega)))
 have HLF:=Lib.hid (show many flowG NF sF=(qf,t2) by rw [←hlF,←hqf,←ht2])
 clear hNF hsF hlF nnF
 have HC2:=Lib.hid (fun w' (h:CIn w' cb S t2)=>rcnum_any w' cb S t2 h (n2.mono (by omega)) 1 1 rfl (by omega))
 obtain ⟨NP,sP,hNP,hsP,hlP,hbP⟩:∃ (N:Nat) (s:RSt),(getN 1 t2).1=(N:Int)∧(getN 1 t2).2=s∧getL partG t2=many partG N s∧N≤255:=count_of partG t2
 rw [hNP,hsP] at HC2
 have nnP:Near S 517 sP:=by rw [←hsP];exact Near.getN n2
 have NMP:=Lib.hid (fun (j:Nat) (hj:j≤255)=>(show Near S 1027 (many partG j sP).2 from Near.mono (Near.many near1_P j _ _ nnP) (by have:j*2≤255*2:=Nat.mul_le_mul_right _ hj;omega)))
 have HLP:=Lib.hid (show many partG NP sP=(qp,t3) by rw [←hlP,←hqp,←ht3])
 clear hNP hsP hlP nnP
 have HC3:=Lib.hid (fun w' (h:CIn w' cb S t3)=>rcnum_any w' cb S t3 h (n3.mono (by omega)) 1 1 rfl (by omega))
 obtain ⟨NW,sW,hNW,hsW,hlW,hbW⟩:∃ (N:Nat) (s:RSt),(getN 1 t3).1=(N:Int)∧(getN 1 t3).2=s∧getL winG t3=many winG N s∧N≤255:=count_of winG t3
 rw [hNW,hsW] at HC3
 have nnW:Near S 1028 sW:=by rw [←hsW];exact Near.getN n3
 have NMW:=Lib.hid (fun (j:Nat) (hj:j≤255)=>(show Near S 1793 (many winG j sW).2 from Near.mono (Near.many near1_W j _ _ nnW) (by have:j*3≤255*3:=Nat.mul_le_mul_right _ hj;omega)))
 have HLW:=Lib.hid (show many winG NW sW=(qwn,t4) by rw [←hlW,←hqwn,←ht4])
 clear hNW hsW hlW nnW
 have HC4:=Lib.hid (fun w' (h:CIn w' cb S t4)=>rcnum_any w' cb S t4 h (n4.mono (by omega)) 1 1 rfl (by omega))
 obtain ⟨NO,sO,hNO,hsO,hlO,hbO⟩:∃ (N:Nat) (s:RSt),(getN 1 t4).1=(N:Int)∧(getN 1 t4).2=s∧getL porG t4=many porG N s∧N≤255:=count_of porG t4
 rw [hNO,hsO] at HC4
 have nnO:Near S 1794 sO:=by rw [←hsO];exact Near.getN n4
 have NMO:=Lib.hid (fun (j:Nat) (hj:j≤255)=>(show Near S 3069 (many porG j sO).2 from Near.mono (Near.many near1_O j _ _ nnO) (by have:j*5≤255*5:=Nat.mul_le_mul_right _ hj;omega)))
 have HLO:=Lib.hid (show many porG NO sO=(qpo,t5) by rw [←hlO,←hqpo,←ht5])
 clear hNO hsO hlO nnO
 have HC5:=Lib.hid (fun w' (h:CIn w' cb S t5)=>rcnum_any w' cb S t5 h (n5.mono (by omega)) 1 1 rfl (by omega))
 obtain ⟨NV,sV,hNV,hsV,hlV,hbV⟩:∃ (N:Nat) (s:RSt),(getN 1 t5).1=(N:Int)∧(getN 1 t5).2=s∧getL volG t5=many volG N s∧N≤255:=count_of volG t5
 rw [hNV,hsV] at HC5
 have nnV:Near S 3070 sV:=by rw [←hsV];exact Near.getN n5
 have NMV:=Lib.hid (fun (j:Nat) (hj:j≤255)=>(show Near S 4855 (many volG j sV).2 from Near.mono (Near.many near1_V j _ _ nnV) (by have:j*7≤255*7:=Nat.mul_le_mul_right _ hj;omega)))
 have HLV:=Lib.hid (show many volG NV sV=(qv,t6) by rw [←hlV,←hqv,←ht6])
 clear hNV hsV hlV nnV
 have HC6:=Lib.hid (fun w' (h:CIn w' cb S t6)=>rcnum_any w' cb S t6 h (n6.mono (by omega)) 2 2 rfl (by omega))
 rw [hqx,ht7] at HC6
 have HC7:=Lib.hid (fun w' (h:CIn w' cb S t7)=>rcnum_any w' cb S t7 h (n7.mono (by omega)) 2 2 rfl (by omega))
 rw [hqy,ht8] at HC7
 have HC8:=Lib.hid (fun w' (h:CIn w' cb S t8)=>rcnum_any w' cb S t8 h (n8.mono (by omega)) 2 2 rfl (by omega))
 rw [hqz,ht9] at HC8
 have HC9:=Lib.hid (fun w' (h:CIn w' cb S t9)=>rcnum_any w' cb S t9 h (n9.mono (by omega)) 2 2 rfl (by omega))
 rw [hqbo,ht10] at HC9
 have HC10:=Lib.hid (fun w' (h:CIn w' cb S t10)=>rcnum_any w' cb S t10 h (n10.mono (by omega)) 2 2 rfl (by omega))
 rw [hqsc,ht11] at HC10
 have HC11:=Lib.hid (fun w' (h:CIn w' cb S t11)=>rcnum_any w' cb S t11 h (n11.mono (by omega)) 1 1 rfl (by omega))
 obtain ⟨NR,sR,hNR,hsR,hlR,hbR⟩:∃ (N:Nat) (s:RSt),(getN 1 t11).1=(N:Int)∧(getN 1 t11).2=s∧getL ruG t11=many ruG N s∧N≤255:=count_of ruG t11
 rw [hNR,hsR] at HC11
 have nnR:Near S 4866 sR:=by rw [←hsR];exact Near.getN n11
 have NMR:=Lib.hid (fun (j:Nat) (hj:j≤255)=>(show Near S 528891 (many ruG j sR).2 from Near.mono (Near.many near1_R j _ _ nnR) (by have:j*2055≤255*2055:=Nat.mul_le_mul_right _ hj;omega)))
 have HLR:=Lib.hid (show many ruG NR sR=(qr,t12) by rw [←hlR,←hqr,←ht12])
 clear hNR hsR hlR nnR
 have HC12:=Lib.hid (fun w' (h:CIn w' cb S t12)=>rcnum_any w' cb S t12 h (n12.mono (by omega)) 1 1 rfl (by omega))
 obtain ⟨NK,sK,hNK,hsK,hlK,hbK⟩:∃ (N:Nat) (s:RSt),(getN 1 t12).1=(N:Int)∧(getN 1 t12).2=s∧getL getT t12=many getT N s∧N≤255:=count_of getT t12
 rw [hNK,hsK] at HC12
 have nnK:Near S 528892 sK:=by rw [←hsK];exact Near.getN n12
 have NMK:=Lib.hid (fun (j:Nat) (hj:j≤255)=>(show Near S 790522 (many getT j sK).2 from Near.mono (Near.many near1_K j _ _ nnK) (by have:j*1026≤255*1026:=Nat.mul_le_mul_right _ hj;omega)))
 have HLK:=Lib.hid (show many getT NK sK=(qk,t13) by rw [←hlK,←hqk,←ht13])
 clear hNK hsK hlK nnK
 have HC13:=Lib.hid (fun w' (h:CIn w' cb S t13)=>rctext_any w' cb S t13 h (n13.mono (by omega)))
 rw [hql,ht14] at HC13
 have HC14:=Lib.hid (fun w' (h:CIn w' cb S t14)=>rcnum_any w' cb S t14 h (n14.mono (by omega)) 2 2 rfl (by omega))
 rw [hqm,ht15] at HC14
 have HC15:=Lib.hid (fun w' (h:CIn w' cb S t15)=>rcnum_any w' cb S t15 h (n15.mono (by omega)) 2 2 rfl (by omega))
 rw [hqn,ht16] at HC15
 have HT0:=Lib.hid ht0
 clear hPT hmg hqa ht1 hqf ht2 hqp ht3 hqwn ht4 hqpo ht5 hqv ht6 hqx ht7 hqy ht8 hqz ht9 hqbo ht10 hqsc ht11 hqr ht12 hqk ht13 hql ht14 hqm ht15 hqn ht16 ht0 n0 n1 n2 n3 n4 n5 n6 n7 n8 n9 n10 n11 n12 n13 n14 n15 n16
 have hd4:decide ((S.size:Int)<4)=false:=decide_eq_false (by omega)
 have hex:(S.extract 0 4).data.toList=[67,83,84,49]:=by
  have e:(S.extract 0 4).data.toList=S.data.toList.take 4:=by simp [ByteArray.data_extract,Array.toList_extract,List.extract_eq_take_drop]
  rw [e,HMG.out];rfl
 have hex2:(S.extract 0 4).toList=[67,83,84,49]:=by rw [ByteArray.toList_eq];exact hex
 have hc4:(4:Int)≤(S.size:Int):=by omega
 obtain ⟨E4,hE4⟩:∃ E4,S.extract 0 4=E4:=⟨_,rfl⟩
 rw [hE4] at hex hex2
 have HZC:Hid (#[.int .i64 0,.slice none 0 0,.slice none 0 0,.slice none 0 0,.slice none 0 0,.slice none 0 0,.int .i64 0,.int .i64 0,.int .i64 0,.int .i64 0,.int .i64 0,.int .i64 0,.slice none 0 0,.slice none 0 0,.string ⟨#[]⟩,.int .i64 0,.int .i64 0]=ZC):=Lib.hid rfl
 go_enter Tryz.func18,Tryz.ntmps18
 go_upto_region 4 with fail
 rw [HZC.out,HCB.out,HRP.out]
 have hcb:=HCB.out
 have hrp:=HRP.out
 have hcr:=HCR.out
 obtain ⟨w1,hw1⟩:∃ w1,((w.alloc (.cells ZC 32)).alloc (.cells #[.string S,.int .i64 4,.bool false] 111))=w1:=⟨_,rfl⟩
 have hl1:Later w w1:=by rw [←hw1];exact ((Later.refl w).alloc _).alloc _
 have hz1:w1.heap[rp]?=some (.cells ZC 32 (0,0)):=by rw [←hw1,←hrp];exact alloc_old (alloc_block w _) _
 have hc1:CIn w1 cb S t0:=by rw [←HT0.out];exact CIn.ofSome (show CAt w1 cb S 4 false by rw [←hw1];exact alloc_at (by simp;omega)) h4
 rw [hw1]
 have HS1:=Lib.hid (show w1.heap.size=cb+1 by rw [←hw1];simp;omega)
 have HZ1:=Lib.hid hz1
 have HL1:=Lib.hid hl1
 clear hz1 hl1
 clear hw1 hcb hrp hcr hex hex2 hd4 hE4
 have HI17:=Lib.hid (show (Tryz.prog.info? 32).map (·.size)=some (#[.int .i64 qa,.slice none 0 0,.slice none 0 0,.slice none 0 0,.slice none 0 0,.slice none 0 0,.int .i64 0,.int .i64 0,.int .i64 0,.int .i64 0,.int .i64 0,.int .i64 0,.slice none 0 0,.slice none 0 0,.string ⟨#[]⟩,.int .i64 0,.int .i64 0]:Array Value).size from info_cfg)
 have HO17:=Lib.hid (show (#[.int .i64 qa,.slice none 0 0,.slice none 0 0,.slice none 0 0,.slice none 0 0,.slice none 0 0,.int .i64 0,.int .i64 0,.int .i64 0,.int .i64 0,.int .i64 0,.int .i64 0,.slice none 0 0,.slice none 0 0,.string ⟨#[]⟩,.int .i64 0,.int .i64 0]:Array Value).all (·.oneCell')=true by simp [Value.oneCell'])
 go_upto_region 5 with (first
  | (go_at_call 69;(with_reducible refine (HC0.out _ hc1).mono ?_);rintro e w2 ⟨rfl,hr2,ho2⟩)
  | refine wpList_store_row rfl 32 (.tmp 5) (.tmp 33) rfl w2.heap.size #[.int .i64 qa,.slice none 0 0,.slice none 0 0,.slice none 0 0,.slice none 0 0,.slice none 0 0,.int .i64 0,.int .i64 0,.int .i64 0,.int .i64 0,.int .i64 0,.int .i64 0,.slice none 0 0,.slice none 0 0,.string ⟨#[]⟩,.int .i64 0,.int .i64 0] rfl rfl 32 ZC (alloc_block w2 _) HI17.out rfl HO17.out ?_
  | fail)
 obtain ⟨gb,hgb⟩:∃ g,w2.heap.size=g:=⟨_,rfl⟩
 rw [hgb]
 obtain ⟨b1,hb1⟩:∃ b,(w2.alloc (.cells #[.int .i64 0,.slice none 0 0,.slice none 0 0,.slice none 0 0,.slice none 0 0,.slice none 0 0,.int .i64 0,.int .i64 0,.int .i64 0,.int .i64 0,.int .i64 0,.int .i64 0,.slice none 0 0,.slice none 0 0,.string ⟨#[]⟩,.int .i64 0,.int .i64 0] 32)).setRow gb #[.int .i64 qa,.slice none 0 0,.slice none 0 0,.slice none 0 0,.slice none 0 0,.slice none 0 0,.int .i64 0,.int .i64 0,.int .i64 0,.int .i64 0,.int .i64 0,.int .i64 0,.slice none 0 0,.slice none 0 0,.string ⟨#[]⟩,.int .i64 0,.int .i64 0]=b:=⟨_,rfl⟩
 rw [hb1]
 have hl3:Later w2 b1:=by rw [←hb1];exact below_setRow ((Later.refl w2).alloc _) (by omega) _
 have hg3:b1.heap[gb]?=some (.cells #[.int .i64 qa,.slice none 0 0,.slice none 0 0,.slice none 0 0,.slice none 0 0,.slice none 0 0,.int .i64 0,.int .i64 0,.int .i64 0,.int .i64 0,.int .i64 0,.int .i64 0,.slice none 0 0,.slice none 0 0,.string ⟨#[]⟩,.int .i64 0,.int .i64 0] 32 (0,0)):=by rw [←hb1];exact setRow_heap _ _ _ _ _ _ (alloc_at hgb)
 have hne:¬ gb=cb:=by have:=hr2.lt;omega
 have hcl:cb<b1.heap.size:=by have:=hr2.lt;have:=hl3.size;omega
 have hgl:gb<b1.heap.size:=lt_of_block hg3
 have hP:PIn b1 cb gb S #[.int .i64 qa,.slice none 0 0,.slice none 0 0,.slice none 0 0,.slice none 0 0,.slice none 0 0,.int .i64 0,.int .i64 0,.int .i64 0,.int .i64 0,.int .i64 0,.int .i64 0,.slice none 0 0,.slice none 0 0,.string ⟨#[]⟩,.int .i64 0,.int .i64 0] t1 b1:=⟨hr2.later hl3,hg3,Only.refl _ _⟩
 have hwcb:w.heap.size≤cb:=by have:=HCB.out;omega
 have hLW:Later w b1:=(Below.trans HL1.out (Only.below ho2 HL1.out.size (fun k hk=>by have:k=cb:=hk;omega))).trans (Below.mono hl3 (by have:=ho2.size;have:=HL1.out.size;omega))
 have hwgb:w.heap.size≤gb:=by have:=HL1.out.size;have:=ho2.size;omega
 have hrpc:¬ rp=cb:=by have:=HCR.out;omega
 have hrpg:¬ rp=gb:=by have:=lt_of_block HZ1.out;have:=ho2.size;omega
 have hgz:b1.heap[rp]?=some (.cells ZC 32 (0,0)):=hl3.block ((ho2.block rp (lt_of_block HZ1.out) hrpc).trans HZ1.out)
 have HLQQ:=Lib.hid (fun (w':World) (h1:OnlyT cb gb 0 b1 w')=>(show Later w w' from Below.trans hLW (Only.below h1 hLW.size (fun k hk=>by rcases hk with hk | hk<;>omega))))
 have HGZ:=Lib.hid (fun (w':World) (h1:OnlyT cb gb 0 b1 w')=>(h1.block rp (lt_of_block hgz) (show ¬Two cb gb 0 rp from fun hk=>by rcases hk with hk | hk<;>omega)).trans hgz)
 clear hb1 hl3 hg3 hr2 ho2 hgb hwcb hwgb hrpc hrpg hgz hLW hc1 HO17 HI17
 go_wp2_with (first
  | (go_at_call 69;(with_reducible refine (HC1.out _ hP.r).mono ?_);rintro e w2 ⟨rfl,hr2,ho2⟩)
  | fail)
 have hP2:=hP.num hr2 ho2 hne
 have HTF:=Lib.hid hP2.o
 obtain ⟨BF,hBF⟩:∃ x,x=w2:=⟨_,rfl⟩
 subst hBF
 have hPB:PIn BF cb gb S #[.int .i64 qa,.slice none 0 0,.slice none 0 0,.slice none 0 0,.slice none 0 0,.slice none 0 0,.int .i64 0,.int .i64 0,.int .i64 0,.int .i64 0,.int .i64 0,.int .i64 0,.slice none 0 0,.slice none 0 0,.string ⟨#[]⟩,.int .i64 0,.int .i64 0] sF BF:=⟨hP2.r,hP2.g,Only.refl _ _⟩
 have HCLF:=Lib.hid (And.intro hP2.r.lt (lt_of_block hP2.g))
 clear hP hP2 hr2 ho2
 go_loopw [6] (fun vi wr=>∃ (j m:Nat) (vv:Value),j+m=NF∧vi=.int .i64 (m:Int)∧PIn BF cb gb S #[.int .i64 qa,vv,.slice none 0 0,.slice none 0 0,.slice none 0 0,.slice none 0 0,.int .i64 0,.int .i64 0,.int .i64 0,.int .i64 0,.int .i64 0,.int .i64 0,.slice none 0 0,.slice none 0 0,.string ⟨#[]⟩,.int .i64 0,.int .i64 0] (many flowG j sF).2 wr∧wr.ownsRow BF.heap.size 47 2 vv j (flatC flowC (many flowG j sF).1)) (fun vi _=>(intOf vi).toNat)
 case atStart=>exact⟨0,NF,.slice none 0 0,by omega,rfl,hPB,⟨rfl,Or.inl ⟨rfl,rfl⟩⟩⟩
 case round=>
  clear hPB
  obtain ⟨j,m,vv,hjm,rfl,hP,hown⟩:=hrel
  by_cases hm:m=0
  ·subst hm
   obtain rfl:j=NF:=by omega
   rw [HLF.out] at hP hown
   have hlen:qf.length=j:=by have:=many_len flowG j sF;rw [HLF.out] at this;exact this
   have hROW:=row_own (k:=2) (f:=flowC) (l:=qf) (by omega) (by omega) (fun x=>rfl) (by rw [hlen];exact hbF) (by rw [hlen];exact hown)
   obtain ⟨wF,hwF⟩:∃ x,x=wr:=⟨_,rfl⟩
   subst hwF
   have HROWF:=Lib.hid (fun (w':World) (h1:OnlyT cb gb 0 wF w')=>(hROW.only h1 (fun b hb _ hk=>by have:=HCLF.out;rcases hk with hk | hk<;>omega)))
   have HUF:=Lib.hid hP.o
   obtain ⟨vF,hvF⟩:∃ x,x=vv:=⟨_,rfl⟩
   subst hvF
   have hP':PIn wF cb gb S #[.int .i64 qa,vF,.slice none 0 0,.slice none 0 0,.slice none 0 0,.slice none 0 0,.int .i64 0,.int .i64 0,.int .i64 0,.int .i64 0,.int .i64 0,.int .i64 0,.slice none 0 0,.slice none 0 0,.string ⟨#[]⟩,.int .i64 0,.int .i64 0] t2 wF:=⟨hP.r,hP.g,Only.refl _ _⟩
   clear hP hown hROW hlen hjm
   have hP:=hP'
   clear hP'
   go_wp2_with (first
    | (go_at_call 69;(with_reducible refine (HC2.out _ hP.r).mono ?_);rintro e w2 ⟨rfl,hr2,ho2⟩)
    | fail)
   have hP2:=hP.num hr2 ho2 hne
   have HTP:=Lib.hid hP2.o
   obtain ⟨BP,hBP⟩:∃ x,x=w2:=⟨_,rfl⟩
   subst hBP
   have hPB:PIn BP cb gb S #[.int .i64 qa,vF,.slice none 0 0,.slice none 0 0,.slice none 0 0,.slice none 0 0,.int .i64 0,.int .i64 0,.int .i64 0,.int .i64 0,.int .i64 0,.int .i64 0,.slice none 0 0,.slice none 0 0,.string ⟨#[]⟩,.int .i64 0,.int .i64 0] sP BP:=⟨hP2.r,hP2.g,Only.refl _ _⟩
   have HCLP:=Lib.hid (And.intro hP2.r.lt (lt_of_block hP2.g))
   clear hP hP2 hr2 ho2
   go_loopw [8] (fun vi wr=>∃ (j m:Nat) (vv:Value),j+m=NP∧vi=.int .i64 (m:Int)∧PIn BP cb gb S #[.int .i64 qa,vF,vv,.slice none 0 0,.slice none 0 0,.slice none 0 0,.int .i64 0,.int .i64 0,.int .i64 0,.int .i64 0,.int .i64 0,.int .i64 0,.slice none 0 0,.slice none 0 0,.string ⟨#[]⟩,.int .i64 0,.int .i64 0] (many partG j sP).2 wr∧wr.ownsRow BP.heap.size 49 2 vv j (flatC partC (many partG j sP).1)) (fun vi _=>(intOf vi).toNat)
   case atStart=>exact⟨0,NP,.slice none 0 0,by omega,rfl,hPB,⟨rfl,Or.inl ⟨rfl,rfl⟩⟩⟩
   case round=>
    clear hPB
    obtain ⟨j,m,vv,hjm,rfl,hP,hown⟩:=hrel
    by_cases hm:m=0
    ·subst hm
     obtain rfl:j=NP:=by omega
     rw [HLP.out] at hP hown
     have hlen:qp.length=j:=by have:=many_len partG j sP;rw [HLP.out] at this;exact this
     have hROW:=row_own (k:=2) (f:=partC) (l:=qp) (by omega) (by omega) (fun x=>rfl) (by rw [hlen];exact hbP) (by rw [hlen];exact hown)
     obtain ⟨wP,hwP⟩:∃ x,x=wr:=⟨_,rfl⟩
     subst hwP
     have HROWP:=Lib.hid (fun (w':World) (h1:OnlyT cb gb 0 wP w')=>(hROW.only h1 (fun b hb _ hk=>by have:=HCLP.out;rcases hk with hk | hk<;>omega)))
     have HUP:=Lib.hid hP.o
     obtain ⟨vP,hvP⟩:∃ x,x=vv:=⟨_,rfl⟩
     subst hvP
     have hP':PIn wP cb gb S #[.int .i64 qa,vF,vP,.slice none 0 0,.slice none 0 0,.slice none 0 0,.int .i64 0,.int .i64 0,.int .i64 0,.int .i64 0,.int .i64 0,.int .i64 0,.slice none 0 0,.slice none 0 0,.string ⟨#[]⟩,.int .i64 0,.int .i64 0] t3 wP:=⟨hP.r,hP.g,Only.refl _ _⟩
     clear hP hown hROW hlen hjm
     have hP:=hP'
     clear hP'
     go_wp2_with (first
      | (go_at_call 69;(with_reducible refine (HC3.out _ hP.r).mono ?_);rintro e w2 ⟨rfl,hr2,ho2⟩)
      | fail)
     have hP2:=hP.num hr2 ho2 hne
     have HTW:=Lib.hid hP2.o
     obtain ⟨BW,hBW⟩:∃ x,x=w2:=⟨_,rfl⟩
     subst hBW
     have hPB:PIn BW cb gb S #[.int .i64 qa,vF,vP,.slice none 0 0,.slice none 0 0,.slice none 0 0,.int .i64 0,.int .i64 0,.int .i64 0,.int .i64 0,.int .i64 0,.int .i64 0,.slice none 0 0,.slice none 0 0,.string ⟨#[]⟩,.int .i64 0,.int .i64 0] sW BW:=⟨hP2.r,hP2.g,Only.refl _ _⟩
     have HCLW:=Lib.hid (And.intro hP2.r.lt (lt_of_block hP2.g))
     clear hP hP2 hr2 ho2
     go_loopw [10] (fun vi wr=>∃ (j m:Nat) (vv:Value),j+m=NW∧vi=.int .i64 (m:Int)∧PIn BW cb gb S #[.int .i64 qa,vF,vP,vv,.slice none 0 0,.slice none 0 0,.int .i64 0,.int .i64 0,.int .i64 0,.int .i64 0,.int .i64 0,.int .i64 0,.slice none 0 0,.slice none 0 0,.string ⟨#[]⟩,.int .i64 0,.int .i64 0] (many winG j sW).2 wr∧wr.ownsRow BW.heap.size 55 3 vv j (flatC winC (many winG j sW).1)) (fun vi _=>(intOf vi).toNat)
     case atStart=>exact⟨0,NW,.slice none 0 0,by omega,rfl,hPB,⟨rfl,Or.inl ⟨rfl,rfl⟩⟩⟩
     case round=>
      clear hPB
      obtain ⟨j,m,vv,hjm,rfl,hP,hown⟩:=hrel
      by_cases hm:m=0
      ·subst hm
       obtain rfl:j=NW:=by omega
       rw [HLW.out] at hP hown
       have hlen:qwn.length=j:=by have:=many_len winG j sW;rw [HLW.out] at this;exact this
       have hROW:=row_own (k:=3) (f:=winC) (l:=qwn) (by omega) (by omega) (fun x=>rfl) (by rw [hlen];exact hbW) (by rw [hlen];exact hown)
       obtain ⟨wW,hwW⟩:∃ x,x=wr:=⟨_,rfl⟩
       subst hwW
       have HROWW:=Lib.hid (fun (w':World) (h1:OnlyT cb gb 0 wW w')=>(hROW.only h1 (fun b hb _ hk=>by have:=HCLW.out;rcases hk with hk | hk<;>omega)))
       have HUW:=Lib.hid hP.o
       obtain ⟨vW,hvW⟩:∃ x,x=vv:=⟨_,rfl⟩
       subst hvW
       have hP':PIn wW cb gb S #[.int .i64 qa,vF,vP,vW,.slice none 0 0,.slice none 0 0,.int .i64 0,.int .i64 0,.int .i64 0,.int .i64 0,.int .i64 0,.int .i64 0,.slice none 0 0,.slice none 0 0,.string ⟨#[]⟩,.int .i64 0,.int .i64 0] t4 wW:=⟨hP.r,hP.g,Only.refl _ _⟩
       clear hP hown hROW hlen hjm
       have hP:=hP'
       clear hP'
       go_wp2_with (first
        | (go_at_call 69;(with_reducible refine (HC4.out _ hP.r).mono ?_);rintro e w2 ⟨rfl,hr2,ho2⟩)
        | fail)
       have hP2:=hP.num hr2 ho2 hne
       have HTO:=Lib.hid hP2.o
       obtain ⟨BO,hBO⟩:∃ x,x=w2:=⟨_,rfl⟩
       subst hBO
       have hPB:PIn BO cb gb S #[.int .i64 qa,vF,vP,vW,.slice none 0 0,.slice none 0 0,.int .i64 0,.int .i64 0,.int .i64 0,.int .i64 0,.int .i64 0,.int .i64 0,.slice none 0 0,.slice none 0 0,.string ⟨#[]⟩,.int .i64 0,.int .i64 0] sO BO:=⟨hP2.r,hP2.g,Only.refl _ _⟩
       have HCLO:=Lib.hid (And.intro hP2.r.lt (lt_of_block hP2.g))
       clear hP hP2 hr2 ho2
       go_loopw [12] (fun vi wr=>∃ (j m:Nat) (vv:Value),j+m=NO∧vi=.int .i64 (m:Int)∧PIn BO cb gb S #[.int .i64 qa,vF,vP,vW,vv,.slice none 0 0,.int .i64 0,.int .i64 0,.int .i64 0,.int .i64 0,.int .i64 0,.int .i64 0,.slice none 0 0,.slice none 0 0,.string ⟨#[]⟩,.int .i64 0,.int .i64 0] (many porG j sO).2 wr∧wr.ownsRow BO.heap.size 51 5 vv j (flatC porC (many porG j sO).1)) (fun vi _=>(intOf vi).toNat)
       case atStart=>exact⟨0,NO,.slice none 0 0,by omega,rfl,hPB,⟨rfl,Or.inl ⟨rfl,rfl⟩⟩⟩
       case round=>
        clear hPB
        obtain ⟨j,m,vv,hjm,rfl,hP,hown⟩:=hrel
        by_cases hm:m=0
        ·subst hm
         obtain rfl:j=NO:=by omega
         rw [HLO.out] at hP hown
         have hlen:qpo.length=j:=by have:=many_len porG j sO;rw [HLO.out] at this;exact this
         have hROW:=row_own (k:=5) (f:=porC) (l:=qpo) (by omega) (by omega) (fun x=>rfl) (by rw [hlen];exact hbO) (by rw [hlen];exact hown)
         obtain ⟨wO,hwO⟩:∃ x,x=wr:=⟨_,rfl⟩
         subst hwO
         have HROWO:=Lib.hid (fun (w':World) (h1:OnlyT cb gb 0 wO w')=>(hROW.only h1 (fun b hb _ hk=>by have:=HCLO.out;rcases hk with hk | hk<;>omega)))
         have HUO:=Lib.hid hP.o
         obtain ⟨vO,hvO⟩:∃ x,x=vv:=⟨_,rfl⟩
         subst hvO
         have hP':PIn wO cb gb S #[.int .i64 qa,vF,vP,vW,vO,.slice none 0 0,.int .i64 0,.int .i64 0,.int .i64 0,.int .i64 0,.int .i64 0,.int .i64 0,.slice none 0 0,.slice none 0 0,.string ⟨#[]⟩,.int .i64 0,.int .i64 0] t5 wO:=⟨hP.r,hP.g,Only.refl _ _⟩
         clear hP hown hROW hlen hjm
         have hP:=hP'
         clear hP'
         go_wp2_with (first
          | (go_at_call 69;(with_reducible refine (HC5.out _ hP.r).mono ?_);rintro e w2 ⟨rfl,hr2,ho2⟩)
          | fail)
         have hP2:=hP.num hr2 ho2 hne
         have HTV:=Lib.hid hP2.o
         obtain ⟨BV,hBV⟩:∃ x,x=w2:=⟨_,rfl⟩
         subst hBV
         have hPB:PIn BV cb gb S #[.int .i64 qa,vF,vP,vW,vO,.slice none 0 0,.int .i64 0,.int .i64 0,.int .i64 0,.int .i64 0,.int .i64 0,.int .i64 0,.slice none 0 0,.slice none 0 0,.string ⟨#[]⟩,.int .i64 0,.int .i64 0] sV BV:=⟨hP2.r,hP2.g,Only.refl _ _⟩
         have HCLV:=Lib.hid (And.intro hP2.r.lt (lt_of_block hP2.g))
         clear hP hP2 hr2 ho2
         go_loopw [14] (fun vi wr=>∃ (j m:Nat) (vv:Value),j+m=NV∧vi=.int .i64 (m:Int)∧PIn BV cb gb S #[.int .i64 qa,vF,vP,vW,vO,vv,.int .i64 0,.int .i64 0,.int .i64 0,.int .i64 0,.int .i64 0,.int .i64 0,.slice none 0 0,.slice none 0 0,.string ⟨#[]⟩,.int .i64 0,.int .i64 0] (many volG j sV).2 wr∧wr.ownsRow BV.heap.size 28 4 vv j (flatC volC (many volG j sV).1)) (fun vi _=>(intOf vi).toNat)
         case atStart=>exact⟨0,NV,.slice none 0 0,by omega,rfl,hPB,⟨rfl,Or.inl ⟨rfl,rfl⟩⟩⟩
         case round=>
          clear hPB
          obtain ⟨j,m,vv,hjm,rfl,hP,hown⟩:=hrel
          by_cases hm:m=0
          ·subst hm
           obtain rfl:j=NV:=by omega
           rw [HLV.out] at hP hown
           have hlen:qv.length=j:=by have:=many_len volG j sV;rw [HLV.out] at this;exact this
           have hROW:=row_own (k:=4) (f:=volC) (l:=qv) (by omega) (by omega) (fun x=>rfl) (by rw [hlen];exact hbV) (by rw [hlen];exact hown)
           obtain ⟨wV,hwV⟩:∃ x,x=wr:=⟨_,rfl⟩
           subst hwV
           have HROWV:=Lib.hid (fun (w':World) (h1:OnlyT cb gb 0 wV w')=>(hROW.only h1 (fun b hb _ hk=>by have:=HCLV.out;rcases hk with hk | hk<;>omega)))
           have HUV:=Lib.hid hP.o
           obtain ⟨vV,hvV⟩:∃ x,x=vv:=⟨_,rfl⟩
           subst hvV
           have hP':PIn wV cb gb S #[.int .i64 qa,vF,vP,vW,vO,vV,.int .i64 0,.int .i64 0,.int .i64 0,.int .i64 0,.int .i64 0,.int .i64 0,.slice none 0 0,.slice none 0 0,.string ⟨#[]⟩,.int .i64 0,.int .i64 0] t6 wV:=⟨hP.r,hP.g,Only.refl _ _⟩
           clear hP hown hROW hlen hjm
           have hP:=hP'
           clear hP'
           have hgn:=hP.g
           go_upto_region 40 with (first
            | (go_at_call 69;(with_reducible refine (HC6.out _ hP.r).mono ?_);rintro e w2 ⟨rfl,hr2,ho2⟩;have hP2:=hP.num hr2 ho2 hne;have hbx:=hP2.g;have z1:=cell_of_block hbx 7;have z2:=free_of_block hbx 7;have z3:=lt_of_block hbx)
            | fail)
           obtain ⟨d6,hwm⟩:∃ x,(w2.setCell ⟨gb,7,none⟩ (.int .i64 qx))=x:=⟨_,rfl⟩
           rw [hwm]
           have hP3:PIn wV cb gb S #[.int .i64 qa,vF,vP,vW,vO,vV,.int .i64 0,.int .i64 qx,.int .i64 0,.int .i64 0,.int .i64 0,.int .i64 0,.slice none 0 0,.slice none 0 0,.string ⟨#[]⟩,.int .i64 0,.int .i64 0] t7 d6:=by rw [←hwm];exact hP2.put hne 7 _
           clear hwm hP hP2 hr2 ho2 hbx z1 z2 z3 hgn
           have hP:=hP3
           clear hP3
           have hgn:=hP.g
           go_upto_region 41 with (first
            | (go_at_call 69;(with_reducible refine (HC7.out _ hP.r).mono ?_);rintro e w2 ⟨rfl,hr2,ho2⟩;have hP2:=hP.num hr2 ho2 hne;have hbx:=hP2.g;have z1:=cell_of_block hbx 8;have z2:=free_of_block hbx 8;have z3:=lt_of_block hbx)
            | fail)
           obtain ⟨d7,hwm⟩:∃ x,(w2.setCell ⟨gb,8,none⟩ (.int .i64 qy))=x:=⟨_,rfl⟩
           rw [hwm]
           have hP3:PIn wV cb gb S #[.int .i64 qa,vF,vP,vW,vO,vV,.int .i64 0,.int .i64 qx,.int .i64 qy,.int .i64 0,.int .i64 0,.int .i64 0,.slice none 0 0,.slice none 0 0,.string ⟨#[]⟩,.int .i64 0,.int .i64 0] t8 d7:=by rw [←hwm];exact hP2.put hne 8 _
           clear hwm hP hP2 hr2 ho2 hbx z1 z2 z3 hgn
           have hP:=hP3
           clear hP3
           have hgn:=hP.g
           go_upto_region 42 with (first
            | (go_at_call 69;(with_reducible refine (HC8.out _ hP.r).mono ?_);rintro e w2 ⟨rfl,hr2,ho2⟩;have hP2:=hP.num hr2 ho2 hne;have hbx:=hP2.g;have z1:=cell_of_block hbx 9;have z2:=free_of_block hbx 9;have z3:=lt_of_block hbx)
            | fail)
           obtain ⟨d8,hwm⟩:∃ x,(w2.setCell ⟨gb,9,none⟩ (.int .i64 qz))=x:=⟨_,rfl⟩
           rw [hwm]
           have hP3:PIn wV cb gb S #[.int .i64 qa,vF,vP,vW,vO,vV,.int .i64 0,.int .i64 qx,.int .i64 qy,.int .i64 qz,.int .i64 0,.int .i64 0,.slice none 0 0,.slice none 0 0,.string ⟨#[]⟩,.int .i64 0,.int .i64 0] t9 d8:=by rw [←hwm];exact hP2.put hne 9 _
           clear hwm hP hP2 hr2 ho2 hbx z1 z2 z3 hgn
           have hP:=hP3
           clear hP3
           have hgn:=hP.g
           go_upto_region 43 with (first
            | (go_at_call 69;(with_reducible refine (HC9.out _ hP.r).mono ?_);rintro e w2 ⟨rfl,hr2,ho2⟩;have hP2:=hP.num hr2 ho2 hne;have hbx:=hP2.g;have z1:=cell_of_block hbx 10;have z2:=free_of_block hbx 10;have z3:=lt_of_block hbx)
            | fail)
           obtain ⟨d9,hwm⟩:∃ x,(w2.setCell ⟨gb,10,none⟩ (.int .i64 qbo))=x:=⟨_,rfl⟩
           rw [hwm]
           have hP3:PIn wV cb gb S #[.int .i64 qa,vF,vP,vW,vO,vV,.int .i64 0,.int .i64 qx,.int .i64 qy,.int .i64 qz,.int .i64 qbo,.int .i64 0,.slice none 0 0,.slice none 0 0,.string ⟨#[]⟩,.int .i64 0,.int .i64 0] t10 d9:=by rw [←hwm];exact hP2.put hne 10 _
           clear hwm hP hP2 hr2 ho2 hbx z1 z2 z3 hgn
           have hP:=hP3
           clear hP3
           have hgn:=hP.g
           go_upto_region 44 with (first
            | (go_at_call 69;(with_reducible refine (HC10.out _ hP.r).mono ?_);rintro e w2 ⟨rfl,hr2,ho2⟩;have hP2:=hP.num hr2 ho2 hne;have hbx:=hP2.g;have z1:=cell_of_block hbx 11;have z2:=free_of_block hbx 11;have z3:=lt_of_block hbx)
            | fail)
           obtain ⟨d10,hwm⟩:∃ x,(w2.setCell ⟨gb,11,none⟩ (.int .i64 qsc))=x:=⟨_,rfl⟩
           rw [hwm]
           have hP3:PIn wV cb gb S #[.int .i64 qa,vF,vP,vW,vO,vV,.int .i64 0,.int .i64 qx,.int .i64 qy,.int .i64 qz,.int .i64 qbo,.int .i64 qsc,.slice none 0 0,.slice none 0 0,.string ⟨#[]⟩,.int .i64 0,.int .i64 0] t11 d10:=by rw [←hwm];exact hP2.put hne 11 _
           clear hwm hP hP2 hr2 ho2 hbx z1 z2 z3 hgn
           have hP:=hP3
           clear hP3
           go_wp2_with (first
            | (go_at_call 69;(with_reducible refine (HC11.out _ hP.r).mono ?_);rintro e w2 ⟨rfl,hr2,ho2⟩)
            | fail)
           have hP2:=hP.num hr2 ho2 hne
           have HTR:=Lib.hid hP2.o
           obtain ⟨BR,hBR⟩:∃ x,x=w2:=⟨_,rfl⟩
           subst hBR
           have hPB:PIn BR cb gb S #[.int .i64 qa,vF,vP,vW,vO,vV,.int .i64 0,.int .i64 qx,.int .i64 qy,.int .i64 qz,.int .i64 qbo,.int .i64 qsc,.slice none 0 0,.slice none 0 0,.string ⟨#[]⟩,.int .i64 0,.int .i64 0] sR BR:=⟨hP2.r,hP2.g,Only.refl _ _⟩
           have HCLR:=Lib.hid (And.intro hP2.r.lt (lt_of_block hP2.g))
           clear hP hP2 hr2 ho2
           go_loopw [16] (fun vi wr=>∃ (j m:Nat) (vv:Value),j+m=NR∧vi=.int .i64 (m:Int)∧PIn BR cb gb S #[.int .i64 qa,vF,vP,vW,vO,vV,.int .i64 0,.int .i64 qx,.int .i64 qy,.int .i64 qz,.int .i64 qbo,.int .i64 qsc,vv,.slice none 0 0,.string ⟨#[]⟩,.int .i64 0,.int .i64 0] (many ruG j sR).2 wr∧wr.ownsRow BR.heap.size 53 5 vv j (flatC ruC (many ruG j sR).1)) (fun vi _=>(intOf vi).toNat)
           case atStart=>exact⟨0,NR,.slice none 0 0,by omega,rfl,hPB,⟨rfl,Or.inl ⟨rfl,rfl⟩⟩⟩
           case round=>
            clear hPB
            obtain ⟨j,m,vv,hjm,rfl,hP,hown⟩:=hrel
            by_cases hm:m=0
            ·subst hm
             obtain rfl:j=NR:=by omega
             rw [HLR.out] at hP hown
             have hlen:qr.length=j:=by have:=many_len ruG j sR;rw [HLR.out] at this;exact this
             have hROW:=row_own (k:=5) (f:=ruC) (l:=qr) (by omega) (by omega) (fun x=>rfl) (by rw [hlen];exact hbR) (by rw [hlen];exact hown)
             obtain ⟨wR,hwR⟩:∃ x,x=wr:=⟨_,rfl⟩
             subst hwR
             have HROWR:=Lib.hid (fun (w':World) (h1:OnlyT cb gb 0 wR w')=>(hROW.only h1 (fun b hb _ hk=>by have:=HCLR.out;rcases hk with hk | hk<;>omega)))
             have HUR:=Lib.hid hP.o
             obtain ⟨vR,hvR⟩:∃ x,x=vv:=⟨_,rfl⟩
             subst hvR
             have hP':PIn wR cb gb S #[.int .i64 qa,vF,vP,vW,vO,vV,.int .i64 0,.int .i64 qx,.int .i64 qy,.int .i64 qz,.int .i64 qbo,.int .i64 qsc,vR,.slice none 0 0,.string ⟨#[]⟩,.int .i64 0,.int .i64 0] t12 wR:=⟨hP.r,hP.g,Only.refl _ _⟩
             clear hP hown hROW hlen hjm
             have hP:=hP'
             clear hP'
             go_wp2_with (first
              | (go_at_call 69;(with_reducible refine (HC12.out _ hP.r).mono ?_);rintro e w2 ⟨rfl,hr2,ho2⟩)
              | fail)
             have hP2:=hP.num hr2 ho2 hne
             have HTK:=Lib.hid hP2.o
             obtain ⟨BK,hBK⟩:∃ x,x=w2:=⟨_,rfl⟩
             subst hBK
             have hPB:PIn BK cb gb S #[.int .i64 qa,vF,vP,vW,vO,vV,.int .i64 0,.int .i64 qx,.int .i64 qy,.int .i64 qz,.int .i64 qbo,.int .i64 qsc,vR,.slice none 0 0,.string ⟨#[]⟩,.int .i64 0,.int .i64 0] sK BK:=⟨hP2.r,hP2.g,Only.refl _ _⟩
             have HCLK:=Lib.hid (And.intro hP2.r.lt (lt_of_block hP2.g))
             clear hP hP2 hr2 ho2
             go_loopw [18] (fun vi wr=>∃ (j m:Nat) (vv:Value),j+m=NK∧vi=.int .i64 (m:Int)∧PIn BK cb gb S #[.int .i64 qa,vF,vP,vW,vO,vV,.int .i64 0,.int .i64 qx,.int .i64 qy,.int .i64 qz,.int .i64 qbo,.int .i64 qsc,vR,vv,.string ⟨#[]⟩,.int .i64 0,.int .i64 0] (many getT j sK).2 wr∧wr.ownsRow BK.heap.size 9 1 vv j (flatC keyC (many getT j sK).1)) (fun vi _=>(intOf vi).toNat)
             case atStart=>exact⟨0,NK,.slice none 0 0,by omega,rfl,hPB,⟨rfl,Or.inl ⟨rfl,rfl⟩⟩⟩
             case round=>
              clear hPB
              obtain ⟨j,m,vv,hjm,rfl,hP,hown⟩:=hrel
              by_cases hm:m=0
              ·subst hm
               obtain rfl:j=NK:=by omega
               rw [HLK.out] at hP hown
               have hlen:qk.length=j:=by have:=many_len getT j sK;rw [HLK.out] at this;exact this
               have hROW:=row_own (k:=1) (f:=keyC) (l:=qk) (by omega) (by omega) (fun x=>rfl) (by rw [hlen];exact hbK) (by rw [hlen];exact hown)
               obtain ⟨wK,hwK⟩:∃ x,x=wr:=⟨_,rfl⟩
               subst hwK
               have HROWK:=Lib.hid (fun (w':World) (h1:OnlyT cb gb 0 wK w')=>(hROW.only h1 (fun b hb _ hk=>by have:=HCLK.out;rcases hk with hk | hk<;>omega)))
               have HUK:=Lib.hid hP.o
               obtain ⟨vK,hvK⟩:∃ x,x=vv:=⟨_,rfl⟩
               subst hvK
               have hP':PIn wK cb gb S #[.int .i64 qa,vF,vP,vW,vO,vV,.int .i64 0,.int .i64 qx,.int .i64 qy,.int .i64 qz,.int .i64 qbo,.int .i64 qsc,vR,vK,.string ⟨#[]⟩,.int .i64 0,.int .i64 0] t13 wK:=⟨hP.r,hP.g,Only.refl _ _⟩
               clear hP hown hROW hlen hjm
               have hP:=hP'
               clear hP'
               have hgn:=hP.g
               go_upto_region 58 with (first
                | (go_at_call 70;(with_reducible refine (HC13.out _ hP.r).mono ?_);rintro e w2 ⟨rfl,hr2,ho2⟩;have hP2:=hP.num hr2 ho2 hne;have hbx:=hP2.g;have z1:=cell_of_block hbx 14;have z2:=free_of_block hbx 14;have z3:=lt_of_block hbx)
                | fail)
               obtain ⟨d13,hwm⟩:∃ x,(w2.setCell ⟨gb,14,none⟩ (.string ql))=x:=⟨_,rfl⟩
               rw [hwm]
               have hP3:PIn wK cb gb S #[.int .i64 qa,vF,vP,vW,vO,vV,.int .i64 0,.int .i64 qx,.int .i64 qy,.int .i64 qz,.int .i64 qbo,.int .i64 qsc,vR,vK,.string ql,.int .i64 0,.int .i64 0] t14 d13:=by rw [←hwm];exact hP2.put hne 14 _
               clear hwm hP hP2 hr2 ho2 hbx z1 z2 z3 hgn
               have hP:=hP3
               clear hP3
               have hgn:=hP.g
               go_upto_region 59 with (first
                | (go_at_call 69;(with_reducible refine (HC14.out _ hP.r).mono ?_);rintro e w2 ⟨rfl,hr2,ho2⟩;have hP2:=hP.num hr2 ho2 hne;have hbx:=hP2.g;have z1:=cell_of_block hbx 15;have z2:=free_of_block hbx 15;have z3:=lt_of_block hbx)
                | fail)
               obtain ⟨d14,hwm⟩:∃ x,(w2.setCell ⟨gb,15,none⟩ (.int .i64 qm))=x:=⟨_,rfl⟩
               rw [hwm]
               have hP3:PIn wK cb gb S #[.int .i64 qa,vF,vP,vW,vO,vV,.int .i64 0,.int .i64 qx,.int .i64 qy,.int .i64 qz,.int .i64 qbo,.int .i64 qsc,vR,vK,.string ql,.int .i64 qm,.int .i64 0] t15 d14:=by rw [←hwm];exact hP2.put hne 15 _
               clear hwm hP hP2 hr2 ho2 hbx z1 z2 z3 hgn
               have hP:=hP3
               clear hP3
               have hgn:=hP.g
               go_upto_region 60 with (first
                | (go_at_call 69;(with_reducible refine (HC15.out _ hP.r).mono ?_);rintro e w2 ⟨rfl,hr2,ho2⟩;have hP2:=hP.num hr2 ho2 hne;have hbx:=hP2.g;have z1:=cell_of_block hbx 16;have z2:=free_of_block hbx 16;have z3:=lt_of_block hbx)
                | fail)
               obtain ⟨d15,hwm⟩:∃ x,(w2.setCell ⟨gb,16,none⟩ (.int .i64 qn))=x:=⟨_,rfl⟩
               rw [hwm]
               have hP3:PIn wK cb gb S #[.int .i64 qa,vF,vP,vW,vO,vV,.int .i64 0,.int .i64 qx,.int .i64 qy,.int .i64 qz,.int .i64 qbo,.int .i64 qsc,vR,vK,.string ql,.int .i64 qm,.int .i64 qn] t16 d15:=by rw [←hwm];exact hP2.put hne 16 _
               clear hwm hP hP2 hr2 ho2 hbx z1 z2 z3 hgn
               have hP:=hP3
               clear hP3
               have hTK:=hP.o
               have hTR:=(HTK.out.then HUK.out).then hTK
               have hTV:=(HTR.out.then HUR.out).then hTR
               have hTO:=(HTV.out.then HUV.out).then hTV
               have hTW:=(HTO.out.then HUO.out).then hTO
               have hTP:=(HTW.out.then HUW.out).then hTW
               have hTF:=(HTP.out.then HUP.out).then hTP
               have hTA:=(HTF.out.then HUF.out).then hTF
               obtain ⟨aF,pF,evF⟩:=(HROWF.out _ hTF).val
               obtain ⟨aP,pP,evP⟩:=(HROWP.out _ hTP).val
               obtain ⟨aW,pW,evW⟩:=(HROWW.out _ hTW).val
               obtain ⟨aO,pO,evO⟩:=(HROWO.out _ hTO).val
               obtain ⟨aV,pV,evV⟩:=(HROWV.out _ hTV).val
               obtain ⟨aR,pR,evR⟩:=(HROWR.out _ hTR).val
               obtain ⟨aK,pK,evK⟩:=(HROWK.out _ hTK).val
               have HWF:=Lib.hid (fun (D:Array Value)=>(((HROWF.out _ hTF).only (show Only (fun q=>q=rp) d15 (d15.setRow rp D) from Only.setRow (Only.refl (fun q=>q=rp) d15) (.inl rfl) D) (fun b hb _ hk=>by have:=HCLF.out;have:=HCR.out;omega)).row))
               have HWP:=Lib.hid (fun (D:Array Value)=>(((HROWP.out _ hTP).only (show Only (fun q=>q=rp) d15 (d15.setRow rp D) from Only.setRow (Only.refl (fun q=>q=rp) d15) (.inl rfl) D) (fun b hb _ hk=>by have:=HCLP.out;have:=HCR.out;omega)).row))
               have HWW:=Lib.hid (fun (D:Array Value)=>(((HROWW.out _ hTW).only (show Only (fun q=>q=rp) d15 (d15.setRow rp D) from Only.setRow (Only.refl (fun q=>q=rp) d15) (.inl rfl) D) (fun b hb _ hk=>by have:=HCLW.out;have:=HCR.out;omega)).row))
               have HWO:=Lib.hid (fun (D:Array Value)=>(((HROWO.out _ hTO).only (show Only (fun q=>q=rp) d15 (d15.setRow rp D) from Only.setRow (Only.refl (fun q=>q=rp) d15) (.inl rfl) D) (fun b hb _ hk=>by have:=HCLO.out;have:=HCR.out;omega)).row))
               have HWV:=Lib.hid (fun (D:Array Value)=>(((HROWV.out _ hTV).only (show Only (fun q=>q=rp) d15 (d15.setRow rp D) from Only.setRow (Only.refl (fun q=>q=rp) d15) (.inl rfl) D) (fun b hb _ hk=>by have:=HCLV.out;have:=HCR.out;omega)).row))
               have HWR:=Lib.hid (fun (D:Array Value)=>(((HROWR.out _ hTR).only (show Only (fun q=>q=rp) d15 (d15.setRow rp D) from Only.setRow (Only.refl (fun q=>q=rp) d15) (.inl rfl) D) (fun b hb _ hk=>by have:=HCLR.out;have:=HCR.out;omega)).row))
               have HWK:=Lib.hid (fun (D:Array Value)=>(((HROWK.out _ hTK).only (show Only (fun q=>q=rp) d15 (d15.setRow rp D) from Only.setRow (Only.refl (fun q=>q=rp) d15) (.inl rfl) D) (fun b hb _ hk=>by have:=HCLK.out;have:=HCR.out;omega)).row))
               have HGD:=Lib.hid (HGZ.out _ hTA)
               have HLD:=Lib.hid (HLQQ.out _ hTA)
               have HBD:=Lib.hid hP.g
               obtain ⟨C,hC⟩:∃ C:Array Value,#[.int .i64 qa,vF,vP,vW,vO,vV,.int .i64 0,.int .i64 qx,.int .i64 qy,.int .i64 qz,.int .i64 qbo,.int .i64 qsc,vR,vK,.string ql,.int .i64 qm,.int .i64 qn]=C:=⟨_,rfl⟩
               rw [hC] at HBD
               have HCC:=Lib.hid hC
               have HC17:=Lib.hid (show (Tryz.prog.info? 32).map (·.size)=some C.size by rw [←hC];exact info_cfg)
               have HZ17:=Lib.hid (show (Tryz.prog.info? 32).map (·.size)=some ZC.size by rw [zc_size];exact info_cfg)
               have HCZ:=Lib.hid (show C.size=ZC.size by rw [zc_size,←hC];first | done | rfl)
               have HC1:=Lib.hid (show C.all (·.oneCell')=true by rw [←hC,evF,evP,evW,evO,evV,evR,evK];simp [Value.oneCell'])
               have HZ1:=Lib.hid (show ZC.all (·.oneCell')=true by unfold ZC;simp [Value.oneCell'])
               obtain ⟨i,f,hca,hi,hst⟩:=hP.r
               obtain ⟨h0,h1,h2,h3,h4⟩:=hca.cells
               clear hC evF evP evW evO evV evR evK hTF hTP hTW hTO hTV hTR hTK hTA hP hca
               have hzc:=HZC.out
               rcases hst with ⟨rfl,rfl⟩ | ⟨rfl,rfl⟩
               ·have HN:=Lib.hid (doc_no HMG.out HT0.out HG.out (by simp))
                go_wp2_with (first
                 | refine wpList_store_row rfl 32 (.tmp 2) (.tmp 220) rfl rp ZC rfl rfl 32 ZC HGD.out HZ17.out rfl HZ1.out ?_
                 | fail)
                refine bodyPost_ret (cresults_ct rfl _ _ _ rp 32 ZC (0,0) _ rfl (setRow_heap _ _ _ _ _ _ HGD.out) Tryz.underlying32 HZ17.out) rfl ?_
                rw [←HPT.out]
                refine⟨zeroCs,?_,?_,?_⟩
                ·have e1:(if parseC S.data.toList=none then (110:Int) else 0)=110:=by rw [HN.out];rfl
                 rw [e1]
                 exact tup2 rfl
                ·rw [HN.out];exact zero_in _
                ·exact below_setRow HLD.out (by have:=HRP.out;omega) _
               ·by_cases he:i=S.size
                ·have HN:=Lib.hid (doc_yes HMG.out HT0.out HG.out (by rw [he,←baList,List.drop_length]))
                 have hq:((i:Int) != (S.size:Int))=false:=by rw [he];simp
                 clear he hi hzc
                 go_wp2_with (first
                  | refine wpList_load_row rfl 32 (.tmp 5) rfl gb rfl 32 C (0,0) _ HBD.out Tryz.underlying32 rfl HC17.out ?_
                  | refine wpList_store_row rfl 32 (.tmp 2) (.tmp 221) rfl rp C rfl rfl 32 ZC HGD.out HC17.out HCZ.out.symm HC1.out ?_
                  | fail)
                 refine bodyPost_ret (cresults_ct rfl _ _ _ rp 32 C (0,0) _ rfl (setRow_heap _ _ _ _ _ _ HGD.out) Tryz.underlying32 HC17.out) rfl ?_
                 rw [←HPT.out]
                 refine⟨[.int .i64 qa,vF,vP,vW,vO,vV,.int .i64 0,.int .i64 qx,.int .i64 qy,.int .i64 qz,.int .i64 qbo,.int .i64 qsc,vR,vK,.string ql,.int .i64 qm,.int .i64 qn],?_,?_,?_⟩
                 ·have e1:(if parseC S.data.toList=none then (110:Int) else 0)=0:=by rw [HN.out];rfl
                  rw [e1,←HCC.out]
                  exact tup2 rfl
                 ·rw [HN.out]
                  exact⟨⟨vF,vP,vW,vO,vV,vR,vK,rfl,HWF.out _,HWP.out _,HWW.out _,HWO.out _,HWV.out _,HWR.out _,HWK.out _⟩⟩
                 ·exact below_setRow HLD.out (by have:=HRP.out;omega) _
                ·have HN:=Lib.hid (doc_no HMG.out HT0.out HG.out (by
                  intro e
                  have e2:=congrArg List.length (Option.some.inj e)
                  rw [drop_len] at e2
                  simp at e2
                  omega))
                 have hq:((i:Int) != (S.size:Int))=true:=by simp;omega
                 clear he hi
                 go_wp2_with (first
                  | refine wpList_store_row rfl 32 (.tmp 2) (.tmp 220) rfl rp ZC rfl rfl 32 ZC HGD.out HZ17.out rfl HZ1.out ?_
                  | fail)
                 refine bodyPost_ret (cresults_ct rfl _ _ _ rp 32 ZC (0,0) _ rfl (setRow_heap _ _ _ _ _ _ HGD.out) Tryz.underlying32 HZ17.out) rfl ?_
                 rw [←HPT.out]
                 refine⟨zeroCs,?_,?_,?_⟩
                 ·have e1:(if parseC S.data.toList=none then (110:Int) else 0)=110:=by rw [HN.out];rfl
                  rw [e1]
                  exact tup2 rfl
                 ·rw [HN.out];exact zero_in _
                 ·exact below_setRow HLD.out (by have:=HRP.out;omega) _
              ·obtain ⟨m,rfl⟩:∃ q,m=q+1:=⟨m - 1,by omega⟩
               have hms:=many_snoc getT j sK
               have m0:=NMK.out j (by omega)
               obtain ⟨s,hs⟩:∃ s,(many getT j sK).2=s:=⟨_,rfl⟩
               obtain ⟨l,hl⟩:∃ l,(many getT j sK).1=l:=⟨_,rfl⟩
               rw [hs] at hP hms m0
               rw [hl] at hown hms
               clear hs hl
               obtain ⟨x1,e1⟩:∃ y,(getT s).1=y:=⟨_,rfl⟩
               obtain ⟨r1,f1⟩:∃ y,(getT s).2=y:=⟨_,rfl⟩
               have m1:=Near.getT m0
               rw [f1] at m1
               have HX1:=Lib.hid (fun w' (h:CIn w' cb S s)=>rctext_any w' cb S s h (m0.mono (by omega)))
               rw [e1,f1] at HX1
               have hge:getT s=(x1,r1):=by rw [←e1,←f1]
               rw [hge] at hms
               have HMS:=Lib.hid hms
               have HOW:=Lib.hid hown
               have HP:=Lib.hid hP
               have hcin:=HP.out.r
               have hg0:=HP.out.g
               have hgr:=lt_of_block hg0
               have hbs:=HP.out.o.size
               have hcr:=hcin.lt
               clear hms hown hP hge e1 f1 m1 m0
               obtain ⟨iE,hiE,hz0,hz1,hz2⟩:=info_parts inf3_key
               have hj255:j≤255:=by have:=hbK;omega
               go_upto_region 56 with fail
               have c1:=cell_of_block hg0 13
               have hr1d:CIn wr.drew cb S s:=hcin
               clear hg0
               go_region_law (first
                | (go_simp;go_at_call 70;(with_reducible refine (HX1.out _ hr1d).mono ?_);rintro e w3 ⟨rfl,hr3,ho3⟩;have HRX:=Lib.hid hr3;have HOX:=Lib.hid (((Only.refl _ wr).drew).thenP ho3);have hgx:=(HOX.out.block gb hgr hne).trans (HP.out.g);have c3:=cell_of_block hgx 13;have c4:=cell_of_block (alloc_old hgx (.cells #[.string x1] 9)) 13;have HO2:=Lib.hid (own_num HOW.out HOX.out HCLK.out.1);have hsz3:=HOX.out.size;clear hr3 ho3 hgx)
                | (refine step_append_own rfl _ _ 30 rfl BK.heap.size 9 iE (.string ⟨#[]⟩) 1 16 Tryz.underlying30 hiE hz0 hz1 hz2 rfl (by decide) vv j (flatC keyC l) rfl (HO2.out.alloc _) ⟨w3.heap.size,0,none⟩ 1 1 [.string x1] rfl rfl (cells_new w3 [.string x1] 9) (by intro u hu;rw [List.mem_singleton.1 hu];rfl) (by unfold maxLen;omega) (by omega) (by rw [World.size_alloc];omega) ?_;intro v' w5 hown1 hgrow1 _;obtain ⟨g',cap',rfl,hcap1,hcap2⟩:=ownsRow_pos hown1 (by omega);have gz:=(HP.out.round HOX.out HRX.out hgrow1 (fun q hq=>(HO2.out.lt q hq).1) HCLK.out.1 HCLK.out.2 hne 13 (.slice (some ⟨g',0,none⟩) (j+1) cap')).2;have z1:=cell_of_block gz 13;have z2:=free_of_block gz 13;have z3:=lt_of_block gz;clear gz)
                | fail)
               all_goals
                go_wp2_with fail
                have hPR:=HP.out.round HOX.out HRX.out hgrow1 (fun q hq=>(HO2.out.lt q hq).1) HCLK.out.1 HCLK.out.2 hne 13 (.slice (some ⟨g',0,none⟩) (j+1) cap')
                refine⟨⟨j+1,m,.slice (some ⟨g',0,none⟩) (j+1) cap',by omega,by simp,?_,?_⟩,by simp only [intOf];omega⟩
                ·rw [HMS.out];exact hPR.1
                ·rw [HMS.out,flatC_snoc];exact own_put hown1 HCLK.out.2 _ _
            ·obtain ⟨m,rfl⟩:∃ q,m=q+1:=⟨m - 1,by omega⟩
             have hms:=many_snoc ruG j sR
             have m0:=NMR.out j (by omega)
             obtain ⟨s,hs⟩:∃ s,(many ruG j sR).2=s:=⟨_,rfl⟩
             obtain ⟨l,hl⟩:∃ l,(many ruG j sR).1=l:=⟨_,rfl⟩
             rw [hs] at hP hms m0
             rw [hl] at hown hms
             clear hs hl
             obtain ⟨x1,e1⟩:∃ y,(getN 1 s).1=y:=⟨_,rfl⟩
             obtain ⟨r1,f1⟩:∃ y,(getN 1 s).2=y:=⟨_,rfl⟩
             have m1:=Near.getN (k:=1) m0
             rw [f1] at m1
             have HX1:=Lib.hid (fun w' (h:CIn w' cb S s)=>rcnum_any w' cb S s h (m0.mono (by omega)) 1 1 rfl (by omega))
             rw [e1,f1] at HX1
             obtain ⟨x2,e2⟩:∃ y,(getN 1 r1).1=y:=⟨_,rfl⟩
             obtain ⟨r2,f2⟩:∃ y,(getN 1 r1).2=y:=⟨_,rfl⟩
             have m2:=Near.getN (k:=1) m1
             rw [f2] at m2
             have HX2:=Lib.hid (fun w' (h:CIn w' cb S r1)=>rcnum_any w' cb S r1 h (m1.mono (by omega)) 1 1 rfl (by omega))
             rw [e2,f2] at HX2
             obtain ⟨x3,e3⟩:∃ y,(getN 1 r2).1=y:=⟨_,rfl⟩
             obtain ⟨r3,f3⟩:∃ y,(getN 1 r2).2=y:=⟨_,rfl⟩
             have m3:=Near.getN (k:=1) m2
             rw [f3] at m3
             have HX3:=Lib.hid (fun w' (h:CIn w' cb S r2)=>rcnum_any w' cb S r2 h (m2.mono (by omega)) 1 1 rfl (by omega))
             rw [e3,f3] at HX3
             obtain ⟨x4,e4⟩:∃ y,(getT r3).1=y:=⟨_,rfl⟩
             obtain ⟨r4,f4⟩:∃ y,(getT r3).2=y:=⟨_,rfl⟩
             have m4:=Near.getT m3
             rw [f4] at m4
             have HX4:=Lib.hid (fun w' (h:CIn w' cb S r3)=>rctext_any w' cb S r3 h (m3.mono (by omega)))
             rw [e4,f4] at HX4
             obtain ⟨x5,e5⟩:∃ y,(getT r4).1=y:=⟨_,rfl⟩
             obtain ⟨r5,f5⟩:∃ y,(getT r4).2=y:=⟨_,rfl⟩
             have m5:=Near.getT m4
             rw [f5] at m5
             have HX5:=Lib.hid (fun w' (h:CIn w' cb S r4)=>rctext_any w' cb S r4 h (m4.mono (by omega)))
             rw [e5,f5] at HX5
             have hge:ruG s=(⟨x1,x2,x3,x4,x5⟩,r5):=by simp only [ruG,e1,f1,e2,f2,e3,f3,e4,f4,e5,f5]
             rw [hge] at hms
             have HMS:=Lib.hid hms
             have HOW:=Lib.hid hown
             have HP:=Lib.hid hP
             have hcin:=HP.out.r
             have hg0:=HP.out.g
             have hgr:=lt_of_block hg0
             have hbs:=HP.out.o.size
             have hcr:=hcin.lt
             clear hms hown hP hge e1 f1 m1 e2 f2 m2 e3 f3 m3 e4 f4 m4 e5 f5 m5 m0
             obtain ⟨iE,hiE,hz0,hz1,hz2⟩:=info_parts inf3_ru
             have hj255:j≤255:=by have:=hbR;omega
             go_upto_region 48 with (first
              | (go_at_call 69;(with_reducible refine (HX1.out _ hcin).mono ?_);rintro e w1 ⟨rfl,hr1,ho1⟩)
              | fail)
             obtain ⟨bx,hbx⟩:∃ b,w1.heap.size=b:=⟨_,rfl⟩
             rw [hbx]
             obtain ⟨y1,hy1⟩:∃ y,w1.alloc (.cells #[.int .i64 x1,.int .i64 0,.int .i64 0,.string ⟨#[]⟩,.string ⟨#[]⟩] 53)=y:=⟨_,rfl⟩
             rw [hy1]
             have hbb:y1.heap[bx]?=some (.cells #[.int .i64 x1,.int .i64 0,.int .i64 0,.string ⟨#[]⟩,.string ⟨#[]⟩] 53 (0,0)):=by rw [←hy1];exact alloc_at hbx
             have hrr:CIn y1 cb S r1:=by rw [←hy1];exact hr1.later ((Later.refl w1).alloc _)
             have hoo:OnlyP cb wr y1:=by rw [←hy1];exact ho1.alloc _
             have hbw:wr.heap.size≤bx:=by have:=ho1.size;omega
             have hbc:¬ bx=cb:=by omega
             clear hy1 hbx hr1 ho1 hcin hg0
             go_upto_region 49 with (first
              | (go_at_call 69;(with_reducible refine (HX2.out _ hrr).mono ?_);rintro e w2 ⟨rfl,hrn,hon⟩;have hbn:=(hon.block bx (lt_of_block hbb) hbc).trans hbb;have z1:=cell_of_block hbn 1;have z2:=free_of_block hbn 1;have z3:=lt_of_block hbn)
              | fail)
             obtain ⟨y2,hwm⟩:∃ y,w2.setCell ⟨bx,1,none⟩ (.int .i64 x2)=y:=⟨_,rfl⟩
             rw [hwm]
             have hbb':y2.heap[bx]?=some (.cells #[.int .i64 x1,.int .i64 x2,.int .i64 0,.string ⟨#[]⟩,.string ⟨#[]⟩] 53 (0,0)):=by rw [←hwm];exact (setCell_block hbn 1 _).trans rfl
             have hrr':CIn y2 cb S r2:=by rw [←hwm];exact hrn.put hbc 1 _
             have hoo':OnlyP cb wr y2:=by rw [←hwm];exact (hoo.thenP hon).setCell (.inr hbw) _
             clear hwm hbb hrr hoo hrn hon hbn z1 z2 z3
             have hbb:=hbb'
             have hrr:=hrr'
             have hoo:=hoo'
             clear hbb' hrr' hoo'
             go_upto_region 50 with (first
              | (go_at_call 69;(with_reducible refine (HX3.out _ hrr).mono ?_);rintro e w3 ⟨rfl,hrn,hon⟩;have hbn:=(hon.block bx (lt_of_block hbb) hbc).trans hbb;have z1:=cell_of_block hbn 2;have z2:=free_of_block hbn 2;have z3:=lt_of_block hbn)
              | fail)
             obtain ⟨y3,hwm⟩:∃ y,w3.setCell ⟨bx,2,none⟩ (.int .i64 x3)=y:=⟨_,rfl⟩
             rw [hwm]
             have hbb':y3.heap[bx]?=some (.cells #[.int .i64 x1,.int .i64 x2,.int .i64 x3,.string ⟨#[]⟩,.string ⟨#[]⟩] 53 (0,0)):=by rw [←hwm];exact (setCell_block hbn 2 _).trans rfl
             have hrr':CIn y3 cb S r3:=by rw [←hwm];exact hrn.put hbc 2 _
             have hoo':OnlyP cb wr y3:=by rw [←hwm];exact (hoo.thenP hon).setCell (.inr hbw) _
             clear hwm hbb hrr hoo hrn hon hbn z1 z2 z3
             have hbb:=hbb'
             have hrr:=hrr'
             have hoo:=hoo'
             clear hbb' hrr' hoo'
             go_upto_region 51 with (first
              | (go_at_call 70;(with_reducible refine (HX4.out _ hrr).mono ?_);rintro e w4 ⟨rfl,hrn,hon⟩;have hbn:=(hon.block bx (lt_of_block hbb) hbc).trans hbb;have z1:=cell_of_block hbn 3;have z2:=free_of_block hbn 3;have z3:=lt_of_block hbn)
              | fail)
             obtain ⟨y4,hwm⟩:∃ y,w4.setCell ⟨bx,3,none⟩ (.string x4)=y:=⟨_,rfl⟩
             rw [hwm]
             have hbb':y4.heap[bx]?=some (.cells #[.int .i64 x1,.int .i64 x2,.int .i64 x3,.string x4,.string ⟨#[]⟩] 53 (0,0)):=by rw [←hwm];exact (setCell_block hbn 3 _).trans rfl
             have hrr':CIn y4 cb S r4:=by rw [←hwm];exact hrn.put hbc 3 _
             have hoo':OnlyP cb wr y4:=by rw [←hwm];exact (hoo.thenP hon).setCell (.inr hbw) _
             clear hwm hbb hrr hoo hrn hon hbn z1 z2 z3
             have hbb:=hbb'
             have hrr:=hrr'
             have hoo:=hoo'
             clear hbb' hrr' hoo'
             go_upto_region 52 with (first
              | (go_at_call 70;(with_reducible refine (HX5.out _ hrr).mono ?_);rintro e w5 ⟨rfl,hrn,hon⟩;have hbn:=(hon.block bx (lt_of_block hbb) hbc).trans hbb;have z1:=cell_of_block hbn 4;have z2:=free_of_block hbn 4;have z3:=lt_of_block hbn)
              | fail)
             obtain ⟨y5,hwm⟩:∃ y,w5.setCell ⟨bx,4,none⟩ (.string x5)=y:=⟨_,rfl⟩
             rw [hwm]
             have hbb':y5.heap[bx]?=some (.cells #[.int .i64 x1,.int .i64 x2,.int .i64 x3,.string x4,.string x5] 53 (0,0)):=by rw [←hwm];exact (setCell_block hbn 4 _).trans rfl
             have hrr':CIn y5 cb S r5:=by rw [←hwm];exact hrn.put hbc 4 _
             have hoo':OnlyP cb wr y5:=by rw [←hwm];exact (hoo.thenP hon).setCell (.inr hbw) _
             clear hwm hbb hrr hoo hrn hon hbn z1 z2 z3
             have hbb:=hbb'
             have hrr:=hrr'
             have hoo:=hoo'
             clear hbb' hrr' hoo'
             have HRX:=Lib.hid hrr
             have HOX:=Lib.hid hoo
             have hgx:=(HOX.out.block gb hgr hne).trans (HP.out.g)
             have c3:=cell_of_block hgx 12
             have HO2:=Lib.hid (own_num HOW.out HOX.out HCLR.out.1)
             have hsz3:=HOX.out.size
             have k0:=cell_of_block hbb 0
             have k1:=cell_of_block hbb 1
             have k2:=cell_of_block hbb 2
             have k3:=cell_of_block hbb 3
             have k4:=cell_of_block hbb 4
             clear hgx hbb hrr hoo
             go_wp2_with (first
              | (at_builtin;refine wpList_append_own _ rfl (.tmp 180) (.tmp 182) 29 rfl BR.heap.size 53 iE (.agg #[.int .i64 0,.int .i64 0,.int .i64 0,.string ⟨#[]⟩,.string ⟨#[]⟩]) 5 56 Tryz.underlying29 hiE hz0 hz1 hz2 rfl (by decide) _ _ _ rfl (HO2.out.alloc _) ⟨y5.heap.size,0,none⟩ 1 1 [.int .i64 x1,.int .i64 x2,.int .i64 x3,.string x4,.string x5] rfl rfl (cells_newC y5 [.int .i64 x1,.int .i64 x2,.int .i64 x3,.string x4,.string x5] 53) (by intro u hu;simp only [List.mem_cons,List.not_mem_nil,or_false] at hu;(repeat' (rcases hu with hu | hu))<;>(subst_vars;rfl)) (by unfold maxLen;omega) (by omega) (by rw [World.size_alloc];omega) ?_;intro v' w5 hown1 hgrow1 _;obtain ⟨g',cap',rfl,hcap1,hcap2⟩:=ownsRow_pos hown1 (by omega);have gz:=(HP.out.round HOX.out HRX.out hgrow1 (fun q hq=>(HO2.out.lt q hq).1) HCLR.out.1 HCLR.out.2 hne 12 (.slice (some ⟨g',0,none⟩) (j+1) cap')).2;have z1:=cell_of_block gz 12;have z2:=free_of_block gz 12;have z3:=lt_of_block gz;clear gz)
              | fail)
             have hPR:=HP.out.round HOX.out HRX.out hgrow1 (fun q hq=>(HO2.out.lt q hq).1) HCLR.out.1 HCLR.out.2 hne 12 (.slice (some ⟨g',0,none⟩) (j+1) cap')
             refine⟨⟨j+1,m,.slice (some ⟨g',0,none⟩) (j+1) cap',by omega,by simp,?_,?_⟩,by simp only [intOf];omega⟩
             ·rw [HMS.out];exact hPR.1
             ·rw [HMS.out,flatC_snoc];exact own_put hown1 HCLR.out.2 _ _
          ·obtain ⟨m,rfl⟩:∃ q,m=q+1:=⟨m - 1,by omega⟩
           have hms:=many_snoc volG j sV
           have m0:=NMV.out j (by omega)
           obtain ⟨s,hs⟩:∃ s,(many volG j sV).2=s:=⟨_,rfl⟩
           obtain ⟨l,hl⟩:∃ l,(many volG j sV).1=l:=⟨_,rfl⟩
           rw [hs] at hP hms m0
           rw [hl] at hown hms
           clear hs hl
           obtain ⟨x1,e1⟩:∃ y,(getN 1 s).1=y:=⟨_,rfl⟩
           obtain ⟨r1,f1⟩:∃ y,(getN 1 s).2=y:=⟨_,rfl⟩
           have m1:=Near.getN (k:=1) m0
           rw [f1] at m1
           have HX1:=Lib.hid (fun w' (h:CIn w' cb S s)=>rcnum_any w' cb S s h (m0.mono (by omega)) 1 1 rfl (by omega))
           rw [e1,f1] at HX1
           obtain ⟨x2,e2⟩:∃ y,(getN 2 r1).1=y:=⟨_,rfl⟩
           obtain ⟨r2,f2⟩:∃ y,(getN 2 r1).2=y:=⟨_,rfl⟩
           have m2:=Near.getN (k:=2) m1
           rw [f2] at m2
           have HX2:=Lib.hid (fun w' (h:CIn w' cb S r1)=>rcnum_any w' cb S r1 h (m1.mono (by omega)) 2 2 rfl (by omega))
           rw [e2,f2] at HX2
           obtain ⟨x3,e3⟩:∃ y,(getN 2 r2).1=y:=⟨_,rfl⟩
           obtain ⟨r3,f3⟩:∃ y,(getN 2 r2).2=y:=⟨_,rfl⟩
           have m3:=Near.getN (k:=2) m2
           rw [f3] at m3
           have HX3:=Lib.hid (fun w' (h:CIn w' cb S r2)=>rcnum_any w' cb S r2 h (m2.mono (by omega)) 2 2 rfl (by omega))
           rw [e3,f3] at HX3
           obtain ⟨x4,e4⟩:∃ y,(getN 2 r3).1=y:=⟨_,rfl⟩
           obtain ⟨r4,f4⟩:∃ y,(getN 2 r3).2=y:=⟨_,rfl⟩
           have m4:=Near.getN (k:=2) m3
           rw [f4] at m4
           have HX4:=Lib.hid (fun w' (h:CIn w' cb S r3)=>rcnum_any w' cb S r3 h (m3.mono (by omega)) 2 2 rfl (by omega))
           rw [e4,f4] at HX4
           have hge:volG s=(⟨x1,x2,x3,x4⟩,r4):=by simp only [volG,e1,f1,e2,f2,e3,f3,e4,f4]
           rw [hge] at hms
           have HMS:=Lib.hid hms
           have HOW:=Lib.hid hown
           have HP:=Lib.hid hP
           have hcin:=HP.out.r
           have hg0:=HP.out.g
           have hgr:=lt_of_block hg0
           have hbs:=HP.out.o.size
           have hcr:=hcin.lt
           clear hms hown hP hge e1 f1 m1 e2 f2 m2 e3 f3 m3 e4 f4 m4 m0
           obtain ⟨iE,hiE,hz0,hz1,hz2⟩:=info_parts inf3_vol
           have hj255:j≤255:=by have:=hbV;omega
           go_upto_region 35 with (first
            | (go_at_call 69;(with_reducible refine (HX1.out _ hcin).mono ?_);rintro e w1 ⟨rfl,hr1,ho1⟩)
            | fail)
           obtain ⟨bx,hbx⟩:∃ b,w1.heap.size=b:=⟨_,rfl⟩
           rw [hbx]
           obtain ⟨y1,hy1⟩:∃ y,w1.alloc (.cells #[.int .i64 x1,.int .i64 0,.int .i64 0,.int .i64 0] 28)=y:=⟨_,rfl⟩
           rw [hy1]
           have hbb:y1.heap[bx]?=some (.cells #[.int .i64 x1,.int .i64 0,.int .i64 0,.int .i64 0] 28 (0,0)):=by rw [←hy1];exact alloc_at hbx
           have hrr:CIn y1 cb S r1:=by rw [←hy1];exact hr1.later ((Later.refl w1).alloc _)
           have hoo:OnlyP cb wr y1:=by rw [←hy1];exact ho1.alloc _
           have hbw:wr.heap.size≤bx:=by have:=ho1.size;omega
           have hbc:¬ bx=cb:=by omega
           clear hy1 hbx hr1 ho1 hcin hg0
           go_upto_region 36 with (first
            | (go_at_call 69;(with_reducible refine (HX2.out _ hrr).mono ?_);rintro e w2 ⟨rfl,hrn,hon⟩;have hbn:=(hon.block bx (lt_of_block hbb) hbc).trans hbb;have z1:=cell_of_block hbn 1;have z2:=free_of_block hbn 1;have z3:=lt_of_block hbn)
            | fail)
           obtain ⟨y2,hwm⟩:∃ y,w2.setCell ⟨bx,1,none⟩ (.int .i64 x2)=y:=⟨_,rfl⟩
           rw [hwm]
           have hbb':y2.heap[bx]?=some (.cells #[.int .i64 x1,.int .i64 x2,.int .i64 0,.int .i64 0] 28 (0,0)):=by rw [←hwm];exact (setCell_block hbn 1 _).trans rfl
           have hrr':CIn y2 cb S r2:=by rw [←hwm];exact hrn.put hbc 1 _
           have hoo':OnlyP cb wr y2:=by rw [←hwm];exact (hoo.thenP hon).setCell (.inr hbw) _
           clear hwm hbb hrr hoo hrn hon hbn z1 z2 z3
           have hbb:=hbb'
           have hrr:=hrr'
           have hoo:=hoo'
           clear hbb' hrr' hoo'
           go_upto_region 37 with (first
            | (go_at_call 69;(with_reducible refine (HX3.out _ hrr).mono ?_);rintro e w3 ⟨rfl,hrn,hon⟩;have hbn:=(hon.block bx (lt_of_block hbb) hbc).trans hbb;have z1:=cell_of_block hbn 2;have z2:=free_of_block hbn 2;have z3:=lt_of_block hbn)
            | fail)
           obtain ⟨y3,hwm⟩:∃ y,w3.setCell ⟨bx,2,none⟩ (.int .i64 x3)=y:=⟨_,rfl⟩
           rw [hwm]
           have hbb':y3.heap[bx]?=some (.cells #[.int .i64 x1,.int .i64 x2,.int .i64 x3,.int .i64 0] 28 (0,0)):=by rw [←hwm];exact (setCell_block hbn 2 _).trans rfl
           have hrr':CIn y3 cb S r3:=by rw [←hwm];exact hrn.put hbc 2 _
           have hoo':OnlyP cb wr y3:=by rw [←hwm];exact (hoo.thenP hon).setCell (.inr hbw) _
           clear hwm hbb hrr hoo hrn hon hbn z1 z2 z3
           have hbb:=hbb'
           have hrr:=hrr'
           have hoo:=hoo'
           clear hbb' hrr' hoo'
           go_upto_region 38 with (first
            | (go_at_call 69;(with_reducible refine (HX4.out _ hrr).mono ?_);rintro e w4 ⟨rfl,hrn,hon⟩;have hbn:=(hon.block bx (lt_of_block hbb) hbc).trans hbb;have z1:=cell_of_block hbn 3;have z2:=free_of_block hbn 3;have z3:=lt_of_block hbn)
            | fail)
           obtain ⟨y4,hwm⟩:∃ y,w4.setCell ⟨bx,3,none⟩ (.int .i64 x4)=y:=⟨_,rfl⟩
           rw [hwm]
           have hbb':y4.heap[bx]?=some (.cells #[.int .i64 x1,.int .i64 x2,.int .i64 x3,.int .i64 x4] 28 (0,0)):=by rw [←hwm];exact (setCell_block hbn 3 _).trans rfl
           have hrr':CIn y4 cb S r4:=by rw [←hwm];exact hrn.put hbc 3 _
           have hoo':OnlyP cb wr y4:=by rw [←hwm];exact (hoo.thenP hon).setCell (.inr hbw) _
           clear hwm hbb hrr hoo hrn hon hbn z1 z2 z3
           have hbb:=hbb'
           have hrr:=hrr'
           have hoo:=hoo'
           clear hbb' hrr' hoo'
           have HRX:=Lib.hid hrr
           have HOX:=Lib.hid hoo
           have hgx:=(HOX.out.block gb hgr hne).trans (HP.out.g)
           have c3:=cell_of_block hgx 5
           have HO2:=Lib.hid (own_num HOW.out HOX.out HCLV.out.1)
           have hsz3:=HOX.out.size
           have k0:=cell_of_block hbb 0
           have k1:=cell_of_block hbb 1
           have k2:=cell_of_block hbb 2
           have k3:=cell_of_block hbb 3
           clear hgx hbb hrr hoo
           go_wp2_with (first
            | (at_builtin;refine wpList_append_own _ rfl (.tmp 135) (.tmp 137) 26 rfl BV.heap.size 28 iE (.agg #[.int .i64 0,.int .i64 0,.int .i64 0,.int .i64 0]) 4 32 Tryz.underlying26 hiE hz0 hz1 hz2 rfl (by decide) _ _ _ rfl (HO2.out.alloc _) ⟨y4.heap.size,0,none⟩ 1 1 [.int .i64 x1,.int .i64 x2,.int .i64 x3,.int .i64 x4] rfl rfl (cells_newC y4 [.int .i64 x1,.int .i64 x2,.int .i64 x3,.int .i64 x4] 28) (by intro u hu;simp only [List.mem_cons,List.not_mem_nil,or_false] at hu;(repeat' (rcases hu with hu | hu))<;>(subst_vars;rfl)) (by unfold maxLen;omega) (by omega) (by rw [World.size_alloc];omega) ?_;intro v' w5 hown1 hgrow1 _;obtain ⟨g',cap',rfl,hcap1,hcap2⟩:=ownsRow_pos hown1 (by omega);have gz:=(HP.out.round HOX.out HRX.out hgrow1 (fun q hq=>(HO2.out.lt q hq).1) HCLV.out.1 HCLV.out.2 hne 5 (.slice (some ⟨g',0,none⟩) (j+1) cap')).2;have z1:=cell_of_block gz 5;have z2:=free_of_block gz 5;have z3:=lt_of_block gz;clear gz)
            | fail)
           have hPR:=HP.out.round HOX.out HRX.out hgrow1 (fun q hq=>(HO2.out.lt q hq).1) HCLV.out.1 HCLV.out.2 hne 5 (.slice (some ⟨g',0,none⟩) (j+1) cap')
           refine⟨⟨j+1,m,.slice (some ⟨g',0,none⟩) (j+1) cap',by omega,by simp,?_,?_⟩,by simp only [intOf];omega⟩
           ·rw [HMS.out];exact hPR.1
           ·rw [HMS.out,flatC_snoc];exact own_put hown1 HCLV.out.2 _ _
        ·obtain ⟨m,rfl⟩:∃ q,m=q+1:=⟨m - 1,by omega⟩
         have hms:=many_snoc porG j sO
         have m0:=NMO.out j (by omega)
         obtain ⟨s,hs⟩:∃ s,(many porG j sO).2=s:=⟨_,rfl⟩
         obtain ⟨l,hl⟩:∃ l,(many porG j sO).1=l:=⟨_,rfl⟩
         rw [hs] at hP hms m0
         rw [hl] at hown hms
         clear hs hl
         obtain ⟨x1,e1⟩:∃ y,(getN 1 s).1=y:=⟨_,rfl⟩
         obtain ⟨r1,f1⟩:∃ y,(getN 1 s).2=y:=⟨_,rfl⟩
         have m1:=Near.getN (k:=1) m0
         rw [f1] at m1
         have HX1:=Lib.hid (fun w' (h:CIn w' cb S s)=>rcnum_any w' cb S s h (m0.mono (by omega)) 1 1 rfl (by omega))
         rw [e1,f1] at HX1
         obtain ⟨x2,e2⟩:∃ y,(getN 1 r1).1=y:=⟨_,rfl⟩
         obtain ⟨r2,f2⟩:∃ y,(getN 1 r1).2=y:=⟨_,rfl⟩
         have m2:=Near.getN (k:=1) m1
         rw [f2] at m2
         have HX2:=Lib.hid (fun w' (h:CIn w' cb S r1)=>rcnum_any w' cb S r1 h (m1.mono (by omega)) 1 1 rfl (by omega))
         rw [e2,f2] at HX2
         obtain ⟨x3,e3⟩:∃ y,(getN 1 r2).1=y:=⟨_,rfl⟩
         obtain ⟨r3,f3⟩:∃ y,(getN 1 r2).2=y:=⟨_,rfl⟩
         have m3:=Near.getN (k:=1) m2
         rw [f3] at m3
         have HX3:=Lib.hid (fun w' (h:CIn w' cb S r2)=>rcnum_any w' cb S r2 h (m2.mono (by omega)) 1 1 rfl (by omega))
         rw [e3,f3] at HX3
         obtain ⟨x4,e4⟩:∃ y,(getN 1 r3).1=y:=⟨_,rfl⟩
         obtain ⟨r4,f4⟩:∃ y,(getN 1 r3).2=y:=⟨_,rfl⟩
         have m4:=Near.getN (k:=1) m3
         rw [f4] at m4
         have HX4:=Lib.hid (fun w' (h:CIn w' cb S r3)=>rcnum_any w' cb S r3 h (m3.mono (by omega)) 1 1 rfl (by omega))
         rw [e4,f4] at HX4
         obtain ⟨x5,e5⟩:∃ y,(getN 1 r4).1=y:=⟨_,rfl⟩
         obtain ⟨r5,f5⟩:∃ y,(getN 1 r4).2=y:=⟨_,rfl⟩
         have m5:=Near.getN (k:=1) m4
         rw [f5] at m5
         have HX5:=Lib.hid (fun w' (h:CIn w' cb S r4)=>rcnum_any w' cb S r4 h (m4.mono (by omega)) 1 1 rfl (by omega))
         rw [e5,f5] at HX5
         have hge:porG s=(⟨x1,x2,x3,x4,x5⟩,r5):=by simp only [porG,e1,f1,e2,f2,e3,f3,e4,f4,e5,f5]
         rw [hge] at hms
         have HMS:=Lib.hid hms
         have HOW:=Lib.hid hown
         have HP:=Lib.hid hP
         have hcin:=HP.out.r
         have hg0:=HP.out.g
         have hgr:=lt_of_block hg0
         have hbs:=HP.out.o.size
         have hcr:=hcin.lt
         clear hms hown hP hge e1 f1 m1 e2 f2 m2 e3 f3 m3 e4 f4 m4 e5 f5 m5 m0
         obtain ⟨iE,hiE,hz0,hz1,hz2⟩:=info_parts inf3_por
         have hj255:j≤255:=by have:=hbO;omega
         go_upto_region 26 with (first
          | (go_at_call 69;(with_reducible refine (HX1.out _ hcin).mono ?_);rintro e w1 ⟨rfl,hr1,ho1⟩)
          | fail)
         obtain ⟨bx,hbx⟩:∃ b,w1.heap.size=b:=⟨_,rfl⟩
         rw [hbx]
         obtain ⟨y1,hy1⟩:∃ y,w1.alloc (.cells #[.int .i64 x1,.int .i64 0,.int .i64 0,.int .i64 0,.int .i64 0] 51)=y:=⟨_,rfl⟩
         rw [hy1]
         have hbb:y1.heap[bx]?=some (.cells #[.int .i64 x1,.int .i64 0,.int .i64 0,.int .i64 0,.int .i64 0] 51 (0,0)):=by rw [←hy1];exact alloc_at hbx
         have hrr:CIn y1 cb S r1:=by rw [←hy1];exact hr1.later ((Later.refl w1).alloc _)
         have hoo:OnlyP cb wr y1:=by rw [←hy1];exact ho1.alloc _
         have hbw:wr.heap.size≤bx:=by have:=ho1.size;omega
         have hbc:¬ bx=cb:=by omega
         clear hy1 hbx hr1 ho1 hcin hg0
         go_upto_region 27 with (first
          | (go_at_call 69;(with_reducible refine (HX2.out _ hrr).mono ?_);rintro e w2 ⟨rfl,hrn,hon⟩;have hbn:=(hon.block bx (lt_of_block hbb) hbc).trans hbb;have z1:=cell_of_block hbn 1;have z2:=free_of_block hbn 1;have z3:=lt_of_block hbn)
          | fail)
         obtain ⟨y2,hwm⟩:∃ y,w2.setCell ⟨bx,1,none⟩ (.int .i64 x2)=y:=⟨_,rfl⟩
         rw [hwm]
         have hbb':y2.heap[bx]?=some (.cells #[.int .i64 x1,.int .i64 x2,.int .i64 0,.int .i64 0,.int .i64 0] 51 (0,0)):=by rw [←hwm];exact (setCell_block hbn 1 _).trans rfl
         have hrr':CIn y2 cb S r2:=by rw [←hwm];exact hrn.put hbc 1 _
         have hoo':OnlyP cb wr y2:=by rw [←hwm];exact (hoo.thenP hon).setCell (.inr hbw) _
         clear hwm hbb hrr hoo hrn hon hbn z1 z2 z3
         have hbb:=hbb'
         have hrr:=hrr'
         have hoo:=hoo'
         clear hbb' hrr' hoo'
         go_upto_region 28 with (first
          | (go_at_call 69;(with_reducible refine (HX3.out _ hrr).mono ?_);rintro e w3 ⟨rfl,hrn,hon⟩;have hbn:=(hon.block bx (lt_of_block hbb) hbc).trans hbb;have z1:=cell_of_block hbn 2;have z2:=free_of_block hbn 2;have z3:=lt_of_block hbn)
          | fail)
         obtain ⟨y3,hwm⟩:∃ y,w3.setCell ⟨bx,2,none⟩ (.int .i64 x3)=y:=⟨_,rfl⟩
         rw [hwm]
         have hbb':y3.heap[bx]?=some (.cells #[.int .i64 x1,.int .i64 x2,.int .i64 x3,.int .i64 0,.int .i64 0] 51 (0,0)):=by rw [←hwm];exact (setCell_block hbn 2 _).trans rfl
         have hrr':CIn y3 cb S r3:=by rw [←hwm];exact hrn.put hbc 2 _
         have hoo':OnlyP cb wr y3:=by rw [←hwm];exact (hoo.thenP hon).setCell (.inr hbw) _
         clear hwm hbb hrr hoo hrn hon hbn z1 z2 z3
         have hbb:=hbb'
         have hrr:=hrr'
         have hoo:=hoo'
         clear hbb' hrr' hoo'
         go_upto_region 29 with (first
          | (go_at_call 69;(with_reducible refine (HX4.out _ hrr).mono ?_);rintro e w4 ⟨rfl,hrn,hon⟩;have hbn:=(hon.block bx (lt_of_block hbb) hbc).trans hbb;have z1:=cell_of_block hbn 3;have z2:=free_of_block hbn 3;have z3:=lt_of_block hbn)
          | fail)
         obtain ⟨y4,hwm⟩:∃ y,w4.setCell ⟨bx,3,none⟩ (.int .i64 x4)=y:=⟨_,rfl⟩
         rw [hwm]
         have hbb':y4.heap[bx]?=some (.cells #[.int .i64 x1,.int .i64 x2,.int .i64 x3,.int .i64 x4,.int .i64 0] 51 (0,0)):=by rw [←hwm];exact (setCell_block hbn 3 _).trans rfl
         have hrr':CIn y4 cb S r4:=by rw [←hwm];exact hrn.put hbc 3 _
         have hoo':OnlyP cb wr y4:=by rw [←hwm];exact (hoo.thenP hon).setCell (.inr hbw) _
         clear hwm hbb hrr hoo hrn hon hbn z1 z2 z3
         have hbb:=hbb'
         have hrr:=hrr'
         have hoo:=hoo'
         clear hbb' hrr' hoo'
         go_upto_region 30 with (first
          | (go_at_call 69;(with_reducible refine (HX5.out _ hrr).mono ?_);rintro e w5 ⟨rfl,hrn,hon⟩;have hbn:=(hon.block bx (lt_of_block hbb) hbc).trans hbb;have z1:=cell_of_block hbn 4;have z2:=free_of_block hbn 4;have z3:=lt_of_block hbn)
          | fail)
         obtain ⟨y5,hwm⟩:∃ y,w5.setCell ⟨bx,4,none⟩ (.int .i64 x5)=y:=⟨_,rfl⟩
         rw [hwm]
         have hbb':y5.heap[bx]?=some (.cells #[.int .i64 x1,.int .i64 x2,.int .i64 x3,.int .i64 x4,.int .i64 x5] 51 (0,0)):=by rw [←hwm];exact (setCell_block hbn 4 _).trans rfl
         have hrr':CIn y5 cb S r5:=by rw [←hwm];exact hrn.put hbc 4 _
         have hoo':OnlyP cb wr y5:=by rw [←hwm];exact (hoo.thenP hon).setCell (.inr hbw) _
         clear hwm hbb hrr hoo hrn hon hbn z1 z2 z3
         have hbb:=hbb'
         have hrr:=hrr'
         have hoo:=hoo'
         clear hbb' hrr' hoo'
         have HRX:=Lib.hid hrr
         have HOX:=Lib.hid hoo
         have hgx:=(HOX.out.block gb hgr hne).trans (HP.out.g)
         have c3:=cell_of_block hgx 4
         have HO2:=Lib.hid (own_num HOW.out HOX.out HCLO.out.1)
         have hsz3:=HOX.out.size
         have k0:=cell_of_block hbb 0
         have k1:=cell_of_block hbb 1
         have k2:=cell_of_block hbb 2
         have k3:=cell_of_block hbb 3
         have k4:=cell_of_block hbb 4
         clear hgx hbb hrr hoo
         go_wp2_with (first
          | (at_builtin;refine wpList_append_own _ rfl (.tmp 111) (.tmp 113) 25 rfl BO.heap.size 51 iE (.agg #[.int .i64 0,.int .i64 0,.int .i64 0,.int .i64 0,.int .i64 0]) 5 40 Tryz.underlying25 hiE hz0 hz1 hz2 rfl (by decide) _ _ _ rfl (HO2.out.alloc _) ⟨y5.heap.size,0,none⟩ 1 1 [.int .i64 x1,.int .i64 x2,.int .i64 x3,.int .i64 x4,.int .i64 x5] rfl rfl (cells_newC y5 [.int .i64 x1,.int .i64 x2,.int .i64 x3,.int .i64 x4,.int .i64 x5] 51) (by intro u hu;simp only [List.mem_cons,List.not_mem_nil,or_false] at hu;(repeat' (rcases hu with hu | hu))<;>(subst_vars;rfl)) (by unfold maxLen;omega) (by omega) (by rw [World.size_alloc];omega) ?_;intro v' w5 hown1 hgrow1 _;obtain ⟨g',cap',rfl,hcap1,hcap2⟩:=ownsRow_pos hown1 (by omega);have gz:=(HP.out.round HOX.out HRX.out hgrow1 (fun q hq=>(HO2.out.lt q hq).1) HCLO.out.1 HCLO.out.2 hne 4 (.slice (some ⟨g',0,none⟩) (j+1) cap')).2;have z1:=cell_of_block gz 4;have z2:=free_of_block gz 4;have z3:=lt_of_block gz;clear gz)
          | fail)
         have hPR:=HP.out.round HOX.out HRX.out hgrow1 (fun q hq=>(HO2.out.lt q hq).1) HCLO.out.1 HCLO.out.2 hne 4 (.slice (some ⟨g',0,none⟩) (j+1) cap')
         refine⟨⟨j+1,m,.slice (some ⟨g',0,none⟩) (j+1) cap',by omega,by simp,?_,?_⟩,by simp only [intOf];omega⟩
         ·rw [HMS.out];exact hPR.1
         ·rw [HMS.out,flatC_snoc];exact own_put hown1 HCLO.out.2 _ _
      ·obtain ⟨m,rfl⟩:∃ q,m=q+1:=⟨m - 1,by omega⟩
       have hms:=many_snoc winG j sW
       have m0:=NMW.out j (by omega)
       obtain ⟨s,hs⟩:∃ s,(many winG j sW).2=s:=⟨_,rfl⟩
       obtain ⟨l,hl⟩:∃ l,(many winG j sW).1=l:=⟨_,rfl⟩
       rw [hs] at hP hms m0
       rw [hl] at hown hms
       clear hs hl
       obtain ⟨x1,e1⟩:∃ y,(getN 1 s).1=y:=⟨_,rfl⟩
       obtain ⟨r1,f1⟩:∃ y,(getN 1 s).2=y:=⟨_,rfl⟩
       have m1:=Near.getN (k:=1) m0
       rw [f1] at m1
       have HX1:=Lib.hid (fun w' (h:CIn w' cb S s)=>rcnum_any w' cb S s h (m0.mono (by omega)) 1 1 rfl (by omega))
       rw [e1,f1] at HX1
       obtain ⟨x2,e2⟩:∃ y,(getN 1 r1).1=y:=⟨_,rfl⟩
       obtain ⟨r2,f2⟩:∃ y,(getN 1 r1).2=y:=⟨_,rfl⟩
       have m2:=Near.getN (k:=1) m1
       rw [f2] at m2
       have HX2:=Lib.hid (fun w' (h:CIn w' cb S r1)=>rcnum_any w' cb S r1 h (m1.mono (by omega)) 1 1 rfl (by omega))
       rw [e2,f2] at HX2
       obtain ⟨x3,e3⟩:∃ y,(getN 1 r2).1=y:=⟨_,rfl⟩
       obtain ⟨r3,f3⟩:∃ y,(getN 1 r2).2=y:=⟨_,rfl⟩
       have m3:=Near.getN (k:=1) m2
       rw [f3] at m3
       have HX3:=Lib.hid (fun w' (h:CIn w' cb S r2)=>rcnum_any w' cb S r2 h (m2.mono (by omega)) 1 1 rfl (by omega))
       rw [e3,f3] at HX3
       have hge:winG s=(⟨x1,x2,x3⟩,r3):=by simp only [winG,e1,f1,e2,f2,e3,f3]
       rw [hge] at hms
       have HMS:=Lib.hid hms
       have HOW:=Lib.hid hown
       have HP:=Lib.hid hP
       have hcin:=HP.out.r
       have hg0:=HP.out.g
       have hgr:=lt_of_block hg0
       have hbs:=HP.out.o.size
       have hcr:=hcin.lt
       clear hms hown hP hge e1 f1 m1 e2 f2 m2 e3 f3 m3 m0
       obtain ⟨iE,hiE,hz0,hz1,hz2⟩:=info_parts inf3_win
       have hj255:j≤255:=by have:=hbW;omega
       go_upto_region 19 with (first
        | (go_at_call 69;(with_reducible refine (HX1.out _ hcin).mono ?_);rintro e w1 ⟨rfl,hr1,ho1⟩)
        | fail)
       obtain ⟨bx,hbx⟩:∃ b,w1.heap.size=b:=⟨_,rfl⟩
       rw [hbx]
       obtain ⟨y1,hy1⟩:∃ y,w1.alloc (.cells #[.int .i64 x1,.int .i64 0,.int .i64 0] 55)=y:=⟨_,rfl⟩
       rw [hy1]
       have hbb:y1.heap[bx]?=some (.cells #[.int .i64 x1,.int .i64 0,.int .i64 0] 55 (0,0)):=by rw [←hy1];exact alloc_at hbx
       have hrr:CIn y1 cb S r1:=by rw [←hy1];exact hr1.later ((Later.refl w1).alloc _)
       have hoo:OnlyP cb wr y1:=by rw [←hy1];exact ho1.alloc _
       have hbw:wr.heap.size≤bx:=by have:=ho1.size;omega
       have hbc:¬ bx=cb:=by omega
       clear hy1 hbx hr1 ho1 hcin hg0
       go_upto_region 20 with (first
        | (go_at_call 69;(with_reducible refine (HX2.out _ hrr).mono ?_);rintro e w2 ⟨rfl,hrn,hon⟩;have hbn:=(hon.block bx (lt_of_block hbb) hbc).trans hbb;have z1:=cell_of_block hbn 1;have z2:=free_of_block hbn 1;have z3:=lt_of_block hbn)
        | fail)
       obtain ⟨y2,hwm⟩:∃ y,w2.setCell ⟨bx,1,none⟩ (.int .i64 x2)=y:=⟨_,rfl⟩
       rw [hwm]
       have hbb':y2.heap[bx]?=some (.cells #[.int .i64 x1,.int .i64 x2,.int .i64 0] 55 (0,0)):=by rw [←hwm];exact (setCell_block hbn 1 _).trans rfl
       have hrr':CIn y2 cb S r2:=by rw [←hwm];exact hrn.put hbc 1 _
       have hoo':OnlyP cb wr y2:=by rw [←hwm];exact (hoo.thenP hon).setCell (.inr hbw) _
       clear hwm hbb hrr hoo hrn hon hbn z1 z2 z3
       have hbb:=hbb'
       have hrr:=hrr'
       have hoo:=hoo'
       clear hbb' hrr' hoo'
       go_upto_region 21 with (first
        | (go_at_call 69;(with_reducible refine (HX3.out _ hrr).mono ?_);rintro e w3 ⟨rfl,hrn,hon⟩;have hbn:=(hon.block bx (lt_of_block hbb) hbc).trans hbb;have z1:=cell_of_block hbn 2;have z2:=free_of_block hbn 2;have z3:=lt_of_block hbn)
        | fail)
       obtain ⟨y3,hwm⟩:∃ y,w3.setCell ⟨bx,2,none⟩ (.int .i64 x3)=y:=⟨_,rfl⟩
       rw [hwm]
       have hbb':y3.heap[bx]?=some (.cells #[.int .i64 x1,.int .i64 x2,.int .i64 x3] 55 (0,0)):=by rw [←hwm];exact (setCell_block hbn 2 _).trans rfl
       have hrr':CIn y3 cb S r3:=by rw [←hwm];exact hrn.put hbc 2 _
       have hoo':OnlyP cb wr y3:=by rw [←hwm];exact (hoo.thenP hon).setCell (.inr hbw) _
       clear hwm hbb hrr hoo hrn hon hbn z1 z2 z3
       have hbb:=hbb'
       have hrr:=hrr'
       have hoo:=hoo'
       clear hbb' hrr' hoo'
       have HRX:=Lib.hid hrr
       have HOX:=Lib.hid hoo
       have hgx:=(HOX.out.block gb hgr hne).trans (HP.out.g)
       have c3:=cell_of_block hgx 3
       have HO2:=Lib.hid (own_num HOW.out HOX.out HCLW.out.1)
       have hsz3:=HOX.out.size
       have k0:=cell_of_block hbb 0
       have k1:=cell_of_block hbb 1
       have k2:=cell_of_block hbb 2
       clear hgx hbb hrr hoo
       go_wp2_with (first
        | (at_builtin;refine wpList_append_own _ rfl (.tmp 84) (.tmp 86) 24 rfl BW.heap.size 55 iE (.agg #[.int .i64 0,.int .i64 0,.int .i64 0]) 3 24 Tryz.underlying24 hiE hz0 hz1 hz2 rfl (by decide) _ _ _ rfl (HO2.out.alloc _) ⟨y3.heap.size,0,none⟩ 1 1 [.int .i64 x1,.int .i64 x2,.int .i64 x3] rfl rfl (cells_newC y3 [.int .i64 x1,.int .i64 x2,.int .i64 x3] 55) (by intro u hu;simp only [List.mem_cons,List.not_mem_nil,or_false] at hu;(repeat' (rcases hu with hu | hu))<;>(subst_vars;rfl)) (by unfold maxLen;omega) (by omega) (by rw [World.size_alloc];omega) ?_;intro v' w5 hown1 hgrow1 _;obtain ⟨g',cap',rfl,hcap1,hcap2⟩:=ownsRow_pos hown1 (by omega);have gz:=(HP.out.round HOX.out HRX.out hgrow1 (fun q hq=>(HO2.out.lt q hq).1) HCLW.out.1 HCLW.out.2 hne 3 (.slice (some ⟨g',0,none⟩) (j+1) cap')).2;have z1:=cell_of_block gz 3;have z2:=free_of_block gz 3;have z3:=lt_of_block gz;clear gz)
        | fail)
       have hPR:=HP.out.round HOX.out HRX.out hgrow1 (fun q hq=>(HO2.out.lt q hq).1) HCLW.out.1 HCLW.out.2 hne 3 (.slice (some ⟨g',0,none⟩) (j+1) cap')
       refine⟨⟨j+1,m,.slice (some ⟨g',0,none⟩) (j+1) cap',by omega,by simp,?_,?_⟩,by simp only [intOf];omega⟩
       ·rw [HMS.out];exact hPR.1
       ·rw [HMS.out,flatC_snoc];exact own_put hown1 HCLW.out.2 _ _
    ·obtain ⟨m,rfl⟩:∃ q,m=q+1:=⟨m - 1,by omega⟩
     have hms:=many_snoc partG j sP
     have m0:=NMP.out j (by omega)
     obtain ⟨s,hs⟩:∃ s,(many partG j sP).2=s:=⟨_,rfl⟩
     obtain ⟨l,hl⟩:∃ l,(many partG j sP).1=l:=⟨_,rfl⟩
     rw [hs] at hP hms m0
     rw [hl] at hown hms
     clear hs hl
     obtain ⟨x1,e1⟩:∃ y,(getN 1 s).1=y:=⟨_,rfl⟩
     obtain ⟨r1,f1⟩:∃ y,(getN 1 s).2=y:=⟨_,rfl⟩
     have m1:=Near.getN (k:=1) m0
     rw [f1] at m1
     have HX1:=Lib.hid (fun w' (h:CIn w' cb S s)=>rcnum_any w' cb S s h (m0.mono (by omega)) 1 1 rfl (by omega))
     rw [e1,f1] at HX1
     obtain ⟨x2,e2⟩:∃ y,(getN 1 r1).1=y:=⟨_,rfl⟩
     obtain ⟨r2,f2⟩:∃ y,(getN 1 r1).2=y:=⟨_,rfl⟩
     have m2:=Near.getN (k:=1) m1
     rw [f2] at m2
     have HX2:=Lib.hid (fun w' (h:CIn w' cb S r1)=>rcnum_any w' cb S r1 h (m1.mono (by omega)) 1 1 rfl (by omega))
     rw [e2,f2] at HX2
     have hge:partG s=(⟨x1,x2⟩,r2):=by simp only [partG,e1,f1,e2,f2]
     rw [hge] at hms
     have HMS:=Lib.hid hms
     have HOW:=Lib.hid hown
     have HP:=Lib.hid hP
     have hcin:=HP.out.r
     have hg0:=HP.out.g
     have hgr:=lt_of_block hg0
     have hbs:=HP.out.o.size
     have hcr:=hcin.lt
     clear hms hown hP hge e1 f1 m1 e2 f2 m2 m0
     obtain ⟨iE,hiE,hz0,hz1,hz2⟩:=info_parts inf3_part
     have hj255:j≤255:=by have:=hbP;omega
     go_upto_region 14 with (first
      | (go_at_call 69;(with_reducible refine (HX1.out _ hcin).mono ?_);rintro e w1 ⟨rfl,hr1,ho1⟩)
      | fail)
     have hg1:=(ho1.block gb hgr hne).trans hg0
     have c1:=cell_of_block hg1 2
     have hg1l:=lt_of_block hg1
     have hr1d:CIn w1.drew cb S r1:=hr1
     have HO1:=Lib.hid ho1
     have HG1:=Lib.hid hg1
     clear hr1 ho1 hg0 hg1
     go_region_law (first
      | (go_simp;go_at_call 69;(with_reducible refine (HX2.out _ hr1d).mono ?_);rintro e w3 ⟨rfl,hr3,ho3⟩;have HRX:=Lib.hid hr3;have HOX:=Lib.hid ((HO1.out.drew).thenP ho3);have hgx:=(HOX.out.block gb hgr hne).trans (HP.out.g);have c3:=cell_of_block hgx 2;have c4:=cell_of_block (alloc_old hgx (.cells #[.int .i64 x1,.int .i64 x2] 49)) 2;have HO2:=Lib.hid (own_num HOW.out HOX.out HCLP.out.1);have hsz3:=HOX.out.size;clear hr3 ho3 hgx)
      | (refine step_append_own rfl _ _ 23 rfl BP.heap.size 49 iE (.agg #[.int .i64 0,.int .i64 0]) 2 16 Tryz.underlying23 hiE hz0 hz1 hz2 rfl (by decide) vv j (flatC partC l) rfl (HO2.out.alloc _) ⟨w3.heap.size,0,none⟩ 1 1 [.int .i64 x1,.int .i64 x2] rfl rfl (cells_new w3 [.int .i64 x1,.int .i64 x2] 49) (by intro u hu;simp only [List.mem_cons,List.not_mem_nil,or_false] at hu;(repeat' (rcases hu with hu | hu))<;>(subst_vars;rfl)) (by unfold maxLen;omega) (by omega) (by rw [World.size_alloc];omega) ?_;intro v' w5 hown1 hgrow1 _;obtain ⟨g',cap',rfl,hcap1,hcap2⟩:=ownsRow_pos hown1 (by omega);have gz:=(HP.out.round HOX.out HRX.out hgrow1 (fun q hq=>(HO2.out.lt q hq).1) HCLP.out.1 HCLP.out.2 hne 2 (.slice (some ⟨g',0,none⟩) (j+1) cap')).2;have z1:=cell_of_block gz 2;have z2:=free_of_block gz 2;have z3:=lt_of_block gz;clear gz)
      | fail)
     all_goals
      go_wp2_with fail
      have hPR:=HP.out.round HOX.out HRX.out hgrow1 (fun q hq=>(HO2.out.lt q hq).1) HCLP.out.1 HCLP.out.2 hne 2 (.slice (some ⟨g',0,none⟩) (j+1) cap')
      refine⟨⟨j+1,m,.slice (some ⟨g',0,none⟩) (j+1) cap',by omega,by simp,?_,?_⟩,by simp only [intOf];omega⟩
      ·rw [HMS.out];exact hPR.1
      ·rw [HMS.out,flatC_snoc];exact own_put hown1 HCLP.out.2 _ _
  ·obtain ⟨m,rfl⟩:∃ q,m=q+1:=⟨m - 1,by omega⟩
   have hms:=many_snoc flowG j sF
   have m0:=NMF.out j (by omega)
   obtain ⟨s,hs⟩:∃ s,(many flowG j sF).2=s:=⟨_,rfl⟩
   obtain ⟨l,hl⟩:∃ l,(many flowG j sF).1=l:=⟨_,rfl⟩
   rw [hs] at hP hms m0
   rw [hl] at hown hms
   clear hs hl
   obtain ⟨x1,e1⟩:∃ y,(getN 1 s).1=y:=⟨_,rfl⟩
   obtain ⟨r1,f1⟩:∃ y,(getN 1 s).2=y:=⟨_,rfl⟩
   have m1:=Near.getN (k:=1) m0
   rw [f1] at m1
   have HX1:=Lib.hid (fun w' (h:CIn w' cb S s)=>rcnum_any w' cb S s h (m0.mono (by omega)) 1 1 rfl (by omega))
   rw [e1,f1] at HX1
   obtain ⟨x2,e2⟩:∃ y,(getN 1 r1).1=y:=⟨_,rfl⟩
   obtain ⟨r2,f2⟩:∃ y,(getN 1 r1).2=y:=⟨_,rfl⟩
   have m2:=Near.getN (k:=1) m1
   rw [f2] at m2
   have HX2:=Lib.hid (fun w' (h:CIn w' cb S r1)=>rcnum_any w' cb S r1 h (m1.mono (by omega)) 1 1 rfl (by omega))
   rw [e2,f2] at HX2
   have hge:flowG s=((x1,x2),r2):=by simp only [flowG,e1,f1,e2,f2]
   rw [hge] at hms
   have HMS:=Lib.hid hms
   have HOW:=Lib.hid hown
   have HP:=Lib.hid hP
   have hcin:=HP.out.r
   have hg0:=HP.out.g
   have hgr:=lt_of_block hg0
   have hbs:=HP.out.o.size
   have hcr:=hcin.lt
   clear hms hown hP hge e1 f1 m1 e2 f2 m2 m0
   obtain ⟨iE,hiE,hz0,hz1,hz2⟩:=info_parts inf3_flow
   have hj255:j≤255:=by have:=hbF;omega
   go_upto_region 9 with (first
    | (go_at_call 69;(with_reducible refine (HX1.out _ hcin).mono ?_);rintro e w1 ⟨rfl,hr1,ho1⟩)
    | fail)
   have hg1:=(ho1.block gb hgr hne).trans hg0
   have c1:=cell_of_block hg1 1
   have hg1l:=lt_of_block hg1
   have hr1d:CIn w1.drew cb S r1:=hr1
   have HO1:=Lib.hid ho1
   have HG1:=Lib.hid hg1
   clear hr1 ho1 hg0 hg1
   go_region_law (first
    | (go_simp;go_at_call 69;(with_reducible refine (HX2.out _ hr1d).mono ?_);rintro e w3 ⟨rfl,hr3,ho3⟩;have HRX:=Lib.hid hr3;have HOX:=Lib.hid ((HO1.out.drew).thenP ho3);have hgx:=(HOX.out.block gb hgr hne).trans (HP.out.g);have c3:=cell_of_block hgx 1;have c4:=cell_of_block (alloc_old hgx (.cells #[.int .i64 x1,.int .i64 x2] 47)) 1;have HO2:=Lib.hid (own_num HOW.out HOX.out HCLF.out.1);have hsz3:=HOX.out.size;clear hr3 ho3 hgx)
    | (refine step_append_own rfl _ _ 22 rfl BF.heap.size 47 iE (.agg #[.int .i64 0,.int .i64 0]) 2 16 Tryz.underlying22 hiE hz0 hz1 hz2 rfl (by decide) vv j (flatC flowC l) rfl (HO2.out.alloc _) ⟨w3.heap.size,0,none⟩ 1 1 [.int .i64 x1,.int .i64 x2] rfl rfl (cells_new w3 [.int .i64 x1,.int .i64 x2] 47) (by intro u hu;simp only [List.mem_cons,List.not_mem_nil,or_false] at hu;(repeat' (rcases hu with hu | hu))<;>(subst_vars;rfl)) (by unfold maxLen;omega) (by omega) (by rw [World.size_alloc];omega) ?_;intro v' w5 hown1 hgrow1 _;obtain ⟨g',cap',rfl,hcap1,hcap2⟩:=ownsRow_pos hown1 (by omega);have gz:=(HP.out.round HOX.out HRX.out hgrow1 (fun q hq=>(HO2.out.lt q hq).1) HCLF.out.1 HCLF.out.2 hne 1 (.slice (some ⟨g',0,none⟩) (j+1) cap')).2;have z1:=cell_of_block gz 1;have z2:=free_of_block gz 1;have z3:=lt_of_block gz;clear gz)
    | fail)
   all_goals
    go_wp2_with fail
    have hPR:=HP.out.round HOX.out HRX.out hgrow1 (fun q hq=>(HO2.out.lt q hq).1) HCLF.out.1 HCLF.out.2 hne 1 (.slice (some ⟨g',0,none⟩) (j+1) cap')
    refine⟨⟨j+1,m,.slice (some ⟨g',0,none⟩) (j+1) cap',by omega,by simp,?_,?_⟩,by simp only [intOf];omega⟩
    ·rw [HMS.out];exact hPR.1
    ·rw [HMS.out,flatC_snoc];exact own_put hown1 HCLF.out.2 _ _
set_option maxRecDepth 100000 in
set_option maxHeartbeats 16000000 in
theorem rparse_bad (w:World) (S:ByteArray) (hS:S.size≤9223372036854775807) (hmg:S.data.toList.take 4≠magic):Calls Tryz.prog 18 #[.string S] w (ParsePost S w):=by
 have HZC:Hid (#[.int .i64 0,.slice none 0 0,.slice none 0 0,.slice none 0 0,.slice none 0 0,.slice none 0 0,.int .i64 0,.int .i64 0,.int .i64 0,.int .i64 0,.int .i64 0,.int .i64 0,.slice none 0 0,.slice none 0 0,.string ⟨#[]⟩,.int .i64 0,.int .i64 0]=ZC):=Lib.hid rfl
 have HZ17:=Lib.hid (show (Tryz.prog.info? 32).map (·.size)=some ZC.size from info_cfg)
 have HZ1:=Lib.hid (show ZC.all (·.oneCell')=true by unfold ZC;simp [Value.oneCell'])
 obtain ⟨PT,hPT⟩:∃ PT,ParsePost S w=PT:=⟨_,rfl⟩
 rw [hPT]
 have HPT:=Lib.hid hPT
 have HN:=Lib.hid (doc_bad hmg)
 clear hPT
 obtain ⟨rp,hrp⟩:∃ rp,w.heap.size=rp:=⟨_,rfl⟩
 have HRP:=Lib.hid hrp
 by_cases h4:S.size<4
 ·have hd4:decide ((S.size:Int)<4)=true:=decide_eq_true (by omega)
  clear hrp hmg h4
  go_enter Tryz.func18,Tryz.ntmps18
  go_upto_region 1 with fail
  rw [HZC.out,HRP.out]
  obtain ⟨w1,hw1⟩:∃ w1,w.alloc (.cells ZC 32)=w1:=⟨_,rfl⟩
  have HGD:=Lib.hid (show w1.heap[rp]?=some (.cells ZC 32 (0,0)) by rw [←hw1];exact alloc_at HRP.out)
  have HLD:=Lib.hid (show Later w w1 by rw [←hw1];exact (Later.refl w).alloc _)
  rw [hw1]
  clear hw1
  have hzc:=HZC.out
  go_wp2_with (first
   | refine wpList_store_row rfl 32 (.tmp 2) (.tmp 27) rfl rp ZC rfl rfl 32 ZC HGD.out HZ17.out rfl HZ1.out ?_
   | fail)
  refine bodyPost_ret (cresults_ct rfl _ _ _ rp 32 ZC (0,0) _ rfl (setRow_heap _ _ _ _ _ _ HGD.out) Tryz.underlying32 HZ17.out) rfl ?_
  rw [←HPT.out]
  refine⟨zeroCs,?_,?_,?_⟩
  ·have e1:(if parseC S.data.toList=none then (110:Int) else 0)=110:=by rw [HN.out];rfl
   rw [e1]
   exact tup2 rfl
  ·rw [HN.out];exact zero_in _
  ·exact below_setRow HLD.out (by have:=HRP.out;omega) _
 ·have hd4:decide ((S.size:Int)<4)=false:=decide_eq_false (by omega)
  have hex:¬ (S.extract 0 4).data.toList=[67,83,84,49]:=by
   have e:(S.extract 0 4).data.toList=S.data.toList.take 4:=by simp [ByteArray.data_extract,Array.toList_extract,List.extract_eq_take_drop]
   rw [e];exact hmg
  have hex2:¬ (S.extract 0 4).toList=[67,83,84,49]:=by rw [ByteArray.toList_eq];exact hex
  have hc4:(4:Int)≤(S.size:Int):=by omega
  have hex3:((S.extract 0 4).toList==[67,83,84,49])=false:=by rw [beq_eq_false_iff_ne];exact hex2
  obtain ⟨E4,hE4⟩:∃ E4,S.extract 0 4=E4:=⟨_,rfl⟩
  rw [hE4] at hex hex2 hex3
  clear hrp hmg h4
  go_enter Tryz.func18,Tryz.ntmps18
  go_upto_region 1 with fail
  rw [HZC.out,HRP.out]
  obtain ⟨w1,hw1⟩:∃ w1,w.alloc (.cells ZC 32)=w1:=⟨_,rfl⟩
  have HGD:=Lib.hid (show w1.heap[rp]?=some (.cells ZC 32 (0,0)) by rw [←hw1];exact alloc_at HRP.out)
  have HLD:=Lib.hid (show Later w w1 by rw [←hw1];exact (Later.refl w).alloc _)
  rw [hw1]
  clear hw1
  have hzc:=HZC.out
  go_wp2_with (first
   | refine wpList_store_row rfl 32 (.tmp 2) (.tmp 27) rfl rp ZC rfl rfl 32 ZC HGD.out HZ17.out rfl HZ1.out ?_
   | fail)
  refine bodyPost_ret (cresults_ct rfl _ _ _ rp 32 ZC (0,0) _ rfl (setRow_heap _ _ _ _ _ _ HGD.out) Tryz.underlying32 HZ17.out) rfl ?_
  rw [←HPT.out]
  refine⟨zeroCs,?_,?_,?_⟩
  ·have e1:(if parseC S.data.toList=none then (110:Int) else 0)=110:=by rw [HN.out];rfl
   rw [e1]
   exact tup2 rfl
  ·rw [HN.out];exact zero_in _
  ·exact below_setRow HLD.out (by have:=HRP.out;omega) _
theorem rparse_any (w:World) (S:ByteArray) (hS:S.size≤9223372036854775807):Calls Tryz.prog 18 #[.string S] w (ParsePost S w):=by
 by_cases hmg:S.data.toList.take 4=magic
 ·refine rparse_good w S hS ?_ hmg
  have:=congrArg List.length hmg
  rw [List.length_take,baList,show magic.length=4 from rfl] at this
  omega
 ·exact rparse_bad w S hS hmg
end Go.Proofs.YtbchkjfnakabkaaGreatDoor
