/- N23, merged: N2 N3. -/
import Derived.Test.YtbchkjfnakabkaaGreatDoorYP
import Derived.Test.YtbchkjfnakabkaaGreatDoorB34
import Derived.BigRegion
import Derived.Deep.LoopGhost
import Derived.Deep.QuietTactic
import Derived.BigQuiet
set_option linter.unusedSimpArgs false
set_option linter.unusedVariables false
namespace Go.Proofs.YtbchkjfnakabkaaGreatDoor
open Go.RowKit PX PC
def rowsV (r:List Int):List Value:=r.map (Value.int .u8)
def rowsA (r:List Int):Array Value:=(rowsV r).toArray
theorem rowsA_size {r:List Int} (h:Rows8 r):(rowsA r).size=8:=by simp [rowsA,rowsV,h.len]
theorem info_r8:(Tryz.prog.info? 175).map (·.size)=some 8:=by kernel_rfl
theorem rowsInfo {r:List Int} (h:Rows8 r):(Tryz.prog.info? 175).map (·.size)=some (rowsA r).size:=by rw [rowsA_size h];exact info_r8
theorem rowsOne (r:List Int):(rowsA r).all (·.oneCell')=true:=by simp [rowsA,rowsV,Value.oneCell']
theorem rowsA_get {r:List Int} (h:Rows8 r) {a:Nat} (ha:a<8):(rowsA r)[a]?=some (.int .u8 (r[a]?.getD 0)):=by
 have hl:a<r.length:=by rw [h.len];exact ha
 simp [rowsA,rowsV,List.getElem?_eq_getElem hl,hl]
theorem rowsA_set (r:List Int) (a:Nat) (x:Int):(rowsA r).setIfInBounds a (.int .u8 x)=rowsA (r.set a x):=by
 apply Array.ext'
 simp [rowsA,rowsV,List.map_set]
theorem or_u8 {x y:Int} (hx:0≤x∧x<256) (hy:0≤y∧y<256):Go.bits .or .u8 x y=orI x y:=by
 have ho:=orI_u8 hx hy
 unfold orI at ho ⊢
 unfold Go.bits
 simp only
 have ha:(BitVec.ofInt IntKind.u8.bits x).toNat=x.toNat:=by
  rw [BitVec.toNat_ofInt]
  show (x%(2 ^ 8:Nat)).toNat=_
  omega
 have hb:(BitVec.ofInt IntKind.u8.bits y).toNat=y.toNat:=by
  rw [BitVec.toNat_ofInt]
  show (y%(2 ^ 8:Nat)).toNat=_
  omega
 rw [BitVec.toNat_or,ha,hb,IntKind.wrap_u8]
 omega
theorem and_u8 {x y:Int} (hx:0≤x∧x<256) (hy:0≤y∧y<256):Go.bits .and .u8 x y=andI x y:=by
 have ho:=andI_u8 hx hy
 unfold andI at ho ⊢
 unfold Go.bits
 simp only
 have ha:(BitVec.ofInt IntKind.u8.bits x).toNat=x.toNat:=by
  rw [BitVec.toNat_ofInt]
  show (x%(2 ^ 8:Nat)).toNat=_
  omega
 have hb:(BitVec.ofInt IntKind.u8.bits y).toNat=y.toNat:=by
  rw [BitVec.toNat_ofInt]
  show (y%(2 ^ 8:Nat)).toNat=_
  omega
 rw [BitVec.toNat_and,ha,hb,IntKind.wrap_u8]
 omega
theorem sh_u8 {b:Nat} (hb:b<8):IntKind.u8.wrap (2 ^ b)=2 ^ b:=by
 have:=two_u8 hb
 rw [IntKind.wrap_u8];omega
theorem test_u8 {x:Int} (hx:0≤x∧x<256) (b:Nat):(Go.bits .and .u8 (x/2 ^ b) 1==1)=x.toNat.testBit b:=by
 obtain ⟨m,rfl⟩:=Int.eq_ofNat_of_zero_le hx.1
 have e1:((m:Int)/2 ^ b)=((m/2 ^ b:Nat):Int):=by simp
 have hq:m/2 ^ b<256:=Nat.lt_of_le_of_lt (Nat.div_le_self _ _) (by omega)
 rw [e1,and_u8 (x:=((m/2 ^ b:Nat):Int)) (y:=1) ⟨Int.natCast_nonneg _,by omega⟩ (by omega),andI]
 rw [Int.toNat_natCast,Int.toNat_natCast,Nat.testBit_eq_decide_div_mod_eq,show (1:Int).toNat=1 from rfl,Nat.and_one_is_mod,Bool.eq_iff_iff]
 simp only [beq_iff_eq,decide_eq_true_eq]
 omega
theorem sizeU8 (w:World):(sizeOf 5).run Tryz.prog w=.ok 1 w:=by kernel_rfl
theorem run_eq8 {r s:List Int} (hr:Rows8 r) (hs:Rows8 s) (w:World):(Op.equalIn 10000 175 (.agg (rowsA r)) (.agg (rowsA s))).run Tryz.prog w=.ok (decide (r=s)) w:=
 eqArr_int (w:=w) (d:=9998) Tryz.underlying175 Tryz.underlying5 sizeU8 (rowsA r) (rowsA s) r s hr.len hs.len rfl rfl
theorem below_setR {B q:Nat} {a w:World} (h:Below B a w) (hq:B≤q) (cs:Array Value):Below B a (w.setRow q cs):=
 ⟨h.os,h.tape,h.output,by simpa using h.size,fun k hk=>(setRow_other w q k cs (by omega)).trans (h.block k hk)⟩
theorem Later.setC {a w:World} (h:Later a w) {b:Nat} (hb:a.heap.size≤b) (j:Nat) (u:Value):Later a (w.setCell ⟨b,j,none⟩ u):=Below.setCell h hb u
def ClosedPost (r:List Int) (w:World) (e:Ending) (w':World):Prop:=
 ∃ q,e=.returned (.agg (rowsA q))∧Rows8 q∧passA q 8=q∧subR r q∧(∀n l,SoundR n l r→SoundR n l q)∧Later w w'
theorem sub_refl (r:List Int):subR r r:=fun _ _ h=>h
theorem sub_trans {r s t:List Int} (h:subR r s) (k:subR s t):subR r t:=fun i j hb=>k i j (h i j hb)
theorem set_of_bit {r:List Int} {a b:Nat} (h:bitR r a b=true):r.set a (orI (r[a]?.getD 0) (r[b]?.getD 0))=stepR r a b:=by unfold stepR;rw [if_pos h]
theorem same_of_bit {r:List Int} {a b:Nat} (h:bitR r a b=false):stepR r a b=r:=by unfold stepR;rw [if_neg (by rw [h];decide)]
set_option maxRecDepth 100000 in
set_option maxHeartbeats 4000000 in
theorem closed_rows (w:World) (r:List Int) (hr:Rows8 r):Calls Tryz.prog 134 #[.agg (rowsA r)] w (ClosedPost r w):=by
 obtain ⟨PT,hPT⟩:∃ PT,ClosedPost r w=PT:=⟨_,rfl⟩
 rw [hPT]
 have HPT:=Lib.hid hPT
 have HR:=Lib.hid hr
 obtain ⟨CS,hCS⟩:∃ CS:Array Value,rowsA r=CS:=⟨_,rfl⟩
 have HI0:=Lib.hid (rowsInfo hr)
 rw [hCS] at HI0
 rw [hCS]
 have HCS:=Lib.hid hCS
 clear hPT hr hCS
 go_enter Tryz.func134,Tryz.ntmps134
 go_wp2_with fail
 go_loopg [] (leftR r+1) (fun gk wx=>∃ q,leftR q<gk∧Rows8 q∧wx.heap[w.heap.size]?=some (.cells (rowsA q) 175 (0,0))∧wx.heap[w.heap.size+1]?=some (.cells (rowsA zeroR) 175 (0,0))∧subR r q∧(∀n l,SoundR n l r→SoundR n l q)∧Later w wx)
 case atStart=>
  refine⟨r,by omega,HR.out,?_,?_,sub_refl r,fun n l h=>h,((Later.refl w).alloc _).alloc _⟩
  ·rw [HCS.out];exact alloc_old (alloc_block w _) _
  ·exact alloc_at (by simp)
 case round=>
  obtain ⟨q,hgk,hq,hub,hrb,hsub,hsnd,hl⟩:=hrel
  obtain ⟨g',rfl⟩:∃ g',gk=g'+1:=⟨gk - 1,by omega⟩
  have HQ:=Lib.hid hq
  have HI:=Lib.hid (rowsInfo hq)
  have HUB:=Lib.hid hub
  have HRB:=Lib.hid hrb
  have HSUB:=Lib.hid hsub
  have HSND:=Lib.hid hsnd
  have HZ:=Lib.hid (show (rowsA q).size=(#[Value.int .u8 0,.int .u8 0,.int .u8 0,.int .u8 0,.int .u8 0,.int .u8 0,.int .u8 0,.int .u8 0]:Array Value).size by rw [rowsA_size hq];rfl)
  have hrlt:=lt_of_block hrb
  have hult:=lt_of_block hub
  clear hq hub hrb hsub hsnd
  obtain ⟨QC,hQC⟩:∃ QC,rowsA q=QC:=⟨_,rfl⟩
  rw [hQC] at HUB HZ HI
  have HQ1:=Lib.hid (show QC.all (·.oneCell')=true by rw [←hQC];exact rowsOne q)
  have HQC:=Lib.hid hQC
  clear hQC
  go_wp2_with (first
   | refine wpList_load_row rfl 175 (.tmp 1) rfl w.heap.size rfl 175 QC (0,0) _ HUB.out Tryz.underlying175 rfl HI.out ?_
   | refine wpList_store_row rfl 175 (.tmp 3) (.tmp 6) rfl wr.heap.size QC rfl rfl 175 _ (alloc_block wr _) HI.out HZ.out.symm HQ1.out ?_
   | fail)
  obtain ⟨wb,hwb⟩:∃ wb,wr.heap.size=wb:=⟨_,rfl⟩
  rw [hwb]
  obtain ⟨w1,hw1⟩:∃ w1,(wr.alloc (.cells #[Value.int .u8 0,.int .u8 0,.int .u8 0,.int .u8 0,.int .u8 0,.int .u8 0,.int .u8 0,.int .u8 0] 175)).setRow wb QC=w1:=⟨_,rfl⟩
  rw [hw1]
  have hu1:w1.heap[w.heap.size]?=some (.cells (rowsA q) 175 (0,0)):=by rw [←hw1,HQC.out];exact (setRow_other _ _ _ _ (by omega)).trans (alloc_old HUB.out _)
  have hr1:w1.heap[w.heap.size+1]?=some (.cells (rowsA zeroR) 175 (0,0)):=by rw [←hw1];exact (setRow_other _ _ _ _ (by omega)).trans (alloc_old HRB.out _)
  have hb1:w1.heap[wb]?=some (.cells QC 175 (0,0)):=by rw [←hw1];exact setRow_heap _ _ _ _ _ _ (alloc_at hwb)
  have hl1:Later w w1:=by rw [←hw1];exact below_setR (hl.alloc _) (by omega) _
  clear hw1 hl
  have HU1:=Lib.hid hu1
  have HR1:=Lib.hid hr1
  have HB1:=Lib.hid hb1
  clear hu1 hr1 hb1
  go_loopw [7] (fun v wx=>∃ a:Nat,a≤8∧v=.int .i64 a∧wx.heap[w.heap.size]?=some (.cells (rowsA (passA q a)) 175 (0,0))∧wx.heap[w.heap.size+1]?=some (.cells (rowsA zeroR) 175 (0,0))∧wx.heap[wb]?=some (.cells QC 175 (0,0))∧Later w wx) (fun v _=>8 - (intOf v).toNat)
  case atStart=>exact⟨0,by omega,rfl,HU1.out,HR1.out,HB1.out,hl1⟩
  case round=>
   obtain ⟨a,ha,rfl,hu2,hr2,hb2,hl2⟩:=hrel
   obtain ⟨p,hp⟩:∃ p,passA q a=p:=⟨_,rfl⟩
   have hpr:Rows8 p:=by rw [←hp];exact passA_rows HQ.out a
   rw [hp] at hu2
   have HP:=Lib.hid hp
   have HPR:=Lib.hid hpr
   have hult2:=lt_of_block hu2
   have hblt2:=lt_of_block hb2
   have HU2:=Lib.hid hu2
   have HR2:=Lib.hid hr2
   have HB2:=Lib.hid hb2
   clear hp hpr hu2 hr2 hb2
   by_cases hlt:a<8
   ·obtain ⟨wo,hwo⟩:∃ wo:World,wo=wr:=⟨_,rfl⟩
    rw [←hwo] at HU2 HR2 HB2 hl2 hult2 hblt2 ⊢
    clear hwo
    go_wp2_with fail
    go_loopw [10] (fun v wx=>∃ b:Nat,b≤8∧v=.int .i64 b∧wx.heap[w.heap.size]?=some (.cells (rowsA (passB p a b)) 175 (0,0))∧wx.heap[w.heap.size+1]?=some (.cells (rowsA zeroR) 175 (0,0))∧wx.heap[wb]?=some (.cells QC 175 (0,0))∧Later w wx) (fun v _=>8 - (intOf v).toNat)
    case atStart=>exact⟨0,by omega,rfl,HU2.out,HR2.out,HB2.out,hl2⟩
    case round=>
     obtain ⟨b,hb,rfl,hu3,hr3,hb3,hl3⟩:=hrel
     obtain ⟨c,hc⟩:∃ c,passB p a b=c:=⟨_,rfl⟩
     have hcr:Rows8 c:=by rw [←hc];exact passB_rows HPR.out a b
     rw [hc] at hu3
     have HC:=Lib.hid hc
     by_cases hlb:b<8
     ·have hx:=hcr.get a
      have hy:=hcr.get b
      have k1:=(cell_of_block hu3 a).trans (rowsA_get hcr hlt)
      have k2:=(cell_of_block hu3 b).trans (rowsA_get hcr hlb)
      have k3:=free_of_block hu3 a
      have ht:=test_u8 hx b
      have hbit:bitR c a b=(c[a]?.getD 0).toNat.testBit b:=rfl
      have hor:=or_u8 hx hy
      have hult3:=lt_of_block hu3
      have hset:=fun (x:Int)=>setCell_block hu3 a (.int .u8 x)
      have HSET:=Lib.hid hset
      have HU3:=Lib.hid hu3
      have HR3:=Lib.hid hr3
      have HB3:=Lib.hid hb3
      have hstep:passB p a (b+1)=stepR c a b:=by rw [←hc];rfl
      have HSTEP:=Lib.hid hstep
      obtain ⟨x,hxe⟩:∃ x,c[a]?.getD 0=x:=⟨_,rfl⟩
      obtain ⟨y,hye⟩:∃ y,c[b]?.getD 0=y:=⟨_,rfl⟩
      rw [hxe] at k1 ht hor hbit hx
      rw [hye] at k2 hor hy
      rw [←hbit] at ht
      have HX:=Lib.hid hxe
      have HY:=Lib.hid hye
      have HBIT:=Lib.hid hbit
      have HOR:=Lib.hid hor
      clear hc hcr hset hu3 hr3 hb3 hstep hxe hye hbit hor
      cases hbb:bitR c a b
      ·rw [hbb] at ht
       have HBB:=Lib.hid hbb
       clear hbb
       go_wp2_with fail
       refine⟨⟨b+1,by omega,by simp,?_,HR3.out,HB3.out,hl3⟩,by simp only [intOf];omega⟩
       rw [HSTEP.out,same_of_bit HBB.out];exact HU3.out
      ·rw [hbb] at ht
       have HBB:=Lib.hid hbb
       clear hbb
       go_wp2_with fail
       go_region
       generalize hWZ:World.drew _=WZ
       have hz1:WZ.heap[w.heap.size]?=some (.cells (rowsA (passB p a (b+1))) 175 (0,0)):=by
        rw [←hWZ,HOR.out,HSTEP.out,←set_of_bit HBB.out,HX.out,HY.out,←rowsA_set]
        exact HSET.out _
       have hz2:WZ.heap[w.heap.size+1]?=some (.cells (rowsA zeroR) 175 (0,0)):=by
        rw [←hWZ]
        exact (Below.heap_setCell _ _ _ _ (by simp)).trans HR3.out
       have hz3:WZ.heap[wb]?=some (.cells QC 175 (0,0)):=by
        rw [←hWZ]
        exact (Below.heap_setCell _ _ _ _ (by simp;omega)).trans HB3.out
       have hz4:Later w WZ:=by
        rw [←hWZ]
        exact Later.drew (Later.setC hl3 (Nat.le_refl _) _ _)
       clear hWZ k1 k2 k3
       have Z1:=Lib.hid hz1
       have Z2:=Lib.hid hz2
       have Z3:=Lib.hid hz3
       clear hz1 hz2 hz3
       go_wp2_with fail
       exact⟨⟨b+1,by omega,by simp,Z1.out,Z2.out,Z3.out,hz4⟩,by simp only [intOf];omega⟩
     ·have hb8:b=8:=by omega
      have HU3:=Lib.hid (show wr.heap[w.heap.size]?=some (.cells (rowsA (passA q (a+1))) 175 (0,0)) by
       rw [hu3,←hc,hb8,←HP.out];rfl)
      have HR3:=Lib.hid hr3
      have HB3:=Lib.hid hb3
      clear hu3 hr3 hb3 hc hcr hb8
      go_wp2_with fail
      exact⟨⟨a+1,by omega,by simp,HU3.out,HR3.out,HB3.out,hl3⟩,by simp only [intOf];omega⟩
   ·have ha8:a=8:=by omega
    have he8:passA q 8=p:=by rw [←HP.out,ha8]
    have HE8:=Lib.hid he8
    have heq:=fun w'=>run_eq8 HPR.out HQ.out w'
    rw [HQC.out] at heq
    obtain ⟨PC8,hPC8⟩:∃ PC8,rowsA p=PC8:=⟨_,rfl⟩
    have HI8:=Lib.hid (rowsInfo HPR.out)
    rw [hPC8] at heq HU2 HI8
    have HPC:=Lib.hid hPC8
    have HP1:=Lib.hid (show PC8.all (·.oneCell')=true by rw [←hPC8];exact rowsOne p)
    have HZ8:=Lib.hid (show (rowsA zeroR).size=PC8.size by rw [←hPC8,rowsA_size HPR.out];rfl)
    clear hPC8 he8 ha8
    by_cases hpq:p=q
    ·rw [decide_eq_true hpq] at heq
     have HPQ:=Lib.hid hpq
     clear hpq
     go_wp2_with (first
      | refine wpList_load_row rfl 175 (.tmp 1) rfl w.heap.size rfl 175 PC8 (0,0) _ HU2.out Tryz.underlying175 rfl HI8.out ?_
      | refine wpList_load_row rfl 175 (.tmp 3) rfl wb rfl 175 QC (0,0) _ HB2.out Tryz.underlying175 rfl HI.out ?_
      | refine wpList_store_row rfl 175 (.tmp 2) (.tmp 33) rfl (w.heap.size+1) PC8 rfl rfl 175 _ HR2.out HI8.out HZ8.out HP1.out ?_
      | fail)
     refine bodyPost_ret (results_cell_row rfl _ _ (w.heap.size+1) 175 PC8 (0,0) _ rfl (setRow_heap _ _ _ _ _ _ HR2.out) Tryz.underlying175 rfl HI8.out) rfl ?_
     rw [←HPT.out]
     have hpq:=HPQ.out
     refine⟨p,by rw [HPC.out],HPR.out,?_,?_,fun n l h=>?_,below_setR hl2 (by omega) _⟩
     ·have:=HE8.out;rw [←hpq] at this;exact this
     ·rw [hpq];exact HSUB.out
     ·rw [hpq];exact HSND.out n l h
    ·rw [decide_eq_false hpq] at heq
     have HPQ:=Lib.hid hpq
     clear hpq
     go_wp2_with (first
      | refine wpList_load_row rfl 175 (.tmp 1) rfl w.heap.size rfl 175 PC8 (0,0) _ HU2.out Tryz.underlying175 rfl HI8.out ?_
      | refine wpList_load_row rfl 175 (.tmp 3) rfl wb rfl 175 QC (0,0) _ HB2.out Tryz.underlying175 rfl HI.out ?_
      | fail)
     go_roundg g'
     case measure=>omega
     case rel=>
      have hless:=left_less HQ.out (by rw [HE8.out];exact HPQ.out)
      rw [HE8.out] at hless
      refine⟨p,by omega,HPR.out,?_,HR2.out,?_,fun n l h=>?_,hl2⟩
      ·rw [HPC.out];exact HU2.out
      ·rw [←HE8.out];exact sub_trans HSUB.out (subR_passA HQ.out 0 8 (by omega) (by omega))
      ·rw [←HE8.out];exact sound_passA HQ.out (HSND.out n l h) 8 (by omega)
end Go.Proofs.YtbchkjfnakabkaaGreatDoor
namespace Go.Proofs.YtbchkjfnakabkaaGreatDoor
open Go.RowKit PX PC
def latCells (n:Int) (U D:List Int):List Value:=.int .i64 n::(rowsV U++rowsV D)
def LatAt (w:World) (lb:Nat) (n:Int) (U D:List Int):Prop:=w.heap[lb]?=some (.cells (latCells n U D).toArray 177 (0,0))
theorem rowsV_get {r:List Int} (h:Rows8 r) {a:Nat} (ha:a<8):(rowsV r)[a]?=some (.int .u8 (r[a]?.getD 0)):=by
 have hl:a<r.length:=by rw [h.len];exact ha
 simp [rowsV,List.getElem?_eq_getElem hl,hl]
theorem LatAt.n {w:World} {lb:Nat} {n:Int} {U D:List Int} (h:LatAt w lb n U D):w.cell? ⟨lb,0,none⟩=some (.int .i64 n):=cell_of_block h 0
theorem LatAt.up {w:World} {lb:Nat} {n:Int} {U D:List Int} (h:LatAt w lb n U D) (hU:Rows8 U) {a:Nat} (ha:a<8):w.cell? ⟨lb,1+a,none⟩=some (.int .u8 (U[a]?.getD 0)):=by
 rw [cell_of_block h,List.getElem?_toArray,latCells,Nat.add_comm,List.getElem?_cons_succ,List.getElem?_append_left (by simp [rowsV,hU.len];exact ha),rowsV_get hU ha]
theorem LatAt.down {w:World} {lb:Nat} {n:Int} {U D:List Int} (h:LatAt w lb n U D) (hU:Rows8 U) (hD:Rows8 D) {a:Nat} (ha:a<8):w.cell? ⟨lb,9+a,none⟩=some (.int .u8 (D[a]?.getD 0)):=by
 rw [cell_of_block h,List.getElem?_toArray,latCells,show 9+a=(8+a)+1 by omega,List.getElem?_cons_succ,List.getElem?_append_right (by simp [rowsV,hU.len]),show 8+a - (rowsV U).length=a by simp [rowsV,hU.len],rowsV_get hD ha]
theorem LatAt.later {w w':World} {lb:Nat} {n:Int} {U D:List Int} (h:LatAt w lb n U D) (hl:Later w w'):LatAt w' lb n U D:=hl.block h
def levD (n a:Int):Bool:=decide (0≤a∧a<n)
theorem levD_yes {n a:Int} (h0:0≤a) (h1:a<n):levD n a=true:=decide_eq_true ⟨h0,h1⟩
theorem levD_no {n a:Int} (h:¬ (0≤a∧a<n)):levD n a=false:=decide_eq_false h
theorem levD_iff {n a:Int}:levD n a=true↔lev n a:=by unfold levD lev;exact decide_eq_true_iff
set_option maxRecDepth 100000 in
theorem lat_is (w:World) (lb:Nat) (n a:Int) (hc:w.cell? ⟨lb,0,none⟩=some (.int .i64 n)) :
 Calls Tryz.prog 133 #[.pointer (some ⟨lb,0,none⟩),.int .i64 a] w fun e w'=>e=.returned (.bool (levD n a))∧w'=w:=by
 by_cases h0:0≤a
 ·by_cases h1:a<n
  ·rw [levD_yes h0 h1]
   go_enter Tryz.func133,Tryz.ntmps133
   go_wp2_with fail
   go_ret
   exact⟨rfl,rfl⟩
  ·rw [levD_no (fun h=>h1 h.2)]
   go_enter Tryz.func133,Tryz.ntmps133
   go_wp2_with fail
   go_ret
   exact⟨rfl,rfl⟩
 ·rw [levD_no (fun h=>h0 h.1)]
  go_enter Tryz.func133,Tryz.ntmps133
  go_wp2_with fail
  go_ret
  exact⟨rfl,rfl⟩
def endF (R:List Int) (x:Int):Nat→Nat→Int
 | _,0=>-1
 | c,k+1=>if R[c]?.getD 0=x then (c:Int) else endF R x (c+1) k
theorem endF_iff (R:List Int) (x:Int):∀ (k c:Nat),0≤endF R x c k↔∃ i,c≤i∧i<c+k∧R[i]?.getD 0=x
 | 0,c=>by simp [endF];intro i h1 h2;omega
 | k+1,c=>by
  unfold endF
  by_cases h:R[c]?.getD 0=x
  ·rw [if_pos h]
   exact⟨fun _=>⟨c,Nat.le_refl _,by omega,h⟩,fun _=>by omega⟩
  ·rw [if_neg h,endF_iff R x k (c+1)]
   constructor
   ·rintro ⟨i,h1,h2,h3⟩;exact⟨i,by omega,by omega,h3⟩
   ·rintro ⟨i,h1,h2,h3⟩
    rcases (by omega:i=c∨c+1≤i) with rfl | h4
    ·exact absurd h3 h
    ·exact⟨i,h4,by omega,h3⟩
theorem endF_has (R:List Int) (x:Int) (n:Nat):0≤endF R x 0 n↔hasRow R n x:=by
 rw [endF_iff]
 unfold hasRow
 constructor
 ·rintro ⟨i,-, h2,h3⟩;exact⟨i,by omega,h3⟩
 ·rintro ⟨i,h2,h3⟩;exact⟨i,by omega,by omega,h3⟩
set_option maxRecDepth 100000 in
set_option maxHeartbeats 1000000 in
theorem lat_end (w:World) (lb o n:Nat) (R:List Int) (x:Int) (hn:n≤8) (hc:w.cell? ⟨lb,0,none⟩=some (.int .i64 n)) (hR:∀ a,a<8→w.cell? ⟨lb,o+a,none⟩=some (.int .u8 (R[a]?.getD 0))) :
 Calls Tryz.prog 156 #[.pointer (some ⟨lb,0,none⟩),.pointer (some ⟨lb,o,none⟩),.int .u8 x] w fun e w'=>e=.returned (.int .i64 (endF R x 0 n))∧w'=w:=by
 have HR:=Lib.hid hR
 clear hR
 obtain ⟨v,hv⟩:∃ v,endF R x 0 n=v:=⟨_,rfl⟩
 rw [hv]
 have HV:=Lib.hid hv
 clear hv
 go_enter Tryz.func156,Tryz.ntmps156
 go_wp2_with fail
 go_loop [12] (fun vi=>∃ c:Nat,c≤n∧vi=.int .i64 c∧Hid (endF R x c (n - c)=v)) (fun vi=>n - (intOf vi).toNat)
 case atStart=>exact⟨0,by omega,rfl,HV⟩
 case round=>
  obtain ⟨c,hcn,rfl,HF⟩:=hrel
  by_cases hlt:c<n
  ·have k1:=HR.out c (by omega)
   obtain ⟨y,hy⟩:∃ y,R[c]?.getD 0=y:=⟨_,rfl⟩
   rw [hy] at k1
   have HY:=Lib.hid hy
   clear hy
   have HE:=Lib.hid (show endF R x c (n - c)=if y=x then (c:Int) else endF R x (c+1) (n - (c+1)) by
    rw [show n - c=(n - (c+1))+1 by omega,endF,HY.out])
   by_cases hyx:y=x
   ·have hb:(y==x)=true:=by simpa using hyx
    have HYX:=Lib.hid hyx
    clear hyx
    go_wp2_with fail
    go_ret
    refine⟨ret_int ?_,rfl⟩
    rw [←HF.out,HE.out,if_pos HYX.out]
   ·have hb:(y==x)=false:=by simpa using hyx
    have HYX:=Lib.hid hyx
    clear hyx
    go_wp2_with fail
    refine⟨⟨c+1,by omega,by simp,Lib.hid ?_⟩,by simp only [intOf];omega⟩
    rw [←HF.out,HE.out,if_neg HYX.out]
  ·go_wp2_with fail
   go_ret
   refine⟨ret_int ?_,rfl⟩
   rw [←HF.out,show n - c=0 by omega,endF]
set_option maxRecDepth 100000 in
set_option maxHeartbeats 1000000 in
theorem lat_join (w:World) (lb n a b:Nat) (U D:List Int) (h:LatAt w lb n U D) (hU:Rows8 U) (hD:Rows8 D) (hn:n≤8) (ha:a<n) (hb:b<n) :
 Calls Tryz.prog 135 #[.pointer (some ⟨lb,0,none⟩),.int .i64 a,.int .i64 b] w fun e w'=>e=.returned (.int .i64 (endF U (andI (U[a]?.getD 0) (U[b]?.getD 0)) 0 n))∧∃ k,w'=w.drewN k:=by
 have h1:=lat_is w lb n a h.n
 have h2:=lat_is w lb n b h.n
 rw [levD_yes (by omega) (by omega)] at h1 h2
 have H1:=Lib.hid h1
 have H2:=Lib.hid h2
 have k0:=h.n
 have k1:=h.up hU (show a<8 by omega)
 have k2:=h.up hU (show b<8 by omega)
 have hx:=hU.get a
 have hy:=hU.get b
 have hand:=and_u8 hx hy
 have HE:=Lib.hid (fun (w1:World) (h1:Later w w1)=>lat_end w1 lb 1 n U (andI (U[a]?.getD 0) (U[b]?.getD 0)) hn (h.later h1).n (fun a ha=>(h.later h1).up hU ha))
 obtain ⟨x,hxe⟩:∃ x,U[a]?.getD 0=x:=⟨_,rfl⟩
 obtain ⟨y,hye⟩:∃ y,U[b]?.getD 0=y:=⟨_,rfl⟩
 rw [hxe] at k1 hand HE hx ⊢
 rw [hye] at k2 hand HE hy ⊢
 obtain ⟨z,hz⟩:∃ z,andI x y=z:=⟨_,rfl⟩
 rw [hz] at hand HE ⊢
 have i1:(a:Int)<8:=by omega
 have i2:(b:Int)<8:=by omega
 have i3:(0:Int)≤(a:Int):=by omega
 have i4:(0:Int)≤(b:Int):=by omega
 clear h h1 h2 hU hD hxe hye hz
 go_enter Tryz.func135,Tryz.ntmps135
 go_wp2_with (first
  | (go_at_call 133;(with_reducible refine H1.out.mono ?_);rintro e w' ⟨rfl,rfl⟩)
  | (go_at_call 133;(with_reducible refine H2.out.mono ?_);rintro e w' ⟨rfl,rfl⟩)
  | fail)
 go_quiet ((go_at_call 156;exact Calls.quiet_of_same (HE.out _ (Later.drewN (Later.refl _) _))))
 go_wp2_with fail
 go_ret
 exact⟨rfl,_,rfl⟩
set_option maxRecDepth 100000 in
set_option maxHeartbeats 1000000 in
theorem lat_meet (w:World) (lb n a b:Nat) (U D:List Int) (h:LatAt w lb n U D) (hU:Rows8 U) (hD:Rows8 D) (hn:n≤8) (ha:a<n) (hb:b<n) :
 Calls Tryz.prog 136 #[.pointer (some ⟨lb,0,none⟩),.int .i64 a,.int .i64 b] w fun e w'=>e=.returned (.int .i64 (endF D (andI (D[a]?.getD 0) (D[b]?.getD 0)) 0 n))∧∃ k,w'=w.drewN k:=by
 have h1:=lat_is w lb n a h.n
 have h2:=lat_is w lb n b h.n
 rw [levD_yes (by omega) (by omega)] at h1 h2
 have H1:=Lib.hid h1
 have H2:=Lib.hid h2
 have k0:=h.n
 have k1:=h.down hU hD (show a<8 by omega)
 have k2:=h.down hU hD (show b<8 by omega)
 have hx:=hD.get a
 have hy:=hD.get b
 have hand:=and_u8 hx hy
 have HE:=Lib.hid (fun (w1:World) (h1:Later w w1)=>lat_end w1 lb 9 n D (andI (D[a]?.getD 0) (D[b]?.getD 0)) hn (h.later h1).n (fun a ha=>(h.later h1).down hU hD ha))
 obtain ⟨x,hxe⟩:∃ x,D[a]?.getD 0=x:=⟨_,rfl⟩
 obtain ⟨y,hye⟩:∃ y,D[b]?.getD 0=y:=⟨_,rfl⟩
 rw [hxe] at k1 hand HE hx ⊢
 rw [hye] at k2 hand HE hy ⊢
 obtain ⟨z,hz⟩:∃ z,andI x y=z:=⟨_,rfl⟩
 rw [hz] at hand HE ⊢
 have i1:(a:Int)<8:=by omega
 have i2:(b:Int)<8:=by omega
 have i3:(0:Int)≤(a:Int):=by omega
 have i4:(0:Int)≤(b:Int):=by omega
 clear h h1 h2 hU hD hxe hye hz
 go_enter Tryz.func136,Tryz.ntmps136
 go_wp2_with (first
  | (go_at_call 133;(with_reducible refine H1.out.mono ?_);rintro e w' ⟨rfl,rfl⟩)
  | (go_at_call 133;(with_reducible refine H2.out.mono ?_);rintro e w' ⟨rfl,rfl⟩)
  | fail)
 go_quiet ((go_at_call 156;exact Calls.quiet_of_same (HE.out _ (Later.drewN (Later.refl _) _))))
 go_wp2_with fail
 go_ret
 exact⟨rfl,_,rfl⟩
def flowsR (n:Int) (U:List Int) (a b:Int):Bool:=levD n a&&(levD n b&&bitR U a.toNat b.toNat)
set_option maxRecDepth 100000 in
set_option maxHeartbeats 1000000 in
theorem lat_flows (w:World) (lb n:Nat) (a b:Int) (U D:List Int) (h:LatAt w lb n U D) (hU:Rows8 U) (hn:n≤8) :
 Calls Tryz.prog 116 #[.pointer (some ⟨lb,0,none⟩),.int .i64 a,.int .i64 b] w fun e w'=>e=.returned (.bool (flowsR n U a b))∧w'=w:=by
 have h1:=lat_is w lb n a h.n
 have h2:=lat_is w lb n b h.n
 cases hla:levD n a
 ·have hr:flowsR n U a b=false:=by unfold flowsR;rw [hla];rfl
  rw [hr]
  rw [hla] at h1
  have H1:=Lib.hid h1
  clear h h1 h2 hr hla
  go_enter Tryz.func116,Tryz.ntmps116
  go_wp2_with (first
   | (go_at_call 133;(with_reducible refine H1.out.mono ?_);rintro e w' ⟨rfl,rfl⟩)
   | fail)
  go_ret
  exact⟨rfl,rfl⟩
 ·cases hlb:levD n b
  ·have hr:flowsR n U a b=false:=by unfold flowsR;rw [hla,hlb];rfl
   rw [hr]
   rw [hla] at h1
   rw [hlb] at h2
   have H1:=Lib.hid h1
   have H2:=Lib.hid h2
   clear h h1 h2 hr hla hlb
   go_enter Tryz.func116,Tryz.ntmps116
   go_wp2_with (first
    | (go_at_call 133;(with_reducible refine H1.out.mono ?_);rintro e w' ⟨rfl,rfl⟩)
    | (go_at_call 133;(with_reducible refine H2.out.mono ?_);rintro e w' ⟨rfl,rfl⟩)
    | fail)
   go_ret
   exact⟨rfl,rfl⟩
  ·rw [hla] at h1
   rw [hlb] at h2
   have la:=levD_iff.1 hla
   have lb':=levD_iff.1 hlb
   unfold lev at la lb'
   obtain ⟨x,rfl⟩:=Int.eq_ofNat_of_zero_le la.1
   obtain ⟨y,rfl⟩:=Int.eq_ofNat_of_zero_le lb'.1
   have hr:flowsR n U (x:Int) (y:Int)=bitR U x y:=by unfold flowsR;rw [hla,hlb];simp
   rw [hr]
   have k1:=h.up hU (show x<8 by omega)
   have hx:=hU.get x
   have ht:=test_u8 hx y
   have hbit:bitR U x y=(U[x]?.getD 0).toNat.testBit y:=rfl
   rw [←hbit] at ht
   obtain ⟨z,hz⟩:∃ z,U[x]?.getD 0=z:=⟨_,rfl⟩
   rw [hz] at k1 ht hx
   obtain ⟨bb,hbb⟩:∃ bb,bitR U x y=bb:=⟨_,rfl⟩
   rw [hbb] at ht ⊢
   have i1:(x:Int)<8:=by omega
   have i2:(y:Int)<8:=by omega
   have i3:(0:Int)≤(x:Int):=by omega
   have i4:(0:Int)≤(y:Int):=by omega
   have H1:=Lib.hid h1
   have H2:=Lib.hid h2
   clear h h1 h2 hr hla hlb hbit hz hbb la lb' hU
   go_enter Tryz.func116,Tryz.ntmps116
   go_wp2_with (first
    | (go_at_call 133;(with_reducible refine H1.out.mono ?_);rintro e w' ⟨rfl,rfl⟩)
    | (go_at_call 133;(with_reducible refine H2.out.mono ?_);rintro e w' ⟨rfl,rfl⟩)
    | fail)
   go_ret
   exact⟨rfl,rfl⟩
end Go.Proofs.YtbchkjfnakabkaaGreatDoor
