/- The walk of lattice.New. -/
import Derived.Test.YtbchkjfnakabkaaGreatDoorN23
import Derived.Test.YtbchkjfnakabkaaGreatDoorY6
import Derived.Deep.MidRow
set_option linter.unusedSimpArgs false
set_option linter.unusedVariables false
namespace Go.Proofs.YtbchkjfnakabkaaGreatDoor
open Go.RowKit PX PC
theorem LatAt.lt {w:World} {lb:Nat} {n:Int} {U D:List Int} (h:LatAt w lb n U D):lb<w.heap.size:=lt_of_block h
theorem LatAt.free {w:World} {lb:Nat} {n:Int} {U D:List Int} (h:LatAt w lb n U D) (j:Nat):w.frozen? ⟨lb,j,none⟩=false:=free_of_block h j
theorem LatAt.drew {w:World} {lb:Nat} {n:Int} {U D:List Int} (h:LatAt w lb n U D):LatAt w.drew lb n U D:=h
theorem LatAt.setUp {w:World} {lb:Nat} {n:Int} {U D:List Int} (h:LatAt w lb n U D) (hU:Rows8 U) {a:Nat} (ha:a<8) (x:Int):LatAt (w.setCell ⟨lb,1+a,none⟩ (.int .u8 x)) lb n (U.set a x) D:=by
 refine (setCell_block h (1+a) _).trans ?_
 congr 2
 apply Array.ext'
 simp only [Array.toList_setIfInBounds,latCells]
 rw [Nat.add_comm,List.set_cons_succ,List.set_append_left _ _ (by simp [rowsV,hU.len];exact ha)]
 simp [rowsV,List.map_set]
theorem LatAt.setDown {w:World} {lb:Nat} {n:Int} {U D:List Int} (h:LatAt w lb n U D) (hU:Rows8 U) {a:Nat} (x:Int):LatAt (w.setCell ⟨lb,9+a,none⟩ (.int .u8 x)) lb n U (D.set a x):=by
 refine (setCell_block h (9+a) _).trans ?_
 congr 2
 apply Array.ext'
 simp only [Array.toList_setIfInBounds,latCells]
 rw [show 9+a=(8+a)+1 by omega,List.set_cons_succ,List.set_append_right _ _ (by simp [rowsV,hU.len]),show 8+a - (rowsV U).length=a by simp [rowsV,hU.len]]
 simp [rowsV,List.map_set]
def setMany (cs:List Value) (o:Nat):List Value→List Value
 | []=>cs
 | v::r=>setMany (cs.set o v) (o+1) r
theorem setCells_block:∀ (vs:List Value) (o:Nat) (w:World) (b:Nat) (cs:List Value) (t:TypeId) (f:Nat × Nat),w.heap[b]?=some (.cells cs.toArray t f)→(w.setCells b o vs).heap[b]?=some (.cells (setMany cs o vs).toArray t f)
 | [],_,_,_,_,_,_,h=>h
 | v::r,o,w,b,cs,t,f,h=>by
  have:=setCell_block h o v
  rw [show cs.toArray.setIfInBounds o v=(cs.set o v).toArray by apply Array.ext';simp] at this
  exact setCells_block r (o+1) _ b _ t f this
theorem setMany_mid:∀ (vs mid pre post:List Value),mid.length=vs.length→setMany (pre++(mid++post)) pre.length vs=pre++(vs++post)
 | [],[],pre,post,_=>rfl
 | v::vs,m::mid,pre,post,h=>by
  have ih:=setMany_mid vs mid (pre++[v]) post (by simpa using h)
  simp only [setMany]
  rw [List.set_append_right _ _ (Nat.le_refl _),Nat.sub_self]
  simp only [List.cons_append,List.set_cons_zero]
  simp only [List.append_assoc,List.cons_append,List.nil_append,List.length_append,List.length_cons,List.length_nil] at ih
  exact ih
 | [],_::_,_,_,h=>by simp at h
 | _::_,[],_,_,h=>by simp at h
theorem later_setCells:∀ (vs:List Value) (o:Nat) (a w:World) (b:Nat),Later a w→a.heap.size≤b→Later a (w.setCells b o vs)
 | [],_,_,_,_,h,_=>h
 | v::r,o,a,w,b,h,hb=>later_setCells r (o+1) a _ b (Later.setC h hb o v) hb
theorem LatAt.setAll {w:World} {lb:Nat} {n:Int} {U D:List Int} (h:LatAt w lb n U D) (hU:Rows8 U) {V:List Int} (hV:Rows8 V):LatAt (w.setCells lb 1 (rowsV V)) lb n V D:=by
 refine (setCells_block _ _ _ _ _ _ _ h).trans ?_
 have:=setMany_mid (rowsV V) (rowsV U) [.int .i64 n] (rowsV D) (by simp [rowsV,hU.len,hV.len])
 exact congrArg (fun l=>some (Obj.cells (List.toArray l) 177 (0,0))) this
theorem LatAt.range {w:World} {lb:Nat} {n:Int} {U D:List Int} (h:LatAt w lb n U D) (hU:Rows8 U):w.rangeAt lb 1 (rowsV U):=fun j v hv=>by
 have hj:j<(rowsV U).length:=(List.getElem?_eq_some_iff.1 hv).1
 have hj8:j<8:=by simpa [rowsV,hU.len] using hj
 rw [h.up hU hj8,←hv,rowsV_get hU hj8]
theorem LatAt.there {w:World} {lb:Nat} {n:Int} {U D:List Int} (h:LatAt w lb n U D) (hU:Rows8 U):w.there lb 1 8:=fun j hj=>by
 rw [h.up hU hj,h.free];exact⟨rfl,rfl⟩
theorem sh_mod {b:Nat} (hb:b<8):(2:Int) ^ b%256=2 ^ b:=by
 have:=two_u8 hb
 omega
theorem latZero (n:Int):latCells n zeroR zeroR=[.int .i64 n,.int .u8 0,.int .u8 0,.int .u8 0,.int .u8 0,.int .u8 0,.int .u8 0,.int .u8 0,.int .u8 0,.int .u8 0,.int .u8 0,.int .u8 0,.int .u8 0,.int .u8 0,.int .u8 0,.int .u8 0,.int .u8 0]:=rfl
def NewPost (n:Int) (l:List (Int × Int)) (w:World) (e:Ending) (w':World):Prop:=
 ((Lat n l∧∃ (lb N:Nat) (U D:List Int),n=N∧e=.returned (.tuple #[.pointer (some ⟨lb,0,none⟩),.int .i64 0])∧LatAt w' lb N U D∧LatR N l U D∧w.heap.size≤lb) ∨
  (¬Lat n l∧∃ k:Int,e=.returned (.tuple #[.pointer none,.int .i64 k])∧k≠0))∧Later w w'
theorem newPost_no {n:Int} {l:List (Int × Int)} {w w':World} (k:Int) (hk:k≠0) (hn:¬ Lat n l) (hl:Later w w'):NewPost n l w (.returned (.tuple #[.pointer none,.int .i64 k])) w':=⟨.inr ⟨hn,k,rfl,hk⟩,hl⟩
set_option maxRecDepth 100000 in
set_option maxHeartbeats 4000000 in
theorem new_big (w:World) (n:Int) (l:List (Int × Int)) (a:Option Addr) (cap:Nat) (h:¬ (1≤n∧n≤8∧l.length≤64)) (hl:l.length≤140737488355328) :
 Calls Tryz.prog 106 #[.int .i64 n,.slice a l.length cap] w (NewPost n l w):=by
 have hno:¬ Lat n l:=fun k=>h ⟨k.lo,k.hi,k.few⟩
 have HP:=Lib.hid (newPost_no (w:=w) (w':=w) 40 (by decide) hno (Later.refl w))
 obtain ⟨PT,hPT⟩:∃ PT,NewPost n l w=PT:=⟨_,rfl⟩
 rw [hPT] at HP ⊢
 clear hPT hno
 by_cases h1:n<1
 ·clear h
  go_enter Tryz.func106,Tryz.ntmps106
  go_wp2_with fail
  exact HP.out
 ·by_cases h2:8<n
  ·clear h
   go_enter Tryz.func106,Tryz.ntmps106
   go_wp2_with fail
   exact HP.out
  ·have h3:64<l.length:=by omega
   obtain ⟨m,hm⟩:∃ m,l.length=m:=⟨_,rfl⟩
   rw [hm] at h3 hl ⊢
   clear h hm
   go_enter Tryz.func106,Tryz.ntmps106
   go_wp2_with fail
   exact HP.out
set_option maxRecDepth 100000 in
set_option maxHeartbeats 8000000 in
theorem new_core (w:World) (N:Nat) (l:List (Int × Int)) (a:Option Addr) (cap:Nat) (h1:1≤N) (h8:N≤8) (hl:l.length≤64) (hrow:RowAt w 2 (.slice a l.length cap) (l.map flowC)) (hI:∀ x∈l,flowI x) :
 Calls Tryz.prog 106 #[.int .i64 N,.slice a l.length cap] w (NewPost N l w):=by
 obtain ⟨PT,hPT⟩:∃ PT,NewPost N l w=PT:=⟨_,rfl⟩
 rw [hPT]
 have HPT:=Lib.hid hPT
 have HROW:=Lib.hid hrow
 have HI:=Lib.hid hI
 have hdl:decide ((64:Int)<(l.length:Int))=false:=decide_eq_false (by omega)
 clear hPT hrow hI
 go_enter Tryz.func106,Tryz.ntmps106
 go_wp2_with fail
 obtain ⟨lb,hlb⟩:∃ lb,w.heap.size=lb:=⟨_,rfl⟩
 rw [hlb]
 obtain ⟨w1,hw1⟩:∃ w1,w.alloc (.cells (latCells N zeroR zeroR).toArray 177)=w1:=⟨_,rfl⟩
 rw [latZero] at hw1
 rw [hw1]
 have hat1:LatAt w1 lb N zeroR zeroR:=by unfold LatAt;rw [←hw1,latZero];exact alloc_at hlb
 have hl1:Later w w1:=by rw [←hw1];exact (Later.refl w).alloc _
 have HL1:=Lib.hid (And.intro hat1 hl1)
 clear hw1 hat1 hl1
 go_loopw [30] (fun v wx=>∃ i:Nat,i≤N∧v=.int .i64 i∧LatAt wx lb N (diagR i) zeroR∧Later w wx) (fun v _=>N - (intOf v).toNat)
 case atStart=>exact⟨0,by omega,rfl,HL1.out.1,HL1.out.2⟩
 case round=>
  obtain ⟨i,hi,rfl,hat,hlx⟩:=hrel
  have hD:=diagR_rows i (by omega)
  have HAT:=Lib.hid hat
  by_cases hlt:i<N
  ·have k1:=hat.up hD (show i<8 by omega)
   have k2:=hat.free (1+i)
   have hsh:=sh_mod (show i<8 by omega)
   have i1:(i:Int)<8:=by omega
   have i2:(0:Int)≤(i:Int):=by omega
   have HN:=Lib.hid (hat.setUp hD (show i<8 by omega) (2 ^ i))
   have HSH:=Lib.hid hsh
   clear hat hD hsh
   go_wp2_with fail
   go_region
   generalize hWZ:World.drew _=WZ
   have hz1:LatAt WZ lb N (diagR (i+1)) zeroR:=by
    rw [←hWZ,HSH.out];exact HN.out
   have hz2:Later w WZ:=by
    rw [←hWZ];exact Later.drew (Later.setC hlx (by omega) _ _)
   have HZ1:=Lib.hid hz1
   clear hWZ k1 k2 hz1
   go_wp2_with fail
   exact⟨⟨i+1,by omega,by simp,HZ1.out,hz2⟩,by simp only [intOf];omega⟩
  ·have hiN:i=N:=by omega
   rw [hiN] at HAT
   clear hiN hat hD
   have hrw:RowAt wr 2 (.slice a l.length cap) (l.map flowC):=HROW.out.later hlx
   have HROW2:=Lib.hid hrw
   have HLX:=Lib.hid hlx
   clear hrw hlx
   obtain ⟨wd,hwd⟩:∃ wd:World,wd=wr:=⟨_,rfl⟩
   rw [←hwd] at HAT HROW2 HLX ⊢
   clear hwd
   go_wp2_with fail
   go_loopw [43] (fun v wx=>∃ j:Nat,j≤l.length∧v=.int .i64 j∧(∀p∈l.take j,lev N p.1∧lev N p.2)∧LatAt wx lb N (pairsR (diagR N) (l.take j)) zeroR∧Later w wx) (fun v _=>l.length - (intOf v).toNat)
   case atStart=>exact⟨0,by omega,rfl,fun p hp=>by simp at hp,HAT.out,HLX.out⟩
   case round=>
    obtain ⟨j,hj,rfl,hlv,hat,hlx⟩:=hrel
    have hR:=pairsR_rows (n:=N) (by omega) (l.take j) (diagR N) (diagR_rows N h8) hlv
    have HLV:=Lib.hid hlv
    have HLY:=Lib.hid hlx
    have hlbl:=hat.lt
    by_cases hlt:j<l.length
    ·obtain ⟨b,o,rfl,hb,hc⟩:=row_at (HROW.out.later hlx) hlt
     have htk:=List.take_succ_eq_append_getElem hlt
     have hmem:=List.getElem_mem hlt
     have hI:=HI.out _ hmem
     obtain ⟨x,hx⟩:∃ x,l[j]=x:=⟨_,rfl⟩
     rw [hx] at hc htk hI hmem
     have HS:Hid (pairsR (diagR N) (l.take (j+1))=addR (pairsR (diagR N) (l.take j)) x.1.toNat x.2.toNat):=Lib.hid (by rw [htk,pairsR_snoc])
     have HTK:=Lib.hid htk
     have HMEM:=Lib.hid hmem
     clear hx htk hlv hmem
     obtain ⟨x1,x2⟩:=x
     have c0:=hc 0 (by omega)
     have c1:=hc 1 (by omega)
     simp only [flowC,List.getElem?_cons_zero,List.getElem?_cons_succ,Nat.add_zero,Nat.mul_one] at c0 c1
     obtain ⟨R,hRe⟩:∃ R,pairsR (diagR N) (l.take j)=R:=⟨_,rfl⟩
     rw [hRe] at HS hat hR
     have HAT2:=Lib.hid hat
     have HRR:=Lib.hid hR
     have HIS:=Lib.hid (fun (w2:World) (h:Later wr w2) (z:Int)=>lat_is w2 lb N z (hat.later h).n)
     clear hc hRe hat hR hI hlx
     by_cases hx1:0≤x1∧x1<(N:Int)
     ·by_cases hx2:0≤x2∧x2<(N:Int)
      ·obtain ⟨p1,q1⟩:=hx1
       obtain ⟨p2,q2⟩:=hx2
       obtain ⟨y1,rfl⟩:=Int.eq_ofNat_of_zero_le p1
       obtain ⟨y2,rfl⟩:=Int.eq_ofNat_of_zero_le p2
       have H1:=Lib.hid (fun w2 h=>HIS.out w2 h y1)
       have H2:=Lib.hid (fun w2 h=>HIS.out w2 h y2)
       rw [levD_yes p1 q1] at H1
       rw [levD_yes p2 q2] at H2
       go_upto_region 14 with (first
        | (go_at_call 133;(with_reducible refine (H1.out _ ((Later.refl wr).alloc _)).mono ?_);rintro e w' ⟨rfl,rfl⟩)
        | (go_at_call 133;(with_reducible refine (H2.out _ ((Later.refl wr).alloc _)).mono ?_);rintro e w' ⟨rfl,rfl⟩)
        | fail)
       obtain ⟨pb,hpb⟩:∃ pb,wr.heap.size=pb:=⟨_,rfl⟩
       rw [hpb]
       obtain ⟨w2,hw2⟩:∃ w2,wr.alloc (.cells #[.int .i64 (y1:Int),.int .i64 (y2:Int)] 47)=w2:=⟨_,rfl⟩
       rw [hw2]
       have hl2:Later wr w2:=by rw [←hw2];exact (Later.refl wr).alloc _
       have hpb2:w2.heap[pb]?=some (.cells #[.int .i64 (y1:Int),.int .i64 (y2:Int)] 47 (0,0)):=by rw [←hw2];exact alloc_at hpb
       have d0:=cell_of_block hpb2 0
       have d1:=cell_of_block hpb2 1
       have hat2:=HAT2.out.later hl2
       have k1:=hat2.up HRR.out (show y1<8 by omega)
       have k2:=hat2.free (1+y1)
       have hyy:=HRR.out.get y1
       have i1:(y1:Int)<8:=by omega
       have i2:(y2:Int)<8:=by omega
       have hor:=or_u8 hyy (two_u8 (show y2<8 by omega))
       have HN:=Lib.hid (hat2.setUp HRR.out (show y1<8 by omega) (orI (R[y1]?.getD 0) (2 ^ y2)))
       have hsh:=sh_mod (show y2<8 by omega)
       have hsw:=sh_u8 (show y2<8 by omega)
       obtain ⟨y,hye⟩:∃ y,R[y1]?.getD 0=y:=⟨_,rfl⟩
       rw [hye] at k1 hyy hor HN
       have HYE:=Lib.hid hye
       have HOR:=Lib.hid hor
       have HSH:=Lib.hid hsh
       have HSW:=Lib.hid hsw
       clear hw2 hpb2 hat2 hye hor hsh hsw
       go_region
       generalize hWZ:World.drew _=WZ
       have hz1:LatAt WZ lb N (addR R y1 y2) zeroR:=by
        rw [←hWZ,HSH.out,HOR.out]
        unfold addR
        rw [HYE.out]
        exact HN.out
       have hz2:Later w WZ:=by
        rw [←hWZ];exact Later.drew (Later.setC (HLY.out.trans hl2) (by omega) _ _)
       have HZ1:=Lib.hid hz1
       clear hWZ k1 k2 d0 d1 hz1
       go_wp2_with fail
       refine⟨⟨j+1,by omega,by simp,fun p hp=>?_,?_,hz2⟩,by simp only [intOf];omega⟩
       ·rw [HTK.out] at hp
        rcases List.mem_append.1 hp with hp | hp
        ·exact HLV.out p hp
        ·rw [List.mem_singleton.1 hp];exact⟨⟨p1,q1⟩,p2,q2⟩
       ·rw [HS.out];exact HZ1.out
      ·obtain ⟨p1,q1⟩:=hx1
       have H1:=Lib.hid (fun w2 h=>HIS.out w2 h x1)
       have H2:=Lib.hid (fun w2 h=>HIS.out w2 h x2)
       rw [levD_yes p1 q1] at H1
       rw [levD_no hx2] at H2
       have HNO:=Lib.hid (show ¬Lat N l from fun k=>hx2 (k.pairs _ HMEM.out).2)
       clear hx2
       go_wp2_with (first
        | (go_at_call 133;(with_reducible refine (H1.out _ ((Later.refl wr).alloc _)).mono ?_);rintro e w' ⟨rfl,rfl⟩)
        | (go_at_call 133;(with_reducible refine (H2.out _ ((Later.refl wr).alloc _)).mono ?_);rintro e w' ⟨rfl,rfl⟩)
        | fail)
       rw [←HPT.out]
       exact newPost_no 41 (by decide) HNO.out (HLY.out.alloc _)
     ·have H1:=Lib.hid (fun w2 h=>HIS.out w2 h x1)
      rw [levD_no hx1] at H1
      have HNO:=Lib.hid (show ¬Lat N l from fun k=>hx1 (k.pairs _ HMEM.out).1)
      clear hx1
      go_wp2_with (first
       | (go_at_call 133;(with_reducible refine (H1.out _ ((Later.refl wr).alloc _)).mono ?_);rintro e w' ⟨rfl,rfl⟩)
       | fail)
      rw [←HPT.out]
      exact newPost_no 41 (by decide) HNO.out (HLY.out.alloc _)
    ·have hjl:j=l.length:=by omega
     rw [hjl,List.take_of_length_le (Nat.le_refl _)] at hat hR
     rw [hjl,List.take_of_length_le (Nat.le_refl _)] at hlv
     obtain ⟨R,hRe⟩:∃ R,pairsR (diagR N) l=R:=⟨_,rfl⟩
     have hsnd:SoundR N l R:=by rw [←hRe];exact start_sound h8 hlv
     have hbas:BaseR N l R:=by rw [←hRe];exact start_base h8 hlv
     rw [hRe] at hat hR
     obtain ⟨RV,hRV⟩:∃ RV,rowsV R=RV:=⟨_,rfl⟩
     have HCL:=Lib.hid (show Calls Tryz.prog 134 #[.agg RV.toArray] wr (ClosedPost R wr) by rw [←hRV];exact closed_rows wr R hR)
     have HRG:=Lib.hid (show wr.rangeAt lb 1 RV by rw [←hRV];exact hat.range hR)
     have HRI:=Lib.hid (show (Tryz.prog.info? 175).map (·.size)=some RV.length by rw [←hRV,show (rowsV R).length=8 by simp [rowsV,hR.len]];exact info_r8)
     have HFA:=Lib.hid (And.intro (And.intro hat hR) (And.intro hsnd (And.intro hbas hlv)))
     clear hat hR hRe hsnd hbas hlv HLV hRV hjl
     go_upto_region 17 with (first
      | refine wpList_load_mid rfl 175 (.tmp 77) rfl lb 1 rfl RV _ HRG.out Tryz.underlying175 rfl HRI.out ?_
      | (go_at_call 134;(with_reducible refine HCL.out.mono ?_);rintro e w2 ⟨U,rfl,hU,hUp,hUs,hUn,hUl⟩;have HAT3:=Lib.hid (HFA.out.1.1.later hUl);have HTH:=Lib.hid (HAT3.out.there HFA.out.1.2);have HUI:=Lib.hid (rowsInfo hU);have HUS:=Lib.hid (show w2.there lb 1 (rowsA U).size by rw [rowsA_size hU];exact HTH.out))
      | refine wpList_store_mid rfl 175 (.tmp 81) (.tmp 79) rfl lb 1 (rowsA U) rfl rfl HUS.out HUI.out (rowsOne U) ?_
      | fail)
     obtain ⟨w3,hw3⟩:∃ w3,w2.setCells lb 1 (rowsA U).toList=w3:=⟨_,rfl⟩
     rw [hw3]
     have hat3:LatAt w3 lb N U zeroR:=by
      rw [←hw3,show (rowsA U).toList=rowsV U from rfl]
      exact HAT3.out.setAll HFA.out.1.2 hU
     have hl3:Later w w3:=by rw [←hw3];exact later_setCells _ _ _ _ _ (HLY.out.trans hUl) (by omega)
     obtain ⟨⟨-, -⟩,hsnd,hbas,hlv⟩:=HFA.out
     have HLR:=Lib.hid (latR_make h1 h8 hlv hU hUp (hUn _ _ hsnd) (base_sub hbas hUs))
     have HUR:=Lib.hid hU
     have HA3:=Lib.hid (And.intro hat3 hl3)
     clear hw3 hat3 hl3 hsnd hbas hlv hU hUp hUs hUn hUl HAT3 HTH HUI HUS HCL HRG HRI
     clear HFA
     go_wp2_with fail
     go_loopw [83] (fun v wx=>∃ a:Nat,a≤N∧v=.int .i64 a∧LatAt wx lb N U (backA U N a)∧Later w wx) (fun v _=>N - (intOf v).toNat)
     case atStart=>exact⟨0,by omega,rfl,HA3.out.1,HA3.out.2⟩
     case round=>
      obtain ⟨a',ha,rfl,hat,hlx⟩:=hrel
      have hBr:=(backA_rows (U:=U) h8 a' (by omega)).1
      have HAT4:=Lib.hid hat
      have HBR:=Lib.hid hBr
      clear hat hBr
      by_cases hlt:a'<N
      ·obtain ⟨we,hwe⟩:∃ we:World,we=wr:=⟨_,rfl⟩
       rw [←hwe] at HAT4 hlx ⊢
       clear hwe
       obtain ⟨B,hB⟩:∃ B,backA U N a'=B:=⟨_,rfl⟩
       rw [hB] at HAT4 HBR
       have HB:=Lib.hid hB
       clear hB
       go_wp2_with fail
       go_loopw [87] (fun v wx=>∃ k:Nat,k≤N∧v=.int .i64 k∧LatAt wx lb N U (backB U B a' k)∧Later w wx) (fun v _=>N - (intOf v).toNat)
       case atStart=>exact⟨0,by omega,rfl,HAT4.out,hlx⟩
       case round=>
        obtain ⟨k,hk,rfl,hat,hly⟩:=hrel
        have hCr:=(backB_rows (U:=U) HBR.out (show a'<8 by omega) k (by omega)).1
        have hstep:backB U B a' (k+1)=if bitR U a' k then addR (backB U B a' k) k a' else backB U B a' k:=rfl
        obtain ⟨C,hC⟩:∃ C,backB U B a' k=C:=⟨_,rfl⟩
        rw [hC] at hat hCr hstep
        have HSTEP:=Lib.hid hstep
        have HC:=Lib.hid hC
        have HAT5:=Lib.hid hat
        clear hstep hC
        by_cases hltk:k<N
        ·have hxU:=HUR.out.get a'
         have k1:=hat.up HUR.out (show a'<8 by omega)
         have ht:=test_u8 hxU k
         have hbit:bitR U a' k=(U[a']?.getD 0).toNat.testBit k:=rfl
         rw [←hbit] at ht
         obtain ⟨x,hx⟩:∃ x,U[a']?.getD 0=x:=⟨_,rfl⟩
         rw [hx] at k1 ht hxU
         have k2:=hat.down HUR.out hCr (show k<8 by omega)
         have k3:=hat.free (9+k)
         have hyy:=hCr.get k
         have hor:=or_u8 hyy (two_u8 (show a'<8 by omega))
         have HN:=Lib.hid (hat.setDown HUR.out (a:=k) (orI (C[k]?.getD 0) (2 ^ a')))
         have HSH:=Lib.hid (sh_mod (show a'<8 by omega))
         obtain ⟨y,hye⟩:∃ y,C[k]?.getD 0=y:=⟨_,rfl⟩
         rw [hye] at k2 hyy hor HN
         have HYE:=Lib.hid hye
         have HOR:=Lib.hid hor
         have i1:(a':Int)<8:=by omega
         have i2:(0:Int)≤(a':Int):=by omega
         have i3:(k:Int)<8:=by omega
         have i4:(0:Int)≤(k:Int):=by omega
         clear hbit hx hye hor hat hCr
         cases hbb:bitR U a' k
         ·rw [hbb] at ht
          have HBB:=Lib.hid hbb
          clear hbb
          go_wp2_with fail
          refine⟨⟨k+1,by omega,by simp,?_,hly⟩,by simp only [intOf];omega⟩
          rw [HSTEP.out,HBB.out];exact HAT5.out
         ·rw [hbb] at ht
          have HBB:=Lib.hid hbb
          clear hbb
          go_wp2_with fail
          go_region
          generalize hWZ:World.drew _=WZ
          have hz1:LatAt WZ lb N U (addR C k a'):=by
           rw [←hWZ,HSH.out,HOR.out]
           unfold addR
           rw [HYE.out]
           exact HN.out
          have hz2:Later w WZ:=by
           rw [←hWZ];exact Later.drew (Later.setC hly (by omega) _ _)
          have HZ1:=Lib.hid hz1
          clear hWZ k1 k2 k3 hz1 ht
          go_wp2_with fail
          refine⟨⟨k+1,by omega,by simp,?_,hz2⟩,by simp only [intOf];omega⟩
          rw [HSTEP.out,HBB.out];exact HZ1.out
        ·have hkN:k=N:=by omega
         have HF:=Lib.hid (show LatAt wr lb N U (backA U N (a'+1)) by
          have e:backA U N (a'+1)=backB U (backA U N a') a' N:=rfl
          have e2:backB U B a' N=C:=by rw [←hkN];exact HC.out
          rw [e,HB.out,e2];exact HAT5.out)
         clear hat hCr hkN
         go_wp2_with fail
         exact⟨⟨a'+1,by omega,by simp,HF.out,hly⟩,by simp only [intOf];omega⟩
      ·have haN:a'=N:=by omega
       rw [haN] at HAT4 HBR
       clear haN
       obtain ⟨D,hD⟩:∃ D,backA U N N=D:=⟨_,rfl⟩
       rw [hD] at HAT4 HBR HLR
       have HD:=Lib.hid hD
       have HIFF:=Lib.hid (okR_iff HLR.out hl)
       have HLX2:=Lib.hid hlx
       obtain ⟨we,hwe⟩:∃ we:World,we=wr:=⟨_,rfl⟩
       rw [←hwe] at HAT4 HLX2 ⊢
       clear hwe hD hlx
       go_wp2_with fail
       go_loopw [115] (fun v wx=>∃ i:Nat,i≤N∧v=.int .i64 i∧(∀c,c<i→andI (U[c]?.getD 0) (D[c]?.getD 0)=2 ^ c)∧LatAt wx lb N U D∧Later w wx) (fun v _=>N - (intOf v).toNat)
       case atStart=>exact⟨0,by omega,rfl,fun c hc=>absurd hc (by omega),HAT4.out,HLX2.out⟩
       case round=>
        obtain ⟨i5,hi5,rfl,hok,hat,hlx⟩:=hrel
        have HOK:=Lib.hid hok
        clear hok
        have HAT6:=Lib.hid hat
        by_cases hlt5:i5<N
        ·have k1:=hat.up HUR.out (show i5<8 by omega)
         have k2:=hat.down HUR.out HBR.out (show i5<8 by omega)
         have hxx:=HUR.out.get i5
         have hyy:=HBR.out.get i5
         have hand:=and_u8 hxx hyy
         obtain ⟨x,hx⟩:∃ x,U[i5]?.getD 0=x:=⟨_,rfl⟩
         obtain ⟨y,hy⟩:∃ y,D[i5]?.getD 0=y:=⟨_,rfl⟩
         rw [hx] at k1 hxx hand
         rw [hy] at k2 hyy hand
         obtain ⟨z,hz⟩:∃ z,andI x y=z:=⟨_,rfl⟩
         rw [hz] at hand
         obtain ⟨T,hT⟩:∃ T:Int,2 ^ i5=T:=⟨_,rfl⟩
         have hsh:=sh_mod (show i5<8 by omega)
         have hsw:=sh_u8 (show i5<8 by omega)
         rw [hT] at hsh hsw
         have HXY:=Lib.hid (And.intro hx (And.intro hy (And.intro hz hT)))
         have i1:(i5:Int)<8:=by omega
         have i2:(0:Int)≤(i5:Int):=by omega
         clear hx hy hz hat
         by_cases hzT:z=T
         ·have hne:(z != T)=false:=by simpa using hzT
          have HZT:=Lib.hid hzT
          clear hzT
          go_wp2_with fail
          go_quiet (fail)
          go_wp2_with fail
          refine⟨⟨i5+1,by omega,by simp,fun c hc=>?_,HAT6.out,Later.drewN hlx _⟩,by simp only [intOf];omega⟩
          rcases (by omega:c<i5∨c=i5) with hc' | rfl
          ·exact HOK.out c hc'
          ·obtain ⟨e1,e2,e3,e4⟩:=HXY.out
           rw [e1,e2,e3,e4];exact HZT.out
         ·have hne:(z != T)=true:=by simpa using hzT
          have HZT:=Lib.hid hzT
          clear hzT
          go_wp2_with fail
          go_quiet (fail)
          go_wp2_with fail
          rw [←HPT.out]
          refine newPost_no 42 (by decide) (fun k=>?_) (Later.drewN hlx _)
          have:=(HIFF.out.2 k).1 i5 hlt5
          obtain ⟨e1,e2,e3,e4⟩:=HXY.out
          rw [e1,e2,e3,e4] at this
          exact HZT.out this
        ·have hiN:i5=N:=by omega
         rw [hiN] at HOK
         clear hiN hat
         have HLX3:=Lib.hid hlx
         obtain ⟨we,hwe⟩:∃ we:World,we=wr:=⟨_,rfl⟩
         rw [←hwe] at HAT6 HLX3 ⊢
         clear hwe hlx
         go_wp2_with fail
         go_loopw [136] (fun v wx=>∃ i:Nat,i≤N∧v=.int .i64 i∧(∀c,c<i→∀ b,b<N→hasRow U N (andI (U[c]?.getD 0) (U[b]?.getD 0))∧hasRow D N (andI (D[c]?.getD 0) (D[b]?.getD 0)))∧LatAt wx lb N U D∧Later w wx) (fun v _=>N - (intOf v).toNat)
         case atStart=>exact⟨0,by omega,rfl,fun c hc=>absurd hc (by omega),HAT6.out,HLX3.out⟩
         case round=>
          obtain ⟨i6,hi6,rfl,hok6,hat,hlx⟩:=hrel
          have HOK6:=Lib.hid hok6
          have HAT7:=Lib.hid hat
          have HLX4:=Lib.hid hlx
          clear hok6 hat
          by_cases hlt6:i6<N
          ·obtain ⟨we,hwe⟩:∃ we:World,we=wr:=⟨_,rfl⟩
           rw [←hwe] at HAT7 HLX4 hlx ⊢
           clear hwe
           go_wp2_with fail
           go_loopw [140] (fun v wx=>∃ j:Nat,j≤N∧v=.int .i64 j∧(∀b,b<j→hasRow U N (andI (U[i6]?.getD 0) (U[b]?.getD 0))∧hasRow D N (andI (D[i6]?.getD 0) (D[b]?.getD 0)))∧LatAt wx lb N U D∧Later w wx) (fun v _=>N - (intOf v).toNat)
           case atStart=>exact⟨0,by omega,rfl,fun c hc=>absurd hc (by omega),HAT7.out,HLX4.out⟩
           case round=>
            obtain ⟨i7,hi7,rfl,hok7,hat,hly⟩:=hrel
            have HOK7:=Lib.hid hok7
            have HAT8:=Lib.hid hat
            clear hok7 hat
            by_cases hlt7:i7<N
            ·have HJ:=Lib.hid (fun w2 (h:Later wr w2)=>lat_join w2 lb N i6 i7 U D (HAT8.out.later h) HUR.out HBR.out h8 hlt6 hlt7)
             have HM:=Lib.hid (fun w2 (h:Later wr w2)=>lat_meet w2 lb N i6 i7 U D (HAT8.out.later h) HUR.out HBR.out h8 hlt6 hlt7)
             have E1:=Lib.hid (endF_has U (andI (U[i6]?.getD 0) (U[i7]?.getD 0)) N)
             have E2:=Lib.hid (endF_has D (andI (D[i6]?.getD 0) (D[i7]?.getD 0)) N)
             obtain ⟨v1,hv1⟩:∃ v1,endF U (andI (U[i6]?.getD 0) (U[i7]?.getD 0)) 0 N=v1:=⟨_,rfl⟩
             obtain ⟨v2,hv2⟩:∃ v2,endF D (andI (D[i6]?.getD 0) (D[i7]?.getD 0)) 0 N=v2:=⟨_,rfl⟩
             rw [hv1] at HJ E1
             rw [hv2] at HM E2
             clear hv1 hv2
             by_cases hn1:v1<0
             ·go_wp2_with (first
               | (go_at_call 135;(with_reducible refine (HJ.out _ (Later.refl _)).mono ?_);rintro e w' ⟨rfl,q1,rfl⟩)
               | fail)
              rw [←HPT.out]
              refine newPost_no 43 (by decide) (fun k=>?_) (Later.drewN hly _)
              have:=E1.out.2 ((HIFF.out.2 k).2 i6 hlt6 i7 hlt7).1
              omega
             ·by_cases hn2:v2<0
              ·go_wp2_with (first
                | (go_at_call 135;(with_reducible refine (HJ.out _ (Later.refl _)).mono ?_);rintro e w' ⟨rfl,q1,rfl⟩)
                | (go_at_call 136;(with_reducible refine (HM.out _ (Later.drewN (Later.refl _) _)).mono ?_);rintro e w' ⟨rfl,q2,rfl⟩)
                | fail)
               rw [←HPT.out]
               refine newPost_no 43 (by decide) (fun k=>?_) (Later.drewN hly _)
               have:=E2.out.2 ((HIFF.out.2 k).2 i6 hlt6 i7 hlt7).2
               omega
              ·have hd1:decide (v1<0)=false:=decide_eq_false hn1
               have hd2:decide (v2<0)=false:=decide_eq_false hn2
               go_wp2_with (first
                | (go_at_call 135;(with_reducible refine (HJ.out _ (Later.refl _)).mono ?_);rintro e w' ⟨rfl,q1,rfl⟩)
                | (go_at_call 136;(with_reducible refine (HM.out _ (Later.drewN (Later.refl _) _)).mono ?_);rintro e w' ⟨rfl,q2,rfl⟩)
                | fail)
               refine⟨⟨i7+1,by omega,by simp,fun c hc=>?_,HAT8.out,Later.drewN hly _⟩,by simp only [intOf];omega⟩
               rcases (by omega:c<i7∨c=i7) with hc' | rfl
               ·exact HOK7.out c hc'
               ·exact⟨E1.out.1 (by omega),E2.out.1 (by omega)⟩
            ·have hiN:i7=N:=by omega
             rw [hiN] at HOK7
             clear hiN
             go_wp2_with fail
             refine⟨⟨i6+1,by omega,by simp,fun c hc=>?_,HAT8.out,hly⟩,by simp only [intOf];omega⟩
             rcases (by omega:c<i6∨c=i6) with hc' | rfl
             ·exact HOK6.out c hc'
             ·exact HOK7.out
          ·have hiN:i6=N:=by omega
           rw [hiN] at HOK6
           clear hiN
           go_wp2_with fail
           rw [←HPT.out]
           exact⟨.inl ⟨HIFF.out.1 ⟨HOK.out,HOK6.out⟩,lb,N,U,D,rfl,rfl,HAT7.out,HLR.out,by omega⟩,hlx⟩
end Go.Proofs.YtbchkjfnakabkaaGreatDoor
