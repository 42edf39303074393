import Derived.Test.YtbchkjfnakabkaaGreatDoorR23
import Derived.Test.YtbchkjfnakabkaaGreatDoorB2b
import Derived.Test.YtbchkjfnakabkaaGreatDoorB34
import Derived.Test.YtbchkjfnakabkaaGreatDoorB1
import Derived.Defers
import Derived.Recover
import Derived.Laws.MakeOwn
import Derived.Laws.OwnMore
import Derived.Laws.IdiomStrings
set_option linter.unusedSimpArgs false
set_option linter.unusedVariables false
set_option maxHeartbeats 2000000
set_option maxRecDepth 100000
namespace Go.Proofs.YtbchkjfnakabkaaGreatDoor
open Go.RowKit PX
def AltJ(rb nb F:Nat)(w:World)(O:Option (Rx × List UInt8))(a:Act)(w':World):Prop:=
 ∃ (vl vr:Value),(∃(u1 u5 u6 u7 u8 u9 u10 u11 u12 u13 u14 u15 u16 u17 u18 u19 u20 u21 u22 u23 u24 u25 u26 u27 u28 u29 u30 u31 u32 u33 u34 u35 u36 u37 u38 u39:Value),a={ tmps:=#[.pointer (some ⟨rb,0,none⟩),u1,.pointer (some ⟨nb,0,none⟩),vl,vr,u5,u6,u7,u8,u9,u10,u11,u12,u13,u14,u15,u16,u17,u18,u19,u20,u21,u22,u23,u24,u25,u26,u27,u28,u29,u30,u31,u32,u33,u34,u35,u36,u37,u38,u39],defers:=[] }) ∧
 ∃ (lA rowA:List RxA) (s:List UInt8) (f:Nat),ReadAt w' rb s∧w'.heap[nb]?=some (.cells (Zh (setA Q4.none)) 141 (0,0))∧Only (fun k=>k=rb) w w'∧AltInv (nb+1) w' vl vr lA rowA ∧
  lA.length+rowA.length+s.length≤128∧3*s.length+1≤f∧f≤F∧altR f (lA.map RxA.bare) (rowA.map RxA.bare) s=O
theorem Dv{rb:Nat}{w:World}{x:Rx}{r:List UInt8}{e:Ending}{w':World}(h:∃ X:RxA,x=X.bare∧e=.returned (.agg (Zh X))∧ReadAt w' rb r∧Only (fun k=>k=rb) w w'∧X.In w' w'.heap.size∧∀ b∈X.blocks,w.heap.size≤b∧b<w'.heap.size) :
 ∃ k mn mx s0 s1 s2 s3 a cap l,x=(RxA.node k mn mx s0 s1 s2 s3 a cap l).bare∧e=.returned (.agg #[.int .i64 k,.int .i64 mn,.int .i64 mx,.int .u64 s0,.int .u64 s1,.int .u64 s2,.int .u64 s3,.slice a l.length cap])∧ReadAt w' rb r∧Only (fun k=>k=rb) w w'∧(RxA.node k mn mx s0 s1 s2 s3 a cap l).In w' w'.heap.size∧∀ b∈(RxA.node k mn mx s0 s1 s2 s3 a cap l).blocks,w.heap.size≤b∧b<w'.heap.size:=by
 obtain⟨X,hX,he,h2,h3,h4,h5⟩:=h;obtain⟨k,mn,mx,s0,s1,s2,s3,a,cap,l⟩:=X;exact⟨k,mn,mx,s0,s1,s2,s3,a,cap,l,hX,he,h2,h3,h4,h5⟩
theorem Gm{f:Nat}{l row:List Rx}{s:List UInt8}(h:(s.isEmpty || Zg 124 s || Zg 41 s)=true)(h124:Zg 124 s=false):altR (f+1) l row s=some (Rx.joined 2 (l++[Rx.joined 1 row]),s):=by
 simp only[altR];rw[if_pos h];simp[h124]
theorem Zad{f:Nat}{l row:List Rx}{s:List UInt8}(h124:Zg 124 s=true):altR (f+1) l row s=altR f (l++[Rx.joined 1 row]) [] s.tail:=by
 simp[altR,h124]
theorem Zef{f:Nat}{l row:List Rx}{s:List UInt8}(h:(s.isEmpty || Zg 124 s || Zg 41 s)=false):altR (f+1) l row s=match XI f s with|none=>none|some (x,r)=>altR f l (row++[x]) r:=by
 simp only[altR,h];rfl
def ZhC(F:Nat):Prop:=∀ f',f'<F→∀ w rb s,ReadAt w rb s→s.length≤128→3*s.length≤f'→Calls Tryz.prog 186 #[.pointer (some ⟨rb,0,none⟩)] w fun e w'=>ZV rb w (XI f' s) e w'
theorem Zee(F:Nat)(hp:ZhC F)(w:World)(rb:Nat)(s:List UInt8)(h:ReadAt w rb s)(hl:s.length≤128)(hF:3*s.length+1≤F) :
 Calls Tryz.prog 173 #[.pointer (some ⟨rb,0,none⟩)] w fun e w'=>ZV rb w (altR F [] [] s) e w':=by
 have hlt:=Za h
 obtain⟨O,hO⟩:∃ O,altR F [] [] s=O:=⟨_,rfl⟩
 rw[hO]
 obtain⟨nb,hnb⟩:∃ nb,w.heap.size=nb:=⟨_,rfl⟩
 have HP:=Hd hp;clear hp;have HOO:=Hd hO;clear hO;have HW:=Hd h;clear h;obtain⟨i0,hi,hz0,hz1,hz2⟩:=info_parts BU
 go_enter Tryz.func173,Tryz.ntmps173
 go_wp2_with fail
 refine VQ 0 (AltJ rb nb F w O) (fun _ w'=>BS rb w') rfl ?_ ?_
 ·rintro aa w' ⟨vl,vr,⟨u1,u5,u6,u7,u8,u9,u10,u11,u12,u13,u14,u15,u16,u17,u18,u19,u20,u21,u22,u23,u24,u25,u26,u27,u28,u29,u30,u31,u32,u33,u34,u35,u36,u37,u38,u39,rfl⟩,lA,rowA,s',f,hr,hn,hon,hinv,hlen,hfu,hfF,hcl⟩;clear HOO HW hl hF;have HN:=Hd hn;clear hn;have HON:=Hd hon;clear hon;have HINV:=Hd hinv;clear hinv;have HCL:=Hd hcl;clear hcl;have hnlt:=Za HN.out
  obtain⟨f1,rfl⟩:∃ f1,f=f1+1:=⟨f - 1,by omega⟩
  cases hst:(s'.isEmpty || Zg 124 s' || Zg 41 s') with
  |false=>
   obtain⟨c,u,rfl⟩:∃ c u,s'=c::u:=by
    cases s' with
    |nil=>simp at hst
    |cons c u=>exact⟨c,u,rfl⟩
   have hgo:=Zef (f:=f1) (l:=lA.map RxA.bare) (row:=rowA.map RxA.bare) hst;have HGO:=Hd (hgo.symm.trans HCL.out);clear hgo;simp only[List.isEmpty_cons,Bool.false_or,Bool.or_eq_false_iff,Zg,beq_eq_false_iff_ne,ne_eq]at hst
   have h124:((c.toNat:Int) != 124)=true:=by
    rw[bne_iff_ne];intro h;exact hst.1 (UInt8.toNat_inj.1 (by show c.toNat=124;omega))
   have h41:((c.toNat:Int) != 41)=true:=by
    rw[bne_iff_ne];intro h;exact hst.2 (UInt8.toNat_inj.1 (by show c.toNat=41;omega))
   clear hst
   obtain⟨S,HSS⟩:∃ S:ByteArray,Hid ((⟨(c::u).toArray⟩:ByteArray)=S):=⟨_,Hd rfl⟩
   obtain⟨hne,hem,hsz,hat,-⟩:=full c u HSS.out;have hleft:=Yt hr;have HLEFT:=Hd hleft;clear hleft;have HPC:=HP.out f1 (by omega) w' rb (c::u) hr (by omega) (by omega);have hrS:=hr;unfold ReadAt at hrS;rw[HSS.out]at hrS;have hc0:=ZK hrS;clear hrS hr
   cases hpr:XI f1 (c::u) with
   |none=>
    rw[hpr]at HPC;have HPC2:=Hd HPC;clear HPC;have hO:O=none:=by rw[←HGO.out,hpr]
    clear hpr
    go_wp2_with (go_at_call 186;refine HPC2.out.mono ?_;rintro e w1 hR;obtain⟨rfl,o1⟩:=YW hR)
    exact⟨rfl,HON.out.then o1,.inl ⟨hO,rfl⟩⟩
   |some p=>
    obtain⟨x,r⟩:=p;rw[hpr]at HPC;have hO:=HGO.out;rw[hpr]at hO;have hrl:=(DE f1).2.1 _ _ _ hpr;have HPC2:=Hd (HPC.mono fun e w2 hR=>Dv (Yx hR));clear HPC hpr HGO;have HO2:=Hd hO;clear hO
    go_wp2_with (first
     | (go_at_call 186
        refine HPC2.out.mono ?_;rintro e w1 ⟨k,mn,mx,s0,s1,s2,s3,a,cap,l,hX,rfl,h1,o1,hXin,hXb⟩;have hs1:=o1.size;have hinv1:=HINV.out.only o1 (by intro j hj;omega)
        have hK:Kept w1 (nb+1) vl vr (RxA.node k mn mx s0 s1 s2 s3 a cap l):=⟨hXin,fun b hb=>by
         have h3:=hXb b hb
         exact⟨by omega,h3.2,fun he=>by have:=(HINV.out.own1.lt b he).2;omega,fun he=>by have:=(HINV.out.own2.lt b he).2;omega⟩⟩
        have hinv2:=hinv1.only (Only.alloc (r:=fun k=>k=rb) (Only.refl _ w1) (.cells [.int .i64 k,.int .i64 mn,.int .i64 mx,.int .u64 s0,.int .u64 s1,.int .u64 s2,.int .u64 s3,.slice a l.length cap].toArray 141)) (by intro j hj;omega);have hK2:=hK.only (Only.alloc (r:=fun k=>k=rb) (Only.refl _ w1) (.cells [.int .i64 k,.int .i64 mn,.int .i64 mx,.int .u64 s0,.int .u64 s1,.int .u64 s2,.int .u64 s3,.slice a l.length cap].toArray 141)) (by intro j hj;omega);have HI2:=Hd hinv2;have HK2:=Hd hK2;have HXX:=Hd hX;clear hinv1 hK hinv2 hK2 hXin hXb hX
        have hrl2:rowA.length+1≤1000:=(by simp only[List.length_cons]at hlen;omega))
     | (refine wpList_append_lies _ rfl (.tmp 26) (.tmp 29) 139 rfl (nb+1) 141 i0 _ 8 80 Tryz.underlying139 hi hz0 hz1 hz2 rfl (by decide) vr rowA.length (Xb rowA) rfl HI2.out.own2 ⟨w1.heap.size,0,none⟩ 1 1 [.int .i64 k,.int .i64 mn,.int .i64 mx,.int .u64 s0,.int .u64 s1,.int .u64 s2,.int .u64 s3,.slice a l.length cap] rfl rfl (Je w1 [.int .i64 k,.int .i64 mn,.int .i64 mx,.int .u64 s0,.int .u64 s1,.int .u64 s2,.int .u64 s3,.slice a l.length cap] 141) (by intro v hv;exact GH (RxA.node k mn mx s0 s1 s2 s3 a cap l) v hv) (by decide) (by unfold maxLen;omega) (by omega) (by simp;omega) _ rfl ?_
        intro g cap' w3 hown3 hgrow hgat hglt))
    go_step3
    have hpush:=HI2.out.push HK2.out hown3 hgrow hgat;have hO3:Only (fun k=>k=rb) w w3:=((HON.out.then o1).alloc _).grown hgrow (fun b hb=>.inr (by have:=(HINV.out.own2.lt b hb).1;omega));have hvr:∀ b,b<nb+1→some b≠vr.ownBlock:=fun b hb he=>by have:=(HINV.out.own2.lt b he.symm).1;omega
    have h3:ReadAt w3 rb r:=(hgrow.block rb (by simp;omega) (hvr rb (by omega))).trans (Zd h1 _);have hn3:w3.heap[nb]?=some (.cells (Zh (setA Q4.none)) 141 (0,0)):=(hgrow.block nb (by simp;omega) (hvr nb (by omega))).trans (Zd ((o1.block nb hnlt (by omega)).trans HN.out) _);refine⟨rfl,⟨_,_,⟨_,_,_,_,_,_,_,_,_,_,_,_,_,_,_,_,_,_,_,_,_,_,_,_,_,_,_,_,_,_,_,_,_,_,_,_,rfl⟩,lA,rowA++[(RxA.node k mn mx s0 s1 s2 s3 a cap l)],r,f1,h3,hn3,hO3,hpush,?_,?_,by omega,?_⟩,?_⟩
    ·simp only[List.length_append,List.length_cons,List.length_nil]at hlen hrl ⊢;omega
    ·simp only[List.length_cons]at hfu hrl;omega
    ·rw[List.map_append,List.map_singleton,←HXX.out];exact HO2.out
    ·rw[Yt h3,HLEFT.out];exact hrl
  |true=>
   have hcase:s'=[]∨(∃u,s'=124::u)∨∃ u,s'=41::u:=by
    cases s' with
    |nil=>exact .inl rfl
    |cons c u=>
     simp only[List.isEmpty_cons,Bool.false_or,Bool.or_eq_true,Zg,beq_iff_eq]at hst;rcases hst with rfl|rfl
     ·exact .inr (.inl ⟨u,rfl⟩)
     ·exact .inr (.inr ⟨u,rfl⟩)
   obtain⟨ar,cr,rfl,hcr1,hcr2,-⟩:=Y9 HINV.out.own2;have hKJ:=HINV.out.join 1 ⟨by omega,by omega⟩ (by omega);have hJB:=YA 1 ar cr rowA;have hJC:=UF w' 1 (.slice ar rowA.length cr) (nb+1) rowA HINV.out.own2 (by omega)
   obtain⟨k,mn,mx,s0,s1,s2,s3,a,cap,l,hXJ⟩:∃ k mn mx s0 s1 s2 s3 a cap l,Xk 1 ar cr rowA=(RxA.node k mn mx s0 s1 s2 s3 a cap l):=by
    obtain⟨k,mn,mx,s0,s1,s2,s3,a,cap,l⟩:=Xk 1 ar cr rowA;exact⟨k,mn,mx,s0,s1,s2,s3,a,cap,l,rfl⟩
   have hJC2:Calls Tryz.prog 187 #[.int .i64 1,.slice ar rowA.length cr] w' fun e w1=>e=.returned (.agg #[.int .i64 k,.int .i64 mn,.int .i64 mx,.int .u64 s0,.int .u64 s1,.int .u64 s2,.int .u64 s3,.slice a l.length cap])∧Below w'.heap.size w' w1:=by
    refine hJC.mono ?_;rintro e w1 ⟨a',c',he,hee,hb⟩;simp only[Value.slice.injEq,true_and]at he;obtain⟨rfl,rfl⟩:=he;rw[hXJ]at hee;exact⟨hee,hb⟩
   rw[hXJ]at hKJ hJB;have hinv0:=HINV.out.drop;have hclp:=HCL.out;clear hJC hXJ;have HKJ:=Hd hKJ;clear hKJ;have HJB:=Hd hJB;clear hJB;have HJC:=Hd hJC2;clear hJC2;have HI0:=Hd hinv0;clear hinv0;have hwn:nb<w'.heap.size:=hnlt;have hleft:=Yt hr;have HLEFT:=Hd hleft;clear hleft;have hlA:lA.length+1≤1000:=by omega
   have hrb:rb<w'.heap.size:=Za hr;rcases hcase with rfl|⟨u,rfl⟩|⟨u,rfl⟩
   ·have hcl2:=(Gm (f:=f1) (l:=lA.map RxA.bare) (row:=rowA.map RxA.bare) (s:=[]) rfl rfl).symm.trans hclp;have hc0:w'.cell? ⟨rb,0,none⟩=some (.string ⟨#[]⟩):=ZK hr;have HTK:=Hd (fun w1 (h1:ReadAt w1 rb [])=>Zu w1 rb 124 [] h1 rfl);have HC2:=Hd hcl2;clear hcl2 hclp hst;have HRD:=Hd hr;clear hr
    go_wp2_with (first
     | (go_at_call 187
        (with_reducible refine HJC.out.mono ?_)
        rintro e w1 ⟨rfl,hb1⟩;have hs1:=hb1.size;have hO1:Only (fun k=>k=rb) w' w1:=Only.of_below hb1;have hO2:=hO1.alloc (.cells [.int .i64 k,.int .i64 mn,.int .i64 mx,.int .u64 s0,.int .u64 s1,.int .u64 s2,.int .u64 s3,.slice a l.length cap].toArray 141);have hinv2:=HI0.out.only hO2 (by intro j hj;omega);have hK2:=HKJ.out.only hO2 (by intro j hj;omega);have HI2:=Hd hinv2;have HK2:=Hd hK2;clear hinv2 hK2;have hr2:ReadAt (w1.alloc (.cells [.int .i64 k,.int .i64 mn,.int .i64 mx,.int .u64 s0,.int .u64 s1,.int .u64 s2,.int .u64 s3,.slice a l.length cap].toArray 141)) rb []:=Zd ((hb1.block rb hrb).trans HRD.out) _;have hn2:(w1.alloc (.cells [.int .i64 k,.int .i64 mn,.int .i64 mx,.int .u64 s0,.int .u64 s1,.int .u64 s2,.int .u64 s3,.slice a l.length cap].toArray 141)).heap[nb]?=_:=Zd ((hb1.block nb hwn).trans HN.out) _;have HR2:=Hd hr2;have HN2:=Hd hn2
        clear hr2 hn2)
     | (refine wpList_append_lies _ rfl (.tmp 31) (.tmp 34) 139 rfl (nb+1) 141 i0 _ 8 80 Tryz.underlying139 hi hz0 hz1 hz2 rfl (by decide) vl lA.length (Xb lA) rfl HI2.out.own1 ⟨w1.heap.size,0,none⟩ 1 1 [.int .i64 k,.int .i64 mn,.int .i64 mx,.int .u64 s0,.int .u64 s1,.int .u64 s2,.int .u64 s3,.slice a l.length cap] rfl rfl (Je w1 [.int .i64 k,.int .i64 mn,.int .i64 mx,.int .u64 s0,.int .u64 s1,.int .u64 s2,.int .u64 s3,.slice a l.length cap] 141) (by intro v hv;exact GH (RxA.node k mn mx s0 s1 s2 s3 a cap l) v hv) (by decide) (by unfold maxLen;omega) (by omega) (by simp;omega) _ rfl ?_
        intro g cap' w3 hown3 hgrow hgat hglt;have hpush:=(HI2.out.swap.push HK2.out.swap hown3 hgrow hgat).swap
        have hvl:∀ b,b<nb+1→some b≠vl.ownBlock:=fun b hb he=>by
         have:=(HINV.out.own1.lt b he.symm).1;omega
        have h3:ReadAt w3 rb []:=(hgrow.block rb (by simp;omega) (hvl rb (by omega))).trans HR2.out;have hn3:=(hgrow.block nb (by simp;omega) (hvl nb (by omega))).trans HN2.out;have hO3:Only (fun k=>k=rb) w w3:=(HON.out.then hO2).grown hgrow (fun b hb=>.inr (by have:=(HINV.out.own1.lt b hb).1;omega));have HPU:=Hd hpush;have HN3:=Hd hn3;have HO3:=Hd hO3;have hnl3:=Za hn3
        clear hpush hn3 hO3 hown3 hgrow hgat)
     | (go_at_call 188
        (with_reducible refine(HTK.out _ h3).mono ?_)
        rintro e w4 ⟨rfl,h4,o4⟩;have hn4:=(o4.block nb hnl3 (by omega)).trans HN3.out;have hpu4:=HPU.out.only o4 (by intro j hj;omega);have HN4:=Hd hn4;have HP4:=Hd hpu4;have HO4:=Hd (HO3.out.then o4)
        clear hn4 hpu4)
     | (go_at_call 187
        refine(UF w4 2 _ (nb+1) (lA++[(RxA.node k mn mx s0 s1 s2 s3 a cap l)]) HP4.out.own1 (by simp;omega)).mono ?_;rintro e w5 ⟨a5,c5,hv5,rfl,hb5⟩;have hn5:=(hb5.block nb (Za HN4.out)).trans HN4.out;have HN5:=Hd hn5;clear hn5;have HV5:=Hd hv5
        clear hv5)
     |(refine wpList_store_row rfl 141 (.tmp 2) (.tmp 39) ?_ nb (Zh (Xk 2 a5 c5 (lA++[(RxA.node k mn mx s0 s1 s2 s3 a cap l)]))) ?_ ?_ 141 (Zh (setA Q4.none)) ?_ (Zj _) (by rw[Zi,Zi]) (Zl _) ?_;(with_reducible rfl);rfl;rfl;exact HN5.out))
    refine bodyPost_ret (results_cell_row rfl _ _ nb 141 (Zh (Xk 2 a5 c5 (lA++[(RxA.node k mn mx s0 s1 s2 s3 a cap l)]))) (0,0) _ rfl (setRow_heap _ _ _ _ _ _ HN5.out) Tryz.underlying141 rfl (Zj _)) rfl ?_;have hinv5:=HP4.out;rw[HV5.out]at hinv5;have hK4:=hinv5.swap.join 2 ⟨by omega,by omega⟩ (by simp;omega);have hK6:=(hK4.only (r:=fun _=>False) (Only.of_below hb5) (fun j hj=>hj.elim)).only ((Only.refl (fun k=>k=nb) w5).setRow (.inl rfl) (Zh (Xk 2 a5 c5 (lA++[(RxA.node k mn mx s0 s1 s2 s3 a cap l)])))) (by intro j hj;omega);refine⟨(HO4.out.then (Only.of_below hb5)).setRow (q:=nb) (.inr (by omega)) _,.inr ⟨Xk 2 a5 c5 (lA++[(RxA.node k mn mx s0 s1 s2 s3 a cap l)]),[],?_,rfl,?_,hK6.lies,fun b hb=>⟨by have:=(hK6.far b hb).1;omega,(hK6.far b hb).2.1⟩⟩⟩
    ·rw[←HC2.out,YA,List.map_append,List.map_singleton,HJB.out]
    ·exact(setRow_other _ _ _ _ (by omega)).trans ((hb5.block rb (Za h4)).trans h4)
   ·have hcl2:=(Zad (f:=f1) (l:=lA.map RxA.bare) (row:=rowA.map RxA.bare) (s:=124::u) rfl).symm.trans hclp
    obtain⟨S,HSS⟩:∃ S:ByteArray,Hid ((⟨(124::u).toArray⟩:ByteArray)=S):=⟨_,Hd rfl⟩
    obtain⟨hne,hem,hsz,hat,-⟩:=full 124 u HSS.out;have hrS:=hr;unfold ReadAt at hrS;rw[HSS.out]at hrS;have hc0:=ZK hrS;clear hrS;have HTK:=Hd (fun w1 (h1:ReadAt w1 rb (124::u))=>ZI w1 rb 124 u h1);have HC2:=Hd hcl2;clear hcl2 hclp hst;have HRD:=Hd hr;clear hr
    go_wp2_with (first
     | (go_at_call 187
        (with_reducible refine HJC.out.mono ?_)
        rintro e w1 ⟨rfl,hb1⟩;have hs1:=hb1.size;have hO1:Only (fun k=>k=rb) w' w1:=Only.of_below hb1;have hO2:=hO1.alloc (.cells [.int .i64 k,.int .i64 mn,.int .i64 mx,.int .u64 s0,.int .u64 s1,.int .u64 s2,.int .u64 s3,.slice a l.length cap].toArray 141);have hinv2:=HI0.out.only hO2 (by intro j hj;omega);have hK2:=HKJ.out.only hO2 (by intro j hj;omega);have HI2:=Hd hinv2;have HK2:=Hd hK2;clear hinv2 hK2;have hr2:ReadAt (w1.alloc (.cells [.int .i64 k,.int .i64 mn,.int .i64 mx,.int .u64 s0,.int .u64 s1,.int .u64 s2,.int .u64 s3,.slice a l.length cap].toArray 141)) rb (124::u):=Zd ((hb1.block rb hrb).trans HRD.out) _;have hn2:(w1.alloc (.cells [.int .i64 k,.int .i64 mn,.int .i64 mx,.int .u64 s0,.int .u64 s1,.int .u64 s2,.int .u64 s3,.slice a l.length cap].toArray 141)).heap[nb]?=_:=Zd ((hb1.block nb hwn).trans HN.out) _;have HR2:=Hd hr2;have HN2:=Hd hn2
        clear hr2 hn2)
     | (refine wpList_append_lies _ rfl (.tmp 31) (.tmp 34) 139 rfl (nb+1) 141 i0 _ 8 80 Tryz.underlying139 hi hz0 hz1 hz2 rfl (by decide) vl lA.length (Xb lA) rfl HI2.out.own1 ⟨w1.heap.size,0,none⟩ 1 1 [.int .i64 k,.int .i64 mn,.int .i64 mx,.int .u64 s0,.int .u64 s1,.int .u64 s2,.int .u64 s3,.slice a l.length cap] rfl rfl (Je w1 [.int .i64 k,.int .i64 mn,.int .i64 mx,.int .u64 s0,.int .u64 s1,.int .u64 s2,.int .u64 s3,.slice a l.length cap] 141) (by intro v hv;exact GH (RxA.node k mn mx s0 s1 s2 s3 a cap l) v hv) (by decide) (by unfold maxLen;omega) (by omega) (by simp;omega) _ rfl ?_
        intro g cap' w3 hown3 hgrow hgat hglt;have hpush:=(HI2.out.swap.push HK2.out.swap hown3 hgrow hgat).swap
        have hvl:∀ b,b<nb+1→some b≠vl.ownBlock:=fun b hb he=>by
         have:=(HINV.out.own1.lt b he.symm).1;omega
        have h3:ReadAt w3 rb (124::u):=(hgrow.block rb (by simp;omega) (hvl rb (by omega))).trans HR2.out;have hn3:=(hgrow.block nb (by simp;omega) (hvl nb (by omega))).trans HN2.out;have hO3:Only (fun k=>k=rb) w w3:=(HON.out.then hO2).grown hgrow (fun b hb=>.inr (by have:=(HINV.out.own1.lt b hb).1;omega));have HPU:=Hd hpush;have HN3:=Hd hn3;have HO3:=Hd hO3;have hnl3:=Za hn3
        clear hpush hn3 hO3 hown3 hgrow hgat)
     | (go_at_call 188
        (with_reducible refine(HTK.out _ h3).mono ?_)
        rintro e w4 ⟨rfl,h4,o4⟩;have hn4:=(o4.block nb hnl3 (by omega)).trans HN3.out;have hpu4:=HPU.out.only o4 (by intro j hj;omega);have HN4:=Hd hn4;have HP4:=Hd hpu4;have HO4:=Hd (HO3.out.then o4)
        clear hn4 hpu4))
    go_step3
    refine⟨rfl,⟨_,_,⟨_,_,_,_,_,_,_,_,_,_,_,_,_,_,_,_,_,_,_,_,_,_,_,_,_,_,_,_,_,_,_,_,_,_,_,_,rfl⟩,lA++[(RxA.node k mn mx s0 s1 s2 s3 a cap l)],[],u,f1,h4,HN4.out,HO4.out,HP4.out,?_,?_,by omega,?_⟩,?_⟩
    ·simp only[List.length_append,List.length_cons,List.length_nil]at hlen ⊢;omega
    ·simp only[List.length_cons]at hfu;omega
    ·rw[List.map_append,List.map_singleton,HJB.out];exact HC2.out
    ·rw[Yt h4,HLEFT.out];simp
   ·have hcl2:=(Gm (f:=f1) (l:=lA.map RxA.bare) (row:=rowA.map RxA.bare) (s:=41::u) rfl rfl).symm.trans hclp
    obtain⟨S,HSS⟩:∃ S:ByteArray,Hid ((⟨(41::u).toArray⟩:ByteArray)=S):=⟨_,Hd rfl⟩
    obtain⟨hne,hem,hsz,hat,-⟩:=full 41 u HSS.out;have hrS:=hr;unfold ReadAt at hrS;rw[HSS.out]at hrS;have hc0:=ZK hrS;clear hrS;have HTK:=Hd (fun w1 (h1:ReadAt w1 rb (41::u))=>Zu w1 rb 124 (41::u) h1 rfl);have HC2:=Hd hcl2;clear hcl2 hclp hst;have HRD:=Hd hr;clear hr
    go_wp2_with (first
     | (go_at_call 187
        (with_reducible refine HJC.out.mono ?_)
        rintro e w1 ⟨rfl,hb1⟩;have hs1:=hb1.size;have hO1:Only (fun k=>k=rb) w' w1:=Only.of_below hb1;have hO2:=hO1.alloc (.cells [.int .i64 k,.int .i64 mn,.int .i64 mx,.int .u64 s0,.int .u64 s1,.int .u64 s2,.int .u64 s3,.slice a l.length cap].toArray 141);have hinv2:=HI0.out.only hO2 (by intro j hj;omega);have hK2:=HKJ.out.only hO2 (by intro j hj;omega);have HI2:=Hd hinv2;have HK2:=Hd hK2;clear hinv2 hK2;have hr2:ReadAt (w1.alloc (.cells [.int .i64 k,.int .i64 mn,.int .i64 mx,.int .u64 s0,.int .u64 s1,.int .u64 s2,.int .u64 s3,.slice a l.length cap].toArray 141)) rb (41::u):=Zd ((hb1.block rb hrb).trans HRD.out) _;have hn2:(w1.alloc (.cells [.int .i64 k,.int .i64 mn,.int .i64 mx,.int .u64 s0,.int .u64 s1,.int .u64 s2,.int .u64 s3,.slice a l.length cap].toArray 141)).heap[nb]?=_:=Zd ((hb1.block nb hwn).trans HN.out) _;have HR2:=Hd hr2;have HN2:=Hd hn2
        clear hr2 hn2)
     | (refine wpList_append_lies _ rfl (.tmp 31) (.tmp 34) 139 rfl (nb+1) 141 i0 _ 8 80 Tryz.underlying139 hi hz0 hz1 hz2 rfl (by decide) vl lA.length (Xb lA) rfl HI2.out.own1 ⟨w1.heap.size,0,none⟩ 1 1 [.int .i64 k,.int .i64 mn,.int .i64 mx,.int .u64 s0,.int .u64 s1,.int .u64 s2,.int .u64 s3,.slice a l.length cap] rfl rfl (Je w1 [.int .i64 k,.int .i64 mn,.int .i64 mx,.int .u64 s0,.int .u64 s1,.int .u64 s2,.int .u64 s3,.slice a l.length cap] 141) (by intro v hv;exact GH (RxA.node k mn mx s0 s1 s2 s3 a cap l) v hv) (by decide) (by unfold maxLen;omega) (by omega) (by simp;omega) _ rfl ?_
        intro g cap' w3 hown3 hgrow hgat hglt;have hpush:=(HI2.out.swap.push HK2.out.swap hown3 hgrow hgat).swap
        have hvl:∀ b,b<nb+1→some b≠vl.ownBlock:=fun b hb he=>by
         have:=(HINV.out.own1.lt b he.symm).1;omega
        have h3:ReadAt w3 rb (41::u):=(hgrow.block rb (by simp;omega) (hvl rb (by omega))).trans HR2.out;have hn3:=(hgrow.block nb (by simp;omega) (hvl nb (by omega))).trans HN2.out;have hO3:Only (fun k=>k=rb) w w3:=(HON.out.then hO2).grown hgrow (fun b hb=>.inr (by have:=(HINV.out.own1.lt b hb).1;omega));have HPU:=Hd hpush;have HN3:=Hd hn3;have HO3:=Hd hO3;have hnl3:=Za hn3
        clear hpush hn3 hO3 hown3 hgrow hgat)
     | (go_at_call 188
        (with_reducible refine(HTK.out _ h3).mono ?_)
        rintro e w4 ⟨rfl,h4,o4⟩;have hn4:=(o4.block nb hnl3 (by omega)).trans HN3.out;have hpu4:=HPU.out.only o4 (by intro j hj;omega);have HN4:=Hd hn4;have HP4:=Hd hpu4;have HO4:=Hd (HO3.out.then o4)
        clear hn4 hpu4)
     | (go_at_call 187
        refine(UF w4 2 _ (nb+1) (lA++[(RxA.node k mn mx s0 s1 s2 s3 a cap l)]) HP4.out.own1 (by simp;omega)).mono ?_;rintro e w5 ⟨a5,c5,hv5,rfl,hb5⟩;have hn5:=(hb5.block nb (Za HN4.out)).trans HN4.out;have HN5:=Hd hn5;clear hn5;have HV5:=Hd hv5
        clear hv5)
     |(refine wpList_store_row rfl 141 (.tmp 2) (.tmp 39) ?_ nb (Zh (Xk 2 a5 c5 (lA++[(RxA.node k mn mx s0 s1 s2 s3 a cap l)]))) ?_ ?_ 141 (Zh (setA Q4.none)) ?_ (Zj _) (by rw[Zi,Zi]) (Zl _) ?_;(with_reducible rfl);rfl;rfl;exact HN5.out))
    refine bodyPost_ret (results_cell_row rfl _ _ nb 141 (Zh (Xk 2 a5 c5 (lA++[(RxA.node k mn mx s0 s1 s2 s3 a cap l)]))) (0,0) _ rfl (setRow_heap _ _ _ _ _ _ HN5.out) Tryz.underlying141 rfl (Zj _)) rfl ?_;have hinv5:=HP4.out;rw[HV5.out]at hinv5;have hK4:=hinv5.swap.join 2 ⟨by omega,by omega⟩ (by simp;omega);have hK6:=(hK4.only (r:=fun _=>False) (Only.of_below hb5) (fun j hj=>hj.elim)).only ((Only.refl (fun k=>k=nb) w5).setRow (.inl rfl) (Zh (Xk 2 a5 c5 (lA++[(RxA.node k mn mx s0 s1 s2 s3 a cap l)])))) (by intro j hj;omega);refine⟨(HO4.out.then (Only.of_below hb5)).setRow (q:=nb) (.inr (by omega)) _,.inr ⟨Xk 2 a5 c5 (lA++[(RxA.node k mn mx s0 s1 s2 s3 a cap l)]),41::u,?_,rfl,?_,hK6.lies,fun b hb=>⟨by have:=(hK6.far b hb).1;omega,(hK6.far b hb).2.1⟩⟩⟩
    ·rw[←HC2.out,YA,List.map_append,List.map_singleton,HJB.out]
    ·exact(setRow_other _ _ _ _ (by omega)).trans ((hb5.block rb (Za h4)).trans h4)
 ·intro hX;have HX:=Hd hX;clear hX;have hr0:ReadAt (w.alloc (.cells (Zh (setA Q4.none)) 141)) rb s:=Zd HW.out _;have hn0:(w.alloc (.cells (Zh (setA Q4.none)) 141)).heap[nb]?=some (.cells (Zh (setA Q4.none)) 141 (0,0)):=by rw[←hnb];exact Ze _ _
  go_wp2_with fail
  go_step3
  rename (∀(a:Act) (w:World),_→_)=>hk
  exact hk _ _ (HX.out _ _ ⟨_,_,⟨_,_,_,_,_,_,_,_,_,_,_,_,_,_,_,_,_,_,_,_,_,_,_,_,_,_,_,_,_,_,_,_,_,_,_,_,rfl⟩,[],[],s,F,hr0,hn0,(Only.refl _ w).alloc _,AltInv.start _ _,by simpa using hl,hF,Nat.le_refl _,HOO.out⟩)
end Go.Proofs.YtbchkjfnakabkaaGreatDoor
namespace Go.Proofs.YtbchkjfnakabkaaGreatDoor
open Go.RowKit PX
theorem Ut(altf:List UInt8→Option (Rx × List UInt8)):Xx altf []=none:=by rfl
theorem ZeP:∀ (f':Nat) (w:World) (rb:Nat) (s:List UInt8),ReadAt w rb s→s.length≤128→3*s.length≤f' →
 Calls Tryz.prog 186 #[.pointer (some ⟨rb,0,none⟩)] w fun e w'=>ZV rb w (XI f' s) e w':=by
 intro f'
 induction f' using Nat.strongRecOn with
 |_ f' ih=>
  intro w rb s h hl hf
  match f',ih,hf with
  |0,_,hf=>
   obtain rfl:s=[]:=List.eq_nil_of_length_eq_zero (by omega)
   have hp:=EP w rb [] h none (fun x r h=>by cases h) (fun w1 h1=>by
    have ha:=QB w1 rb [] h1 hl (fun _=>none) (fun h=>by cases h);rw[Ut]at ha
    exact ha)
   exact hp
  |1,_,hf=>
   obtain rfl:s=[]:=List.eq_nil_of_length_eq_zero (by omega)
   have hp:=EP w rb [] h none (fun x r h=>by cases h) (fun w1 h1=>by
    have ha:=QB w1 rb [] h1 hl (fun _=>none) (fun h=>by cases h);rw[Ut]at ha
    exact ha)
   exact hp
  |f2+2,ih,hf=>
   have hA:Vm (f2+1) s=Xx (altR f2 [] []) s:=by
    simp only[Vm,Xx];rfl
   have hP:XI (f2+2) s=BD (Xx (altR f2 [] []) s):=by
    rw[←hA];simp only[XI]
    cases Vm (f2+1) s with
    |none=>rfl
    |some p=>rfl
   rw[hP];refine EP w rb s h _ (fun x r hx=>?_) (fun w1 h1=>?_)
   ·rw[←hA]at hx;have:=(DE (f2+1)).2.2 _ _ _ hx;omega
   ·refine QB w1 rb s h1 hl (altR f2 [] []) (fun h40 w2 h2=>?_);have ht:=Z6 h40;exact Zee f2 (fun f'' hlt=>ih f'' (by omega)) w2 rb s.tail h2 (by omega) (by omega)
theorem Bg(F:Nat)(w:World)(rb:Nat)(s:List UInt8)(h:ReadAt w rb s)(hl:s.length≤128)(hF:3*s.length+1≤F) :
 Calls Tryz.prog 173 #[.pointer (some ⟨rb,0,none⟩)] w fun e w'=>ZV rb w (altR F [] [] s) e w':=
 Zee F (fun f' _=>ZeP f') w rb s h hl hF
end Go.Proofs.YtbchkjfnakabkaaGreatDoor
namespace Go.Proofs.YtbchkjfnakabkaaGreatDoor
open Go.RowKit PX
theorem Db(w:World):(Instr.typeAssert (.iface 202 (.agg #[])) 20 202 true).run Tryz.prog w=.ok (.tuple #[.agg #[],.bool true]) w:=by kernel_rfl
theorem ZbG(w:World):(Instr.typeAssert .nilIface 20 202 true).run Tryz.prog w=.ok (.tuple #[.agg #[],.bool false]) w:=by kernel_rfl
theorem JS(p:Addr)(x:Int)(w:World)(hlt:p.block<w.heap.size)(hc:w.cell? p=some (.int .i64 x))(hz:w.frozen? p=false) :
 CallsD Tryz.prog 172 #[.pointer (some p)] (.panicking Jy) w fun e u' w'=>
  e=.returned (.tuple #[])∧u'=.panicking [{ v:=.iface 202 (.agg #[]),recovered:=true }]∧w'=(w.alloc (.cells #[] 202)).setCell p (.int .i64 50):=by
 refine callsD_of_wpS Tryz.func172 rfl fun c₀ cs hu=>?_
 unfold Jy at hu;apply wpS_seq;apply wpS_region;simp[wpOpsS,go_sem,recoverD,hu,Tryz.ntmps172,Exit.thenS,Db];have hc2:(w.alloc (.cells #[] 202)).cell? p=some (.int .i64 x):=(World.cell?_of_block (w:=w) (Below.heap_alloc _ _ _ hlt)).trans hc;have hz2:(w.alloc (.cells #[] 202)).frozen? p=false:=(World.frozen?_of_block (w:=w) (Below.heap_alloc _ _ _ hlt)).trans hz;apply wpS_seq;apply wpS_region;simp[wpOpsS,go_sem,Exit.thenS,Array.replicate];refine wpS_cond (t:=true) (by simp[Act.eval,Array.replicate]) ?_;simp only[if_true];apply wpS_region;simp[wpOpsS,go_sem,hc2,hz2,bodyPostS,results,Tryz.results172]
theorem G2(p:Addr)(w:World) :
 CallsD Tryz.prog 172 #[.pointer (some p)] .returning w fun e u' w'=>
  e=.returned (.tuple #[])∧u'=.returning∧w'=w.alloc (.cells #[] 202):=by
 refine callsD_of_wpS Tryz.func172 rfl fun c₀ cs hu=>?_
 apply wpS_seq;apply wpS_region;simp[wpOpsS,go_sem,recoverD,hu,Tryz.ntmps172,Exit.thenS,ZbG];apply wpS_seq;apply wpS_region;simp[wpOpsS,go_sem,Exit.thenS,Array.replicate];refine wpS_cond (t:=false) (by simp[Act.eval,Array.replicate]) ?_;simp only[Bool.false_eq_true,if_false];refine wpS_of_wp (wp_skip ?_);cases c₀
 simp_all [bodyPostS,results,Tryz.results172]
theorem Jd(w:World)(g:Nat)(n:Int)(hc:w.cell? ⟨g,0,none⟩=some (.int .i64 n)):(loadVar 33 ⟨g,0,none⟩).run Tryz.prog w=.ok (.int .i64 n) w:=by
 simp[loadVar,isAgg,run_underlying Tryz.underlying33,go_sem,hc]
theorem Yd{fn:Func}{p q:Tmp}{ty tq:TypeId}(h:fn.results=#[.cell p ty,.cell q tq])(tmps:Array Value)(P:Program)(w:World)(g g2:Nat)(t:TypeId)(cs:Array Value)(fr:Nat × Nat)(fs:Array Field)(v:Value)
 (hp:tmps.getD p undef=.pointer (some ⟨g,0,none⟩)) (hg:w.heap[g]?=some (.cells cs t fr))
 (hu:P.underlying ty=some (.struct fs)) (hi:(P.info? ty).map (·.size)=some cs.size)
 (hq:tmps.getD q undef=.pointer (some ⟨g2,0,none⟩)) (hl:(loadVar tq ⟨g2,0,none⟩).run P w=.ok v w) :
 (results fn tmps).run P w=.ok (.tuple #[.agg cs,v]) w:=by
 have hp':tmps[p]?.getD undef=.pointer (some ⟨g,0,none⟩):=by simpa using hp
 have hq':tmps[q]?.getD undef=.pointer (some ⟨g2,0,none⟩):=by simpa using hq
 simp[results,h,hp',hq',asAddr,run_loadVar_row w g t ty cs fr (.struct fs) hg hu rfl hi,hl]
theorem Xo{B q:Nat}{a w:World}(h:Below B a w)(hq:B≤q)(cs:Array Value):Below B a (w.setRow q cs):=
 ⟨h.os,h.tape,h.output,by simpa using h.size,fun k hk=>(setRow_other w q k cs (by omega)).trans (h.block k hk)⟩
def Jf(w:World)(l:List UInt8)(e:Ending)(w':World):Prop:=
 Below w.heap.size w w'∧((∃X:RxA,Yn l=.inl X.bare∧e=.returned (.tuple #[.agg (Zh X),.int .i64 0])∧X.In w' w'.heap.size)∨∃ n,Yn l=.inr n∧e=.returned (.tuple #[.agg (Zh (setA Q4.none)),.int .i64 n]))
theorem V4{l:List UInt8}(h:l.length≤128):Yn l=match altR (3*l.length+3) [] [] l with|none=>.inr 50|some (x,r)=>if r.isEmpty then(if 256<x.sizeI then .inr 51 else .inl x) else .inr 50:=by
 unfold Yn;rw[if_neg (by omega)];rfl
theorem Ew:∀ l:List Rx,YL l↔∀ y∈l,tame y
 |[]=>by simp[YL]
 |x::xs=>by simp[YL,Ew xs]
theorem G8(q:Q4):tame (.set q):=by simp[Rx.set,tame,YL]
theorem Ev{kind:Int}{l:List Rx}(h:∀ y∈l,tame y):tame (Rx.joined kind l):=by
 match l,h with
 |[],_=>simp[Rx.joined,tame,YL]
 |[x],h=>exact h x (by simp)
 |x::y::l,h=>
  show tame (.node kind 0 0 0 0 0 0 (x::y::l));simp only[tame];exact⟨by omega,by omega,(Ew _).2 h⟩
theorem Zb3{x:Rx}{s:List UInt8}{y:Rx}{r:List UInt8}(hx:tame x)(h:sign x s=some (y,r)):tame y:=by
 have hrep:∀ m n:Int,(0≤m∧m≤15)→(-1≤n∧n≤15)→tame (.rep m n x):=by
  intro m n hm hn;simp only[Rx.rep,tame,YL,and_true];exact⟨by omega,by omega,hx⟩
 unfold sign at h;split at h
 ·cases h;exact hrep _ _ (by omega) (by omega)
 ·split at h
  ·cases h;exact hrep _ _ (by omega) (by omega)
  ·split at h
   ·cases h;exact hrep _ _ (by omega) (by omega)
   ·split at h
    ·split at h
     ·cases h
     ·rename_i m n r1 h1;have:=Gj h1;cases h;exact hrep _ _ this.2.1 this.2.2
    ·cases h;exact hx
theorem Zcv(f:Nat):(∀(l row:List Rx) (s:List UInt8) (x:Rx) (r:List UInt8),(∀y∈l,tame y)→(∀y∈row,tame y)→altR f l row s=some (x,r)→tame x) ∧
 (∀(s:List UInt8) (x:Rx) (r:List UInt8),XI f s=some (x,r)→tame x)∧(∀(s:List UInt8) (x:Rx) (r:List UInt8),Vm f s=some (x,r)→tame x):=by
 induction f with
 |zero=>exact⟨fun _ _ _ _ _ _ _ h=>by simp[altR]at h,fun _ _ _ h=>by simp[XI]at h,fun _ _ _ h=>by simp[Vm]at h⟩
 |succ f ih=>
  obtain⟨ia,ip,it⟩:=ih;refine⟨fun l row s x r hl hrow h=>?_,fun s x r h=>?_,fun s x r h=>?_⟩
  ·have hj:∀ y∈l++[Rx.joined 1 row],tame y:=by
    intro y hy;rcases List.mem_append.1 hy with hy|hy
    ·exact hl y hy
    ·obtain rfl:=List.mem_singleton.1 hy;exact Ev hrow
   simp only[altR]at h;split at h
   ·split at h
    ·exact ia _ _ _ _ _ hj (fun y hy=>by cases hy) h
    ·cases h;exact Ev hj
   ·split at h
    ·cases h
    ·rename_i y t h1;refine ia _ _ _ _ _ hl (fun z hz=>?_) h;rcases List.mem_append.1 hz with hz|hz
     ·exact hrow z hz
     ·obtain rfl:=List.mem_singleton.1 hz;exact ip _ _ _ h1
  ·simp only[XI]at h;split at h
   ·cases h
   ·rename_i y t h1;exact Zb3 (it _ _ _ h1) h
  ·simp only[Vm]at h;split at h
   ·cases h;exact G8 _
   ·split at h
    ·split at h
     ·cases h
     ·cases h;exact G8 _
    ·split at h
     ·split at h
      ·cases h
      ·rename_i y t h2;split at h
       ·cases h;exact ia _ _ _ _ _ (fun y hy=>by cases hy) (fun y hy=>by cases hy) h2
       ·cases h
     ·split at h
      ·cases h
      ·cases h;exact G8 _
theorem Za2(w:World)(S:ByteArray)(h:128<S.size) :
 Calls Tryz.prog 150 #[.string S] w fun e w'=>e=.returned (.tuple #[.agg (Zh (setA Q4.none)),.int .i64 51])∧Below w.heap.size w w':=by
 have hi:(128:Int)<S.size:=by omega
 have hh:((w.alloc (.cells #[.int .i64 0,.int .i64 0,.int .i64 0,.int .u64 0,.int .u64 0,.int .u64 0,.int .u64 0,.slice none 0 0] 141)).alloc (.cells #[.int .i64 51] 33)).heap[w.heap.size]?=some (.cells (Zh (setA Q4.none)) 141 (0,0)):=Zd (Ze _ _) _;have hc:((w.alloc (.cells #[.int .i64 0,.int .i64 0,.int .i64 0,.int .u64 0,.int .u64 0,.int .u64 0,.int .u64 0,.slice none 0 0] 141)).alloc (.cells #[.int .i64 51] 33)).cell? ⟨w.heap.size+1,0,none⟩=some (.int .i64 51):=Zb (Zp _ _ _ (by simp)) 0;have HH:=Hd hh;have HC:=Hd hc;clear hh hc
 go_enter_defers Tryz.func150,Tryz.ntmps150
 go_wp2_with fail
 exact⟨_,Yd rfl _ _ _ w.heap.size (w.heap.size+1) 141 (Zh (setA Q4.none)) (0,0) _ (.int .i64 51) rfl HH.out Tryz.underlying141 (Zj _) rfl (Jd _ _ _ HC.out),rfl,((Below.refl w.heap.size w).alloc (Nat.le_refl _) _).alloc (by simp) _⟩
theorem VF(w:World)(l:List UInt8)(S:ByteArray)(hS:(⟨l.toArray⟩:ByteArray)=S):ReadAt (((w.alloc (.cells #[.int .i64 0,.int .i64 0,.int .i64 0,.int .u64 0,.int .u64 0,.int .u64 0,.int .u64 0,.slice none 0 0] 141)).alloc (.cells #[.int .i64 0] 33)).alloc (.cells #[.string S] 206)) (w.heap.size+2) l:=by
 unfold ReadAt;rw[hS];exact Zp _ _ _ (by simp)
theorem JJ(w:World)(S:ByteArray):(((w.alloc (.cells #[.int .i64 0,.int .i64 0,.int .i64 0,.int .u64 0,.int .u64 0,.int .u64 0,.int .u64 0,.slice none 0 0] 141)).alloc (.cells #[.int .i64 0] 33)).alloc (.cells #[.string S] 206)).heap[w.heap.size]?=some (.cells (Zh (setA Q4.none)) 141 (0,0))∧(((w.alloc (.cells #[.int .i64 0,.int .i64 0,.int .i64 0,.int .u64 0,.int .u64 0,.int .u64 0,.int .u64 0,.slice none 0 0] 141)).alloc (.cells #[.int .i64 0] 33)).alloc (.cells #[.string S] 206)).heap[w.heap.size+1]?=some (.cells #[.int .i64 0] 33 (0,0))∧(((w.alloc (.cells #[.int .i64 0,.int .i64 0,.int .i64 0,.int .u64 0,.int .u64 0,.int .u64 0,.int .u64 0,.slice none 0 0] 141)).alloc (.cells #[.int .i64 0] 33)).alloc (.cells #[.string S] 206)).heap.size=w.heap.size+3:=
 ⟨Zd (Zd (Ze _ _) _) _,Zd (Zp _ _ _ (by simp)) _,by simp⟩
theorem VG(w:World)(S:ByteArray):Below w.heap.size w (((w.alloc (.cells #[.int .i64 0,.int .i64 0,.int .i64 0,.int .u64 0,.int .u64 0,.int .u64 0,.int .u64 0,.slice none 0 0] 141)).alloc (.cells #[.int .i64 0] 33)).alloc (.cells #[.string S] 206)):=(((Below.refl w.heap.size w).alloc (Nat.le_refl _) _).alloc (by simp) _).alloc (by simp;omega) _
theorem Za1(w:World)(S:ByteArray)(l:List UInt8)(hS:(⟨l.toArray⟩:ByteArray)=S)(hl:l.length≤128)(hn:altR (3*l.length+3) [] [] l=none) :
 Calls Tryz.prog 150 #[.string S] w fun e w'=>Jf w l e w':=by
 have hpr:Yn l=.inr 50:=by rw[V4 hl,hn]
 have hmf:∀ (fn:Fn) (first cap:Array Value) (w:World),(Instr.makeFunc fn first cap).run Tryz.prog w=.ok (.func fn first cap) w:=fun _ _ _ _=>rfl
 have hr:=VF w l S hS;have halt:=Bg (3*l.length+3) _ (w.heap.size+2) l hr hl (by omega);rw[hn]at halt;have HALT:=Hd (halt.mono fun e w2 hR=>YW hR);clear halt hr hn;have hsz:S.size=l.length:=by rw[←hS];simp[ByteArray.size]
 have hi:¬ (128:Int)<l.length:=by omega
 clear hS
 go_enter_defers Tryz.func150,Tryz.ntmps150
 go_wp2_with (go_at_call 173;refine HALT.out.mono ?_;rintro e w1 ⟨rfl,o1⟩)
 obtain⟨hE0,hB0,hw0⟩:=JJ w S;have hE1:=(o1.block w.heap.size (by omega) (by omega)).trans hE0;have hB1:=(o1.block (w.heap.size+1) (by omega) (by omega)).trans hB0;have hs1:=o1.size;have hbl:Below w.heap.size w w1:=(VG w S).trans (o1.below (by omega) (by intro j hj;omega));refine leaves_cons (f:=172) (args:=#[.pointer (some ⟨w.heap.size+1,0,none⟩)]) (by simp) (by simp[go_sem]) ?_;refine(JS ⟨w.heap.size+1,0,none⟩ 0 w1 (by show w.heap.size+1<_;omega) (Zb hB1 0) (Zc hB1 0)).mono ?_;rintro e u' w2 ⟨rfl,rfl,rfl⟩
 have hE2:((w1.alloc (.cells #[] 202)).setCell ⟨w.heap.size+1,0,none⟩ (.int .i64 50)).heap[w.heap.size]?=some (.cells (Zh (setA Q4.none)) 141 (0,0)):=
  (Below.heap_setCell _ _ _ _ (by show w.heap.size≠w.heap.size+1;omega)).trans (Zd hE1 _)
 have hB2:=Zb (Zf (Zd hB1 (.cells #[] 202)) 0 (.int .i64 50)) 0;exact⟨_,Yd rfl _ _ _ w.heap.size (w.heap.size+1) 141 (Zh (setA Q4.none)) (0,0) _ (.int .i64 50) rfl hE2 Tryz.underlying141 (Zj _) rfl (Jd _ _ _ hB2),(hbl.alloc hbl.size _).setCell (by show w.heap.size≤w.heap.size+1;omega) _,.inr ⟨50,hpr,rfl⟩⟩
theorem Za0(w:World)(S:ByteArray)(l:List UInt8)(hS:(⟨l.toArray⟩:ByteArray)=S)(hl:l.length≤128)(x:Rx)(c:UInt8)(r:List UInt8)(hn:altR (3*l.length+3) [] [] l=some (x,c::r)) :
 Calls Tryz.prog 150 #[.string S] w fun e w'=>Jf w l e w':=by
 have hpr:Yn l=.inr 50:=by rw[V4 hl,hn];rfl
 have hmf:∀ (fn:Fn) (first cap:Array Value) (w:World),(Instr.makeFunc fn first cap).run Tryz.prog w=.ok (.func fn first cap) w:=fun _ _ _ _=>rfl
 have hr:=VF w l S hS;have halt:=Bg (3*l.length+3) _ (w.heap.size+2) l hr hl (by omega);rw[hn]at halt;have hsz:S.size=l.length:=by rw[←hS];simp[ByteArray.size]
 have hi:¬ (128:Int)<l.length:=by omega
 clear hS;have HALT:=Hd (halt.mono fun e w2 hR=>Dv (Yx hR));clear halt hr hn
 obtain⟨T,HT⟩:∃ T:ByteArray,Hid ((⟨(c::r).toArray⟩:ByteArray)=T):=⟨_,Hd rfl⟩
 obtain⟨hne,hem,-, -, -⟩:=full c r HT.out
 go_enter_defers Tryz.func150,Tryz.ntmps150
 go_wp2_with (first
  |(go_at_call 173;refine HALT.out.mono ?_;rintro e w0 ⟨k,mn,mx,s0,s1,s2,s3,a,cap,l',hX,rfl,h0,o0,hXin,hXb⟩;have o1:=o0.alloc (.cells #[.int .i64 k,.int .i64 mn,.int .i64 mx,.int .u64 s0,.int .u64 s1,.int .u64 s2,.int .u64 s3,.slice a l'.length cap] 141);have h1:ReadAt (w0.alloc (.cells #[.int .i64 k,.int .i64 mn,.int .i64 mx,.int .u64 s0,.int .u64 s1,.int .u64 s2,.int .u64 s3,.slice a l'.length cap] 141)) (w.heap.size+2) (c::r):=Zd h0 _;have h1':=h1;unfold ReadAt at h1';rw[HT.out]at h1';have hc1:=ZK h1')
  |(go_at_call 174;refine(XR rfl _).mono ?_;rintro e wm ⟨rfl,hwm⟩;have hwm:=hwm.symm;subst hwm))
 obtain⟨w1,hw1⟩:∃ w1,w0.alloc (.cells #[.int .i64 k,.int .i64 mn,.int .i64 mx,.int .u64 s0,.int .u64 s1,.int .u64 s2,.int .u64 s3,.slice a l'.length cap] 141)=w1:=⟨_,rfl⟩
 rw[hw1]at o1 ⊢;obtain⟨hE0,hB0,hw0⟩:=JJ w S;have hE1:=(o1.block w.heap.size (by omega) (by omega)).trans hE0;have hB1:=(o1.block (w.heap.size+1) (by omega) (by omega)).trans hB0;have hs1:=o1.size;have hbl:Below w.heap.size w w1:=(VG w S).trans (o1.below (by omega) (by intro j hj;omega));refine leaves_cons (f:=172) (args:=#[.pointer (some ⟨w.heap.size+1,0,none⟩)]) (by simp) (by simp[go_sem]) ?_;refine(JS ⟨w.heap.size+1,0,none⟩ 0 w1 (by show w.heap.size+1<_;omega) (Zb hB1 0) (Zc hB1 0)).mono ?_;rintro e u' w2 ⟨rfl,rfl,rfl⟩
 have hE2:((w1.alloc (.cells #[] 202)).setCell ⟨w.heap.size+1,0,none⟩ (.int .i64 50)).heap[w.heap.size]?=some (.cells (Zh (setA Q4.none)) 141 (0,0)):=
  (Below.heap_setCell _ _ _ _ (by show w.heap.size≠w.heap.size+1;omega)).trans (Zd hE1 _)
 have hB2:=Zb (Zf (Zd hB1 (.cells #[] 202)) 0 (.int .i64 50)) 0;exact⟨_,Yd rfl _ _ _ w.heap.size (w.heap.size+1) 141 (Zh (setA Q4.none)) (0,0) _ (.int .i64 50) rfl hE2 Tryz.underlying141 (Zj _) rfl (Jd _ _ _ hB2),(hbl.alloc hbl.size _).setCell (by show w.heap.size≤w.heap.size+1;omega) _,.inr ⟨50,hpr,rfl⟩⟩
theorem Za3(w:World)(S:ByteArray)(l:List UInt8)(hS:(⟨l.toArray⟩:ByteArray)=S)(hl:l.length≤128)(x:Rx)(hn:altR (3*l.length+3) [] [] l=some (x,[])) :
 Calls Tryz.prog 150 #[.string S] w fun e w'=>Jf w l e w':=by
 have hpr:Yn l=if 256<x.sizeI then .inr 51 else .inl x:=by rw[V4 hl,hn];rfl
 have htm:=(Zcv (3*l.length+3)).1 [] [] l x [] (fun y hy=>by cases hy) (fun y hy=>by cases hy) hn;have HTM:=Hd htm;clear htm;have hmf:∀ (fn:Fn) (first cap:Array Value) (w:World),(Instr.makeFunc fn first cap).run Tryz.prog w=.ok (.func fn first cap) w:=fun _ _ _ _=>rfl
 have hr:=VF w l S hS;have halt:=Bg (3*l.length+3) _ (w.heap.size+2) l hr hl (by omega);rw[hn]at halt;have hsz:S.size=l.length:=by rw[←hS];simp[ByteArray.size]
 have hi:¬ (128:Int)<l.length:=by omega
 clear hS;have HALT:=Hd (halt.mono fun e w2 hR=>Dv (Yx hR));clear halt hr hn
 obtain⟨n,hnn⟩:∃ n,x.sizeI=n:=⟨_,rfl⟩
 rw[hnn]at hpr;have HNN:=Hd hnn;clear hnn;obtain⟨hE0,hB0,hw0⟩:=JJ w S;have HE0:=Hd hE0;have HB0:=Hd hB0;clear hE0 hB0;have hbl0:=VG w S;have HBL0:=Hd hbl0;clear hbl0;by_cases hbig:256<n
 ·rw[if_pos hbig]at hpr;have HPR:=Hd hpr;clear hpr
  go_enter_defers Tryz.func150,Tryz.ntmps150
  go_wp2_with (first
   |(go_at_call 173;refine HALT.out.mono ?_;rintro e w0 ⟨k,mn,mx,s0,s1,s2,s3,a,cap,l',hX,rfl,h0,o0,hXin,hXb⟩;have hs0:=o0.size;have h1:ReadAt (w0.alloc (.cells #[.int .i64 k,.int .i64 mn,.int .i64 mx,.int .u64 s0,.int .u64 s1,.int .u64 s2,.int .u64 s3,.slice a l'.length cap] 141)) (w.heap.size+2) []:=Zd h0 _;have hc1:(w0.alloc (.cells #[.int .i64 k,.int .i64 mn,.int .i64 mx,.int .u64 s0,.int .u64 s1,.int .u64 s2,.int .u64 s3,.slice a l'.length cap] 141)).cell? ⟨w.heap.size+2,0,none⟩=some (.string ⟨#[]⟩):=ZK h1;have HX2:=Hd (Ze w0 (.cells #[.int .i64 k,.int .i64 mn,.int .i64 mx,.int .u64 s0,.int .u64 s1,.int .u64 s2,.int .u64 s3,.slice a l'.length cap] 141));have HE2:=Hd (Zd ((o0.block w.heap.size (by omega) (by omega)).trans HE0.out) (.cells #[.int .i64 k,.int .i64 mn,.int .i64 mx,.int .u64 s0,.int .u64 s1,.int .u64 s2,.int .u64 s3,.slice a l'.length cap] 141));have HB2:=Hd (Zd ((o0.block (w.heap.size+1) (by omega) (by omega)).trans HB0.out) (.cells #[.int .i64 k,.int .i64 mn,.int .i64 mx,.int .u64 s0,.int .u64 s1,.int .u64 s2,.int .u64 s3,.slice a l'.length cap] 141));have hxi2:RxA.In (w0.alloc (.cells #[.int .i64 k,.int .i64 mn,.int .i64 mx,.int .u64 s0,.int .u64 s1,.int .u64 s2,.int .u64 s3,.slice a l'.length cap] 141)) w0.heap.size (RxA.node k mn mx s0 s1 s2 s3 a cap l'):=hXin.below (Below.alloc (Below.refl w0.heap.size w0) (Nat.le_refl _) (.cells #[.int .i64 k,.int .i64 mn,.int .i64 mx,.int .u64 s0,.int .u64 s1,.int .u64 s2,.int .u64 s3,.slice a l'.length cap] 141)) (Nat.le_refl _);have HXI2:=Hd hxi2;have HXI:=Hd hXin;have HXB:=Hd hXb;have htm:tame (RxA.bare (RxA.node k mn mx s0 s1 s2 s3 a cap l')):=hX▸HTM.out;have HTM2:=Hd htm;have hsz2:(RxA.bare (RxA.node k mn mx s0 s1 s2 s3 a cap l')).sizeI=n:=hX▸HNN.out;have HSZ2:=Hd hsz2;have HXX:=Hd hX;have HBLW:=Hd (HBL0.out.trans (o0.below (B:=w.heap.size) (by omega) (by intro j hj;omega)));have hw3:w.heap.size+3≤w0.heap.size:=(by omega);clear hxi2 hXin hXb htm hsz2 hX)
   |(go_at_call 174;refine(Xr rfl _).mono ?_;rintro e wm ⟨rfl,hwm⟩;have hwm:=hwm.symm;subst hwm)
   |(go_at_call 175;refine(We (RxA.node k mn mx s0 s1 s2 s3 a cap l') (w0.alloc (.cells #[.int .i64 k,.int .i64 mn,.int .i64 mx,.int .u64 s0,.int .u64 s1,.int .u64 s2,.int .u64 s3,.slice a l'.length cap] 141)) w0.heap.size (by simp) HXI2.out HTM2.out).mono ?_;rintro e w5 ⟨rfl,hb5⟩;rw[HSZ2.out];have HX5:=Hd ((hb5.block w0.heap.size (by simp)).trans HX2.out);have HE5:=Hd ((hb5.block w.heap.size (by simp;omega)).trans HE2.out);have hB5:=(hb5.block (w.heap.size+1) (by simp;omega)).trans HB2.out;have hcb5:∀ cs,(w5.setRow w.heap.size cs).cell? ⟨w.heap.size+1,0,none⟩=some (.int .i64 0):=fun cs=>Zb ((setRow_other w5 w.heap.size (w.heap.size+1) cs (by omega)).trans hB5) 0;have hfb5:∀ cs,(w5.setRow w.heap.size cs).frozen? ⟨w.heap.size+1,0,none⟩=false:=fun cs=>Zc ((setRow_other w5 w.heap.size (w.heap.size+1) cs (by omega)).trans hB5) 0;have HB5:=Hd hB5;have HBL5:=Hd ((HBLW.out.alloc (by have:=HBLW.out.size;omega) (.cells #[.int .i64 k,.int .i64 mn,.int .i64 mx,.int .u64 s0,.int .u64 s1,.int .u64 s2,.int .u64 s3,.slice a l'.length cap] 141)).trans (hb5.mono (by simp;omega)));clear hB5)
   |(refine wpList_load_row rfl 141 (.tmp 2) ?_ w.heap.size ?_ 141 #[.int .i64 0,.int .i64 0,.int .i64 0,.int .u64 0,.int .u64 0,.int .u64 0,.int .u64 0,.slice none 0 0] (0,0) _ ?_ Tryz.underlying141 rfl ZF ?_;(with_reducible rfl);rfl;exact HE5.out)
   |(refine wpList_store_row rfl 141 (.tmp 2) (.tmp 25) ?_ w.heap.size #[.int .i64 0,.int .i64 0,.int .i64 0,.int .u64 0,.int .u64 0,.int .u64 0,.int .u64 0,.slice none 0 0] ?_ ?_ 141 (Zh (setA Q4.none)) ?_ ZF rfl (Zl (setA Q4.none)) ?_;(with_reducible rfl);rfl;rfl;exact HE5.out))
  refine leaves_cons (f:=172) (args:=#[.pointer (some ⟨w.heap.size+1,0,none⟩)]) (by simp) (by simp[go_sem]) ?_;refine(G2 ⟨w.heap.size+1,0,none⟩ _).mono ?_;rintro e u' w6 ⟨rfl,rfl,rfl⟩;have hB6:=Zb (Zd (Zf ((setRow_other w5 w.heap.size (w.heap.size+1) #[.int .i64 0,.int .i64 0,.int .i64 0,.int .u64 0,.int .u64 0,.int .u64 0,.int .u64 0,.slice none 0 0] (by omega)).trans HB5.out) 0 (.int .i64 51)) (.cells #[] 202)) 0;have hE6:=Zd ((Below.heap_setCell (w5.setRow w.heap.size #[.int .i64 0,.int .i64 0,.int .i64 0,.int .u64 0,.int .u64 0,.int .u64 0,.int .u64 0,.slice none 0 0]) ⟨w.heap.size+1,0,none⟩ (.int .i64 51) w.heap.size (by show w.heap.size≠w.heap.size+1;omega)).trans (setRow_heap _ _ _ _ _ _ HE5.out)) (.cells #[] 202);refine⟨_,Yd rfl _ _ _ w.heap.size (w.heap.size+1) 141 (Zh (setA Q4.none)) (0,0) _ (.int .i64 51) rfl hE6 Tryz.underlying141 (Zj _) rfl (Jd _ _ _ hB6),?_,.inr ⟨51,HPR.out,rfl⟩⟩;exact((Xo HBL5.out (Nat.le_refl _) _).setCell (by show w.heap.size≤w.heap.size+1;omega) _).alloc (by have:=HBL5.out.size;simp;omega) _
 ·rw[if_neg hbig]at hpr;have HPR:=Hd hpr;clear hpr
  go_enter_defers Tryz.func150,Tryz.ntmps150
  go_wp2_with (first
   |(go_at_call 173;refine HALT.out.mono ?_;rintro e w0 ⟨k,mn,mx,s0,s1,s2,s3,a,cap,l',hX,rfl,h0,o0,hXin,hXb⟩;have hs0:=o0.size;have h1:ReadAt (w0.alloc (.cells #[.int .i64 k,.int .i64 mn,.int .i64 mx,.int .u64 s0,.int .u64 s1,.int .u64 s2,.int .u64 s3,.slice a l'.length cap] 141)) (w.heap.size+2) []:=Zd h0 _;have hc1:(w0.alloc (.cells #[.int .i64 k,.int .i64 mn,.int .i64 mx,.int .u64 s0,.int .u64 s1,.int .u64 s2,.int .u64 s3,.slice a l'.length cap] 141)).cell? ⟨w.heap.size+2,0,none⟩=some (.string ⟨#[]⟩):=ZK h1;have HX2:=Hd (Ze w0 (.cells #[.int .i64 k,.int .i64 mn,.int .i64 mx,.int .u64 s0,.int .u64 s1,.int .u64 s2,.int .u64 s3,.slice a l'.length cap] 141));have HE2:=Hd (Zd ((o0.block w.heap.size (by omega) (by omega)).trans HE0.out) (.cells #[.int .i64 k,.int .i64 mn,.int .i64 mx,.int .u64 s0,.int .u64 s1,.int .u64 s2,.int .u64 s3,.slice a l'.length cap] 141));have HB2:=Hd (Zd ((o0.block (w.heap.size+1) (by omega) (by omega)).trans HB0.out) (.cells #[.int .i64 k,.int .i64 mn,.int .i64 mx,.int .u64 s0,.int .u64 s1,.int .u64 s2,.int .u64 s3,.slice a l'.length cap] 141));have hxi2:RxA.In (w0.alloc (.cells #[.int .i64 k,.int .i64 mn,.int .i64 mx,.int .u64 s0,.int .u64 s1,.int .u64 s2,.int .u64 s3,.slice a l'.length cap] 141)) w0.heap.size (RxA.node k mn mx s0 s1 s2 s3 a cap l'):=hXin.below (Below.alloc (Below.refl w0.heap.size w0) (Nat.le_refl _) (.cells #[.int .i64 k,.int .i64 mn,.int .i64 mx,.int .u64 s0,.int .u64 s1,.int .u64 s2,.int .u64 s3,.slice a l'.length cap] 141)) (Nat.le_refl _);have HXI2:=Hd hxi2;have HXI:=Hd hXin;have HXB:=Hd hXb;have htm:tame (RxA.bare (RxA.node k mn mx s0 s1 s2 s3 a cap l')):=hX▸HTM.out;have HTM2:=Hd htm;have hsz2:(RxA.bare (RxA.node k mn mx s0 s1 s2 s3 a cap l')).sizeI=n:=hX▸HNN.out;have HSZ2:=Hd hsz2;have HXX:=Hd hX;have HBLW:=Hd (HBL0.out.trans (o0.below (B:=w.heap.size) (by omega) (by intro j hj;omega)));have hw3:w.heap.size+3≤w0.heap.size:=(by omega);clear hxi2 hXin hXb htm hsz2 hX)
   |(go_at_call 174;refine(Xr rfl _).mono ?_;rintro e wm ⟨rfl,hwm⟩;have hwm:=hwm.symm;subst hwm)
   |(go_at_call 175;refine(We (RxA.node k mn mx s0 s1 s2 s3 a cap l') (w0.alloc (.cells #[.int .i64 k,.int .i64 mn,.int .i64 mx,.int .u64 s0,.int .u64 s1,.int .u64 s2,.int .u64 s3,.slice a l'.length cap] 141)) w0.heap.size (by simp) HXI2.out HTM2.out).mono ?_;rintro e w5 ⟨rfl,hb5⟩;rw[HSZ2.out];have HX5:=Hd ((hb5.block w0.heap.size (by simp)).trans HX2.out);have HE5:=Hd ((hb5.block w.heap.size (by simp;omega)).trans HE2.out);have hB5:=(hb5.block (w.heap.size+1) (by simp;omega)).trans HB2.out;have hcb5:∀ cs,(w5.setRow w.heap.size cs).cell? ⟨w.heap.size+1,0,none⟩=some (.int .i64 0):=fun cs=>Zb ((setRow_other w5 w.heap.size (w.heap.size+1) cs (by omega)).trans hB5) 0;have hfb5:∀ cs,(w5.setRow w.heap.size cs).frozen? ⟨w.heap.size+1,0,none⟩=false:=fun cs=>Zc ((setRow_other w5 w.heap.size (w.heap.size+1) cs (by omega)).trans hB5) 0;have HB5:=Hd hB5;have HBL5:=Hd ((HBLW.out.alloc (by have:=HBLW.out.size;omega) (.cells #[.int .i64 k,.int .i64 mn,.int .i64 mx,.int .u64 s0,.int .u64 s1,.int .u64 s2,.int .u64 s3,.slice a l'.length cap] 141)).trans (hb5.mono (by simp;omega)));clear hB5)
   |(refine wpList_load_row rfl 141 (.tmp 5) ?_ w0.heap.size ?_ 141 #[.int .i64 k,.int .i64 mn,.int .i64 mx,.int .u64 s0,.int .u64 s1,.int .u64 s2,.int .u64 s3,.slice a l'.length cap] (0,0) _ ?_ Tryz.underlying141 rfl ZF ?_;(with_reducible rfl);rfl;exact HX5.out)
   |(refine wpList_store_row rfl 141 (.tmp 2) (.tmp 26) ?_ w.heap.size #[.int .i64 k,.int .i64 mn,.int .i64 mx,.int .u64 s0,.int .u64 s1,.int .u64 s2,.int .u64 s3,.slice a l'.length cap] ?_ ?_ 141 (Zh (setA Q4.none)) ?_ ZF rfl (Zl (RxA.node k mn mx s0 s1 s2 s3 a cap l')) ?_;(with_reducible rfl);rfl;rfl;exact HE5.out))
  refine leaves_cons (f:=172) (args:=#[.pointer (some ⟨w.heap.size+1,0,none⟩)]) (by simp) (by simp[go_sem]) ?_;refine(G2 ⟨w.heap.size+1,0,none⟩ _).mono ?_;rintro e u' w6 ⟨rfl,rfl,rfl⟩;have hB6:=Zb (Zd (Zf ((setRow_other w5 w.heap.size (w.heap.size+1) #[.int .i64 k,.int .i64 mn,.int .i64 mx,.int .u64 s0,.int .u64 s1,.int .u64 s2,.int .u64 s3,.slice a l'.length cap] (by omega)).trans HB5.out) 0 (.int .i64 0)) (.cells #[] 202)) 0;have hE6:=Zd ((Below.heap_setCell (w5.setRow w.heap.size #[.int .i64 k,.int .i64 mn,.int .i64 mx,.int .u64 s0,.int .u64 s1,.int .u64 s2,.int .u64 s3,.slice a l'.length cap]) ⟨w.heap.size+1,0,none⟩ (.int .i64 0) w.heap.size (by show w.heap.size≠w.heap.size+1;omega)).trans (setRow_heap _ _ _ _ _ _ HE5.out)) (.cells #[] 202)
  have hbl6:Below w.heap.size w (((w5.setRow w.heap.size #[.int .i64 k,.int .i64 mn,.int .i64 mx,.int .u64 s0,.int .u64 s1,.int .u64 s2,.int .u64 s3,.slice a l'.length cap]).setCell ⟨w.heap.size+1,0,none⟩ (.int .i64 0)).alloc (.cells #[] 202)):=
   ((Xo HBL5.out (Nat.le_refl _) _).setCell (by show w.heap.size≤w.heap.size+1;omega) _).alloc (by have:=HBL5.out.size;simp;omega) _
  refine⟨_,Yd rfl _ _ _ w.heap.size (w.heap.size+1) 141 #[.int .i64 k,.int .i64 mn,.int .i64 mx,.int .u64 s0,.int .u64 s1,.int .u64 s2,.int .u64 s3,.slice a l'.length cap] (0,0) _ (.int .i64 0) rfl hE6 Tryz.underlying141 ZF rfl (Jd _ _ _ hB6),hbl6,.inl ⟨(RxA.node k mn mx s0 s1 s2 s3 a cap l'),by rw[←HXX.out];exact HPR.out,rfl,?_⟩⟩;refine HXI.out.keep fun b hb=>?_
  have hb2:=HXB.out b hb;have hs5:=hb5.size;simp only[World.size_alloc]at hs5;refine⟨by simp;omega,fun o=>World.cell?_of_block (w:=w0) ?_⟩;show(World.alloc _ _).heap[b]?=_;rw[Below.heap_alloc _ _ _ (by simp;omega),Below.heap_setCell _ _ _ _ (by show b≠w.heap.size+1;omega),setRow_other _ _ _ _ (by omega),hb5.block b (by simp;omega),Below.heap_alloc _ _ _ hb2.2]
theorem ZcQ(w:World)(S:ByteArray):Calls Tryz.prog 150 #[.string S] w fun e w'=>Jf w S.data.toList e w':=by
 have hS:(⟨S.data.toList.toArray⟩:ByteArray)=S:=by simp
 have hlen:S.data.toList.length=S.size:=by rw[Array.length_toList];rfl
 by_cases hl:128<S.size
 ·refine(Za2 w S hl).mono ?_;rintro e w' ⟨he,hb⟩;exact⟨hb,.inr ⟨51,by unfold Yn;rw[if_pos (by omega)],he⟩⟩
 ·cases hn:altR (3*S.data.toList.length+3) [] [] S.data.toList with
  |none=>exact Za1 w S _ hS (by omega) hn
  |some p=>
   obtain⟨x,r⟩:=p
   cases r with
   |nil=>exact Za3 w S _ hS (by omega) x hn
   |cons c r=>exact Za0 w S _ hS (by omega) x c r hn
end Go.Proofs.YtbchkjfnakabkaaGreatDoor
namespace Go.Proofs.YtbchkjfnakabkaaGreatDoor
open Go.RowKit PX
theorem GM{l:List UInt8}{n:Int}(h:Yn l=.inr n):n=50∨n=51:=by
 unfold Yn at h;split at h
 ·right;exact(Sum.inr.inj h).symm
 ·split at h
  ·left;exact(Sum.inr.inj h).symm
  ·split at h
   ·split at h
    ·right;exact(Sum.inr.inj h).symm
    ·cases h
   ·left;exact(Sum.inr.inj h).symm
end Go.Proofs.YtbchkjfnakabkaaGreatDoor
namespace Go.Proofs.YtbchkjfnakabkaaGreatDoor
open Go.RowKit PX
theorem PairsAt.below{w w':World}{v:Value}{l:List (Nat × Nat)}(h:PairsAt w v l)(hb:Below w.heap.size w w'):PairsAt w' v l:=by
 obtain⟨a,cap,rfl,h⟩:=h;refine⟨a,cap,rfl,?_⟩;rcases h with h|⟨b,rfl,h⟩
 ·exact .inl h
 ·refine .inr ⟨b,rfl,fun i q hq=>?_⟩;obtain⟨h1,h2⟩:=h i q hq;have hlt:=World.block_lt_of_cell? _ _ h1;exact⟨(hb.cell (p:=⟨b,i*2,none⟩) hlt).trans h1,(hb.cell (p:=⟨b,i*2+1,none⟩) hlt).trans h2⟩
end Go.Proofs.YtbchkjfnakabkaaGreatDoor
