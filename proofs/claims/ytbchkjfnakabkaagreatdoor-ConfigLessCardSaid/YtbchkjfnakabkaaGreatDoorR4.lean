import Derived.Test.YtbchkjfnakabkaaGreatDoorR23
import Derived.Test.YtbchkjfnakabkaaGreatDoorB2b
import Derived.Test.YtbchkjfnakabkaaGreatDoorB34
import Derived.Test.YtbchkjfnakabkaaGreatDoorB1
import Derived.Defers
import Derived.Recover
import Derived.Laws.MakeOwn
import Derived.Laws.OwnMore
import Derived.Laws.IdiomStrings
set_option linter.unusedSimpArgs false
set_option linter.unusedVariables false
set_option maxHeartbeats 2000000
set_option maxRecDepth 100000
namespace Go.Proofs.YtbchkjfnakabkaaGreatDoor
open Go.RowKit PX
def AltJ(rb nb F:Nat)(w:World)(O:Option (Rx × List UInt8))(a:Act)(w':World):Prop:=
 ∃ (vl vr:Value),(∃(u1 u5 u6 u7 u8 u9 u10 u11 u12 u13 u14 u15 u16 u17 u18 u19 u20 u21 u22 u23 u24 u25 u26 u27 u28 u29 u30 u31 u32 u33 u34 u35 u36 u37 u38 u39:Value),a={ tmps:=#[.pointer (some ⟨rb,0,none⟩),u1,.pointer (some ⟨nb,0,none⟩),vl,vr,u5,u6,u7,u8,u9,u10,u11,u12,u13,u14,u15,u16,u17,u18,u19,u20,u21,u22,u23,u24,u25,u26,u27,u28,u29,u30,u31,u32,u33,u34,u35,u36,u37,u38,u39],defers:=[] }) /\
 ∃ (lA rowA:List RxA) (s:List UInt8) (f:Nat),ReadAt w' rb s∧w'.heap[nb]?=some (.cells (Zh (setA Q4.none)) 141 (0,0))∧Only (fun k=>k=rb) w w'∧AltInv (nb+1) w' vl vr lA rowA ∧
  lA.length+rowA.length+s.length<=128/\3*s.length+1<=f/\f<=F/\altR f (lA.map RxA.bare) (rowA.map RxA.bare) s=O
theorem D3{rb:Nat}{w:World}{x:Rx}{r:List UInt8}{e:Ending}{w':World}(h:∃ X:RxA,x=X.bare/\e=.returned (.agg (Zh X))/\ReadAt w' rb r/\Only (λk=>k=rb) w w'/\X.In w' w'.heap.size/\∀ b∈X.blocks,w.heap.size<=b/\b<w'.heap.size) :
 ∃ k mn mx s0 s1 s2 s3 a cap l,x=(RxA.node k mn mx s0 s1 s2 s3 a cap l).bare/\e=.returned (.agg #[.int .i64 k,.int .i64 mn,.int .i64 mx,.int .u64 s0,.int .u64 s1,.int .u64 s2,.int .u64 s3,.slice a l.length cap])/\ReadAt w' rb r/\Only (λk=>k=rb) w w'/\(RxA.node k mn mx s0 s1 s2 s3 a cap l).In w' w'.heap.size/\∀ b∈(RxA.node k mn mx s0 s1 s2 s3 a cap l).blocks,w.heap.size<=b/\b<w'.heap.size:=by
 obtain⟨X,hX,he,h2,h3,h4,h5⟩:=h;obtain⟨k,mn,mx,s0,s1,s2,s3,a,cap,l⟩:=X;exact⟨k,mn,mx,s0,s1,s2,s3,a,cap,l,hX,he,h2,h3,h4,h5⟩
theorem GH{f:Nat}{l row:List Rx}{s:List UInt8}(h:(s.isEmpty || Zg 124 s || Zg 41 s)=true)(N0:Zg 124 s=false):altR (f+1) l row s=some (Rx.joined 2 (l++[Rx.joined 1 row]),s):=by
 simp only[altR];rw[if_pos h];simp[N0]
theorem ZaU{f:Nat}{l row:List Rx}{s:List UInt8}(N0:Zg 124 s=true):altR (f+1) l row s=altR f (l++[Rx.joined 1 row]) [] s.tail:=by
 simp[altR,N0]
theorem Ze4{f:Nat}{l row:List Rx}{s:List UInt8}(h:(s.isEmpty || Zg 124 s || Zg 41 s)=false):altR (f+1) l row s=match XO f s with|none=>none|some (x,r)=>altR f l (row++[x]) r:=by
 simp only[altR,h];rfl
def Zit(F:Nat):Prop:=∀ f',f'<F->∀ w rb s,ReadAt w rb s->s.length<=128->3*s.length<=f'->Calls Tryz.prog 186 #[.pointer (some ⟨rb,0,none⟩)] w λe w'=>ZX rb w (XO f' s) e w'
theorem Ze3(F:Nat)(hp:Zit F)(w:World)(rb:Nat)(s:List UInt8)(h:ReadAt w rb s)(hl:s.length<=128)(hF:3*s.length+1<=F) :
 Calls Tryz.prog 173 #[.pointer (some ⟨rb,0,none⟩)] w λe w'=>ZX rb w (altR F [] [] s) e w':=by
 have d1:=Za h
 obtain⟨O,hO⟩:∃ O,altR F [] [] s=O:=⟨_,rfl⟩
 rw[hO]
 obtain⟨nb,hnb⟩:∃ nb,w.heap.size=nb:=⟨_,rfl⟩
 have HP:=Hd hp;clear hp;have N2:=Hd hO;clear hO;have HW:=Hd h;clear h;obtain⟨i0,hi,hz0,hz1,p1⟩:=info_parts ZaB
 go_enter Tryz.func173,Tryz.ntmps173
 go_wp2_with fail
 refine Ub 0 (AltJ rb nb F w O) (λ_ w'=>Zay rb w') rfl ?_ ?_
 ·rintro aa w' ⟨vl,vr,⟨u1,u5,u6,u7,u8,u9,u10,u11,u12,u13,u14,u15,u16,u17,u18,u19,u20,u21,u22,u23,u24,u25,u26,u27,u28,u29,u30,u31,u32,u33,u34,u35,u36,u37,u38,u39,rfl⟩,lA,rowA,s',f,hr,hn,hon,hinv,K0,hfu,hfF,hcl⟩;clear N2 HW hl hF;have HN:=Hd hn;clear hn;have F1:=Hd hon;clear hon;have c0:=Hd hinv;clear hinv;have O2:=Hd hcl;clear hcl;have C1:=Za HN.out
  obtain⟨f1,rfl⟩:∃ f1,f=f1+1:=⟨f - 1,by omega⟩
  cases hst:(s'.isEmpty || Zg 124 s' || Zg 41 s') with
  |false=>
   obtain⟨c,u,rfl⟩:∃ c u,s'=c::u:=by
    cases s' with
    |nil=>simp at hst
    |cons c u=>exact⟨c,u,rfl⟩
   have W2:=Ze4 (f:=f1) (l:=lA.map RxA.bare) (row:=rowA.map RxA.bare) hst;have c2:=Hd (W2.symm.trans O2.out);clear W2;simp only[List.isEmpty_cons,Bool.false_or,Bool.or_eq_false_iff,Zg,beq_eq_false_iff_ne,ne_eq]at hst
   have N0:((c.toNat:Int) != 124)=true:=by
    rw[bne_iff_ne];intro h;exact hst.1 (UInt8.toNat_inj.1 (by show c.toNat=124;omega))
   have h41:((c.toNat:Int) != 41)=true:=by
    rw[bne_iff_ne];intro h;exact hst.2 (UInt8.toNat_inj.1 (by show c.toNat=41;omega))
   clear hst
   obtain⟨S,HSS⟩:∃ S:ByteArray,Hid ((⟨(c::u).toArray⟩:ByteArray)=S):=⟨_,Hd rfl⟩
   obtain⟨hne,hem,H1,hat,-⟩:=full c u HSS.out;have g0:=YB hr;have C0:=Hd g0;clear g0;have q1:=HP.out f1 (by omega) w' rb (c::u) hr (by omega) (by omega);have l0:=hr;unfold ReadAt at l0;rw[HSS.out]at l0;have a2:=ZM l0;clear l0 hr
   cases e0:XO f1 (c::u) with
   |none=>
    rw[e0]at q1;have l1:=Hd q1;clear q1;have hO:O=none:=by rw[<-c2.out,e0]
    clear e0
    go_wp2_with (go_at_call 186;refine l1.out.mono ?_;rintro e w1 hR;obtain⟨rfl,o1⟩:=Y9 hR)
    exact⟨rfl,F1.out.then o1,.inl ⟨hO,rfl⟩⟩
   |some p=>
    obtain⟨x,r⟩:=p;rw[e0]at q1;have hO:=c2.out;rw[e0]at hO;have b2:=(Bc f1).2.1 _ _ _ e0;have l1:=Hd (q1.mono λe w2 hR=>D3 (YG hR));clear q1 e0 c2;have f3:=Hd hO;clear hO
    go_wp2_with (first
     | (go_at_call 186
        refine l1.out.mono ?_;rintro e w1 ⟨k,mn,mx,s0,s1,s2,s3,a,cap,l,hX,rfl,h1,o1,hXin,hXb⟩;have T1:=o1.size;have P0:=c0.out.only o1 (by intro j hj;omega)
        have hK:Kept w1 (nb+1) vl vr (RxA.node k mn mx s0 s1 s2 s3 a cap l):=⟨hXin,λb hb=>by
         have h3:=hXb b hb
         exact⟨by omega,h3.2,λhe=>by have:=(c0.out.own1.lt b he).2;omega,λhe=>by have:=(c0.out.own2.lt b he).2;omega⟩⟩
        have a0:=P0.only (Only.alloc (r:=λk=>k=rb) (Only.refl _ w1) (.cells [.int .i64 k,.int .i64 mn,.int .i64 mx,.int .u64 s0,.int .u64 s1,.int .u64 s2,.int .u64 s3,.slice a l.length cap].toArray 141)) (by intro j hj;omega);have t0:=hK.only (Only.alloc (r:=λk=>k=rb) (Only.refl _ w1) (.cells [.int .i64 k,.int .i64 mn,.int .i64 mx,.int .u64 s0,.int .u64 s1,.int .u64 s2,.int .u64 s3,.slice a l.length cap].toArray 141)) (by intro j hj;omega);have z0:=Hd a0;have j1:=Hd t0;have Z1:=Hd hX;clear P0 hK a0 t0 hXin hXb hX
        have hrl2:rowA.length+1<=1000:=(by simp only[List.length_cons]at K0;omega))
     | (refine wpList_append_lies _ rfl (.tmp 26) (.tmp 29) 139 rfl (nb+1) 141 i0 _ 8 80 Tryz.underlying139 hi hz0 hz1 p1 rfl (by decide) vr rowA.length (Xf rowA) rfl z0.out.own2 ⟨w1.heap.size,0,none⟩ 1 1 [.int .i64 k,.int .i64 mn,.int .i64 mx,.int .u64 s0,.int .u64 s1,.int .u64 s2,.int .u64 s3,.slice a l.length cap] rfl rfl (Jt w1 [.int .i64 k,.int .i64 mn,.int .i64 mx,.int .u64 s0,.int .u64 s1,.int .u64 s2,.int .u64 s3,.slice a l.length cap] 141) (by intro v hv;exact G0 (RxA.node k mn mx s0 s1 s2 s3 a cap l) v hv) (by decide) (by unfold maxLen;omega) (by omega) (by simp;omega) _ rfl ?_
        intro g cap' w3 hown3 hgrow hgat hglt))
    go_step3
    have b0:=z0.out.push j1.out hown3 hgrow hgat;have I0:Only (λk=>k=rb) w w3:=((F1.out.then o1).alloc _).grown hgrow (λb hb=>.inr (by have:=(c0.out.own2.lt b hb).1;omega));have b3:∀ b,b<nb+1->some b≠vr.ownBlock:=λb hb he=>by have:=(c0.out.own2.lt b he.symm).1;omega
    have h3:ReadAt w3 rb r:=(hgrow.block rb (by simp;omega) (b3 rb (by omega))).trans (Ze h1 _);have n0:w3.heap[nb]?=some (.cells (Zh (setA Q4.none)) 141 (0,0)):=(hgrow.block nb (by simp;omega) (b3 nb (by omega))).trans (Ze ((o1.block nb C1 (by omega)).trans HN.out) _);refine⟨rfl,⟨_,_,⟨_,_,_,_,_,_,_,_,_,_,_,_,_,_,_,_,_,_,_,_,_,_,_,_,_,_,_,_,_,_,_,_,_,_,_,_,rfl⟩,lA,rowA++[(RxA.node k mn mx s0 s1 s2 s3 a cap l)],r,f1,h3,n0,I0,b0,?_,?_,by omega,?_⟩,?_⟩
    ·simp only[List.length_append,List.length_cons,List.length_nil]at K0 b2 ⊢;omega
    ·simp only[List.length_cons]at hfu b2;omega
    ·rw[List.map_append,List.map_singleton,<-Z1.out];exact f3.out
    ·rw[YB h3,C0.out];exact b2
  |true=>
   have N1:s'=[]\/(∃u,s'=124::u)\/∃ u,s'=41::u:=by
    cases s' with
    |nil=>exact .inl rfl
    |cons c u=>
     simp only[List.isEmpty_cons,Bool.false_or,Bool.or_eq_true,Zg,beq_iff_eq]at hst;rcases hst with rfl|rfl
     ·exact .inr (.inl ⟨u,rfl⟩)
     ·exact .inr (.inr ⟨u,rfl⟩)
   obtain⟨ar,cr,rfl,hcr1,hcr2,-⟩:=Jk c0.out.own2;have l2:=c0.out.join 1 ⟨by omega,by omega⟩ (by omega);have A2:=YL 1 ar cr rowA;have L2:=US w' 1 (.slice ar rowA.length cr) (nb+1) rowA c0.out.own2 (by omega)
   obtain⟨k,mn,mx,s0,s1,s2,s3,a,cap,l,hXJ⟩:∃ k mn mx s0 s1 s2 s3 a cap l,Xn 1 ar cr rowA=(RxA.node k mn mx s0 s1 s2 s3 a cap l):=by
    obtain⟨k,mn,mx,s0,s1,s2,s3,a,cap,l⟩:=Xn 1 ar cr rowA;exact⟨k,mn,mx,s0,s1,s2,s3,a,cap,l,rfl⟩
   have y1:Calls Tryz.prog 187 #[.int .i64 1,.slice ar rowA.length cr] w' λe w1=>e=.returned (.agg #[.int .i64 k,.int .i64 mn,.int .i64 mx,.int .u64 s0,.int .u64 s1,.int .u64 s2,.int .u64 s3,.slice a l.length cap])/\Below w'.heap.size w' w1:=by
    refine L2.mono ?_;rintro e w1 ⟨a',c',he,hee,hb⟩;simp only[Value.slice.injEq,true_and]at he;obtain⟨rfl,rfl⟩:=he;rw[hXJ]at hee;exact⟨hee,hb⟩
   rw[hXJ]at l2 A2;have a1:=c0.out.drop;have p0:=O2.out;clear L2 hXJ;have k2:=Hd l2;clear l2;have F2:=Hd A2;clear A2;have r2:=Hd y1;clear y1;have m2:=Hd a1;clear a1;have q2:nb<w'.heap.size:=C1;have g0:=YB hr;have C0:=Hd g0;clear g0;have hlA:lA.length+1<=1000:=by omega
   have p2:rb<w'.heap.size:=Za hr;rcases N1 with rfl|⟨u,rfl⟩|⟨u,rfl⟩
   ·have f0:=(GH (f:=f1) (l:=lA.map RxA.bare) (row:=rowA.map RxA.bare) (s:=[]) rfl rfl).symm.trans p0;have a2:w'.cell? ⟨rb,0,none⟩=some (.string ⟨#[]⟩):=ZM hr;have v1:=Hd (λw1 (h1:ReadAt w1 rb [])=>Zx w1 rb 124 [] h1 rfl);have L1:=Hd f0;clear f0 p0 hst;have K1:=Hd hr;clear hr
    go_wp2_with (first
     | (go_at_call 187
        (with_reducible refine r2.out.mono ?_)
        rintro e w1 ⟨rfl,hb1⟩;have T1:=hb1.size;have O1:Only (λk=>k=rb) w' w1:=Only.of_below hb1;have F0:=O1.alloc (.cells [.int .i64 k,.int .i64 mn,.int .i64 mx,.int .u64 s0,.int .u64 s1,.int .u64 s2,.int .u64 s3,.slice a l.length cap].toArray 141);have a0:=m2.out.only F0 (by intro j hj;omega);have t0:=k2.out.only F0 (by intro j hj;omega);have z0:=Hd a0;have j1:=Hd t0;clear a0 t0;have O0:ReadAt (w1.alloc (.cells [.int .i64 k,.int .i64 mn,.int .i64 mx,.int .u64 s0,.int .u64 s1,.int .u64 s2,.int .u64 s3,.slice a l.length cap].toArray 141)) rb []:=Ze ((hb1.block rb p2).trans K1.out) _;have R0:(w1.alloc (.cells [.int .i64 k,.int .i64 mn,.int .i64 mx,.int .u64 s0,.int .u64 s1,.int .u64 s2,.int .u64 s3,.slice a l.length cap].toArray 141)).heap[nb]?=_:=Ze ((hb1.block nb q2).trans HN.out) _;have z1:=Hd O0;have A1:=Hd R0
        clear O0 R0)
     | (refine wpList_append_lies _ rfl (.tmp 31) (.tmp 34) 139 rfl (nb+1) 141 i0 _ 8 80 Tryz.underlying139 hi hz0 hz1 p1 rfl (by decide) vl lA.length (Xf lA) rfl z0.out.own1 ⟨w1.heap.size,0,none⟩ 1 1 [.int .i64 k,.int .i64 mn,.int .i64 mx,.int .u64 s0,.int .u64 s1,.int .u64 s2,.int .u64 s3,.slice a l.length cap] rfl rfl (Jt w1 [.int .i64 k,.int .i64 mn,.int .i64 mx,.int .u64 s0,.int .u64 s1,.int .u64 s2,.int .u64 s3,.slice a l.length cap] 141) (by intro v hv;exact G0 (RxA.node k mn mx s0 s1 s2 s3 a cap l) v hv) (by decide) (by unfold maxLen;omega) (by omega) (by simp;omega) _ rfl ?_
        intro g cap' w3 hown3 hgrow hgat hglt;have b0:=(z0.out.swap.push j1.out.swap hown3 hgrow hgat).swap
        have S0:∀ b,b<nb+1->some b≠vl.ownBlock:=λb hb he=>by
         have:=(c0.out.own1.lt b he.symm).1;omega
        have h3:ReadAt w3 rb []:=(hgrow.block rb (by simp;omega) (S0 rb (by omega))).trans z1.out;have n0:=(hgrow.block nb (by simp;omega) (S0 nb (by omega))).trans A1.out;have I0:Only (λk=>k=rb) w w3:=(F1.out.then F0).grown hgrow (λb hb=>.inr (by have:=(c0.out.own1.lt b hb).1;omega));have J1:=Hd b0;have P1:=Hd n0;have I1:=Hd I0;have y0:=Za n0
        clear b0 n0 I0 hown3 hgrow hgat)
     | (go_at_call 188
        (with_reducible refine(v1.out _ h3).mono ?_)
        rintro e w4 ⟨rfl,h4,o4⟩;have W0:=(o4.block nb y0 (by omega)).trans P1.out;have k0:=J1.out.only o4 (by intro j hj;omega);have g1:=Hd W0;have i1:=Hd k0;have R1:=Hd (I1.out.then o4)
        clear W0 k0)
     | (go_at_call 187
        refine(US w4 2 _ (nb+1) (lA++[(RxA.node k mn mx s0 s1 s2 s3 a cap l)]) i1.out.own1 (by simp;omega)).mono ?_;rintro e w5 ⟨a5,c5,hv5,rfl,hb5⟩;have W1:=(hb5.block nb (Za g1.out)).trans g1.out;have S1:=Hd W1;clear W1;have e2:=Hd hv5
        clear hv5)
     |(refine wpList_store_row rfl 141 (.tmp 2) (.tmp 39) ?_ nb (Zh (Xn 2 a5 c5 (lA++[(RxA.node k mn mx s0 s1 s2 s3 a cap l)]))) ?_ ?_ 141 (Zh (setA Q4.none)) ?_ (Zj _) (by rw[Zi,Zi]) (Zm _) ?_;(with_reducible rfl);rfl;rfl;exact S1.out))
    refine bodyPost_ret (results_cell_row rfl _ _ nb 141 (Zh (Xn 2 a5 c5 (lA++[(RxA.node k mn mx s0 s1 s2 s3 a cap l)]))) (0,0) _ rfl (setRow_heap _ _ _ _ _ _ S1.out) Tryz.underlying141 rfl (Zj _)) rfl ?_;have j0:=i1.out;rw[e2.out]at j0;have j2:=j0.swap.join 2 ⟨by omega,by omega⟩ (by simp;omega);have k1:=(j2.only (r:=λ_=>False) (Only.of_below hb5) (λj hj=>hj.elim)).only ((Only.refl (λk=>k=nb) w5).setRow (.inl rfl) (Zh (Xn 2 a5 c5 (lA++[(RxA.node k mn mx s0 s1 s2 s3 a cap l)])))) (by intro j hj;omega);refine⟨(R1.out.then (Only.of_below hb5)).setRow (q:=nb) (.inr (by omega)) _,.inr ⟨Xn 2 a5 c5 (lA++[(RxA.node k mn mx s0 s1 s2 s3 a cap l)]),[],?_,rfl,?_,k1.lies,λb hb=>⟨by have:=(k1.far b hb).1;omega,(k1.far b hb).2.1⟩⟩⟩
    ·rw[<-L1.out,YL,List.map_append,List.map_singleton,F2.out]
    ·exact(setRow_other _ _ _ _ (by omega)).trans ((hb5.block rb (Za h4)).trans h4)
   ·have f0:=(ZaU (f:=f1) (l:=lA.map RxA.bare) (row:=rowA.map RxA.bare) (s:=124::u) rfl).symm.trans p0
    obtain⟨S,HSS⟩:∃ S:ByteArray,Hid ((⟨(124::u).toArray⟩:ByteArray)=S):=⟨_,Hd rfl⟩
    obtain⟨hne,hem,H1,hat,-⟩:=full 124 u HSS.out;have l0:=hr;unfold ReadAt at l0;rw[HSS.out]at l0;have a2:=ZM l0;clear l0;have v1:=Hd (λw1 (h1:ReadAt w1 rb (124::u))=>ZK w1 rb 124 u h1);have L1:=Hd f0;clear f0 p0 hst;have K1:=Hd hr;clear hr
    go_wp2_with (first
     | (go_at_call 187
        (with_reducible refine r2.out.mono ?_)
        rintro e w1 ⟨rfl,hb1⟩;have T1:=hb1.size;have O1:Only (λk=>k=rb) w' w1:=Only.of_below hb1;have F0:=O1.alloc (.cells [.int .i64 k,.int .i64 mn,.int .i64 mx,.int .u64 s0,.int .u64 s1,.int .u64 s2,.int .u64 s3,.slice a l.length cap].toArray 141);have a0:=m2.out.only F0 (by intro j hj;omega);have t0:=k2.out.only F0 (by intro j hj;omega);have z0:=Hd a0;have j1:=Hd t0;clear a0 t0;have O0:ReadAt (w1.alloc (.cells [.int .i64 k,.int .i64 mn,.int .i64 mx,.int .u64 s0,.int .u64 s1,.int .u64 s2,.int .u64 s3,.slice a l.length cap].toArray 141)) rb (124::u):=Ze ((hb1.block rb p2).trans K1.out) _;have R0:(w1.alloc (.cells [.int .i64 k,.int .i64 mn,.int .i64 mx,.int .u64 s0,.int .u64 s1,.int .u64 s2,.int .u64 s3,.slice a l.length cap].toArray 141)).heap[nb]?=_:=Ze ((hb1.block nb q2).trans HN.out) _;have z1:=Hd O0;have A1:=Hd R0
        clear O0 R0)
     | (refine wpList_append_lies _ rfl (.tmp 31) (.tmp 34) 139 rfl (nb+1) 141 i0 _ 8 80 Tryz.underlying139 hi hz0 hz1 p1 rfl (by decide) vl lA.length (Xf lA) rfl z0.out.own1 ⟨w1.heap.size,0,none⟩ 1 1 [.int .i64 k,.int .i64 mn,.int .i64 mx,.int .u64 s0,.int .u64 s1,.int .u64 s2,.int .u64 s3,.slice a l.length cap] rfl rfl (Jt w1 [.int .i64 k,.int .i64 mn,.int .i64 mx,.int .u64 s0,.int .u64 s1,.int .u64 s2,.int .u64 s3,.slice a l.length cap] 141) (by intro v hv;exact G0 (RxA.node k mn mx s0 s1 s2 s3 a cap l) v hv) (by decide) (by unfold maxLen;omega) (by omega) (by simp;omega) _ rfl ?_
        intro g cap' w3 hown3 hgrow hgat hglt;have b0:=(z0.out.swap.push j1.out.swap hown3 hgrow hgat).swap
        have S0:∀ b,b<nb+1->some b≠vl.ownBlock:=λb hb he=>by
         have:=(c0.out.own1.lt b he.symm).1;omega
        have h3:ReadAt w3 rb (124::u):=(hgrow.block rb (by simp;omega) (S0 rb (by omega))).trans z1.out;have n0:=(hgrow.block nb (by simp;omega) (S0 nb (by omega))).trans A1.out;have I0:Only (λk=>k=rb) w w3:=(F1.out.then F0).grown hgrow (λb hb=>.inr (by have:=(c0.out.own1.lt b hb).1;omega));have J1:=Hd b0;have P1:=Hd n0;have I1:=Hd I0;have y0:=Za n0
        clear b0 n0 I0 hown3 hgrow hgat)
     | (go_at_call 188
        (with_reducible refine(v1.out _ h3).mono ?_)
        rintro e w4 ⟨rfl,h4,o4⟩;have W0:=(o4.block nb y0 (by omega)).trans P1.out;have k0:=J1.out.only o4 (by intro j hj;omega);have g1:=Hd W0;have i1:=Hd k0;have R1:=Hd (I1.out.then o4)
        clear W0 k0))
    go_step3
    refine⟨rfl,⟨_,_,⟨_,_,_,_,_,_,_,_,_,_,_,_,_,_,_,_,_,_,_,_,_,_,_,_,_,_,_,_,_,_,_,_,_,_,_,_,rfl⟩,lA++[(RxA.node k mn mx s0 s1 s2 s3 a cap l)],[],u,f1,h4,g1.out,R1.out,i1.out,?_,?_,by omega,?_⟩,?_⟩
    ·simp only[List.length_append,List.length_cons,List.length_nil]at K0 ⊢;omega
    ·simp only[List.length_cons]at hfu;omega
    ·rw[List.map_append,List.map_singleton,F2.out];exact L1.out
    ·rw[YB h4,C0.out];simp
   ·have f0:=(GH (f:=f1) (l:=lA.map RxA.bare) (row:=rowA.map RxA.bare) (s:=41::u) rfl rfl).symm.trans p0
    obtain⟨S,HSS⟩:∃ S:ByteArray,Hid ((⟨(41::u).toArray⟩:ByteArray)=S):=⟨_,Hd rfl⟩
    obtain⟨hne,hem,H1,hat,-⟩:=full 41 u HSS.out;have l0:=hr;unfold ReadAt at l0;rw[HSS.out]at l0;have a2:=ZM l0;clear l0;have v1:=Hd (λw1 (h1:ReadAt w1 rb (41::u))=>Zx w1 rb 124 (41::u) h1 rfl);have L1:=Hd f0;clear f0 p0 hst;have K1:=Hd hr;clear hr
    go_wp2_with (first
     | (go_at_call 187
        (with_reducible refine r2.out.mono ?_)
        rintro e w1 ⟨rfl,hb1⟩;have T1:=hb1.size;have O1:Only (λk=>k=rb) w' w1:=Only.of_below hb1;have F0:=O1.alloc (.cells [.int .i64 k,.int .i64 mn,.int .i64 mx,.int .u64 s0,.int .u64 s1,.int .u64 s2,.int .u64 s3,.slice a l.length cap].toArray 141);have a0:=m2.out.only F0 (by intro j hj;omega);have t0:=k2.out.only F0 (by intro j hj;omega);have z0:=Hd a0;have j1:=Hd t0;clear a0 t0;have O0:ReadAt (w1.alloc (.cells [.int .i64 k,.int .i64 mn,.int .i64 mx,.int .u64 s0,.int .u64 s1,.int .u64 s2,.int .u64 s3,.slice a l.length cap].toArray 141)) rb (41::u):=Ze ((hb1.block rb p2).trans K1.out) _;have R0:(w1.alloc (.cells [.int .i64 k,.int .i64 mn,.int .i64 mx,.int .u64 s0,.int .u64 s1,.int .u64 s2,.int .u64 s3,.slice a l.length cap].toArray 141)).heap[nb]?=_:=Ze ((hb1.block nb q2).trans HN.out) _;have z1:=Hd O0;have A1:=Hd R0
        clear O0 R0)
     | (refine wpList_append_lies _ rfl (.tmp 31) (.tmp 34) 139 rfl (nb+1) 141 i0 _ 8 80 Tryz.underlying139 hi hz0 hz1 p1 rfl (by decide) vl lA.length (Xf lA) rfl z0.out.own1 ⟨w1.heap.size,0,none⟩ 1 1 [.int .i64 k,.int .i64 mn,.int .i64 mx,.int .u64 s0,.int .u64 s1,.int .u64 s2,.int .u64 s3,.slice a l.length cap] rfl rfl (Jt w1 [.int .i64 k,.int .i64 mn,.int .i64 mx,.int .u64 s0,.int .u64 s1,.int .u64 s2,.int .u64 s3,.slice a l.length cap] 141) (by intro v hv;exact G0 (RxA.node k mn mx s0 s1 s2 s3 a cap l) v hv) (by decide) (by unfold maxLen;omega) (by omega) (by simp;omega) _ rfl ?_
        intro g cap' w3 hown3 hgrow hgat hglt;have b0:=(z0.out.swap.push j1.out.swap hown3 hgrow hgat).swap
        have S0:∀ b,b<nb+1->some b≠vl.ownBlock:=λb hb he=>by
         have:=(c0.out.own1.lt b he.symm).1;omega
        have h3:ReadAt w3 rb (41::u):=(hgrow.block rb (by simp;omega) (S0 rb (by omega))).trans z1.out;have n0:=(hgrow.block nb (by simp;omega) (S0 nb (by omega))).trans A1.out;have I0:Only (λk=>k=rb) w w3:=(F1.out.then F0).grown hgrow (λb hb=>.inr (by have:=(c0.out.own1.lt b hb).1;omega));have J1:=Hd b0;have P1:=Hd n0;have I1:=Hd I0;have y0:=Za n0
        clear b0 n0 I0 hown3 hgrow hgat)
     | (go_at_call 188
        (with_reducible refine(v1.out _ h3).mono ?_)
        rintro e w4 ⟨rfl,h4,o4⟩;have W0:=(o4.block nb y0 (by omega)).trans P1.out;have k0:=J1.out.only o4 (by intro j hj;omega);have g1:=Hd W0;have i1:=Hd k0;have R1:=Hd (I1.out.then o4)
        clear W0 k0)
     | (go_at_call 187
        refine(US w4 2 _ (nb+1) (lA++[(RxA.node k mn mx s0 s1 s2 s3 a cap l)]) i1.out.own1 (by simp;omega)).mono ?_;rintro e w5 ⟨a5,c5,hv5,rfl,hb5⟩;have W1:=(hb5.block nb (Za g1.out)).trans g1.out;have S1:=Hd W1;clear W1;have e2:=Hd hv5
        clear hv5)
     |(refine wpList_store_row rfl 141 (.tmp 2) (.tmp 39) ?_ nb (Zh (Xn 2 a5 c5 (lA++[(RxA.node k mn mx s0 s1 s2 s3 a cap l)]))) ?_ ?_ 141 (Zh (setA Q4.none)) ?_ (Zj _) (by rw[Zi,Zi]) (Zm _) ?_;(with_reducible rfl);rfl;rfl;exact S1.out))
    refine bodyPost_ret (results_cell_row rfl _ _ nb 141 (Zh (Xn 2 a5 c5 (lA++[(RxA.node k mn mx s0 s1 s2 s3 a cap l)]))) (0,0) _ rfl (setRow_heap _ _ _ _ _ _ S1.out) Tryz.underlying141 rfl (Zj _)) rfl ?_;have j0:=i1.out;rw[e2.out]at j0;have j2:=j0.swap.join 2 ⟨by omega,by omega⟩ (by simp;omega);have k1:=(j2.only (r:=λ_=>False) (Only.of_below hb5) (λj hj=>hj.elim)).only ((Only.refl (λk=>k=nb) w5).setRow (.inl rfl) (Zh (Xn 2 a5 c5 (lA++[(RxA.node k mn mx s0 s1 s2 s3 a cap l)])))) (by intro j hj;omega);refine⟨(R1.out.then (Only.of_below hb5)).setRow (q:=nb) (.inr (by omega)) _,.inr ⟨Xn 2 a5 c5 (lA++[(RxA.node k mn mx s0 s1 s2 s3 a cap l)]),41::u,?_,rfl,?_,k1.lies,λb hb=>⟨by have:=(k1.far b hb).1;omega,(k1.far b hb).2.1⟩⟩⟩
    ·rw[<-L1.out,YL,List.map_append,List.map_singleton,F2.out]
    ·exact(setRow_other _ _ _ _ (by omega)).trans ((hb5.block rb (Za h4)).trans h4)
 ·intro hX;have HX:=Hd hX;clear hX;have l3:ReadAt (w.alloc (.cells (Zh (setA Q4.none)) 141)) rb s:=Ze HW.out _;have g3:(w.alloc (.cells (Zh (setA Q4.none)) 141)).heap[nb]?=some (.cells (Zh (setA Q4.none)) 141 (0,0)):=by rw[<-hnb];exact Zd _ _
  go_wp2_with fail
  go_step3
  rename (∀(a:Act) (w:World),_->_)=>hk
  exact hk _ _ (HX.out _ _ ⟨_,_,⟨_,_,_,_,_,_,_,_,_,_,_,_,_,_,_,_,_,_,_,_,_,_,_,_,_,_,_,_,_,_,_,_,_,_,_,_,rfl⟩,[],[],s,F,l3,g3,(Only.refl _ w).alloc _,AltInv.start _ _,by simpa using hl,hF,Nat.le_refl _,N2.out⟩)
end Go.Proofs.YtbchkjfnakabkaaGreatDoor
namespace Go.Proofs.YtbchkjfnakabkaaGreatDoor
open Go.RowKit PX
theorem UG(altf:List UInt8->Option (Rx × List UInt8)):XE altf []=none:=by rfl
theorem ZfH:∀ (f':Nat) (w:World) (rb:Nat) (s:List UInt8),ReadAt w rb s->s.length<=128->3*s.length<=f' ->
 Calls Tryz.prog 186 #[.pointer (some ⟨rb,0,none⟩)] w λe w'=>ZX rb w (XO f' s) e w':=by
 intro f'
 induction f' using Nat.strongRecOn with
 |_ f' ih=>
  intro w rb s h hl hf
  match f',ih,hf with
  |0,_,hf=>
   obtain rfl:s=[]:=List.eq_nil_of_length_eq_zero (by omega)
   have hp:=E6 w rb [] h none (λx r h=>by cases h) (λw1 h1=>by
    have ha:=Q8 w1 rb [] h1 hl (λ_=>none) (λh=>by cases h);rw[UG]at ha
    exact ha)
   exact hp
  |1,_,hf=>
   obtain rfl:s=[]:=List.eq_nil_of_length_eq_zero (by omega)
   have hp:=E6 w rb [] h none (λx r h=>by cases h) (λw1 h1=>by
    have ha:=Q8 w1 rb [] h1 hl (λ_=>none) (λh=>by cases h);rw[UG]at ha
    exact ha)
   exact hp
  |f2+2,ih,hf=>
   have hA:VE (f2+1) s=XE (altR f2 [] []) s:=by
    simp only[VE,XE];rfl
   have hP:XO (f2+2) s=Zai (XE (altR f2 [] []) s):=by
    rw[<-hA];simp only[XO]
    cases VE (f2+1) s with
    |none=>rfl
    |some p=>rfl
   rw[hP];refine E6 w rb s h _ (λx r hx=>?_) (λw1 h1=>?_)
   ·rw[<-hA]at hx;have:=(Bc (f2+1)).2.2 _ _ _ hx;omega
   ·refine Q8 w1 rb s h1 hl (altR f2 [] []) (λh40 w2 h2=>?_);have ht:=Z8 h40;exact Ze3 f2 (λf'' d1=>ih f'' (by omega)) w2 rb s.tail h2 (by omega) (by omega)
theorem BU(F:Nat)(w:World)(rb:Nat)(s:List UInt8)(h:ReadAt w rb s)(hl:s.length<=128)(hF:3*s.length+1<=F) :
 Calls Tryz.prog 173 #[.pointer (some ⟨rb,0,none⟩)] w λe w'=>ZX rb w (altR F [] [] s) e w':=
 Ze3 F (λf' _=>ZfH f') w rb s h hl hF
end Go.Proofs.YtbchkjfnakabkaaGreatDoor
namespace Go.Proofs.YtbchkjfnakabkaaGreatDoor
open Go.RowKit PX
theorem DK(w:World):(Instr.typeAssert (.iface 202 (.agg #[])) 20 202 true).run Tryz.prog w=.ok (.tuple #[.agg #[],.bool true]) w:=by kernel_rfl
theorem Zct(w:World):(Instr.typeAssert .nilIface 20 202 true).run Tryz.prog w=.ok (.tuple #[.agg #[],.bool false]) w:=by kernel_rfl
theorem Vi(p:Addr)(x:Int)(w:World)(d1:p.block<w.heap.size)(hc:w.cell? p=some (.int .i64 x))(hz:w.frozen? p=false) :
 CallsD Tryz.prog 172 #[.pointer (some p)] (.panicking JO) w λe u' w'=>
  e=.returned (.tuple #[])/\u'=.panicking [{ v:=.iface 202 (.agg #[]),recovered:=true }]/\w'=(w.alloc (.cells #[] 202)).setCell p (.int .i64 50):=by
 refine callsD_of_wpS Tryz.func172 rfl λc₀ cs hu=>?_
 unfold JO at hu;apply wpS_seq;apply wpS_region;simp[wpOpsS,go_sem,recoverD,hu,Tryz.ntmps172,Exit.thenS,DK];have o3:(w.alloc (.cells #[] 202)).cell? p=some (.int .i64 x):=(World.cell?_of_block (w:=w) (Below.heap_alloc _ _ _ d1)).trans hc;have p1:(w.alloc (.cells #[] 202)).frozen? p=false:=(World.frozen?_of_block (w:=w) (Below.heap_alloc _ _ _ d1)).trans hz;apply wpS_seq;apply wpS_region;simp[wpOpsS,go_sem,Exit.thenS,Array.replicate];refine wpS_cond (t:=true) (by simp[Act.eval,Array.replicate]) ?_;simp only[if_true];apply wpS_region;simp[wpOpsS,go_sem,o3,p1,bodyPostS,results,Tryz.results172]
theorem Qq(p:Addr)(w:World) :
 CallsD Tryz.prog 172 #[.pointer (some p)] .returning w λe u' w'=>
  e=.returned (.tuple #[])/\u'=.returning/\w'=w.alloc (.cells #[] 202):=by
 refine callsD_of_wpS Tryz.func172 rfl λc₀ cs hu=>?_
 apply wpS_seq;apply wpS_region;simp[wpOpsS,go_sem,recoverD,hu,Tryz.ntmps172,Exit.thenS,Zct];apply wpS_seq;apply wpS_region;simp[wpOpsS,go_sem,Exit.thenS,Array.replicate];refine wpS_cond (t:=false) (by simp[Act.eval,Array.replicate]) ?_;simp only[Bool.false_eq_true,if_false];refine wpS_of_wp (wp_skip ?_);cases c₀
 simp_all [bodyPostS,results,Tryz.results172]
theorem Jr(w:World)(g:Nat)(n:Int)(hc:w.cell? ⟨g,0,none⟩=some (.int .i64 n)):(loadVar 33 ⟨g,0,none⟩).run Tryz.prog w=.ok (.int .i64 n) w:=by
 simp[loadVar,isAgg,run_underlying Tryz.underlying33,go_sem,hc]
theorem Yo{fn:Func}{p q:Tmp}{ty tq:TypeId}(h:fn.results=#[.cell p ty,.cell q tq])(tmps:Array Value)(P:Program)(w:World)(g g2:Nat)(t:TypeId)(cs:Array Value)(fr:Nat × Nat)(fs:Array Field)(v:Value)
 (hp:tmps.getD p undef=.pointer (some ⟨g,0,none⟩)) (hg:w.heap[g]?=some (.cells cs t fr))
 (hu:P.underlying ty=some (.struct fs)) (hi:(P.info? ty).map (·.size)=some cs.size)
 (hq:tmps.getD q undef=.pointer (some ⟨g2,0,none⟩)) (hl:(loadVar tq ⟨g2,0,none⟩).run P w=.ok v w) :
 (results fn tmps).run P w=.ok (.tuple #[.agg cs,v]) w:=by
 have e3:tmps[p]?.getD undef=.pointer (some ⟨g,0,none⟩):=by simpa using hp
 have n3:tmps[q]?.getD undef=.pointer (some ⟨g2,0,none⟩):=by simpa using hq
 simp[results,h,e3,n3,asAddr,run_loadVar_row w g t ty cs fr (.struct fs) hg hu rfl hi,hl]
theorem Xs{B q:Nat}{a w:World}(h:Below B a w)(hq:B<=q)(cs:Array Value):Below B a (w.setRow q cs):=
 ⟨h.os,h.tape,h.output,by simpa using h.size,λk hk=>(setRow_other w q k cs (by omega)).trans (h.block k hk)⟩
def Ju(w:World)(l:List UInt8)(e:Ending)(w':World):Prop:=
 Below w.heap.size w w'/\((∃X:RxA,Yw l=.inl X.bare/\e=.returned (.tuple #[.agg (Zh X),.int .i64 0])/\X.In w' w'.heap.size)\/∃ n,Yw l=.inr n/\e=.returned (.tuple #[.agg (Zh (setA Q4.none)),.int .i64 n]))
theorem Um{l:List UInt8}(h:l.length<=128):Yw l=match altR (3*l.length+3) [] [] l with|none=>.inr 50|some (x,r)=>if r.isEmpty then(if 256<x.sizeI then .inr 51 else .inl x) else .inr 50:=by
 unfold Yw;rw[if_neg (by omega)];rfl
theorem EM:∀ l:List Rx,YW l↔∀ y∈l,tame y
 |[]=>by simp[YW]
 |x::xs=>by simp[YW,EM xs]
theorem Qw(q:Q4):tame (.set q):=by simp[Rx.set,tame,YW]
theorem EL{kind:Int}{l:List Rx}(h:∀ y∈l,tame y):tame (Rx.joined kind l):=by
 match l,h with
 |[],_=>simp[Rx.joined,tame,YW]
 |[x],h=>exact h x (by simp)
 |x::y::l,h=>
  show tame (.node kind 0 0 0 0 0 0 (x::y::l));simp only[tame];exact⟨by omega,by omega,(EM _).2 h⟩
theorem ZcT{x:Rx}{s:List UInt8}{y:Rx}{r:List UInt8}(hx:tame x)(h:sign x s=some (y,r)):tame y:=by
 have L0:∀ m n:Int,(0<=m/\m<=15)->(-1<=n/\n<=15)->tame (.rep m n x):=by
  intro m n hm hn;simp only[Rx.rep,tame,YW,and_true];exact⟨by omega,by omega,hx⟩
 unfold sign at h;split at h
 ·cases h;exact L0 _ _ (by omega) (by omega)
 ·split at h
  ·cases h;exact L0 _ _ (by omega) (by omega)
  ·split at h
   ·cases h;exact L0 _ _ (by omega) (by omega)
   ·split at h
    ·split at h
     ·cases h
     ·rename_i m n r1 h1;have:=GD h1;cases h;exact L0 _ _ this.2.1 this.2.2
    ·cases h;exact hx
theorem Zdk(f:Nat):(∀(l row:List Rx) (s:List UInt8) (x:Rx) (r:List UInt8),(∀y∈l,tame y)->(∀y∈row,tame y)->altR f l row s=some (x,r)->tame x) /\
 (∀(s:List UInt8) (x:Rx) (r:List UInt8),XO f s=some (x,r)->tame x)/\(∀(s:List UInt8) (x:Rx) (r:List UInt8),VE f s=some (x,r)->tame x):=by
 induction f with
 |zero=>exact⟨λ_ _ _ _ _ _ _ h=>by simp[altR]at h,λ_ _ _ h=>by simp[XO]at h,λ_ _ _ h=>by simp[VE]at h⟩
 |succ f ih=>
  obtain⟨ia,ip,it⟩:=ih;refine⟨λl row s x r hl hrow h=>?_,λs x r h=>?_,λs x r h=>?_⟩
  ·have hj:∀ y∈l++[Rx.joined 1 row],tame y:=by
    intro y hy;rcases List.mem_append.1 hy with hy|hy
    ·exact hl y hy
    ·obtain rfl:=List.mem_singleton.1 hy;exact EL hrow
   simp only[altR]at h;split at h
   ·split at h
    ·exact ia _ _ _ _ _ hj (λy hy=>by cases hy) h
    ·cases h;exact EL hj
   ·split at h
    ·cases h
    ·rename_i y t h1;refine ia _ _ _ _ _ hl (λz hz=>?_) h;rcases List.mem_append.1 hz with hz|hz
     ·exact hrow z hz
     ·obtain rfl:=List.mem_singleton.1 hz;exact ip _ _ _ h1
  ·simp only[XO]at h;split at h
   ·cases h
   ·rename_i y t h1;exact ZcT (it _ _ _ h1) h
  ·simp only[VE]at h;split at h
   ·cases h;exact Qw _
   ·split at h
    ·split at h
     ·cases h
     ·cases h;exact Qw _
    ·split at h
     ·split at h
      ·cases h
      ·rename_i y t h2;split at h
       ·cases h;exact ia _ _ _ _ _ (λy hy=>by cases hy) (λy hy=>by cases hy) h2
       ·cases h
     ·split at h
      ·cases h
      ·cases h;exact Qw _
theorem ZbM(w:World)(S:ByteArray)(h:128<S.size) :
 Calls Tryz.prog 150 #[.string S] w λe w'=>e=.returned (.tuple #[.agg (Zh (setA Q4.none)),.int .i64 51])/\Below w.heap.size w w':=by
 have hi:(128:Int)<S.size:=by omega
 have hh:((w.alloc (.cells #[.int .i64 0,.int .i64 0,.int .i64 0,.int .u64 0,.int .u64 0,.int .u64 0,.int .u64 0,.slice none 0 0] 141)).alloc (.cells #[.int .i64 51] 33)).heap[w.heap.size]?=some (.cells (Zh (setA Q4.none)) 141 (0,0)):=Ze (Zd _ _) _;have hc:((w.alloc (.cells #[.int .i64 0,.int .i64 0,.int .i64 0,.int .u64 0,.int .u64 0,.int .u64 0,.int .u64 0,.slice none 0 0] 141)).alloc (.cells #[.int .i64 51] 33)).cell? ⟨w.heap.size+1,0,none⟩=some (.int .i64 51):=Zb (Zq _ _ _ (by simp)) 0;have HH:=Hd hh;have HC:=Hd hc;clear hh hc
 go_enter_defers Tryz.func150,Tryz.ntmps150
 go_wp2_with fail
 exact⟨_,Yo rfl _ _ _ w.heap.size (w.heap.size+1) 141 (Zh (setA Q4.none)) (0,0) _ (.int .i64 51) rfl HH.out Tryz.underlying141 (Zj _) rfl (Jr _ _ _ HC.out),rfl,((Below.refl w.heap.size w).alloc (Nat.le_refl _) _).alloc (by simp) _⟩
theorem VX(w:World)(l:List UInt8)(S:ByteArray)(hS:(⟨l.toArray⟩:ByteArray)=S):ReadAt (((w.alloc (.cells #[.int .i64 0,.int .i64 0,.int .i64 0,.int .u64 0,.int .u64 0,.int .u64 0,.int .u64 0,.slice none 0 0] 141)).alloc (.cells #[.int .i64 0] 33)).alloc (.cells #[.string S] 206)) (w.heap.size+2) l:=by
 unfold ReadAt;rw[hS];exact Zq _ _ _ (by simp)
theorem J0(w:World)(S:ByteArray):(((w.alloc (.cells #[.int .i64 0,.int .i64 0,.int .i64 0,.int .u64 0,.int .u64 0,.int .u64 0,.int .u64 0,.slice none 0 0] 141)).alloc (.cells #[.int .i64 0] 33)).alloc (.cells #[.string S] 206)).heap[w.heap.size]?=some (.cells (Zh (setA Q4.none)) 141 (0,0))/\(((w.alloc (.cells #[.int .i64 0,.int .i64 0,.int .i64 0,.int .u64 0,.int .u64 0,.int .u64 0,.int .u64 0,.slice none 0 0] 141)).alloc (.cells #[.int .i64 0] 33)).alloc (.cells #[.string S] 206)).heap[w.heap.size+1]?=some (.cells #[.int .i64 0] 33 (0,0))/\(((w.alloc (.cells #[.int .i64 0,.int .i64 0,.int .i64 0,.int .u64 0,.int .u64 0,.int .u64 0,.int .u64 0,.slice none 0 0] 141)).alloc (.cells #[.int .i64 0] 33)).alloc (.cells #[.string S] 206)).heap.size=w.heap.size+3:=
 ⟨Ze (Ze (Zd _ _) _) _,Ze (Zq _ _ _ (by simp)) _,by simp⟩
theorem VY(w:World)(S:ByteArray):Below w.heap.size w (((w.alloc (.cells #[.int .i64 0,.int .i64 0,.int .i64 0,.int .u64 0,.int .u64 0,.int .u64 0,.int .u64 0,.slice none 0 0] 141)).alloc (.cells #[.int .i64 0] 33)).alloc (.cells #[.string S] 206)):=(((Below.refl w.heap.size w).alloc (Nat.le_refl _) _).alloc (by simp) _).alloc (by simp;omega) _
theorem ZbL(w:World)(S:ByteArray)(l:List UInt8)(hS:(⟨l.toArray⟩:ByteArray)=S)(hl:l.length<=128)(hn:altR (3*l.length+3) [] [] l=none) :
 Calls Tryz.prog 150 #[.string S] w λe w'=>Ju w l e w':=by
 have e0:Yw l=.inr 50:=by rw[Um hl,hn]
 have S2:∀ (fn:Fn) (first cap:Array Value) (w:World),(Instr.makeFunc fn first cap).run Tryz.prog w=.ok (.func fn first cap) w:=λ_ _ _ _=>rfl
 have hr:=VX w l S hS;have d0:=BU (3*l.length+3) _ (w.heap.size+2) l hr hl (by omega);rw[hn]at d0;have m0:=Hd (d0.mono λe w2 hR=>Y9 hR);clear d0 hr hn;have H1:S.size=l.length:=by rw[<-hS];simp[ByteArray.size]
 have hi:¬ (128:Int)<l.length:=by omega
 clear hS
 go_enter_defers Tryz.func150,Tryz.ntmps150
 go_wp2_with (go_at_call 173;refine m0.out.mono ?_;rintro e w1 ⟨rfl,o1⟩)
 obtain⟨hE0,hB0,hw0⟩:=J0 w S;have o2:=(o1.block w.heap.size (by omega) (by omega)).trans hE0;have c1:=(o1.block (w.heap.size+1) (by omega) (by omega)).trans hB0;have T1:=o1.size;have M1:Below w.heap.size w w1:=(VY w S).trans (o1.below (by omega) (by intro j hj;omega));refine leaves_cons (f:=172) (args:=#[.pointer (some ⟨w.heap.size+1,0,none⟩)]) (by simp) (by simp[go_sem]) ?_;refine(Vi ⟨w.heap.size+1,0,none⟩ 0 w1 (by show w.heap.size+1<_;omega) (Zb c1 0) (Zc c1 0)).mono ?_;rintro e u' w2 ⟨rfl,rfl,rfl⟩
 have n2:((w1.alloc (.cells #[] 202)).setCell ⟨w.heap.size+1,0,none⟩ (.int .i64 50)).heap[w.heap.size]?=some (.cells (Zh (setA Q4.none)) 141 (0,0)):=
  (Below.heap_setCell _ _ _ _ (by show w.heap.size≠w.heap.size+1;omega)).trans (Ze o2 _)
 have C2:=Zb (Zf (Ze c1 (.cells #[] 202)) 0 (.int .i64 50)) 0;exact⟨_,Yo rfl _ _ _ w.heap.size (w.heap.size+1) 141 (Zh (setA Q4.none)) (0,0) _ (.int .i64 50) rfl n2 Tryz.underlying141 (Zj _) rfl (Jr _ _ _ C2),(M1.alloc M1.size _).setCell (by show w.heap.size<=w.heap.size+1;omega) _,.inr ⟨50,e0,rfl⟩⟩
theorem ZbK(w:World)(S:ByteArray)(l:List UInt8)(hS:(⟨l.toArray⟩:ByteArray)=S)(hl:l.length<=128)(x:Rx)(c:UInt8)(r:List UInt8)(hn:altR (3*l.length+3) [] [] l=some (x,c::r)) :
 Calls Tryz.prog 150 #[.string S] w λe w'=>Ju w l e w':=by
 have e0:Yw l=.inr 50:=by rw[Um hl,hn];rfl
 have S2:∀ (fn:Fn) (first cap:Array Value) (w:World),(Instr.makeFunc fn first cap).run Tryz.prog w=.ok (.func fn first cap) w:=λ_ _ _ _=>rfl
 have hr:=VX w l S hS;have d0:=BU (3*l.length+3) _ (w.heap.size+2) l hr hl (by omega);rw[hn]at d0;have H1:S.size=l.length:=by rw[<-hS];simp[ByteArray.size]
 have hi:¬ (128:Int)<l.length:=by omega
 clear hS;have m0:=Hd (d0.mono λe w2 hR=>D3 (YG hR));clear d0 hr hn
 obtain⟨T,HT⟩:∃ T:ByteArray,Hid ((⟨(c::r).toArray⟩:ByteArray)=T):=⟨_,Hd rfl⟩
 obtain⟨hne,hem,-, -, -⟩:=full c r HT.out
 go_enter_defers Tryz.func150,Tryz.ntmps150
 go_wp2_with (first
  |(go_at_call 173;refine m0.out.mono ?_;rintro e w0 ⟨k,mn,mx,s0,s1,s2,s3,a,cap,l',hX,rfl,h0,o0,hXin,hXb⟩;have o1:=o0.alloc (.cells #[.int .i64 k,.int .i64 mn,.int .i64 mx,.int .u64 s0,.int .u64 s1,.int .u64 s2,.int .u64 s3,.slice a l'.length cap] 141);have h1:ReadAt (w0.alloc (.cells #[.int .i64 k,.int .i64 mn,.int .i64 mx,.int .u64 s0,.int .u64 s1,.int .u64 s2,.int .u64 s3,.slice a l'.length cap] 141)) (w.heap.size+2) (c::r):=Ze h0 _;have i2:=h1;unfold ReadAt at i2;rw[HT.out]at i2;have d3:=ZM i2)
  |(go_at_call 174;refine(X0 rfl _).mono ?_;rintro e wm ⟨rfl,v0⟩;have v0:=v0.symm;subst v0))
 obtain⟨w1,hw1⟩:∃ w1,w0.alloc (.cells #[.int .i64 k,.int .i64 mn,.int .i64 mx,.int .u64 s0,.int .u64 s1,.int .u64 s2,.int .u64 s3,.slice a l'.length cap] 141)=w1:=⟨_,rfl⟩
 rw[hw1]at o1 ⊢;obtain⟨hE0,hB0,hw0⟩:=J0 w S;have o2:=(o1.block w.heap.size (by omega) (by omega)).trans hE0;have c1:=(o1.block (w.heap.size+1) (by omega) (by omega)).trans hB0;have T1:=o1.size;have M1:Below w.heap.size w w1:=(VY w S).trans (o1.below (by omega) (by intro j hj;omega));refine leaves_cons (f:=172) (args:=#[.pointer (some ⟨w.heap.size+1,0,none⟩)]) (by simp) (by simp[go_sem]) ?_;refine(Vi ⟨w.heap.size+1,0,none⟩ 0 w1 (by show w.heap.size+1<_;omega) (Zb c1 0) (Zc c1 0)).mono ?_;rintro e u' w2 ⟨rfl,rfl,rfl⟩
 have n2:((w1.alloc (.cells #[] 202)).setCell ⟨w.heap.size+1,0,none⟩ (.int .i64 50)).heap[w.heap.size]?=some (.cells (Zh (setA Q4.none)) 141 (0,0)):=
  (Below.heap_setCell _ _ _ _ (by show w.heap.size≠w.heap.size+1;omega)).trans (Ze o2 _)
 have C2:=Zb (Zf (Ze c1 (.cells #[] 202)) 0 (.int .i64 50)) 0;exact⟨_,Yo rfl _ _ _ w.heap.size (w.heap.size+1) 141 (Zh (setA Q4.none)) (0,0) _ (.int .i64 50) rfl n2 Tryz.underlying141 (Zj _) rfl (Jr _ _ _ C2),(M1.alloc M1.size _).setCell (by show w.heap.size<=w.heap.size+1;omega) _,.inr ⟨50,e0,rfl⟩⟩
theorem ZbN(w:World)(S:ByteArray)(l:List UInt8)(hS:(⟨l.toArray⟩:ByteArray)=S)(hl:l.length<=128)(x:Rx)(hn:altR (3*l.length+3) [] [] l=some (x,[])) :
 Calls Tryz.prog 150 #[.string S] w λe w'=>Ju w l e w':=by
 have e0:Yw l=if 256<x.sizeI then .inr 51 else .inl x:=by rw[Um hl,hn];rfl
 have T0:=(Zdk (3*l.length+3)).1 [] [] l x [] (λy hy=>by cases hy) (λy hy=>by cases hy) hn;have M2:=Hd T0;clear T0;have S2:∀ (fn:Fn) (first cap:Array Value) (w:World),(Instr.makeFunc fn first cap).run Tryz.prog w=.ok (.func fn first cap) w:=λ_ _ _ _=>rfl
 have hr:=VX w l S hS;have d0:=BU (3*l.length+3) _ (w.heap.size+2) l hr hl (by omega);rw[hn]at d0;have H1:S.size=l.length:=by rw[<-hS];simp[ByteArray.size]
 have hi:¬ (128:Int)<l.length:=by omega
 clear hS;have m0:=Hd (d0.mono λe w2 hR=>D3 (YG hR));clear d0 hr hn
 obtain⟨n,hnn⟩:∃ n,x.sizeI=n:=⟨_,rfl⟩
 rw[hnn]at e0;have Z2:=Hd hnn;clear hnn;obtain⟨hE0,hB0,hw0⟩:=J0 w S;have c3:=Hd hE0;have R2:=Hd hB0;clear hE0 hB0;have t1:=VY w S;have E1:=Hd t1;clear t1;by_cases hbig:256<n
 ·rw[if_pos hbig]at e0;have J2:=Hd e0;clear e0
  go_enter_defers Tryz.func150,Tryz.ntmps150
  go_wp2_with (first
   |(go_at_call 173;refine m0.out.mono ?_;rintro e w0 ⟨k,mn,mx,s0,s1,s2,s3,a,cap,l',hX,rfl,h0,o0,hXin,hXb⟩;have i3:=o0.size;have h1:ReadAt (w0.alloc (.cells #[.int .i64 k,.int .i64 mn,.int .i64 mx,.int .u64 s0,.int .u64 s1,.int .u64 s2,.int .u64 s3,.slice a l'.length cap] 141)) (w.heap.size+2) []:=Ze h0 _;have d3:(w0.alloc (.cells #[.int .i64 k,.int .i64 mn,.int .i64 mx,.int .u64 s0,.int .u64 s1,.int .u64 s2,.int .u64 s3,.slice a l'.length cap] 141)).cell? ⟨w.heap.size+2,0,none⟩=some (.string ⟨#[]⟩):=ZM h1;have t2:=Hd (Zd w0 (.cells #[.int .i64 k,.int .i64 mn,.int .i64 mx,.int .u64 s0,.int .u64 s1,.int .u64 s2,.int .u64 s3,.slice a l'.length cap] 141));have v2:=Hd (Ze ((o0.block w.heap.size (by omega) (by omega)).trans c3.out) (.cells #[.int .i64 k,.int .i64 mn,.int .i64 mx,.int .u64 s0,.int .u64 s1,.int .u64 s2,.int .u64 s3,.slice a l'.length cap] 141));have E2:=Hd (Ze ((o0.block (w.heap.size+1) (by omega) (by omega)).trans R2.out) (.cells #[.int .i64 k,.int .i64 mn,.int .i64 mx,.int .u64 s0,.int .u64 s1,.int .u64 s2,.int .u64 s3,.slice a l'.length cap] 141));have r0:RxA.In (w0.alloc (.cells #[.int .i64 k,.int .i64 mn,.int .i64 mx,.int .u64 s0,.int .u64 s1,.int .u64 s2,.int .u64 s3,.slice a l'.length cap] 141)) w0.heap.size (RxA.node k mn mx s0 s1 s2 s3 a cap l'):=hXin.below (Below.alloc (Below.refl w0.heap.size w0) (Nat.le_refl _) (.cells #[.int .i64 k,.int .i64 mn,.int .i64 mx,.int .u64 s0,.int .u64 s1,.int .u64 s2,.int .u64 s3,.slice a l'.length cap] 141)) (Nat.le_refl _);have m1:=Hd r0;have a3:=Hd hXin;have P2:=Hd hXb;have T0:tame (RxA.bare (RxA.node k mn mx s0 s1 s2 s3 a cap l')):=hX▸M2.out;have b1:=Hd T0;have H0:(RxA.bare (RxA.node k mn mx s0 s1 s2 s3 a cap l')).sizeI=n:=hX▸Z2.out;have e1:=Hd H0;have Z1:=Hd hX;have A0:=Hd (E1.out.trans (o0.below (B:=w.heap.size) (by omega) (by intro j hj;omega)));have j3:w.heap.size+3<=w0.heap.size:=(by omega);clear r0 hXin hXb T0 H0 hX)
   |(go_at_call 174;refine(Xv rfl _).mono ?_;rintro e wm ⟨rfl,v0⟩;have v0:=v0.symm;subst v0)
   |(go_at_call 175;refine(WO (RxA.node k mn mx s0 s1 s2 s3 a cap l') (w0.alloc (.cells #[.int .i64 k,.int .i64 mn,.int .i64 mx,.int .u64 s0,.int .u64 s1,.int .u64 s2,.int .u64 s3,.slice a l'.length cap] 141)) w0.heap.size (by simp) m1.out b1.out).mono ?_;rintro e w5 ⟨rfl,hb5⟩;rw[e1.out];have T2:=Hd ((hb5.block w0.heap.size (by simp)).trans t2.out);have n1:=Hd ((hb5.block w.heap.size (by simp;omega)).trans v2.out);have M0:=(hb5.block (w.heap.size+1) (by simp;omega)).trans E2.out;have I2:∀ cs,(w5.setRow w.heap.size cs).cell? ⟨w.heap.size+1,0,none⟩=some (.int .i64 0):=λcs=>Zb ((setRow_other w5 w.heap.size (w.heap.size+1) cs (by omega)).trans M0) 0;have y2:∀ cs,(w5.setRow w.heap.size cs).frozen? ⟨w.heap.size+1,0,none⟩=false:=λcs=>Zc ((setRow_other w5 w.heap.size (w.heap.size+1) cs (by omega)).trans M0) 0;have d2:=Hd M0;have q0:=Hd ((A0.out.alloc (by have:=A0.out.size;omega) (.cells #[.int .i64 k,.int .i64 mn,.int .i64 mx,.int .u64 s0,.int .u64 s1,.int .u64 s2,.int .u64 s3,.slice a l'.length cap] 141)).trans (hb5.mono (by simp;omega)));clear M0)
   |(refine wpList_load_row rfl 141 (.tmp 2) ?_ w.heap.size ?_ 141 #[.int .i64 0,.int .i64 0,.int .i64 0,.int .u64 0,.int .u64 0,.int .u64 0,.int .u64 0,.slice none 0 0] (0,0) _ ?_ Tryz.underlying141 rfl ZH ?_;(with_reducible rfl);rfl;exact n1.out)
   |(refine wpList_store_row rfl 141 (.tmp 2) (.tmp 25) ?_ w.heap.size #[.int .i64 0,.int .i64 0,.int .i64 0,.int .u64 0,.int .u64 0,.int .u64 0,.int .u64 0,.slice none 0 0] ?_ ?_ 141 (Zh (setA Q4.none)) ?_ ZH rfl (Zm (setA Q4.none)) ?_;(with_reducible rfl);rfl;rfl;exact n1.out))
  refine leaves_cons (f:=172) (args:=#[.pointer (some ⟨w.heap.size+1,0,none⟩)]) (by simp) (by simp[go_sem]) ?_;refine(Qq ⟨w.heap.size+1,0,none⟩ _).mono ?_;rintro e u' w6 ⟨rfl,rfl,rfl⟩;have H2:=Zb (Ze (Zf ((setRow_other w5 w.heap.size (w.heap.size+1) #[.int .i64 0,.int .i64 0,.int .i64 0,.int .u64 0,.int .u64 0,.int .u64 0,.int .u64 0,.slice none 0 0] (by omega)).trans d2.out) 0 (.int .i64 51)) (.cells #[] 202)) 0;have K2:=Ze ((Below.heap_setCell (w5.setRow w.heap.size #[.int .i64 0,.int .i64 0,.int .i64 0,.int .u64 0,.int .u64 0,.int .u64 0,.int .u64 0,.slice none 0 0]) ⟨w.heap.size+1,0,none⟩ (.int .i64 51) w.heap.size (by show w.heap.size≠w.heap.size+1;omega)).trans (setRow_heap _ _ _ _ _ _ n1.out)) (.cells #[] 202);refine⟨_,Yo rfl _ _ _ w.heap.size (w.heap.size+1) 141 (Zh (setA Q4.none)) (0,0) _ (.int .i64 51) rfl K2 Tryz.underlying141 (Zj _) rfl (Jr _ _ _ H2),?_,.inr ⟨51,J2.out,rfl⟩⟩;exact((Xs q0.out (Nat.le_refl _) _).setCell (by show w.heap.size<=w.heap.size+1;omega) _).alloc (by have:=q0.out.size;simp;omega) _
 ·rw[if_neg hbig]at e0;have J2:=Hd e0;clear e0
  go_enter_defers Tryz.func150,Tryz.ntmps150
  go_wp2_with (first
   |(go_at_call 173;refine m0.out.mono ?_;rintro e w0 ⟨k,mn,mx,s0,s1,s2,s3,a,cap,l',hX,rfl,h0,o0,hXin,hXb⟩;have i3:=o0.size;have h1:ReadAt (w0.alloc (.cells #[.int .i64 k,.int .i64 mn,.int .i64 mx,.int .u64 s0,.int .u64 s1,.int .u64 s2,.int .u64 s3,.slice a l'.length cap] 141)) (w.heap.size+2) []:=Ze h0 _;have d3:(w0.alloc (.cells #[.int .i64 k,.int .i64 mn,.int .i64 mx,.int .u64 s0,.int .u64 s1,.int .u64 s2,.int .u64 s3,.slice a l'.length cap] 141)).cell? ⟨w.heap.size+2,0,none⟩=some (.string ⟨#[]⟩):=ZM h1;have t2:=Hd (Zd w0 (.cells #[.int .i64 k,.int .i64 mn,.int .i64 mx,.int .u64 s0,.int .u64 s1,.int .u64 s2,.int .u64 s3,.slice a l'.length cap] 141));have v2:=Hd (Ze ((o0.block w.heap.size (by omega) (by omega)).trans c3.out) (.cells #[.int .i64 k,.int .i64 mn,.int .i64 mx,.int .u64 s0,.int .u64 s1,.int .u64 s2,.int .u64 s3,.slice a l'.length cap] 141));have E2:=Hd (Ze ((o0.block (w.heap.size+1) (by omega) (by omega)).trans R2.out) (.cells #[.int .i64 k,.int .i64 mn,.int .i64 mx,.int .u64 s0,.int .u64 s1,.int .u64 s2,.int .u64 s3,.slice a l'.length cap] 141));have r0:RxA.In (w0.alloc (.cells #[.int .i64 k,.int .i64 mn,.int .i64 mx,.int .u64 s0,.int .u64 s1,.int .u64 s2,.int .u64 s3,.slice a l'.length cap] 141)) w0.heap.size (RxA.node k mn mx s0 s1 s2 s3 a cap l'):=hXin.below (Below.alloc (Below.refl w0.heap.size w0) (Nat.le_refl _) (.cells #[.int .i64 k,.int .i64 mn,.int .i64 mx,.int .u64 s0,.int .u64 s1,.int .u64 s2,.int .u64 s3,.slice a l'.length cap] 141)) (Nat.le_refl _);have m1:=Hd r0;have a3:=Hd hXin;have P2:=Hd hXb;have T0:tame (RxA.bare (RxA.node k mn mx s0 s1 s2 s3 a cap l')):=hX▸M2.out;have b1:=Hd T0;have H0:(RxA.bare (RxA.node k mn mx s0 s1 s2 s3 a cap l')).sizeI=n:=hX▸Z2.out;have e1:=Hd H0;have Z1:=Hd hX;have A0:=Hd (E1.out.trans (o0.below (B:=w.heap.size) (by omega) (by intro j hj;omega)));have j3:w.heap.size+3<=w0.heap.size:=(by omega);clear r0 hXin hXb T0 H0 hX)
   |(go_at_call 174;refine(Xv rfl _).mono ?_;rintro e wm ⟨rfl,v0⟩;have v0:=v0.symm;subst v0)
   |(go_at_call 175;refine(WO (RxA.node k mn mx s0 s1 s2 s3 a cap l') (w0.alloc (.cells #[.int .i64 k,.int .i64 mn,.int .i64 mx,.int .u64 s0,.int .u64 s1,.int .u64 s2,.int .u64 s3,.slice a l'.length cap] 141)) w0.heap.size (by simp) m1.out b1.out).mono ?_;rintro e w5 ⟨rfl,hb5⟩;rw[e1.out];have T2:=Hd ((hb5.block w0.heap.size (by simp)).trans t2.out);have n1:=Hd ((hb5.block w.heap.size (by simp;omega)).trans v2.out);have M0:=(hb5.block (w.heap.size+1) (by simp;omega)).trans E2.out;have I2:∀ cs,(w5.setRow w.heap.size cs).cell? ⟨w.heap.size+1,0,none⟩=some (.int .i64 0):=λcs=>Zb ((setRow_other w5 w.heap.size (w.heap.size+1) cs (by omega)).trans M0) 0;have y2:∀ cs,(w5.setRow w.heap.size cs).frozen? ⟨w.heap.size+1,0,none⟩=false:=λcs=>Zc ((setRow_other w5 w.heap.size (w.heap.size+1) cs (by omega)).trans M0) 0;have d2:=Hd M0;have q0:=Hd ((A0.out.alloc (by have:=A0.out.size;omega) (.cells #[.int .i64 k,.int .i64 mn,.int .i64 mx,.int .u64 s0,.int .u64 s1,.int .u64 s2,.int .u64 s3,.slice a l'.length cap] 141)).trans (hb5.mono (by simp;omega)));clear M0)
   |(refine wpList_load_row rfl 141 (.tmp 5) ?_ w0.heap.size ?_ 141 #[.int .i64 k,.int .i64 mn,.int .i64 mx,.int .u64 s0,.int .u64 s1,.int .u64 s2,.int .u64 s3,.slice a l'.length cap] (0,0) _ ?_ Tryz.underlying141 rfl ZH ?_;(with_reducible rfl);rfl;exact T2.out)
   |(refine wpList_store_row rfl 141 (.tmp 2) (.tmp 26) ?_ w.heap.size #[.int .i64 k,.int .i64 mn,.int .i64 mx,.int .u64 s0,.int .u64 s1,.int .u64 s2,.int .u64 s3,.slice a l'.length cap] ?_ ?_ 141 (Zh (setA Q4.none)) ?_ ZH rfl (Zm (RxA.node k mn mx s0 s1 s2 s3 a cap l')) ?_;(with_reducible rfl);rfl;rfl;exact n1.out))
  refine leaves_cons (f:=172) (args:=#[.pointer (some ⟨w.heap.size+1,0,none⟩)]) (by simp) (by simp[go_sem]) ?_;refine(Qq ⟨w.heap.size+1,0,none⟩ _).mono ?_;rintro e u' w6 ⟨rfl,rfl,rfl⟩;have H2:=Zb (Ze (Zf ((setRow_other w5 w.heap.size (w.heap.size+1) #[.int .i64 k,.int .i64 mn,.int .i64 mx,.int .u64 s0,.int .u64 s1,.int .u64 s2,.int .u64 s3,.slice a l'.length cap] (by omega)).trans d2.out) 0 (.int .i64 0)) (.cells #[] 202)) 0;have K2:=Ze ((Below.heap_setCell (w5.setRow w.heap.size #[.int .i64 k,.int .i64 mn,.int .i64 mx,.int .u64 s0,.int .u64 s1,.int .u64 s2,.int .u64 s3,.slice a l'.length cap]) ⟨w.heap.size+1,0,none⟩ (.int .i64 0) w.heap.size (by show w.heap.size≠w.heap.size+1;omega)).trans (setRow_heap _ _ _ _ _ _ n1.out)) (.cells #[] 202)
  have z2:Below w.heap.size w (((w5.setRow w.heap.size #[.int .i64 k,.int .i64 mn,.int .i64 mx,.int .u64 s0,.int .u64 s1,.int .u64 s2,.int .u64 s3,.slice a l'.length cap]).setCell ⟨w.heap.size+1,0,none⟩ (.int .i64 0)).alloc (.cells #[] 202)):=
   ((Xs q0.out (Nat.le_refl _) _).setCell (by show w.heap.size<=w.heap.size+1;omega) _).alloc (by have:=q0.out.size;simp;omega) _
  refine⟨_,Yo rfl _ _ _ w.heap.size (w.heap.size+1) 141 #[.int .i64 k,.int .i64 mn,.int .i64 mx,.int .u64 s0,.int .u64 s1,.int .u64 s2,.int .u64 s3,.slice a l'.length cap] (0,0) _ (.int .i64 0) rfl K2 Tryz.underlying141 ZH rfl (Jr _ _ _ H2),z2,.inl ⟨(RxA.node k mn mx s0 s1 s2 s3 a cap l'),by rw[<-Z1.out];exact J2.out,rfl,?_⟩⟩;refine a3.out.keep λb hb=>?_
  have m3:=P2.out b hb;have k3:=hb5.size;simp only[World.size_alloc]at k3;refine⟨by simp;omega,λo=>World.cell?_of_block (w:=w0) ?_⟩;show(World.alloc _ _).heap[b]?=_;rw[Below.heap_alloc _ _ _ (by simp;omega),Below.heap_setCell _ _ _ _ (by show b≠w.heap.size+1;omega),setRow_other _ _ _ _ (by omega),hb5.block b (by simp;omega),Below.heap_alloc _ _ _ m3.2]
theorem ZdF(w:World)(S:ByteArray):Calls Tryz.prog 150 #[.string S] w λe w'=>Ju w S.data.toList e w':=by
 have hS:(⟨S.data.toList.toArray⟩:ByteArray)=S:=by simp
 have K0:S.data.toList.length=S.size:=by rw[Array.length_toList];rfl
 by_cases hl:128<S.size
 ·refine(ZbM w S hl).mono ?_;rintro e w' ⟨he,hb⟩;exact⟨hb,.inr ⟨51,by unfold Yw;rw[if_pos (by omega)],he⟩⟩
 ·cases hn:altR (3*S.data.toList.length+3) [] [] S.data.toList with
  |none=>exact ZbL w S _ hS (by omega) hn
  |some p=>
   obtain⟨x,r⟩:=p
   cases r with
   |nil=>exact ZbN w S _ hS (by omega) x hn
   |cons c r=>exact ZbK w S _ hS (by omega) x c r hn
end Go.Proofs.YtbchkjfnakabkaaGreatDoor
namespace Go.Proofs.YtbchkjfnakabkaaGreatDoor
open Go.RowKit PX
theorem G8{l:List UInt8}{n:Int}(h:Yw l=.inr n):n=50\/n=51:=by
 unfold Yw at h;split at h
 ·right;exact(Sum.inr.inj h).symm
 ·split at h
  ·left;exact(Sum.inr.inj h).symm
  ·split at h
   ·split at h
    ·right;exact(Sum.inr.inj h).symm
    ·cases h
   ·left;exact(Sum.inr.inj h).symm
end Go.Proofs.YtbchkjfnakabkaaGreatDoor
namespace Go.Proofs.YtbchkjfnakabkaaGreatDoor
open Go.RowKit PX
theorem PairsAt.below{w w':World}{v:Value}{l:List (Nat × Nat)}(h:PairsAt w v l)(hb:Below w.heap.size w w'):PairsAt w' v l:=by
 obtain⟨a,cap,rfl,h⟩:=h;refine⟨a,cap,rfl,?_⟩;rcases h with h|⟨b,rfl,h⟩
 ·exact .inl h
 ·refine .inr ⟨b,rfl,λi q hq=>?_⟩;obtain⟨h1,h2⟩:=h i q hq;have d1:=World.block_lt_of_cell? _ _ h1;exact⟨(hb.cell (p:=⟨b,i*2,none⟩) d1).trans h1,(hb.cell (p:=⟨b,i*2+1,none⟩) d1).trans h2⟩
end Go.Proofs.YtbchkjfnakabkaaGreatDoor
