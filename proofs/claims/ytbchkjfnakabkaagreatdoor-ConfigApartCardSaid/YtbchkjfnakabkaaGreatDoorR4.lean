import Derived.Test.YtbchkjfnakabkaaGreatDoorR23
import Derived.Defers
import Derived.Recover
import Derived.Laws.MakeOwn
import Derived.Laws.OwnMore
import Derived.Laws.IdiomStrings
set_option linter.unusedSimpArgs false
set_option linter.unusedVariables false
set_option maxHeartbeats 2000000
set_option maxRecDepth 100000
namespace Go.Proofs.YtbchkjfnakabkaaGreatDoor
open Go.RowKit PX
def AltJ(rb nb F:Nat)(w:World)(O:Option (Rx × List UInt8))(a:Act)(w':World):Prop:=
 ∃ (vl vr:Value),(∃(u1 u5 u6 u7 u8 u9 u10 u11 u12 u13 u14 u15 u16 u17 u18 u19 u20 u21 u22 u23 u24 u25 u26 u27 u28 u29 u30 u31 u32 u33 u34 u35 u36 u37 u38 u39:Value),a={ tmps:=#[.pointer (some ⟨rb,0,none⟩),u1,.pointer (some ⟨nb,0,none⟩),vl,vr,u5,u6,u7,u8,u9,u10,u11,u12,u13,u14,u15,u16,u17,u18,u19,u20,u21,u22,u23,u24,u25,u26,u27,u28,u29,u30,u31,u32,u33,u34,u35,u36,u37,u38,u39],defers:=[] }) /\
 ∃ (lA rowA:List RxA) (s:List UInt8) (f:Nat),ReadAt w' rb s∧w'.heap[nb]?=some (.cells (Zh (setA Q4.none)) 141 (0,0))∧Only (fun k=>k=rb) w w'∧AltInv (nb+1) w' vl vr lA rowA ∧
  lA.length+rowA.length+s.length<=128/\3*s.length+1<=f/\f<=F/\altR f (lA.map RxA.bare) (rowA.map RxA.bare) s=O
theorem DT{rb:Nat}{w:World}{x:Rx}{r:List UInt8}{e:Ending}{w':World}(h:∃ X:RxA,x=X.bare/\e=.returned (.agg (Zh X))/\ReadAt w' rb r/\Only (λk=>k=rb) w w'/\X.In w' w'.heap.size/\∀ b∈X.blocks,w.heap.size<=b/\b<w'.heap.size) :
 ∃ k mn mx s0 s1 s2 s3 a cap l,x=(RxA.node k mn mx s0 s1 s2 s3 a cap l).bare/\e=.returned (.agg #[.int .i64 k,.int .i64 mn,.int .i64 mx,.int .u64 s0,.int .u64 s1,.int .u64 s2,.int .u64 s3,.slice a l.length cap])/\ReadAt w' rb r/\Only (λk=>k=rb) w w'/\(RxA.node k mn mx s0 s1 s2 s3 a cap l).In w' w'.heap.size/\∀ b∈(RxA.node k mn mx s0 s1 s2 s3 a cap l).blocks,w.heap.size<=b/\b<w'.heap.size:=by
 obtain⟨X,hX,he,h2,h3,h4,h5⟩:=h;obtain⟨k,mn,mx,s0,s1,s2,s3,a,cap,l⟩:=X;exact⟨k,mn,mx,s0,s1,s2,s3,a,cap,l,hX,he,h2,h3,h4,h5⟩
theorem GB{f:Nat}{l row:List Rx}{s:List UInt8}(h:(s.isEmpty || Zg 124 s || Zg 41 s)=true)(K0:Zg 124 s=false):altR (f+1) l row s=some (Rx.joined 2 (l++[Rx.joined 1 row]),s):=by
 simp only[altR];rw[if_pos h];simp[K0]
theorem ZaL{f:Nat}{l row:List Rx}{s:List UInt8}(K0:Zg 124 s=true):altR (f+1) l row s=altR f (l++[Rx.joined 1 row]) [] s.tail:=by
 simp[altR,K0]
theorem ZeW{f:Nat}{l row:List Rx}{s:List UInt8}(h:(s.isEmpty || Zg 124 s || Zg 41 s)=false):altR (f+1) l row s=match XL f s with|none=>none|some (x,r)=>altR f l (row++[x]) r:=by
 simp only[altR,h];rfl
def Zim(F:Nat):Prop:=∀ f',f'<F->∀ w rb s,ReadAt w rb s->s.length<=128->3*s.length<=f'->Calls Tryz.prog 186 #[.pointer (some ⟨rb,0,none⟩)] w λe w'=>ZW rb w (XL f' s) e w'
theorem ZeV(F:Nat)(hp:Zim F)(w:World)(rb:Nat)(s:List UInt8)(h:ReadAt w rb s)(hl:s.length<=128)(hF:3*s.length+1<=F) :
 Calls Tryz.prog 173 #[.pointer (some ⟨rb,0,none⟩)] w λe w'=>ZW rb w (altR F [] [] s) e w':=by
 have m1:=Zb h
 obtain⟨O,hO⟩:∃ O,altR F [] [] s=O:=⟨_,rfl⟩
 rw[hO]
 obtain⟨nb,hnb⟩:∃ nb,w.heap.size=nb:=⟨_,rfl⟩
 have HP:=Hd hp;clear hp;have T2:=Hd hO;clear hO;have HW:=Hd h;clear h;obtain⟨i0,hi,hz0,hz1,p1⟩:=info_parts Zas
 go_enter Tryz.func173,Tryz.ntmps173
 go_wp2_with fail
 refine V9 0 (AltJ rb nb F w O) (λ_ w'=>Zap rb w') rfl ?_ ?_
 ·rintro aa w' ⟨vl,vr,⟨u1,u5,u6,u7,u8,u9,u10,u11,u12,u13,u14,u15,u16,u17,u18,u19,u20,u21,u22,u23,u24,u25,u26,u27,u28,u29,u30,u31,u32,u33,u34,u35,u36,u37,u38,u39,rfl⟩,lA,rowA,s',f,hr,hn,hon,hinv,L0,hfu,hfF,hcl⟩;clear T2 HW hl hF;have HN:=Hd hn;clear hn;have L1:=Hd hon;clear hon;have c0:=Hd hinv;clear hinv;have R2:=Hd hcl;clear hcl;have T1:=Zb HN.out
  obtain⟨f1,rfl⟩:∃ f1,f=f1+1:=⟨f - 1,by omega⟩
  cases hst:(s'.isEmpty || Zg 124 s' || Zg 41 s') with
  |false=>
   obtain⟨c,u,rfl⟩:∃ c u,s'=c::u:=by
    cases s' with
    |nil=>simp at hst
    |cons c u=>exact⟨c,u,rfl⟩
   have N2:=ZeW (f:=f1) (l:=lA.map RxA.bare) (row:=rowA.map RxA.bare) hst;have F2:=Hd (N2.symm.trans R2.out);clear N2;simp only[List.isEmpty_cons,Bool.false_or,Bool.or_eq_false_iff,Zg,beq_eq_false_iff_ne,ne_eq]at hst
   have K0:((c.toNat:Int) != 124)=true:=by
    rw[bne_iff_ne];intro h;exact hst.1 (UInt8.toNat_inj.1 (by show c.toNat=124;omega))
   have h41:((c.toNat:Int) != 41)=true:=by
    rw[bne_iff_ne];intro h;exact hst.2 (UInt8.toNat_inj.1 (by show c.toNat=41;omega))
   clear hst
   obtain⟨S,HSS⟩:∃ S:ByteArray,Hid ((⟨(c::u).toArray⟩:ByteArray)=S):=⟨_,Hd rfl⟩
   obtain⟨hne,hem,M1,hat,-⟩:=full c u HSS.out;have g0:=Yw hr;have t0:=Hd g0;clear g0;have n1:=HP.out f1 (by omega) w' rb (c::u) hr (by omega) (by omega);have l0:=hr;unfold ReadAt at l0;rw[HSS.out]at l0;have r2:=ZM l0;clear l0 hr
   cases e0:XL f1 (c::u) with
   |none=>
    rw[e0]at n1;have l1:=Hd n1;clear n1;have hO:O=none:=by rw[<-F2.out,e0]
    clear e0
    go_wp2_with (go_at_call 186;refine l1.out.mono ?_;rintro e w1 hR;obtain⟨rfl,o1⟩:=Y4 hR)
    exact⟨rfl,L1.out.then o1,.inl ⟨hO,rfl⟩⟩
   |some p=>
    obtain⟨x,r⟩:=p;rw[e0]at n1;have hO:=F2.out;rw[e0]at hO;have t2:=(D3 f1).2.1 _ _ _ e0;have l1:=Hd (n1.mono λe w2 hR=>DT (YC hR));clear n1 e0 F2;have o3:=Hd hO;clear hO
    go_wp2_with (first
     | (go_at_call 186
        refine l1.out.mono ?_;rintro e w1 ⟨k,mn,mx,s0,s1,s2,s3,a,cap,l,hX,rfl,h1,o1,hXin,hXb⟩;have A1:=o1.size;have R0:=c0.out.only o1 (by intro j hj;omega)
        have hK:Kept w1 (nb+1) vl vr (RxA.node k mn mx s0 s1 s2 s3 a cap l):=⟨hXin,λb hb=>by
         have h3:=hXb b hb
         exact⟨by omega,h3.2,λhe=>by have:=(c0.out.own1.lt b he).2;omega,λhe=>by have:=(c0.out.own2.lt b he).2;omega⟩⟩
        have a0:=R0.only (Only.alloc (r:=λk=>k=rb) (Only.refl _ w1) (.cells [.int .i64 k,.int .i64 mn,.int .i64 mx,.int .u64 s0,.int .u64 s1,.int .u64 s2,.int .u64 s3,.slice a l.length cap].toArray 141)) (by intro j hj;omega);have F0:=hK.only (Only.alloc (r:=λk=>k=rb) (Only.refl _ w1) (.cells [.int .i64 k,.int .i64 mn,.int .i64 mx,.int .u64 s0,.int .u64 s1,.int .u64 s2,.int .u64 s3,.slice a l.length cap].toArray 141)) (by intro j hj;omega);have A0:=Hd a0;have b1:=Hd F0;have Z1:=Hd hX;clear R0 hK a0 F0 hXin hXb hX
        have hrl2:rowA.length+1<=1000:=(by simp only[List.length_cons]at L0;omega))
     | (refine wpList_append_lies _ rfl (.tmp 26) (.tmp 29) 139 rfl (nb+1) 141 i0 _ 8 80 Tryz.underlying139 hi hz0 hz1 p1 rfl (by decide) vr rowA.length (Xd rowA) rfl A0.out.own2 ⟨w1.heap.size,0,none⟩ 1 1 [.int .i64 k,.int .i64 mn,.int .i64 mx,.int .u64 s0,.int .u64 s1,.int .u64 s2,.int .u64 s3,.slice a l.length cap] rfl rfl (Js w1 [.int .i64 k,.int .i64 mn,.int .i64 mx,.int .u64 s0,.int .u64 s1,.int .u64 s2,.int .u64 s3,.slice a l.length cap] 141) (by intro v hv;exact GV (RxA.node k mn mx s0 s1 s2 s3 a cap l) v hv) (by decide) (by unfold maxLen;omega) (by omega) (by simp;omega) _ rfl ?_
        intro g cap' w3 hown3 hgrow hgat hglt))
    go_step3
    have b0:=A0.out.push b1.out hown3 hgrow hgat;have I0:Only (λk=>k=rb) w w3:=((L1.out.then o1).alloc _).grown hgrow (λb hb=>.inr (by have:=(c0.out.own2.lt b hb).1;omega));have O2:∀ b,b<nb+1->some b≠vr.ownBlock:=λb hb he=>by have:=(c0.out.own2.lt b he.symm).1;omega
    have h3:ReadAt w3 rb r:=(hgrow.block rb (by simp;omega) (O2 rb (by omega))).trans (Ze h1 _);have n0:w3.heap[nb]?=some (.cells (Zh (setA Q4.none)) 141 (0,0)):=(hgrow.block nb (by simp;omega) (O2 nb (by omega))).trans (Ze ((o1.block nb T1 (by omega)).trans HN.out) _);refine⟨rfl,⟨_,_,⟨_,_,_,_,_,_,_,_,_,_,_,_,_,_,_,_,_,_,_,_,_,_,_,_,_,_,_,_,_,_,_,_,_,_,_,_,rfl⟩,lA,rowA++[(RxA.node k mn mx s0 s1 s2 s3 a cap l)],r,f1,h3,n0,I0,b0,?_,?_,by omega,?_⟩,?_⟩
    ·simp only[List.length_append,List.length_cons,List.length_nil]at L0 t2 ⊢;omega
    ·simp only[List.length_cons]at hfu t2;omega
    ·rw[List.map_append,List.map_singleton,<-Z1.out];exact o3.out
    ·rw[Yw h3,t0.out];exact t2
  |true=>
   have t1:s'=[]\/(∃u,s'=124::u)\/∃ u,s'=41::u:=by
    cases s' with
    |nil=>exact .inl rfl
    |cons c u=>
     simp only[List.isEmpty_cons,Bool.false_or,Bool.or_eq_true,Zg,beq_iff_eq]at hst;rcases hst with rfl|rfl
     ·exact .inr (.inl ⟨u,rfl⟩)
     ·exact .inr (.inr ⟨u,rfl⟩)
   obtain⟨ar,cr,rfl,hcr1,hcr2,-⟩:=Jg c0.out.own2;have i2:=c0.out.join 1 ⟨by omega,by omega⟩ (by omega);have K2:=YH 1 ar cr rowA;have a3:=UQ w' 1 (.slice ar rowA.length cr) (nb+1) rowA c0.out.own2 (by omega)
   obtain⟨k,mn,mx,s0,s1,s2,s3,a,cap,l,hXJ⟩:∃ k mn mx s0 s1 s2 s3 a cap l,Xl 1 ar cr rowA=(RxA.node k mn mx s0 s1 s2 s3 a cap l):=by
    obtain⟨k,mn,mx,s0,s1,s2,s3,a,cap,l⟩:=Xl 1 ar cr rowA;exact⟨k,mn,mx,s0,s1,s2,s3,a,cap,l,rfl⟩
   have z1:Calls Tryz.prog 187 #[.int .i64 1,.slice ar rowA.length cr] w' λe w1=>e=.returned (.agg #[.int .i64 k,.int .i64 mn,.int .i64 mx,.int .u64 s0,.int .u64 s1,.int .u64 s2,.int .u64 s3,.slice a l.length cap])/\Below w'.heap.size w' w1:=by
    refine a3.mono ?_;rintro e w1 ⟨a',c',he,hee,hb⟩;simp only[Value.slice.injEq,true_and]at he;obtain⟨rfl,rfl⟩:=he;rw[hXJ]at hee;exact⟨hee,hb⟩
   rw[hXJ]at i2 K2;have W0:=c0.out.drop;have p0:=R2.out;clear a3 hXJ;have l2:=Hd i2;clear i2;have j2:=Hd K2;clear K2;have H2:=Hd z1;clear z1;have d2:=Hd W0;clear W0;have a2:nb<w'.heap.size:=T1;have g0:=Yw hr;have t0:=Hd g0;clear g0;have hlA:lA.length+1<=1000:=by omega
   have n2:rb<w'.heap.size:=Zb hr;rcases t1 with rfl|⟨u,rfl⟩|⟨u,rfl⟩
   ·have f0:=(GB (f:=f1) (l:=lA.map RxA.bare) (row:=rowA.map RxA.bare) (s:=[]) rfl rfl).symm.trans p0;have r2:w'.cell? ⟨rb,0,none⟩=some (.string ⟨#[]⟩):=ZM hr;have R1:=Hd (λw1 (h1:ReadAt w1 rb [])=>Zx w1 rb 124 [] h1 rfl);have O1:=Hd f0;clear f0 p0 hst;have S1:=Hd hr;clear hr
    go_wp2_with (first
     | (go_at_call 187
        (with_reducible refine H2.out.mono ?_)
        rintro e w1 ⟨rfl,hb1⟩;have A1:=hb1.size;have v1:Only (λk=>k=rb) w' w1:=Only.of_below hb1;have r0:=v1.alloc (.cells [.int .i64 k,.int .i64 mn,.int .i64 mx,.int .u64 s0,.int .u64 s1,.int .u64 s2,.int .u64 s3,.slice a l.length cap].toArray 141);have a0:=d2.out.only r0 (by intro j hj;omega);have F0:=l2.out.only r0 (by intro j hj;omega);have A0:=Hd a0;have b1:=Hd F0;clear a0 F0;have P0:ReadAt (w1.alloc (.cells [.int .i64 k,.int .i64 mn,.int .i64 mx,.int .u64 s0,.int .u64 s1,.int .u64 s2,.int .u64 s3,.slice a l.length cap].toArray 141)) rb []:=Ze ((hb1.block rb n2).trans S1.out) _;have S0:(w1.alloc (.cells [.int .i64 k,.int .i64 mn,.int .i64 mx,.int .u64 s0,.int .u64 s1,.int .u64 s2,.int .u64 s3,.slice a l.length cap].toArray 141)).heap[nb]?=_:=Ze ((hb1.block nb a2).trans HN.out) _;have C1:=Hd P0;have K1:=Hd S0
        clear P0 S0)
     | (refine wpList_append_lies _ rfl (.tmp 31) (.tmp 34) 139 rfl (nb+1) 141 i0 _ 8 80 Tryz.underlying139 hi hz0 hz1 p1 rfl (by decide) vl lA.length (Xd lA) rfl A0.out.own1 ⟨w1.heap.size,0,none⟩ 1 1 [.int .i64 k,.int .i64 mn,.int .i64 mx,.int .u64 s0,.int .u64 s1,.int .u64 s2,.int .u64 s3,.slice a l.length cap] rfl rfl (Js w1 [.int .i64 k,.int .i64 mn,.int .i64 mx,.int .u64 s0,.int .u64 s1,.int .u64 s2,.int .u64 s3,.slice a l.length cap] 141) (by intro v hv;exact GV (RxA.node k mn mx s0 s1 s2 s3 a cap l) v hv) (by decide) (by unfold maxLen;omega) (by omega) (by simp;omega) _ rfl ?_
        intro g cap' w3 hown3 hgrow hgat hglt;have b0:=(A0.out.swap.push b1.out.swap hown3 hgrow hgat).swap
        have O0:∀ b,b<nb+1->some b≠vl.ownBlock:=λb hb he=>by
         have:=(c0.out.own1.lt b he.symm).1;omega
        have h3:ReadAt w3 rb []:=(hgrow.block rb (by simp;omega) (O0 rb (by omega))).trans C1.out;have n0:=(hgrow.block nb (by simp;omega) (O0 nb (by omega))).trans K1.out;have I0:Only (λk=>k=rb) w w3:=(L1.out.then r0).grown hgrow (λb hb=>.inr (by have:=(c0.out.own1.lt b hb).1;omega));have E1:=Hd b0;have W1:=Hd n0;have P1:=Hd I0;have q0:=Zb n0
        clear b0 n0 I0 hown3 hgrow hgat)
     | (go_at_call 188
        (with_reducible refine(R1.out _ h3).mono ?_)
        rintro e w4 ⟨rfl,h4,o4⟩;have T0:=(o4.block nb q0 (by omega)).trans W1.out;have j0:=E1.out.only o4 (by intro j hj;omega);have d1:=Hd T0;have g1:=Hd j0;have J1:=Hd (P1.out.then o4)
        clear T0 j0)
     | (go_at_call 187
        refine(UQ w4 2 _ (nb+1) (lA++[(RxA.node k mn mx s0 s1 s2 s3 a cap l)]) g1.out.own1 (by simp;omega)).mono ?_;rintro e w5 ⟨a5,c5,hv5,rfl,hb5⟩;have N1:=(hb5.block nb (Zb d1.out)).trans d1.out;have y1:=Hd N1;clear N1;have I2:=Hd hv5
        clear hv5)
     |(refine wpList_store_row rfl 141 (.tmp 2) (.tmp 39) ?_ nb (Zh (Xl 2 a5 c5 (lA++[(RxA.node k mn mx s0 s1 s2 s3 a cap l)]))) ?_ ?_ 141 (Zh (setA Q4.none)) ?_ (Zj _) (by rw[Zi,Zi]) (Zm _) ?_;(with_reducible rfl);rfl;rfl;exact y1.out))
    refine bodyPost_ret (results_cell_row rfl _ _ nb 141 (Zh (Xl 2 a5 c5 (lA++[(RxA.node k mn mx s0 s1 s2 s3 a cap l)]))) (0,0) _ rfl (setRow_heap _ _ _ _ _ _ y1.out) Tryz.underlying141 rfl (Zj _)) rfl ?_;have k0:=g1.out;rw[I2.out]at k0;have v2:=k0.swap.join 2 ⟨by omega,by omega⟩ (by simp;omega);have c1:=(v2.only (r:=λ_=>False) (Only.of_below hb5) (λj hj=>hj.elim)).only ((Only.refl (λk=>k=nb) w5).setRow (.inl rfl) (Zh (Xl 2 a5 c5 (lA++[(RxA.node k mn mx s0 s1 s2 s3 a cap l)])))) (by intro j hj;omega);refine⟨(J1.out.then (Only.of_below hb5)).setRow (q:=nb) (.inr (by omega)) _,.inr ⟨Xl 2 a5 c5 (lA++[(RxA.node k mn mx s0 s1 s2 s3 a cap l)]),[],?_,rfl,?_,c1.lies,λb hb=>⟨by have:=(c1.far b hb).1;omega,(c1.far b hb).2.1⟩⟩⟩
    ·rw[<-O1.out,YH,List.map_append,List.map_singleton,j2.out]
    ·exact(setRow_other _ _ _ _ (by omega)).trans ((hb5.block rb (Zb h4)).trans h4)
   ·have f0:=(ZaL (f:=f1) (l:=lA.map RxA.bare) (row:=rowA.map RxA.bare) (s:=124::u) rfl).symm.trans p0
    obtain⟨S,HSS⟩:∃ S:ByteArray,Hid ((⟨(124::u).toArray⟩:ByteArray)=S):=⟨_,Hd rfl⟩
    obtain⟨hne,hem,M1,hat,-⟩:=full 124 u HSS.out;have l0:=hr;unfold ReadAt at l0;rw[HSS.out]at l0;have r2:=ZM l0;clear l0;have R1:=Hd (λw1 (h1:ReadAt w1 rb (124::u))=>ZK w1 rb 124 u h1);have O1:=Hd f0;clear f0 p0 hst;have S1:=Hd hr;clear hr
    go_wp2_with (first
     | (go_at_call 187
        (with_reducible refine H2.out.mono ?_)
        rintro e w1 ⟨rfl,hb1⟩;have A1:=hb1.size;have v1:Only (λk=>k=rb) w' w1:=Only.of_below hb1;have r0:=v1.alloc (.cells [.int .i64 k,.int .i64 mn,.int .i64 mx,.int .u64 s0,.int .u64 s1,.int .u64 s2,.int .u64 s3,.slice a l.length cap].toArray 141);have a0:=d2.out.only r0 (by intro j hj;omega);have F0:=l2.out.only r0 (by intro j hj;omega);have A0:=Hd a0;have b1:=Hd F0;clear a0 F0;have P0:ReadAt (w1.alloc (.cells [.int .i64 k,.int .i64 mn,.int .i64 mx,.int .u64 s0,.int .u64 s1,.int .u64 s2,.int .u64 s3,.slice a l.length cap].toArray 141)) rb (124::u):=Ze ((hb1.block rb n2).trans S1.out) _;have S0:(w1.alloc (.cells [.int .i64 k,.int .i64 mn,.int .i64 mx,.int .u64 s0,.int .u64 s1,.int .u64 s2,.int .u64 s3,.slice a l.length cap].toArray 141)).heap[nb]?=_:=Ze ((hb1.block nb a2).trans HN.out) _;have C1:=Hd P0;have K1:=Hd S0
        clear P0 S0)
     | (refine wpList_append_lies _ rfl (.tmp 31) (.tmp 34) 139 rfl (nb+1) 141 i0 _ 8 80 Tryz.underlying139 hi hz0 hz1 p1 rfl (by decide) vl lA.length (Xd lA) rfl A0.out.own1 ⟨w1.heap.size,0,none⟩ 1 1 [.int .i64 k,.int .i64 mn,.int .i64 mx,.int .u64 s0,.int .u64 s1,.int .u64 s2,.int .u64 s3,.slice a l.length cap] rfl rfl (Js w1 [.int .i64 k,.int .i64 mn,.int .i64 mx,.int .u64 s0,.int .u64 s1,.int .u64 s2,.int .u64 s3,.slice a l.length cap] 141) (by intro v hv;exact GV (RxA.node k mn mx s0 s1 s2 s3 a cap l) v hv) (by decide) (by unfold maxLen;omega) (by omega) (by simp;omega) _ rfl ?_
        intro g cap' w3 hown3 hgrow hgat hglt;have b0:=(A0.out.swap.push b1.out.swap hown3 hgrow hgat).swap
        have O0:∀ b,b<nb+1->some b≠vl.ownBlock:=λb hb he=>by
         have:=(c0.out.own1.lt b he.symm).1;omega
        have h3:ReadAt w3 rb (124::u):=(hgrow.block rb (by simp;omega) (O0 rb (by omega))).trans C1.out;have n0:=(hgrow.block nb (by simp;omega) (O0 nb (by omega))).trans K1.out;have I0:Only (λk=>k=rb) w w3:=(L1.out.then r0).grown hgrow (λb hb=>.inr (by have:=(c0.out.own1.lt b hb).1;omega));have E1:=Hd b0;have W1:=Hd n0;have P1:=Hd I0;have q0:=Zb n0
        clear b0 n0 I0 hown3 hgrow hgat)
     | (go_at_call 188
        (with_reducible refine(R1.out _ h3).mono ?_)
        rintro e w4 ⟨rfl,h4,o4⟩;have T0:=(o4.block nb q0 (by omega)).trans W1.out;have j0:=E1.out.only o4 (by intro j hj;omega);have d1:=Hd T0;have g1:=Hd j0;have J1:=Hd (P1.out.then o4)
        clear T0 j0))
    go_step3
    refine⟨rfl,⟨_,_,⟨_,_,_,_,_,_,_,_,_,_,_,_,_,_,_,_,_,_,_,_,_,_,_,_,_,_,_,_,_,_,_,_,_,_,_,_,rfl⟩,lA++[(RxA.node k mn mx s0 s1 s2 s3 a cap l)],[],u,f1,h4,d1.out,J1.out,g1.out,?_,?_,by omega,?_⟩,?_⟩
    ·simp only[List.length_append,List.length_cons,List.length_nil]at L0 ⊢;omega
    ·simp only[List.length_cons]at hfu;omega
    ·rw[List.map_append,List.map_singleton,j2.out];exact O1.out
    ·rw[Yw h4,t0.out];simp
   ·have f0:=(GB (f:=f1) (l:=lA.map RxA.bare) (row:=rowA.map RxA.bare) (s:=41::u) rfl rfl).symm.trans p0
    obtain⟨S,HSS⟩:∃ S:ByteArray,Hid ((⟨(41::u).toArray⟩:ByteArray)=S):=⟨_,Hd rfl⟩
    obtain⟨hne,hem,M1,hat,-⟩:=full 41 u HSS.out;have l0:=hr;unfold ReadAt at l0;rw[HSS.out]at l0;have r2:=ZM l0;clear l0;have R1:=Hd (λw1 (h1:ReadAt w1 rb (41::u))=>Zx w1 rb 124 (41::u) h1 rfl);have O1:=Hd f0;clear f0 p0 hst;have S1:=Hd hr;clear hr
    go_wp2_with (first
     | (go_at_call 187
        (with_reducible refine H2.out.mono ?_)
        rintro e w1 ⟨rfl,hb1⟩;have A1:=hb1.size;have v1:Only (λk=>k=rb) w' w1:=Only.of_below hb1;have r0:=v1.alloc (.cells [.int .i64 k,.int .i64 mn,.int .i64 mx,.int .u64 s0,.int .u64 s1,.int .u64 s2,.int .u64 s3,.slice a l.length cap].toArray 141);have a0:=d2.out.only r0 (by intro j hj;omega);have F0:=l2.out.only r0 (by intro j hj;omega);have A0:=Hd a0;have b1:=Hd F0;clear a0 F0;have P0:ReadAt (w1.alloc (.cells [.int .i64 k,.int .i64 mn,.int .i64 mx,.int .u64 s0,.int .u64 s1,.int .u64 s2,.int .u64 s3,.slice a l.length cap].toArray 141)) rb (41::u):=Ze ((hb1.block rb n2).trans S1.out) _;have S0:(w1.alloc (.cells [.int .i64 k,.int .i64 mn,.int .i64 mx,.int .u64 s0,.int .u64 s1,.int .u64 s2,.int .u64 s3,.slice a l.length cap].toArray 141)).heap[nb]?=_:=Ze ((hb1.block nb a2).trans HN.out) _;have C1:=Hd P0;have K1:=Hd S0
        clear P0 S0)
     | (refine wpList_append_lies _ rfl (.tmp 31) (.tmp 34) 139 rfl (nb+1) 141 i0 _ 8 80 Tryz.underlying139 hi hz0 hz1 p1 rfl (by decide) vl lA.length (Xd lA) rfl A0.out.own1 ⟨w1.heap.size,0,none⟩ 1 1 [.int .i64 k,.int .i64 mn,.int .i64 mx,.int .u64 s0,.int .u64 s1,.int .u64 s2,.int .u64 s3,.slice a l.length cap] rfl rfl (Js w1 [.int .i64 k,.int .i64 mn,.int .i64 mx,.int .u64 s0,.int .u64 s1,.int .u64 s2,.int .u64 s3,.slice a l.length cap] 141) (by intro v hv;exact GV (RxA.node k mn mx s0 s1 s2 s3 a cap l) v hv) (by decide) (by unfold maxLen;omega) (by omega) (by simp;omega) _ rfl ?_
        intro g cap' w3 hown3 hgrow hgat hglt;have b0:=(A0.out.swap.push b1.out.swap hown3 hgrow hgat).swap
        have O0:∀ b,b<nb+1->some b≠vl.ownBlock:=λb hb he=>by
         have:=(c0.out.own1.lt b he.symm).1;omega
        have h3:ReadAt w3 rb (41::u):=(hgrow.block rb (by simp;omega) (O0 rb (by omega))).trans C1.out;have n0:=(hgrow.block nb (by simp;omega) (O0 nb (by omega))).trans K1.out;have I0:Only (λk=>k=rb) w w3:=(L1.out.then r0).grown hgrow (λb hb=>.inr (by have:=(c0.out.own1.lt b hb).1;omega));have E1:=Hd b0;have W1:=Hd n0;have P1:=Hd I0;have q0:=Zb n0
        clear b0 n0 I0 hown3 hgrow hgat)
     | (go_at_call 188
        (with_reducible refine(R1.out _ h3).mono ?_)
        rintro e w4 ⟨rfl,h4,o4⟩;have T0:=(o4.block nb q0 (by omega)).trans W1.out;have j0:=E1.out.only o4 (by intro j hj;omega);have d1:=Hd T0;have g1:=Hd j0;have J1:=Hd (P1.out.then o4)
        clear T0 j0)
     | (go_at_call 187
        refine(UQ w4 2 _ (nb+1) (lA++[(RxA.node k mn mx s0 s1 s2 s3 a cap l)]) g1.out.own1 (by simp;omega)).mono ?_;rintro e w5 ⟨a5,c5,hv5,rfl,hb5⟩;have N1:=(hb5.block nb (Zb d1.out)).trans d1.out;have y1:=Hd N1;clear N1;have I2:=Hd hv5
        clear hv5)
     |(refine wpList_store_row rfl 141 (.tmp 2) (.tmp 39) ?_ nb (Zh (Xl 2 a5 c5 (lA++[(RxA.node k mn mx s0 s1 s2 s3 a cap l)]))) ?_ ?_ 141 (Zh (setA Q4.none)) ?_ (Zj _) (by rw[Zi,Zi]) (Zm _) ?_;(with_reducible rfl);rfl;rfl;exact y1.out))
    refine bodyPost_ret (results_cell_row rfl _ _ nb 141 (Zh (Xl 2 a5 c5 (lA++[(RxA.node k mn mx s0 s1 s2 s3 a cap l)]))) (0,0) _ rfl (setRow_heap _ _ _ _ _ _ y1.out) Tryz.underlying141 rfl (Zj _)) rfl ?_;have k0:=g1.out;rw[I2.out]at k0;have v2:=k0.swap.join 2 ⟨by omega,by omega⟩ (by simp;omega);have c1:=(v2.only (r:=λ_=>False) (Only.of_below hb5) (λj hj=>hj.elim)).only ((Only.refl (λk=>k=nb) w5).setRow (.inl rfl) (Zh (Xl 2 a5 c5 (lA++[(RxA.node k mn mx s0 s1 s2 s3 a cap l)])))) (by intro j hj;omega);refine⟨(J1.out.then (Only.of_below hb5)).setRow (q:=nb) (.inr (by omega)) _,.inr ⟨Xl 2 a5 c5 (lA++[(RxA.node k mn mx s0 s1 s2 s3 a cap l)]),41::u,?_,rfl,?_,c1.lies,λb hb=>⟨by have:=(c1.far b hb).1;omega,(c1.far b hb).2.1⟩⟩⟩
    ·rw[<-O1.out,YH,List.map_append,List.map_singleton,j2.out]
    ·exact(setRow_other _ _ _ _ (by omega)).trans ((hb5.block rb (Zb h4)).trans h4)
 ·intro hX;have HX:=Hd hX;clear hX;have e3:ReadAt (w.alloc (.cells (Zh (setA Q4.none)) 141)) rb s:=Ze HW.out _;have m3:(w.alloc (.cells (Zh (setA Q4.none)) 141)).heap[nb]?=some (.cells (Zh (setA Q4.none)) 141 (0,0)):=by rw[<-hnb];exact Zd _ _
  go_wp2_with fail
  go_step3
  rename (∀(a:Act) (w:World),_->_)=>hk
  exact hk _ _ (HX.out _ _ ⟨_,_,⟨_,_,_,_,_,_,_,_,_,_,_,_,_,_,_,_,_,_,_,_,_,_,_,_,_,_,_,_,_,_,_,_,_,_,_,_,rfl⟩,[],[],s,F,e3,m3,(Only.refl _ w).alloc _,AltInv.start _ _,by simpa using hl,hF,Nat.le_refl _,T2.out⟩)
end Go.Proofs.YtbchkjfnakabkaaGreatDoor
namespace Go.Proofs.YtbchkjfnakabkaaGreatDoor
open Go.RowKit PX
theorem UF(altf:List UInt8->Option (Rx × List UInt8)):XB altf []=none:=by rfl
theorem ZfA:∀ (f':Nat) (w:World) (rb:Nat) (s:List UInt8),ReadAt w rb s->s.length<=128->3*s.length<=f' ->
 Calls Tryz.prog 186 #[.pointer (some ⟨rb,0,none⟩)] w λe w'=>ZW rb w (XL f' s) e w':=by
 intro f'
 induction f' using Nat.strongRecOn with
 |_ f' ih=>
  intro w rb s h hl hf
  match f',ih,hf with
  |0,_,hf=>
   obtain rfl:s=[]:=List.eq_nil_of_length_eq_zero (by omega)
   have hp:=E0 w rb [] h none (λx r h=>by cases h) (λw1 h1=>by
    have ha:=QY w1 rb [] h1 hl (λ_=>none) (λh=>by cases h);rw[UF]at ha
    exact ha)
   exact hp
  |1,_,hf=>
   obtain rfl:s=[]:=List.eq_nil_of_length_eq_zero (by omega)
   have hp:=E0 w rb [] h none (λx r h=>by cases h) (λw1 h1=>by
    have ha:=QY w1 rb [] h1 hl (λ_=>none) (λh=>by cases h);rw[UF]at ha
    exact ha)
   exact hp
  |f2+2,ih,hf=>
   have hA:VD (f2+1) s=XB (altR f2 [] []) s:=by
    simp only[VD,XB];rfl
   have hP:XL (f2+2) s=B9 (XB (altR f2 [] []) s):=by
    rw[<-hA];simp only[XL]
    cases VD (f2+1) s with
    |none=>rfl
    |some p=>rfl
   rw[hP];refine E0 w rb s h _ (λx r hx=>?_) (λw1 h1=>?_)
   ·rw[<-hA]at hx;have:=(D3 (f2+1)).2.2 _ _ _ hx;omega
   ·refine QY w1 rb s h1 hl (altR f2 [] []) (λh40 w2 h2=>?_);have ht:=Z6 h40;exact ZeV f2 (λf'' m1=>ih f'' (by omega)) w2 rb s.tail h2 (by omega) (by omega)
theorem BM(F:Nat)(w:World)(rb:Nat)(s:List UInt8)(h:ReadAt w rb s)(hl:s.length<=128)(hF:3*s.length+1<=F) :
 Calls Tryz.prog 173 #[.pointer (some ⟨rb,0,none⟩)] w λe w'=>ZW rb w (altR F [] [] s) e w':=
 ZeV F (λf' _=>ZfA f') w rb s h hl hF
end Go.Proofs.YtbchkjfnakabkaaGreatDoor
namespace Go.Proofs.YtbchkjfnakabkaaGreatDoor
open Go.RowKit PX
theorem DA(w:World):(Instr.typeAssert (.iface 202 (.agg #[])) 20 202 true).run Tryz.prog w=.ok (.tuple #[.agg #[],.bool true]) w:=by kernel_rfl
theorem Zcl(w:World):(Instr.typeAssert .nilIface 20 202 true).run Tryz.prog w=.ok (.tuple #[.agg #[],.bool false]) w:=by kernel_rfl
theorem Vj(p:Addr)(x:Int)(w:World)(m1:p.block<w.heap.size)(hc:w.cell? p=some (.int .i64 x))(hz:w.frozen? p=false) :
 CallsD Tryz.prog 172 #[.pointer (some p)] (.panicking JO) w λe u' w'=>
  e=.returned (.tuple #[])/\u'=.panicking [{ v:=.iface 202 (.agg #[]),recovered:=true }]/\w'=(w.alloc (.cells #[] 202)).setCell p (.int .i64 50):=by
 refine callsD_of_wpS Tryz.func172 rfl λc₀ cs hu=>?_
 unfold JO at hu;apply wpS_seq;apply wpS_region;simp[wpOpsS,go_sem,recoverD,hu,Tryz.ntmps172,Exit.thenS,DA];have g3:(w.alloc (.cells #[] 202)).cell? p=some (.int .i64 x):=(World.cell?_of_block (w:=w) (Below.heap_alloc _ _ _ m1)).trans hc;have p1:(w.alloc (.cells #[] 202)).frozen? p=false:=(World.frozen?_of_block (w:=w) (Below.heap_alloc _ _ _ m1)).trans hz;apply wpS_seq;apply wpS_region;simp[wpOpsS,go_sem,Exit.thenS,Array.replicate];refine wpS_cond (t:=true) (by simp[Act.eval,Array.replicate]) ?_;simp only[if_true];apply wpS_region;simp[wpOpsS,go_sem,g3,p1,bodyPostS,results,Tryz.results172]
theorem Qk(p:Addr)(w:World) :
 CallsD Tryz.prog 172 #[.pointer (some p)] .returning w λe u' w'=>
  e=.returned (.tuple #[])/\u'=.returning/\w'=w.alloc (.cells #[] 202):=by
 refine callsD_of_wpS Tryz.func172 rfl λc₀ cs hu=>?_
 apply wpS_seq;apply wpS_region;simp[wpOpsS,go_sem,recoverD,hu,Tryz.ntmps172,Exit.thenS,Zcl];apply wpS_seq;apply wpS_region;simp[wpOpsS,go_sem,Exit.thenS,Array.replicate];refine wpS_cond (t:=false) (by simp[Act.eval,Array.replicate]) ?_;simp only[Bool.false_eq_true,if_false];refine wpS_of_wp (wp_skip ?_);cases c₀
 simp_all [bodyPostS,results,Tryz.results172]
theorem Jp(w:World)(g:Nat)(n:Int)(hc:w.cell? ⟨g,0,none⟩=some (.int .i64 n)):(loadVar 33 ⟨g,0,none⟩).run Tryz.prog w=.ok (.int .i64 n) w:=by
 simp[loadVar,isAgg,run_underlying Tryz.underlying33,go_sem,hc]
theorem Yi{fn:Func}{p q:Tmp}{ty tq:TypeId}(h:fn.results=#[.cell p ty,.cell q tq])(tmps:Array Value)(P:Program)(w:World)(g g2:Nat)(t:TypeId)(cs:Array Value)(fr:Nat × Nat)(fs:Array Field)(v:Value)
 (hp:tmps.getD p undef=.pointer (some ⟨g,0,none⟩)) (hg:w.heap[g]?=some (.cells cs t fr))
 (hu:P.underlying ty=some (.struct fs)) (hi:(P.info? ty).map (·.size)=some cs.size)
 (hq:tmps.getD q undef=.pointer (some ⟨g2,0,none⟩)) (hl:(loadVar tq ⟨g2,0,none⟩).run P w=.ok v w) :
 (results fn tmps).run P w=.ok (.tuple #[.agg cs,v]) w:=by
 have n3:tmps[p]?.getD undef=.pointer (some ⟨g,0,none⟩):=by simpa using hp
 have k3:tmps[q]?.getD undef=.pointer (some ⟨g2,0,none⟩):=by simpa using hq
 simp[results,h,n3,k3,asAddr,run_loadVar_row w g t ty cs fr (.struct fs) hg hu rfl hi,hl]
theorem Xp{B q:Nat}{a w:World}(h:Below B a w)(hq:B<=q)(cs:Array Value):Below B a (w.setRow q cs):=
 ⟨h.os,h.tape,h.output,by simpa using h.size,λk hk=>(setRow_other w q k cs (by omega)).trans (h.block k hk)⟩
def Jt(w:World)(l:List UInt8)(e:Ending)(w':World):Prop:=
 Below w.heap.size w w'/\((∃X:RxA,Yr l=.inl X.bare/\e=.returned (.tuple #[.agg (Zh X),.int .i64 0])/\X.In w' w'.heap.size)\/∃ n,Yr l=.inr n/\e=.returned (.tuple #[.agg (Zh (setA Q4.none)),.int .i64 n]))
theorem Uk{l:List UInt8}(h:l.length<=128):Yr l=match altR (3*l.length+3) [] [] l with|none=>.inr 50|some (x,r)=>if r.isEmpty then(if 256<x.sizeI then .inr 51 else .inl x) else .inr 50:=by
 unfold Yr;rw[if_neg (by omega)];rfl
theorem EJ:∀ l:List Rx,YR l↔∀ y∈l,tame y
 |[]=>by simp[YR]
 |x::xs=>by simp[YR,EJ xs]
theorem Qr(q:Q4):tame (.set q):=by simp[Rx.set,tame,YR]
theorem EI{kind:Int}{l:List Rx}(h:∀ y∈l,tame y):tame (Rx.joined kind l):=by
 match l,h with
 |[],_=>simp[Rx.joined,tame,YR]
 |[x],h=>exact h x (by simp)
 |x::y::l,h=>
  show tame (.node kind 0 0 0 0 0 0 (x::y::l));simp only[tame];exact⟨by omega,by omega,(EJ _).2 h⟩
theorem ZcM{x:Rx}{s:List UInt8}{y:Rx}{r:List UInt8}(hx:tame x)(h:sign x s=some (y,r)):tame y:=by
 have N0:∀ m n:Int,(0<=m/\m<=15)->(-1<=n/\n<=15)->tame (.rep m n x):=by
  intro m n hm hn;simp only[Rx.rep,tame,YR,and_true];exact⟨by omega,by omega,hx⟩
 unfold sign at h;split at h
 ·cases h;exact N0 _ _ (by omega) (by omega)
 ·split at h
  ·cases h;exact N0 _ _ (by omega) (by omega)
  ·split at h
   ·cases h;exact N0 _ _ (by omega) (by omega)
   ·split at h
    ·split at h
     ·cases h
     ·rename_i m n r1 h1;have:=Gx h1;cases h;exact N0 _ _ this.2.1 this.2.2
    ·cases h;exact hx
theorem Zdd(f:Nat):(∀(l row:List Rx) (s:List UInt8) (x:Rx) (r:List UInt8),(∀y∈l,tame y)->(∀y∈row,tame y)->altR f l row s=some (x,r)->tame x) /\
 (∀(s:List UInt8) (x:Rx) (r:List UInt8),XL f s=some (x,r)->tame x)/\(∀(s:List UInt8) (x:Rx) (r:List UInt8),VD f s=some (x,r)->tame x):=by
 induction f with
 |zero=>exact⟨λ_ _ _ _ _ _ _ h=>by simp[altR]at h,λ_ _ _ h=>by simp[XL]at h,λ_ _ _ h=>by simp[VD]at h⟩
 |succ f ih=>
  obtain⟨ia,ip,it⟩:=ih;refine⟨λl row s x r hl hrow h=>?_,λs x r h=>?_,λs x r h=>?_⟩
  ·have hj:∀ y∈l++[Rx.joined 1 row],tame y:=by
    intro y hy;rcases List.mem_append.1 hy with hy|hy
    ·exact hl y hy
    ·obtain rfl:=List.mem_singleton.1 hy;exact EI hrow
   simp only[altR]at h;split at h
   ·split at h
    ·exact ia _ _ _ _ _ hj (λy hy=>by cases hy) h
    ·cases h;exact EI hj
   ·split at h
    ·cases h
    ·rename_i y t h1;refine ia _ _ _ _ _ hl (λz hz=>?_) h;rcases List.mem_append.1 hz with hz|hz
     ·exact hrow z hz
     ·obtain rfl:=List.mem_singleton.1 hz;exact ip _ _ _ h1
  ·simp only[XL]at h;split at h
   ·cases h
   ·rename_i y t h1;exact ZcM (it _ _ _ h1) h
  ·simp only[VD]at h;split at h
   ·cases h;exact Qr _
   ·split at h
    ·split at h
     ·cases h
     ·cases h;exact Qr _
    ·split at h
     ·split at h
      ·cases h
      ·rename_i y t h2;split at h
       ·cases h;exact ia _ _ _ _ _ (λy hy=>by cases hy) (λy hy=>by cases hy) h2
       ·cases h
     ·split at h
      ·cases h
      ·cases h;exact Qr _
theorem ZbB(w:World)(S:ByteArray)(h:128<S.size) :
 Calls Tryz.prog 150 #[.string S] w λe w'=>e=.returned (.tuple #[.agg (Zh (setA Q4.none)),.int .i64 51])/\Below w.heap.size w w':=by
 have hi:(128:Int)<S.size:=by omega
 have hh:((w.alloc (.cells #[.int .i64 0,.int .i64 0,.int .i64 0,.int .u64 0,.int .u64 0,.int .u64 0,.int .u64 0,.slice none 0 0] 141)).alloc (.cells #[.int .i64 51] 33)).heap[w.heap.size]?=some (.cells (Zh (setA Q4.none)) 141 (0,0)):=Ze (Zd _ _) _;have hc:((w.alloc (.cells #[.int .i64 0,.int .i64 0,.int .i64 0,.int .u64 0,.int .u64 0,.int .u64 0,.int .u64 0,.slice none 0 0] 141)).alloc (.cells #[.int .i64 51] 33)).cell? ⟨w.heap.size+1,0,none⟩=some (.int .i64 51):=Za (Zr _ _ _ (by simp)) 0;have HH:=Hd hh;have HC:=Hd hc;clear hh hc
 go_enter_defers Tryz.func150,Tryz.ntmps150
 go_wp2_with fail
 exact⟨_,Yi rfl _ _ _ w.heap.size (w.heap.size+1) 141 (Zh (setA Q4.none)) (0,0) _ (.int .i64 51) rfl HH.out Tryz.underlying141 (Zj _) rfl (Jp _ _ _ HC.out),rfl,((Below.refl w.heap.size w).alloc (Nat.le_refl _) _).alloc (by simp) _⟩
theorem VW(w:World)(l:List UInt8)(S:ByteArray)(hS:(⟨l.toArray⟩:ByteArray)=S):ReadAt (((w.alloc (.cells #[.int .i64 0,.int .i64 0,.int .i64 0,.int .u64 0,.int .u64 0,.int .u64 0,.int .u64 0,.slice none 0 0] 141)).alloc (.cells #[.int .i64 0] 33)).alloc (.cells #[.string S] 206)) (w.heap.size+2) l:=by
 unfold ReadAt;rw[hS];exact Zr _ _ _ (by simp)
theorem J0(w:World)(S:ByteArray):(((w.alloc (.cells #[.int .i64 0,.int .i64 0,.int .i64 0,.int .u64 0,.int .u64 0,.int .u64 0,.int .u64 0,.slice none 0 0] 141)).alloc (.cells #[.int .i64 0] 33)).alloc (.cells #[.string S] 206)).heap[w.heap.size]?=some (.cells (Zh (setA Q4.none)) 141 (0,0))/\(((w.alloc (.cells #[.int .i64 0,.int .i64 0,.int .i64 0,.int .u64 0,.int .u64 0,.int .u64 0,.int .u64 0,.slice none 0 0] 141)).alloc (.cells #[.int .i64 0] 33)).alloc (.cells #[.string S] 206)).heap[w.heap.size+1]?=some (.cells #[.int .i64 0] 33 (0,0))/\(((w.alloc (.cells #[.int .i64 0,.int .i64 0,.int .i64 0,.int .u64 0,.int .u64 0,.int .u64 0,.int .u64 0,.slice none 0 0] 141)).alloc (.cells #[.int .i64 0] 33)).alloc (.cells #[.string S] 206)).heap.size=w.heap.size+3:=
 ⟨Ze (Ze (Zd _ _) _) _,Ze (Zr _ _ _ (by simp)) _,by simp⟩
theorem VX(w:World)(S:ByteArray):Below w.heap.size w (((w.alloc (.cells #[.int .i64 0,.int .i64 0,.int .i64 0,.int .u64 0,.int .u64 0,.int .u64 0,.int .u64 0,.slice none 0 0] 141)).alloc (.cells #[.int .i64 0] 33)).alloc (.cells #[.string S] 206)):=(((Below.refl w.heap.size w).alloc (Nat.le_refl _) _).alloc (by simp) _).alloc (by simp;omega) _
theorem ZbA(w:World)(S:ByteArray)(l:List UInt8)(hS:(⟨l.toArray⟩:ByteArray)=S)(hl:l.length<=128)(hn:altR (3*l.length+3) [] [] l=none) :
 Calls Tryz.prog 150 #[.string S] w λe w'=>Jt w l e w':=by
 have e0:Yr l=.inr 50:=by rw[Uk hl,hn]
 have L2:∀ (fn:Fn) (first cap:Array Value) (w:World),(Instr.makeFunc fn first cap).run Tryz.prog w=.ok (.func fn first cap) w:=λ_ _ _ _=>rfl
 have hr:=VW w l S hS;have d0:=BM (3*l.length+3) _ (w.heap.size+2) l hr hl (by omega);rw[hn]at d0;have m0:=Hd (d0.mono λe w2 hR=>Y4 hR);clear d0 hr hn;have M1:S.size=l.length:=by rw[<-hS];simp[ByteArray.size]
 have hi:¬ (128:Int)<l.length:=by omega
 clear hS
 go_enter_defers Tryz.func150,Tryz.ntmps150
 go_wp2_with (go_at_call 173;refine m0.out.mono ?_;rintro e w1 ⟨rfl,o1⟩)
 obtain⟨hE0,hB0,hw0⟩:=J0 w S;have m2:=(o1.block w.heap.size (by omega) (by omega)).trans hE0;have j1:=(o1.block (w.heap.size+1) (by omega) (by omega)).trans hB0;have A1:=o1.size;have H1:Below w.heap.size w w1:=(VX w S).trans (o1.below (by omega) (by intro j hj;omega));refine leaves_cons (f:=172) (args:=#[.pointer (some ⟨w.heap.size+1,0,none⟩)]) (by simp) (by simp[go_sem]) ?_;refine(Vj ⟨w.heap.size+1,0,none⟩ 0 w1 (by show w.heap.size+1<_;omega) (Za j1 0) (Zc j1 0)).mono ?_;rintro e u' w2 ⟨rfl,rfl,rfl⟩
 have J2:((w1.alloc (.cells #[] 202)).setCell ⟨w.heap.size+1,0,none⟩ (.int .i64 50)).heap[w.heap.size]?=some (.cells (Zh (setA Q4.none)) 141 (0,0)):=
  (Below.heap_setCell _ _ _ _ (by show w.heap.size≠w.heap.size+1;omega)).trans (Ze m2 _)
 have q2:=Za (Zf (Ze j1 (.cells #[] 202)) 0 (.int .i64 50)) 0;exact⟨_,Yi rfl _ _ _ w.heap.size (w.heap.size+1) 141 (Zh (setA Q4.none)) (0,0) _ (.int .i64 50) rfl J2 Tryz.underlying141 (Zj _) rfl (Jp _ _ _ q2),(H1.alloc H1.size _).setCell (by show w.heap.size<=w.heap.size+1;omega) _,.inr ⟨50,e0,rfl⟩⟩
theorem Zbz(w:World)(S:ByteArray)(l:List UInt8)(hS:(⟨l.toArray⟩:ByteArray)=S)(hl:l.length<=128)(x:Rx)(c:UInt8)(r:List UInt8)(hn:altR (3*l.length+3) [] [] l=some (x,c::r)) :
 Calls Tryz.prog 150 #[.string S] w λe w'=>Jt w l e w':=by
 have e0:Yr l=.inr 50:=by rw[Uk hl,hn];rfl
 have L2:∀ (fn:Fn) (first cap:Array Value) (w:World),(Instr.makeFunc fn first cap).run Tryz.prog w=.ok (.func fn first cap) w:=λ_ _ _ _=>rfl
 have hr:=VW w l S hS;have d0:=BM (3*l.length+3) _ (w.heap.size+2) l hr hl (by omega);rw[hn]at d0;have M1:S.size=l.length:=by rw[<-hS];simp[ByteArray.size]
 have hi:¬ (128:Int)<l.length:=by omega
 clear hS;have m0:=Hd (d0.mono λe w2 hR=>DT (YC hR));clear d0 hr hn
 obtain⟨T,HT⟩:∃ T:ByteArray,Hid ((⟨(c::r).toArray⟩:ByteArray)=T):=⟨_,Hd rfl⟩
 obtain⟨hne,hem,-, -, -⟩:=full c r HT.out
 go_enter_defers Tryz.func150,Tryz.ntmps150
 go_wp2_with (first
  |(go_at_call 173;refine m0.out.mono ?_;rintro e w0 ⟨k,mn,mx,s0,s1,s2,s3,a,cap,l',hX,rfl,h0,o0,hXin,hXb⟩;have o1:=o0.alloc (.cells #[.int .i64 k,.int .i64 mn,.int .i64 mx,.int .u64 s0,.int .u64 s1,.int .u64 s2,.int .u64 s3,.slice a l'.length cap] 141);have h1:ReadAt (w0.alloc (.cells #[.int .i64 k,.int .i64 mn,.int .i64 mx,.int .u64 s0,.int .u64 s1,.int .u64 s2,.int .u64 s3,.slice a l'.length cap] 141)) (w.heap.size+2) (c::r):=Ze h0 _;have C2:=h1;unfold ReadAt at C2;rw[HT.out]at C2;have b3:=ZM C2)
  |(go_at_call 174;refine(XW rfl _).mono ?_;rintro e wm ⟨rfl,H0⟩;have H0:=H0.symm;subst H0))
 obtain⟨w1,hw1⟩:∃ w1,w0.alloc (.cells #[.int .i64 k,.int .i64 mn,.int .i64 mx,.int .u64 s0,.int .u64 s1,.int .u64 s2,.int .u64 s3,.slice a l'.length cap] 141)=w1:=⟨_,rfl⟩
 rw[hw1]at o1 ⊢;obtain⟨hE0,hB0,hw0⟩:=J0 w S;have m2:=(o1.block w.heap.size (by omega) (by omega)).trans hE0;have j1:=(o1.block (w.heap.size+1) (by omega) (by omega)).trans hB0;have A1:=o1.size;have H1:Below w.heap.size w w1:=(VX w S).trans (o1.below (by omega) (by intro j hj;omega));refine leaves_cons (f:=172) (args:=#[.pointer (some ⟨w.heap.size+1,0,none⟩)]) (by simp) (by simp[go_sem]) ?_;refine(Vj ⟨w.heap.size+1,0,none⟩ 0 w1 (by show w.heap.size+1<_;omega) (Za j1 0) (Zc j1 0)).mono ?_;rintro e u' w2 ⟨rfl,rfl,rfl⟩
 have J2:((w1.alloc (.cells #[] 202)).setCell ⟨w.heap.size+1,0,none⟩ (.int .i64 50)).heap[w.heap.size]?=some (.cells (Zh (setA Q4.none)) 141 (0,0)):=
  (Below.heap_setCell _ _ _ _ (by show w.heap.size≠w.heap.size+1;omega)).trans (Ze m2 _)
 have q2:=Za (Zf (Ze j1 (.cells #[] 202)) 0 (.int .i64 50)) 0;exact⟨_,Yi rfl _ _ _ w.heap.size (w.heap.size+1) 141 (Zh (setA Q4.none)) (0,0) _ (.int .i64 50) rfl J2 Tryz.underlying141 (Zj _) rfl (Jp _ _ _ q2),(H1.alloc H1.size _).setCell (by show w.heap.size<=w.heap.size+1;omega) _,.inr ⟨50,e0,rfl⟩⟩
theorem ZbC(w:World)(S:ByteArray)(l:List UInt8)(hS:(⟨l.toArray⟩:ByteArray)=S)(hl:l.length<=128)(x:Rx)(hn:altR (3*l.length+3) [] [] l=some (x,[])) :
 Calls Tryz.prog 150 #[.string S] w λe w'=>Jt w l e w':=by
 have e0:Yr l=if 256<x.sizeI then .inr 51 else .inl x:=by rw[Uk hl,hn];rfl
 have a1:=(Zdd (3*l.length+3)).1 [] [] l x [] (λy hy=>by cases hy) (λy hy=>by cases hy) hn;have W2:=Hd a1;clear a1;have L2:∀ (fn:Fn) (first cap:Array Value) (w:World),(Instr.makeFunc fn first cap).run Tryz.prog w=.ok (.func fn first cap) w:=λ_ _ _ _=>rfl
 have hr:=VW w l S hS;have d0:=BM (3*l.length+3) _ (w.heap.size+2) l hr hl (by omega);rw[hn]at d0;have M1:S.size=l.length:=by rw[<-hS];simp[ByteArray.size]
 have hi:¬ (128:Int)<l.length:=by omega
 clear hS;have m0:=Hd (d0.mono λe w2 hR=>DT (YC hR));clear d0 hr hn
 obtain⟨n,hnn⟩:∃ n,x.sizeI=n:=⟨_,rfl⟩
 rw[hnn]at e0;have d3:=Hd hnn;clear hnn;obtain⟨hE0,hB0,hw0⟩:=J0 w S;have M2:=Hd hE0;have S2:=Hd hB0;clear hE0 hB0;have I1:=VX w S;have F1:=Hd I1;clear I1;by_cases hbig:256<n
 ·rw[if_pos hbig]at e0;have k2:=Hd e0;clear e0
  go_enter_defers Tryz.func150,Tryz.ntmps150
  go_wp2_with (first
   |(go_at_call 173;refine m0.out.mono ?_;rintro e w0 ⟨k,mn,mx,s0,s1,s2,s3,a,cap,l',hX,rfl,h0,o0,hXin,hXb⟩;have f3:=o0.size;have h1:ReadAt (w0.alloc (.cells #[.int .i64 k,.int .i64 mn,.int .i64 mx,.int .u64 s0,.int .u64 s1,.int .u64 s2,.int .u64 s3,.slice a l'.length cap] 141)) (w.heap.size+2) []:=Ze h0 _;have b3:(w0.alloc (.cells #[.int .i64 k,.int .i64 mn,.int .i64 mx,.int .u64 s0,.int .u64 s1,.int .u64 s2,.int .u64 s3,.slice a l'.length cap] 141)).cell? ⟨w.heap.size+2,0,none⟩=some (.string ⟨#[]⟩):=ZM h1;have y2:=Hd (Zd w0 (.cells #[.int .i64 k,.int .i64 mn,.int .i64 mx,.int .u64 s0,.int .u64 s1,.int .u64 s2,.int .u64 s3,.slice a l'.length cap] 141));have E2:=Hd (Ze ((o0.block w.heap.size (by omega) (by omega)).trans M2.out) (.cells #[.int .i64 k,.int .i64 mn,.int .i64 mx,.int .u64 s0,.int .u64 s1,.int .u64 s2,.int .u64 s3,.slice a l'.length cap] 141));have A2:=Hd (Ze ((o0.block (w.heap.size+1) (by omega) (by omega)).trans S2.out) (.cells #[.int .i64 k,.int .i64 mn,.int .i64 mx,.int .u64 s0,.int .u64 s1,.int .u64 s2,.int .u64 s3,.slice a l'.length cap] 141));have z0:RxA.In (w0.alloc (.cells #[.int .i64 k,.int .i64 mn,.int .i64 mx,.int .u64 s0,.int .u64 s1,.int .u64 s2,.int .u64 s3,.slice a l'.length cap] 141)) w0.heap.size (RxA.node k mn mx s0 s1 s2 s3 a cap l'):=hXin.below (Below.alloc (Below.refl w0.heap.size w0) (Nat.le_refl _) (.cells #[.int .i64 k,.int .i64 mn,.int .i64 mx,.int .u64 s0,.int .u64 s1,.int .u64 s2,.int .u64 s3,.slice a l'.length cap] 141)) (Nat.le_refl _);have e1:=Hd z0;have c3:=Hd hXin;have Z2:=Hd hXb;have a1:tame (RxA.bare (RxA.node k mn mx s0 s1 s2 s3 a cap l')):=hX▸W2.out;have i1:=Hd a1;have v0:(RxA.bare (RxA.node k mn mx s0 s1 s2 s3 a cap l')).sizeI=n:=hX▸d3.out;have k1:=Hd v0;have Z1:=Hd hX;have C0:=Hd (F1.out.trans (o0.below (B:=w.heap.size) (by omega) (by intro j hj;omega)));have i3:w.heap.size+3<=w0.heap.size:=(by omega);clear z0 hXin hXb a1 v0 hX)
   |(go_at_call 174;refine(Xs rfl _).mono ?_;rintro e wm ⟨rfl,H0⟩;have H0:=H0.symm;subst H0)
   |(go_at_call 175;refine(WF (RxA.node k mn mx s0 s1 s2 s3 a cap l') (w0.alloc (.cells #[.int .i64 k,.int .i64 mn,.int .i64 mx,.int .u64 s0,.int .u64 s1,.int .u64 s2,.int .u64 s3,.slice a l'.length cap] 141)) w0.heap.size (by simp) e1.out i1.out).mono ?_;rintro e w5 ⟨rfl,hb5⟩;rw[k1.out];have P2:=Hd ((hb5.block w0.heap.size (by simp)).trans y2.out);have q1:=Hd ((hb5.block w.heap.size (by simp;omega)).trans E2.out);have M0:=(hb5.block (w.heap.size+1) (by simp;omega)).trans A2.out;have c2:∀ cs,(w5.setRow w.heap.size cs).cell? ⟨w.heap.size+1,0,none⟩=some (.int .i64 0):=λcs=>Za ((setRow_other w5 w.heap.size (w.heap.size+1) cs (by omega)).trans M0) 0;have b2:∀ cs,(w5.setRow w.heap.size cs).frozen? ⟨w.heap.size+1,0,none⟩=false:=λcs=>Zc ((setRow_other w5 w.heap.size (w.heap.size+1) cs (by omega)).trans M0) 0;have o2:=Hd M0;have y0:=Hd ((C0.out.alloc (by have:=C0.out.size;omega) (.cells #[.int .i64 k,.int .i64 mn,.int .i64 mx,.int .u64 s0,.int .u64 s1,.int .u64 s2,.int .u64 s3,.slice a l'.length cap] 141)).trans (hb5.mono (by simp;omega)));clear M0)
   |(refine wpList_load_row rfl 141 (.tmp 2) ?_ w.heap.size ?_ 141 #[.int .i64 0,.int .i64 0,.int .i64 0,.int .u64 0,.int .u64 0,.int .u64 0,.int .u64 0,.slice none 0 0] (0,0) _ ?_ Tryz.underlying141 rfl ZH ?_;(with_reducible rfl);rfl;exact q1.out)
   |(refine wpList_store_row rfl 141 (.tmp 2) (.tmp 25) ?_ w.heap.size #[.int .i64 0,.int .i64 0,.int .i64 0,.int .u64 0,.int .u64 0,.int .u64 0,.int .u64 0,.slice none 0 0] ?_ ?_ 141 (Zh (setA Q4.none)) ?_ ZH rfl (Zm (setA Q4.none)) ?_;(with_reducible rfl);rfl;rfl;exact q1.out))
  refine leaves_cons (f:=172) (args:=#[.pointer (some ⟨w.heap.size+1,0,none⟩)]) (by simp) (by simp[go_sem]) ?_;refine(Qk ⟨w.heap.size+1,0,none⟩ _).mono ?_;rintro e u' w6 ⟨rfl,rfl,rfl⟩;have e2:=Za (Ze (Zf ((setRow_other w5 w.heap.size (w.heap.size+1) #[.int .i64 0,.int .i64 0,.int .i64 0,.int .u64 0,.int .u64 0,.int .u64 0,.int .u64 0,.slice none 0 0] (by omega)).trans o2.out) 0 (.int .i64 51)) (.cells #[] 202)) 0;have p2:=Ze ((Below.heap_setCell (w5.setRow w.heap.size #[.int .i64 0,.int .i64 0,.int .i64 0,.int .u64 0,.int .u64 0,.int .u64 0,.int .u64 0,.slice none 0 0]) ⟨w.heap.size+1,0,none⟩ (.int .i64 51) w.heap.size (by show w.heap.size≠w.heap.size+1;omega)).trans (setRow_heap _ _ _ _ _ _ q1.out)) (.cells #[] 202);refine⟨_,Yi rfl _ _ _ w.heap.size (w.heap.size+1) 141 (Zh (setA Q4.none)) (0,0) _ (.int .i64 51) rfl p2 Tryz.underlying141 (Zj _) rfl (Jp _ _ _ e2),?_,.inr ⟨51,k2.out,rfl⟩⟩;exact((Xp y0.out (Nat.le_refl _) _).setCell (by show w.heap.size<=w.heap.size+1;omega) _).alloc (by have:=y0.out.size;simp;omega) _
 ·rw[if_neg hbig]at e0;have k2:=Hd e0;clear e0
  go_enter_defers Tryz.func150,Tryz.ntmps150
  go_wp2_with (first
   |(go_at_call 173;refine m0.out.mono ?_;rintro e w0 ⟨k,mn,mx,s0,s1,s2,s3,a,cap,l',hX,rfl,h0,o0,hXin,hXb⟩;have f3:=o0.size;have h1:ReadAt (w0.alloc (.cells #[.int .i64 k,.int .i64 mn,.int .i64 mx,.int .u64 s0,.int .u64 s1,.int .u64 s2,.int .u64 s3,.slice a l'.length cap] 141)) (w.heap.size+2) []:=Ze h0 _;have b3:(w0.alloc (.cells #[.int .i64 k,.int .i64 mn,.int .i64 mx,.int .u64 s0,.int .u64 s1,.int .u64 s2,.int .u64 s3,.slice a l'.length cap] 141)).cell? ⟨w.heap.size+2,0,none⟩=some (.string ⟨#[]⟩):=ZM h1;have y2:=Hd (Zd w0 (.cells #[.int .i64 k,.int .i64 mn,.int .i64 mx,.int .u64 s0,.int .u64 s1,.int .u64 s2,.int .u64 s3,.slice a l'.length cap] 141));have E2:=Hd (Ze ((o0.block w.heap.size (by omega) (by omega)).trans M2.out) (.cells #[.int .i64 k,.int .i64 mn,.int .i64 mx,.int .u64 s0,.int .u64 s1,.int .u64 s2,.int .u64 s3,.slice a l'.length cap] 141));have A2:=Hd (Ze ((o0.block (w.heap.size+1) (by omega) (by omega)).trans S2.out) (.cells #[.int .i64 k,.int .i64 mn,.int .i64 mx,.int .u64 s0,.int .u64 s1,.int .u64 s2,.int .u64 s3,.slice a l'.length cap] 141));have z0:RxA.In (w0.alloc (.cells #[.int .i64 k,.int .i64 mn,.int .i64 mx,.int .u64 s0,.int .u64 s1,.int .u64 s2,.int .u64 s3,.slice a l'.length cap] 141)) w0.heap.size (RxA.node k mn mx s0 s1 s2 s3 a cap l'):=hXin.below (Below.alloc (Below.refl w0.heap.size w0) (Nat.le_refl _) (.cells #[.int .i64 k,.int .i64 mn,.int .i64 mx,.int .u64 s0,.int .u64 s1,.int .u64 s2,.int .u64 s3,.slice a l'.length cap] 141)) (Nat.le_refl _);have e1:=Hd z0;have c3:=Hd hXin;have Z2:=Hd hXb;have a1:tame (RxA.bare (RxA.node k mn mx s0 s1 s2 s3 a cap l')):=hX▸W2.out;have i1:=Hd a1;have v0:(RxA.bare (RxA.node k mn mx s0 s1 s2 s3 a cap l')).sizeI=n:=hX▸d3.out;have k1:=Hd v0;have Z1:=Hd hX;have C0:=Hd (F1.out.trans (o0.below (B:=w.heap.size) (by omega) (by intro j hj;omega)));have i3:w.heap.size+3<=w0.heap.size:=(by omega);clear z0 hXin hXb a1 v0 hX)
   |(go_at_call 174;refine(Xs rfl _).mono ?_;rintro e wm ⟨rfl,H0⟩;have H0:=H0.symm;subst H0)
   |(go_at_call 175;refine(WF (RxA.node k mn mx s0 s1 s2 s3 a cap l') (w0.alloc (.cells #[.int .i64 k,.int .i64 mn,.int .i64 mx,.int .u64 s0,.int .u64 s1,.int .u64 s2,.int .u64 s3,.slice a l'.length cap] 141)) w0.heap.size (by simp) e1.out i1.out).mono ?_;rintro e w5 ⟨rfl,hb5⟩;rw[k1.out];have P2:=Hd ((hb5.block w0.heap.size (by simp)).trans y2.out);have q1:=Hd ((hb5.block w.heap.size (by simp;omega)).trans E2.out);have M0:=(hb5.block (w.heap.size+1) (by simp;omega)).trans A2.out;have c2:∀ cs,(w5.setRow w.heap.size cs).cell? ⟨w.heap.size+1,0,none⟩=some (.int .i64 0):=λcs=>Za ((setRow_other w5 w.heap.size (w.heap.size+1) cs (by omega)).trans M0) 0;have b2:∀ cs,(w5.setRow w.heap.size cs).frozen? ⟨w.heap.size+1,0,none⟩=false:=λcs=>Zc ((setRow_other w5 w.heap.size (w.heap.size+1) cs (by omega)).trans M0) 0;have o2:=Hd M0;have y0:=Hd ((C0.out.alloc (by have:=C0.out.size;omega) (.cells #[.int .i64 k,.int .i64 mn,.int .i64 mx,.int .u64 s0,.int .u64 s1,.int .u64 s2,.int .u64 s3,.slice a l'.length cap] 141)).trans (hb5.mono (by simp;omega)));clear M0)
   |(refine wpList_load_row rfl 141 (.tmp 5) ?_ w0.heap.size ?_ 141 #[.int .i64 k,.int .i64 mn,.int .i64 mx,.int .u64 s0,.int .u64 s1,.int .u64 s2,.int .u64 s3,.slice a l'.length cap] (0,0) _ ?_ Tryz.underlying141 rfl ZH ?_;(with_reducible rfl);rfl;exact P2.out)
   |(refine wpList_store_row rfl 141 (.tmp 2) (.tmp 26) ?_ w.heap.size #[.int .i64 k,.int .i64 mn,.int .i64 mx,.int .u64 s0,.int .u64 s1,.int .u64 s2,.int .u64 s3,.slice a l'.length cap] ?_ ?_ 141 (Zh (setA Q4.none)) ?_ ZH rfl (Zm (RxA.node k mn mx s0 s1 s2 s3 a cap l')) ?_;(with_reducible rfl);rfl;rfl;exact q1.out))
  refine leaves_cons (f:=172) (args:=#[.pointer (some ⟨w.heap.size+1,0,none⟩)]) (by simp) (by simp[go_sem]) ?_;refine(Qk ⟨w.heap.size+1,0,none⟩ _).mono ?_;rintro e u' w6 ⟨rfl,rfl,rfl⟩;have e2:=Za (Ze (Zf ((setRow_other w5 w.heap.size (w.heap.size+1) #[.int .i64 k,.int .i64 mn,.int .i64 mx,.int .u64 s0,.int .u64 s1,.int .u64 s2,.int .u64 s3,.slice a l'.length cap] (by omega)).trans o2.out) 0 (.int .i64 0)) (.cells #[] 202)) 0;have p2:=Ze ((Below.heap_setCell (w5.setRow w.heap.size #[.int .i64 k,.int .i64 mn,.int .i64 mx,.int .u64 s0,.int .u64 s1,.int .u64 s2,.int .u64 s3,.slice a l'.length cap]) ⟨w.heap.size+1,0,none⟩ (.int .i64 0) w.heap.size (by show w.heap.size≠w.heap.size+1;omega)).trans (setRow_heap _ _ _ _ _ _ q1.out)) (.cells #[] 202)
  have z2:Below w.heap.size w (((w5.setRow w.heap.size #[.int .i64 k,.int .i64 mn,.int .i64 mx,.int .u64 s0,.int .u64 s1,.int .u64 s2,.int .u64 s3,.slice a l'.length cap]).setCell ⟨w.heap.size+1,0,none⟩ (.int .i64 0)).alloc (.cells #[] 202)):=
   ((Xp y0.out (Nat.le_refl _) _).setCell (by show w.heap.size<=w.heap.size+1;omega) _).alloc (by have:=y0.out.size;simp;omega) _
  refine⟨_,Yi rfl _ _ _ w.heap.size (w.heap.size+1) 141 #[.int .i64 k,.int .i64 mn,.int .i64 mx,.int .u64 s0,.int .u64 s1,.int .u64 s2,.int .u64 s3,.slice a l'.length cap] (0,0) _ (.int .i64 0) rfl p2 Tryz.underlying141 ZH rfl (Jp _ _ _ e2),z2,.inl ⟨(RxA.node k mn mx s0 s1 s2 s3 a cap l'),by rw[<-Z1.out];exact k2.out,rfl,?_⟩⟩;refine c3.out.keep λb hb=>?_
  have j3:=Z2.out b hb;have l3:=hb5.size;simp only[World.size_alloc]at l3;refine⟨by simp;omega,λo=>World.cell?_of_block (w:=w0) ?_⟩;show(World.alloc _ _).heap[b]?=_;rw[Below.heap_alloc _ _ _ (by simp;omega),Below.heap_setCell _ _ _ _ (by show b≠w.heap.size+1;omega),setRow_other _ _ _ _ (by omega),hb5.block b (by simp;omega),Below.heap_alloc _ _ _ j3.2]
theorem Zdy(w:World)(S:ByteArray):Calls Tryz.prog 150 #[.string S] w λe w'=>Jt w S.data.toList e w':=by
 have hS:(⟨S.data.toList.toArray⟩:ByteArray)=S:=by simp
 have L0:S.data.toList.length=S.size:=by rw[Array.length_toList];rfl
 by_cases hl:128<S.size
 ·refine(ZbB w S hl).mono ?_;rintro e w' ⟨he,hb⟩;exact⟨hb,.inr ⟨51,by unfold Yr;rw[if_pos (by omega)],he⟩⟩
 ·cases hn:altR (3*S.data.toList.length+3) [] [] S.data.toList with
  |none=>exact ZbA w S _ hS (by omega) hn
  |some p=>
   obtain⟨x,r⟩:=p
   cases r with
   |nil=>exact ZbC w S _ hS (by omega) x hn
   |cons c r=>exact Zbz w S _ hS (by omega) x c r hn
end Go.Proofs.YtbchkjfnakabkaaGreatDoor
namespace Go.Proofs.YtbchkjfnakabkaaGreatDoor
open Go.RowKit PX
theorem G1{l:List UInt8}{n:Int}(h:Yr l=.inr n):n=50\/n=51:=by
 unfold Yr at h;split at h
 ·right;exact(Sum.inr.inj h).symm
 ·split at h
  ·left;exact(Sum.inr.inj h).symm
  ·split at h
   ·split at h
    ·right;exact(Sum.inr.inj h).symm
    ·cases h
   ·left;exact(Sum.inr.inj h).symm
end Go.Proofs.YtbchkjfnakabkaaGreatDoor
namespace Go.Proofs.YtbchkjfnakabkaaGreatDoor
open Go.RowKit PX
theorem PairsAt.below{w w':World}{v:Value}{l:List (Nat × Nat)}(h:PairsAt w v l)(hb:Below w.heap.size w w'):PairsAt w' v l:=by
 obtain⟨a,cap,rfl,h⟩:=h;refine⟨a,cap,rfl,?_⟩;rcases h with h|⟨b,rfl,h⟩
 ·exact .inl h
 ·refine .inr ⟨b,rfl,λi q hq=>?_⟩;obtain⟨h1,h2⟩:=h i q hq;have m1:=World.block_lt_of_cell? _ _ h1;exact⟨(hb.cell (p:=⟨b,i*2,none⟩) m1).trans h1,(hb.cell (p:=⟨b,i*2+1,none⟩) m1).trans h2⟩
