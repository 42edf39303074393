import Derived.Test.YtbchkjfnakabkaaGreatDoorQa
import Derived.Test.YtbchkjfnakabkaaGreatDoorR23
set_option linter.unusedSimpArgs false
set_option linter.unusedVariables false
set_option maxHeartbeats 4000000
set_option maxRecDepth 100000
namespace Go.Proofs.YtbchkjfnakabkaaGreatDoor
open Go.RowKit PX
theorem ZdD{but:List UInt8}{s:List UInt8}:one but (92::s)=VQ s:=by
 unfold VQ;simp only[one,if_true]
theorem QF{but:List UInt8}{c:UInt8}{s:List UInt8}(h:c≠92)(hb:c∈but):one but (c::s)=none:=by simp[one,h,hb]
theorem WJ{but:List UInt8}{c:UInt8}{s:List UInt8}(h:c≠92)(hb:c∉but):one but (c::s)=some (c.toNat,s):=by simp[one,h,hb]
theorem Qz(w:World)(rb:Nat)(S:ByteArray)(i:Nat)(but:ByteArray)(h:RefAt w rb S i false)(hs:S.size<=1000)(hi:i<=S.size)(hbs:but.size<=1000) :
 Calls Tryz.prog 180 #[.pointer (some ⟨rb,0,none⟩),.string but] w λe w'=>Says rb S i w (one but.data.toList (rest S i)) (λn=>.int .i64 (n:Nat)) (λv=>v=.int .i64 0) e w':=by
 cases hr:rest S i with
 |nil=>
  have R2:S.size<=i:=by have:=ZR S i;rw[hr]at this;simp at this;omega
  have b1:=Hd (ZgZ w rb S i false 92 h R2);obtain⟨h0,h1,h2,h3,h4⟩:=h.cells;have hd:decide (S.size<=i)=true:=by simp;omega
  have H:=Hd h;have HI:=Hd hi;clear h hr R2 hi hs
  go_enter Tryz.func180,Tryz.ntmps180
  go_wp2_with (go_at_call 132;(with_reducible refine b1.out.mono ?_);rintro e w1 ⟨rfl,n,rfl⟩)
  go_quiet (fail)
  go_wp2_with fail
  go_ret
  exact⟨((Only.refl (λk=>k=rb) w).drewN _).setCell (.inl rfl) _,_,i,rfl,Nat.le_refl _,HI.out,.inr ⟨rfl,rfl,(H.out.drewN _).wrong⟩⟩
 |cons c r=>
  have P3:=(ZL hr).1;by_cases hc:c=92
  ·subst hc;have b1:=Hd (ZgY w rb S i false 92 92 r h hr hs rfl);have s5:=Hd (λw1 (h1:RefAt w1 rb S (i+1) false)=>Zfd w1 rb S (i+1) h1 hs (by omega));have HR:=Hd hr;clear h hr hi hs P3
   go_enter Tryz.func180,Tryz.ntmps180
   go_wp2_with (first
    |(go_at_call 132;(with_reducible refine b1.out.mono ?_);rintro e w1 ⟨rfl,h1,o1⟩)
    |(go_at_call 189;refine(s5.out _ h1).mono ?_;rintro e w2 ⟨o2,v,j,rfl,hij,hj,hor⟩;have J2:=Hd hor;clear hor)
    |fail)
   go_ret
   refine⟨o1.then o2,v,j,rfl,by omega,hj,?_⟩;rw[ZdD,<-(ZL HR.out).2];exact J2.out
  ·have n4:((c.toNat:Int))≠92:=λhe=>hc (UInt8.toNat_inj.1 (by show c.toNat=92;omega))
   have b1:=Hd (Zi3 w rb S i false 92 c r h hr n4);obtain⟨h0,h1,h2,h3,h4⟩:=h.cells;have hd:decide (S.size<=i)=false:=by simp;omega
   have hx:=Xe hr;have hi2:i<=1000:=by omega
   have H:=Hd h;have HR:=Hd hr;have j5:=Hd P3;have HI:=Hd hi;have O0:=Hd (λw=>Zdc but c w hbs)
   cases hb:inS but c with
   |true=>
    have p3:c∈but.data.toList:=by unfold inS at hb;exact of_decide_eq_true hb
    have r0:=QF (s:=r) hc p3;rw[hb]at O0;have j0:=Hd r0;clear h hr hi hs P3 hc n4 hb p3 r0
    go_enter Tryz.func180,Tryz.ntmps180
    go_wp2_with (go_at_call 132;(with_reducible refine b1.out.mono ?_);rintro e w1 ⟨rfl,n,rfl⟩)
    go_quiet ((go_at_call 190;exact WC O0.out))
    go_wp2_with fail
    go_ret
    exact⟨((Only.refl (λk=>k=rb) w).drewN _).setCell (.inl rfl) _,_,i,rfl,Nat.le_refl _,HI.out,.inr ⟨j0.out,rfl,(H.out.drewN _).wrong⟩⟩
   |false=>
    have p3:c∉but.data.toList:=by unfold inS at hb;exact of_decide_eq_false hb
    have r0:=WJ (s:=r) hc p3;rw[hb]at O0;have j0:=Hd r0;have hd256:(c.toNat:Int)<256:=by have:=UInt8.toNat_lt c;omega
    clear h hr hi hs P3 hc n4 hb p3 r0
    go_enter Tryz.func180,Tryz.ntmps180
    go_wp2_with (go_at_call 132;(with_reducible refine b1.out.mono ?_);rintro e w1 ⟨rfl,n,rfl⟩)
    go_quiet ((go_at_call 190;exact WC O0.out))
    go_wp2_with fail
    go_quiet (fail)
    go_wp2_with fail
    go_ret
    refine⟨(((Only.refl (λk=>k=rb) w).drewN _).setCell (p:=⟨rb,1,none⟩) (.inl rfl) _).drewN _,_,i+1,rfl,by omega,j5.out,.inl ⟨c.toNat,?_,rfl,((H.out.drewN _).to (i+1)).drewN _⟩⟩;rw[j0.out,(ZL HR.out).2]
theorem BT(q:Q4)(hq:q.Ok)(n:Nat)(hn:n<256)(w:World) :
 Calls Tryz.prog 179 #[.agg (Q4.cells q),.int .i64 n] w λe w'=>e=.returned (.agg (Q4.cells (q.with n)))/\Below w.heap.size w w':=by
 obtain⟨k,hk⟩:∃ k,n%64=k:=⟨_,rfl⟩
 have k2:k<64:=by omega
 have hm:(n:Int)%64=k:=by omega
 have hnn:n<=255:=by omega
 have f5:n<64\/(64<=n/\n<128)\/(128<=n/\n<192)\/192<=n:=by omega
 unfold Q4.cells;rcases f5 with h4|h4|h4|h4
 ·have hd:(n:Int)/64=0:=by omega
  have y4:=Jx q.a k hq.1 k2
  have HW:Hid (q.with n={ q with a:=YD q.a k }):=by
   apply Hd;simp only[Q4.with];rw[if_pos (by omega)];rw[show n=k by omega]
  clear hk hn h4
  go_enter Tryz.func179,Tryz.ntmps179
  go_wp2_with fail
  go_region
  go_wp2_with fail
  refine bodyPost_ret (results_cell_row rfl _ _ (w.heap.size+1) 138 #[.int .u64 (YD q.a k),.int .u64 (q.b),.int .u64 (q.c),.int .u64 (q.d)] (0,0) _ rfl (Zr _ _ _ (by simp)) Tryz.underlying138 rfl Gi) rfl ?_;refine⟨?_,(((Below.refl _ w).alloc (Nat.le_refl _) _).alloc (by simp) _).drew⟩;rw[HW.out]
 ·have hd:(n:Int)/64=1:=by omega
  have y4:=Jx q.b k hq.2.1 k2
  have HW:Hid (q.with n={ q with b:=YD q.b k }):=by
   apply Hd;simp only[Q4.with];rw[if_neg (by omega),if_pos (by omega)];rw[show n - 64=k by omega]
  clear hk hn h4
  go_enter Tryz.func179,Tryz.ntmps179
  go_wp2_with fail
  go_region
  go_wp2_with fail
  refine bodyPost_ret (results_cell_row rfl _ _ (w.heap.size+1) 138 #[.int .u64 (q.a),.int .u64 (YD q.b k),.int .u64 (q.c),.int .u64 (q.d)] (0,0) _ rfl (Zr _ _ _ (by simp)) Tryz.underlying138 rfl Gi) rfl ?_;refine⟨?_,(((Below.refl _ w).alloc (Nat.le_refl _) _).alloc (by simp) _).drew⟩;rw[HW.out]
 ·have hd:(n:Int)/64=2:=by omega
  have y4:=Jx q.c k hq.2.2.1 k2
  have HW:Hid (q.with n={ q with c:=YD q.c k }):=by
   apply Hd;simp only[Q4.with];rw[if_neg (by omega),if_neg (by omega),if_pos (by omega)];rw[show n - 128=k by omega]
  clear hk hn h4
  go_enter Tryz.func179,Tryz.ntmps179
  go_wp2_with fail
  go_region
  go_wp2_with fail
  refine bodyPost_ret (results_cell_row rfl _ _ (w.heap.size+1) 138 #[.int .u64 (q.a),.int .u64 (q.b),.int .u64 (YD q.c k),.int .u64 (q.d)] (0,0) _ rfl (Zr _ _ _ (by simp)) Tryz.underlying138 rfl Gi) rfl ?_;refine⟨?_,(((Below.refl _ w).alloc (Nat.le_refl _) _).alloc (by simp) _).drew⟩;rw[HW.out]
 ·have hd:(n:Int)/64=3:=by omega
  have y4:=Jx q.d k hq.2.2.2 k2
  have HW:Hid (q.with n={ q with d:=YD q.d k }):=by
   apply Hd;simp only[Q4.with];rw[if_neg (by omega),if_neg (by omega),if_neg (by omega)];rw[show n - 192=k by omega]
  clear hk hn h4
  go_enter Tryz.func179,Tryz.ntmps179
  go_wp2_with fail
  go_region
  go_wp2_with fail
  refine bodyPost_ret (results_cell_row rfl _ _ (w.heap.size+1) 138 #[.int .u64 (q.a),.int .u64 (q.b),.int .u64 (q.c),.int .u64 (YD q.d k)] (0,0) _ rfl (Zr _ _ _ (by simp)) Tryz.underlying138 rfl Gi) rfl ?_;refine⟨?_,(((Below.refl _ w).alloc (Nat.le_refl _) _).alloc (by simp) _).drew⟩;rw[HW.out]
end Go.Proofs.YtbchkjfnakabkaaGreatDoor
namespace Go.Proofs.YtbchkjfnakabkaaGreatDoor.PX
def NumTo(s:List UInt8)(k n:Nat):Prop:=
 (k=0/\n=0)\/(∃a t,s=a::t/\ZS a=true/\k=1/\n=a.toNat - 48)\/(∃a b r,s=a::b::r/\ZS a=true/\ZS b=true/\k=2/\n=10*(a.toNat - 48)+(b.toNat - 48))
theorem NumTo.bd{s:List UInt8}{k n:Nat}(h:NumTo s k n):k<=2/\n<=99/\(k<2->n<=9)/\(k=0->n=0):=by
 rcases h with⟨rfl,rfl⟩|⟨a,t,rfl,ha,rfl,rfl⟩|⟨a,b,r,rfl,ha,hb,rfl,rfl⟩
 ·omega
 ·rw[X2]at ha;omega
 ·rw[X2]at ha hb;omega
theorem NumTo.step{s:List UInt8}{k n:Nat}(h:NumTo s k n)(hk:k<2){d:UInt8}{r:List UInt8}(hd:s.drop k=d::r)(hg:48<=d.toNat/\d.toNat<=57):NumTo s (k+1) (10*n+(d.toNat - 48)):=by
 rcases h with⟨rfl,rfl⟩|⟨a,t,rfl,ha,rfl,rfl⟩|⟨a,b,r',rfl,ha,hb,rfl,rfl⟩
 ·right;left;exact⟨d,r,by simpa using hd,(X2 d).2 hg,rfl,by omega⟩
 ·right;right;rw[List.drop_succ_cons,List.drop_zero]at hd;subst hd;exact⟨a,d,r,rfl,ha,(X2 d).2 hg,rfl,rfl⟩
 ·omega
def ZaO(s:List UInt8)(k:Nat):Prop:=k=2\/s.drop k=[]\/∃ d r,s.drop k=d::r/\¬ (48<=d.toNat/\d.toNat<=57)
theorem NumTo.none{s:List UInt8}{k n:Nat}(h:NumTo s k n)(he:ZaO s k)(hb:k=0\/15<n\/(k=2/\n<10)):numX s=none:=by
 rcases h with⟨rfl,rfl⟩|⟨a,t,rfl,ha,rfl,rfl⟩|⟨a,b,r',rfl,ha,hb',rfl,rfl⟩
 ·rcases he with h|h|⟨d,r,h,hn⟩
  ·omega
  ·rw[List.drop_zero]at h;subst h;rfl
  ·rw[List.drop_zero]at h;subst h;rw[<-X2]at hn;simp[numX,hn]
 ·rw[X2]at ha;omega
 ·simp only[numX];rw[if_pos ha,if_pos hb',if_pos (by omega)]
theorem NumTo.some{s:List UInt8}{k n:Nat}(h:NumTo s k n)(he:ZaO s k)(h0:0<k)(h15:n<=15)(h2:k=2->10<=n):numX s=some (n,s.drop k):=by
 rcases h with⟨rfl,rfl⟩|⟨a,t,rfl,ha,rfl,rfl⟩|⟨a,b,r',rfl,ha,hb',rfl,rfl⟩
 ·omega
 ·simp only[numX];rw[if_pos ha];rcases he with h|h|⟨d,r,h,hn⟩
  ·omega
  ·rw[List.drop_succ_cons,List.drop_zero]at h ⊢;subst h;rfl
  ·rw[List.drop_succ_cons,List.drop_zero]at h ⊢;subst h;rw[<-X2]at hn;simp[hn]
 ·simp only[numX];rw[if_pos ha,if_pos hb',if_neg (by have:=h2 rfl;omega)];rfl
end Go.Proofs.YtbchkjfnakabkaaGreatDoor.PX
namespace Go.Proofs.YtbchkjfnakabkaaGreatDoor
open Go.RowKit PX
def Zbp(rb:Nat)(w:World):Nat:=match w.cell? ⟨rb,1,none⟩ with|some (.int _ j)=>j.toNat|_=>0
theorem YM{w:World}{rb:Nat}{S:ByteArray}{i:Nat}{b:Bool}(h:RefAt w rb S i b):Zbp rb w=i:=by
 unfold Zbp;rw[h.cells.2.1];simp
def ZeZ(rb:Nat)(S:ByteArray)(i0:Nat)(b:Bool)(w:World)(e:Ending)(w':World):Prop:=
 Only (λk=>k=rb) w w'/\∃ n i:Nat,e=.returned (.int .i64 n)/\n<=99/\i0<=i/\i<=S.size/\((numX (rest S i0)=some (n,rest S i)/\RefAt w' rb S i b)\/(numX (rest S i0)=none/\RefAt w' rb S i true))
theorem YL(S:ByteArray)(i k:Nat):rest S (i+k)=(rest S i).drop k:=by unfold rest;rw[List.drop_drop]
theorem D1(w:World)(rb:Nat)(S:ByteArray)(i0:Nat)(b:Bool)(h:RefAt w rb S i0 b)(hs:S.size<=1000)(hi:i0<=S.size) :
 Calls Tryz.prog 155 #[.pointer (some ⟨rb,0,none⟩)] w λe w'=>ZeZ rb S i0 b w e w':=by
 obtain⟨h0,h1,h2,h3,h4⟩:=h.cells;have H:=Hd h;clear h
 go_enter Tryz.func155,Tryz.ntmps155
 go_wp2_with fail
 go_loopw [4] (λv wr=>∃ i k n:Nat,Hid (i=i0+k)/\v=.int .i64 n/\RefAt wr rb S i b/\Only (λk=>k=rb) w wr/\i<=S.size/\NumTo (rest S i0) k n) (λ_ wr=>2+i0 - Zbp rb wr)
 case atStart=>exact⟨i0,0,0,Hd rfl,rfl,H.out,Only.refl _ _,hi,.inl ⟨rfl,rfl⟩⟩
 case round=>
  obtain⟨i,k,n,hik,rfl,hra,hon,i2,hnum⟩:=hrel;clear h0 h1 h2 h3 h4;obtain⟨h0,h1,h2,h3,h4⟩:=hra.cells;have v4:=hnum.bd;have e1:=Hd hra;clear hra;have v1:=Hd hon;clear hon;have z0:=Hd hnum;clear hnum;have F2:i<=1000:=by omega
  have L0:n<=99:=v4.2.1;have b3:=Hd v4;clear v4
  have J1:(k<2/\∃ d r,rest S i=d::r/\(48<=d.toNat/\d.toNat<=57))\/ZaO (rest S i0) k:=by
   unfold ZaO;rw[<-YL,<-hik.out];by_cases L1:k=2
   ·exact .inr (.inl L1)
   ·cases hr:rest S i with
    |nil=>exact .inr (.inr (.inl rfl))
    |cons d r=>
     by_cases hd:48<=d.toNat/\d.toNat<=57
     ·exact .inl ⟨by have:=b3.out.1;omega,d,r,rfl,hd⟩
     ·exact .inr (.inr (.inr ⟨d,r,rfl,hd⟩))
  rcases J1 with⟨L1,d,r,hr,hg⟩|hend
  ·have hx:=Xe hr;have E1:=(ZL hr).1;have hd:decide (i<S.size)=true:=by simp;omega
   have t2:=z0.out.step L1 (by rw[<-YL,<-hik.out];exact hr) hg;have hn9:n<=9:=b3.out.2.2.1 L1;have g5:decide ((i:Int)<(i0:Int)+2)=true:=by have:=hik.out;simp;omega
   obtain⟨z,hz⟩:∃ z:Int,Hid ((d.toNat:Int)=z):=⟨_,Hd rfl⟩
   have hz48:(48:Int)<=z:=by have:=hz.out;omega
   have hz57:z<=(57:Int):=by have:=hz.out;omega
   rw[hz.out]at hx;have z3:=Hd t2;clear t2 hr E1 hg
   go_wp2_with fail
   go_quiet (fail)
   go_wp2_with fail
   go_quiet (fail)
   go_wp2_with fail
   refine⟨⟨i+1,k+1,10*n+(d.toNat - 48),Hd (by have:=hik.out;omega),?_,(e1.out.drewN _).to (i+1),(v1.out.drewN _).setCell (.inl rfl) _,by have:=of_decide_eq_true hd;omega,z3.out⟩,?_⟩
   ·have:=hz.out;rw[show 10*(n:Int)+(z - 48)=((10*n+(d.toNat - 48):Nat):Int) by omega]
   ·have hm:=YM e1.out;rw[hm];refine Nat.lt_of_le_of_lt (Nat.le_of_eq (congrArg (2+i0 - ·) (YM ((e1.out.drewN _).to (i+1))))) ?_;have:=hik.out;have:=b3.out.1;show 2+i0 - (i+1)<2+i0 - i;omega
  ·have b4:(S.size<=i)\/(∃d r,rest S i=d::r/\i<S.size/\((d.toNat:Int)<48))\/(∃d r,rest S i=d::r/\i<S.size/\(48:Int)<=d.toNat/\(57:Int)<(d.toNat:Int))\/(∃d r,rest S i=d::r/\i<S.size/\(48:Int)<=d.toNat/\(d.toNat:Int)<=57/\k=2):=by
    by_cases R2:S.size<=i
    ·exact .inl R2
    ·obtain⟨d,r,hr⟩:=EW (S:=S) (i:=i) (by omega);by_cases h48:(d.toNat:Int)<48
     ·exact .inr (.inl ⟨d,r,hr,by omega,h48⟩)
     ·by_cases h57:(57:Int)<(d.toNat:Int)
      ·exact .inr (.inr (.inl ⟨d,r,hr,by omega,by omega,h57⟩))
      ·refine .inr (.inr (.inr ⟨d,r,hr,by omega,by omega,by omega,?_⟩));rcases hend with h|h|⟨d',r',h,hn⟩
       ·exact h
       ·rw[<-YL,<-hik.out,hr]at h;cases h
       ·rw[<-YL,<-hik.out,hr]at h;cases h;omega
   have T0:=Hd hend;clear hend;have P0:i0<=i:=by have:=hik.out;omega
   rcases b4 with R2|⟨d,r,hr,E1,h48⟩|⟨d,r,hr,E1,h48,h57⟩|⟨d,r,hr,E1,h48,h57,L1⟩
   ·have hd:decide (i<S.size)=false:=by simp;omega
    have HSI:=Hd R2;clear R2
    go_wp2_with fail
    go_quiet (fail)
    go_wp2_with fail
    all_goals
     go_ret
     have f1:=hik.out;have L1:=b3.out.1
     first
      |exact⟨(v1.out.drewN _).setCell (.inl rfl) _,n,i,rfl,L0,P0,i2,.inr ⟨z0.out.none T0.out (by omega),(e1.out.drewN _).wrong⟩⟩
      |exact⟨v1.out.drewN _,n,i,rfl,L0,P0,i2,.inl ⟨(z0.out.some T0.out (by omega) (by omega) (by omega)).trans (by rw[<-YL,<-f1]),e1.out.drewN _⟩⟩
   ·have hd:decide (i<S.size)=true:=by simp;omega
    have hx:=Xe hr
    obtain⟨z,hz⟩:∃ z:Int,Hid ((d.toNat:Int)=z):=⟨_,Hd rfl⟩
    rw[hz.out]at hx h48;have hb48:decide ((48:Int)<=z)=false:=by simp;omega
    clear hr E1
    go_wp2_with fail
    go_quiet (fail)
    go_wp2_with fail
    all_goals
     go_ret
     have f1:=hik.out;have L1:=b3.out.1
     first
      |exact⟨(v1.out.drewN _).setCell (.inl rfl) _,n,i,rfl,L0,P0,i2,.inr ⟨z0.out.none T0.out (by omega),(e1.out.drewN _).wrong⟩⟩
      |exact⟨v1.out.drewN _,n,i,rfl,L0,P0,i2,.inl ⟨(z0.out.some T0.out (by omega) (by omega) (by omega)).trans (by rw[<-YL,<-f1]),e1.out.drewN _⟩⟩
   ·have hd:decide (i<S.size)=true:=by simp;omega
    have hx:=Xe hr
    obtain⟨z,hz⟩:∃ z:Int,Hid ((d.toNat:Int)=z):=⟨_,Hd rfl⟩
    rw[hz.out]at hx h48 h57;have hb57:decide (z<=(57:Int))=false:=by simp;omega
    clear hr E1
    go_wp2_with fail
    go_quiet (fail)
    go_wp2_with fail
    all_goals
     go_ret
     have f1:=hik.out;have L1:=b3.out.1
     first
      |exact⟨(v1.out.drewN _).setCell (.inl rfl) _,n,i,rfl,L0,P0,i2,.inr ⟨z0.out.none T0.out (by omega),(e1.out.drewN _).wrong⟩⟩
      |exact⟨v1.out.drewN _,n,i,rfl,L0,P0,i2,.inl ⟨(z0.out.some T0.out (by omega) (by omega) (by omega)).trans (by rw[<-YL,<-f1]),e1.out.drewN _⟩⟩
   ·have hd:decide (i<S.size)=true:=by simp;omega
    have g5:decide ((i:Int)<(i0:Int)+2)=false:=by have:=hik.out;simp;omega
    have hx:=Xe hr
    obtain⟨z,hz⟩:∃ z:Int,Hid ((d.toNat:Int)=z):=⟨_,Hd rfl⟩
    rw[hz.out]at hx h48 h57;have HK:=Hd L1;clear hr E1 L1
    go_wp2_with fail
    go_quiet (fail)
    go_wp2_with fail
    all_goals
     go_ret
     have f1:=hik.out;have L1:=b3.out.1
     first
      |exact⟨(v1.out.drewN _).setCell (.inl rfl) _,n,i,rfl,L0,P0,i2,.inr ⟨z0.out.none T0.out (by omega),(e1.out.drewN _).wrong⟩⟩
      |exact⟨v1.out.drewN _,n,i,rfl,L0,P0,i2,.inl ⟨(z0.out.some T0.out (by omega) (by omega) (by omega)).trans (by rw[<-YL,<-f1]),e1.out.drewN _⟩⟩
end Go.Proofs.YtbchkjfnakabkaaGreatDoor
namespace Go.Proofs.YtbchkjfnakabkaaGreatDoor
open Go.RowKit PX
theorem ZA(S:ByteArray)(i:Nat):rest S (i+1)=(rest S i).tail:=by
 rw[YL];simp
theorem ZQ{S:ByteArray}{i:Nat}{c:UInt8}(h:Zg c (rest S i)=true):i<S.size:=by
 cases hr:rest S i with
 |nil=>rw[hr]at h;cases h
 |cons d r=>exact(ZL hr).1
def Zio(O:Option (Q4 × List UInt8))(S:ByteArray)(first bad:Bool)(q:Q4)(j f:Nat):Prop:=
 (bad=true∧first=false∧O=none)∨(bad=false∧first=true∧O=ZU f q (rest S j)) ∨
  (bad=false/\first=false/\O=if Zg 93 (rest S j) then some (q,(rest S j).tail) else ZU f q (rest S j))
def OneO(S:ByteArray)(q:Q4)(j a b ja:Nat)(bad:Bool):Prop:=
 (bad=true/\Xc q (rest S j)=none)\/(bad=false/\j<ja/\Xc q (rest S j)=if a<=b then some (q.withAll a (b+1 - a),rest S ja) else none)
def ZgB(rb:Nat)(w:World):Nat:=match w.cell? ⟨rb,2,none⟩ with|some (.bool true)=>0|_=>1
theorem EA{w:World}{rb:Nat}{S:ByteArray}{i:Nat}{b:Bool}(h:RefAt w rb S i b):ZgB rb w=if b then 0 else 1:=by
 unfold ZgB;rw[h.cells.2.2.1];cases b<;>rfl
theorem Xo{w:World}{rb:Nat}{S:ByteArray}{i:Nat}{b:Bool}(h:RefAt w rb S i b)(q:Nat)(cs:Array Value)(hq:rb≠q):RefAt (w.setRow q cs) rb S i b:=(setRow_other _ _ _ _ hq).trans h
theorem OneO.single{S:ByteArray}{q:Q4}{j a ja:Nat}(h1:one Yn (rest S j)=some (a,rest S ja))(h45:Zg 45 (rest S ja)=false)(hjj:j<ja):OneO S q j a a ja false:=by
 refine .inr ⟨rfl,hjj,?_⟩;unfold Xc;rw[h1];simp only[h45,Nat.le_refl,if_true,Bool.false_eq_true,if_false];rw[show a+1 - a=1 by omega]
theorem OneO.two{S:ByteArray}{q:Q4}{j a ja b jb:Nat}(h1:one Yn (rest S j)=some (a,rest S ja))(h45:Zg 45 (rest S ja)=true)(h2:one Yn (rest S (ja+1))=some (b,rest S jb))(hjj:j<jb):OneO S q j a b jb false:=by
 refine .inr ⟨rfl,hjj,?_⟩;unfold Xc;rw[ZA]at h2;rw[h1];simp only[h45,if_true,h2]
theorem OneO.half{S:ByteArray}{q:Q4}{j a ja b jb:Nat}(h1:one Yn (rest S j)=some (a,rest S ja))(h45:Zg 45 (rest S ja)=true)(h2:one Yn (rest S (ja+1))=none):OneO S q j a b jb true:=by
 refine .inl ⟨rfl,?_⟩;unfold Xc;rw[ZA]at h2;rw[h1];simp only[h45,if_true,h2]
theorem OneO.wrong{S:ByteArray}{q:Q4}{j a ja:Nat}(h1:one Yn (rest S j)=none):OneO S q j a a ja true:=by
 refine .inl ⟨rfl,?_⟩;unfold Xc;rw[h1]
def ByteO(o:Option (Nat × List UInt8))(S:ByteArray)(a ja:Nat)(ba:Bool):Prop:=(ba=false/\o=some (a,rest S ja))\/(ba=true/\o=none)
theorem ER{rb:Nat}{S:ByteArray}{i:Nat}{w:World}{but:List UInt8}{e:Ending}{w':World}(h:Says rb S i w (one but (rest S i)) (λn=>.int .i64 (n:Nat)) (λv=>v=.int .i64 0) e w') :
 Only (λk=>k=rb) w w'/\∃ (a ja:Nat) (ba:Bool),e=.returned (.int .i64 a)/\a<256/\i<=ja/\ja<=S.size/\RefAt w' rb S ja ba/\ByteO (one but (rest S i)) S a ja ba/\(ba=false->i<ja):=by
 obtain⟨ho,v,j,he,hij,hj,⟨x,h1,rfl,h2⟩|⟨h1,rfl,h2⟩⟩:=h
 ·have hl:=Ul h1;have l1:=ZR S i;have l2:=ZR S j;exact⟨ho,x,j,false,he,hl.2,hij,hj,h2,.inl ⟨rfl,h1⟩,λ_=>by omega⟩
 ·exact⟨ho,0,j,true,he,by omega,hij,hj,h2,.inr ⟨rfl,h1⟩,λh=>by cases h⟩
def DashO(S:ByteArray)(ja jy:Nat)(ba p:Bool):Prop:=(p=true/\ba=false/\Zg 45 (rest S ja)=true/\jy=ja+1)\/(p=false/\jy=ja/\(ba=true\/Zg 45 (rest S ja)=false))
theorem Zek{O:Option (Q4 × List UInt8)}{S:ByteArray}{q:Q4}{j a b jy f:Nat}{by' bz:Bool}(L3:ZU f q (rest S j)=O)(hlf:(rest S j).length<=f)(r0:OneO S q j a b jy by')(hbz:bz=(by' || decide (b<a))) :
 ∃ f2,(rest S jy).length<=f2/\Zio O S false bz (q.withAll a (b+1 - a)) jy f2:=by
 have v2:∀ (h:Xc q (rest S j)=none),bz=true->∃ f2,(rest S jy).length<=f2/\Zio O S false bz (q.withAll a (b+1 - a)) jy f2:=λh hb=>
  ⟨_,Nat.le_refl _,.inl ⟨hb,rfl,by rw[<-L3];exact Un h⟩⟩
 rcases r0 with⟨rfl,h⟩|⟨rfl,-, h⟩
 ·exact v2 h (by simpa using hbz)
 ·by_cases hab:a<=b
  ·rw[if_pos hab]at h;obtain⟨f2,hf,hf2,he⟩:=WR h hlf;refine⟨f2,hf2,.inr (.inr ⟨?_,rfl,?_⟩)⟩
   ·rw[hbz];simp;omega
   ·rw[<-L3,he]
  ·rw[if_neg hab]at h;exact v2 h (by rw[hbz];simp;omega)
def ZiK(q:Q4)(k:Nat):Q4:=⟨if 0<k then q.not.a else q.a,if 1<k then q.not.b else q.b,if 2<k then q.not.c else q.c,if 3<k then q.not.d else q.d⟩
theorem EZ{q:Q4}(h:q.Ok):(Go.bits .xor .u64 (if IntKind.u64.signed=true then -1 else IntKind.u64.max) q.a=q.not.a)/\(Go.bits .xor .u64 (if IntKind.u64.signed=true then -1 else IntKind.u64.max) q.b=q.not.b)/\(Go.bits .xor .u64 (if IntKind.u64.signed=true then -1 else IntKind.u64.max) q.c=q.not.c)/\(Go.bits .xor .u64 (if IntKind.u64.signed=true then -1 else IntKind.u64.max) q.d=q.not.d):=
 ⟨xor1 h.1,xor1 h.2.1,xor1 h.2.2.1,xor1 h.2.2.2⟩
def FinO(O:Option (Q4 × List UInt8))(S:ByteArray)(bx:Bool)(q:Q4)(je:Nat):Prop:=(bx=true/\O=none)\/(bx=false/\O=some (q,rest S je))
theorem En{rb:Nat}{S:ByteArray}{i je:Nat}{w w':World}{O:Option (Q4 × List UInt8)}{nt bx:Bool}{q q1:Q4}{e:Ending}{R:Option (Q4 × List UInt8)}(hR:R=JG nt O)(ho:Only (λk=>k=rb) w w')(hij:i<=je)(hjs:je<=S.size)
 (m1:FinO O S bx q je) (hq1:(if nt then q.not else q)=q1) (hok:q1.Ok) (he:e=.returned (.agg (Zh (setA q1)))) (hr:RefAt w' rb S je (bx || q1.isNone)) :
 Says rb S i w R (λq=>.agg (Zh (setA q))) (λv=>∃ q:Q4,q.Ok/\v=.agg (Zh (setA q))) e w':=by
 refine⟨ho,_,je,he,hij,hjs,?_⟩;rcases m1 with⟨rfl,hO⟩|⟨rfl,hO⟩
 ·right;refine⟨by rw[hR,hO];rfl,⟨q1,hok,rfl⟩,?_⟩
  simpa using hr
 ·subst hO;simp only[JG]at hR;rw[hq1]at hR
  cases hn:q1.isNone with
  |true=>
   rw[hn]at hr hR;exact .inr ⟨by rw[hR];rfl,⟨q1,hok,rfl⟩,hr⟩
  |false=>
   rw[hn]at hr hR;exact .inl ⟨q1,by rw[hR];rfl,rfl,hr⟩
theorem Zfo(w:World)(rb:Nat)(S:ByteArray)(i f0:Nat)(h:RefAt w rb S i false)(hs:S.size<=1000)(hi:i<=S.size)(hf:(rest S i).length<=f0) :
 Calls Tryz.prog 178 #[.pointer (some ⟨rb,0,none⟩)] w λe w'=>Says rb S i w (Yt f0 (rest S i)) (λq=>.agg (Zh (setA q))) (λv=>∃ q:Q4,q.Ok/\v=.agg (Zh (setA q))) e w':=by
 obtain⟨nt,hnt⟩:∃ nt,Zg 94 (rest S i)=nt:=⟨_,rfl⟩
 have hR:=Dw f0 (rest S i);rw[hnt]at hR
 obtain⟨i1,F2⟩:∃ i1,(if nt then i+1 else i)=i1:=⟨_,rfl⟩
 have r4:i<=i1/\i1<=S.size:=by
  rw[<-F2];cases nt
  ·exact⟨by simp,by simpa using hi⟩
  ·have:=ZQ hnt;simp;omega
 have c5:(if nt then(rest S i).tail else rest S i)=rest S i1:=by
  rw[<-F2];cases nt
  ·rfl
  ·exact(ZA S i).symm
 obtain⟨O,hO⟩:∃ O,ZU f0 Q4.none (rest S i1)=O:=⟨_,rfl⟩
 rw[c5,hO]at hR
 have a5:(rest S i1).length<=f0:=by
  have:=ZR S i;have:=ZR S i1;omega
 have N1:=λw1 (h1:RefAt w1 rb S i false)=>Ei w1 rb S i false 94 94 h1 hs rfl
 rw[hnt,F2]at N1;have HT:=Hd N1;have HR:=Hd hR;have HO:=Hd hO;have P4:=Hd a5
 obtain⟨nb,hnb⟩:∃ nb,w.heap.size=nb:=⟨_,rfl⟩
 have E1:=Zb h;rw[hnb]at E1;have h0:RefAt (w.alloc (.cells Zo 141)) rb S i false:=Ze h _;have H0:=Hd h0;obtain⟨hi1a,hi1c⟩:=r4;have a0:=Hd hnb;clear N1 hR hO hf a5 F2 c5 hnt h h0
 go_enter Tryz.func178,Tryz.ntmps178
 go_wp2_with (go_at_call 132;refine(HT.out _ H0.out).mono ?_;rintro e w1 ⟨rfl,h1,o1⟩)
 have n0:w1.heap[nb]?=some (.cells Zo 141 (0,0)):=(o1.block nb (by simp;have:=a0.out;omega) (by omega)).trans (by rw[<-a0.out];exact Zd w _);have i4:Only (λk=>k=rb) w w1:=((Only.refl _ w).alloc _).then o1;have M4:=i4.size;rw[a0.out]at M4;have z4:=Zb n0
 obtain⟨sb,hsb⟩:∃ sb,w1.heap.size=sb:=⟨_,rfl⟩
 rw[hsb]at z4;have K3:(w1.alloc (.cells (Q4.cells Q4.none) 138)).heap[sb]?=some (.cells (Q4.cells Q4.none) 138 (0,0)):=Zr _ _ _ hsb;have T4:(w1.alloc (.cells (Q4.cells Q4.none) 138)).heap[nb]?=some (.cells Zo 141 (0,0)):=Ze n0 _;have R4:RefAt (w1.alloc (.cells (Q4.cells Q4.none) 138)) rb S i1 false:=Ze h1 _;have O4:Only (λk=>k=rb) w (w1.alloc (.cells (Q4.cells Q4.none) 138)):=i4.alloc _;have O1:=Hd (show _/\_/\_/\_ from⟨K3,T4,R4,O4⟩);have n5:=Hd hsb;clear n0 i4 M4 hsb K3 T4 R4 O4 o1 h1 HT H0;rw[n5.out]
 go_loopw [5] (fun v wr=>∃ (first bad:Bool) (q:Q4) (j f:Nat),v=.bool first∧RefAt wr rb S j bad∧wr.heap[sb]?=some (.cells (Q4.cells q) 138 (0,0))∧wr.heap[nb]?=some (.cells Zo 141 (0,0))∧Only (fun k=>k=rb) w wr ∧
  q.Ok/\i<=j/\j<=S.size/\(rest S j).length<=f/\Zio O S first bad q j f) (λ_ wr=>2*(S.size - Zbp rb wr)+ZgB rb wr)
 case atStart=>
  obtain⟨a1,a2,a3,a4⟩:=O1.out;refine⟨true,false,Q4.none,i1,f0,rfl,?_,?_,?_,?_,Q4.none_ok,hi1a,hi1c,P4.out,.inr (.inl ⟨rfl,rfl,HO.out.symm⟩)⟩
  ·exact a3
  ·exact a1
  ·exact a2
  ·exact a4
 case round=>
  obtain⟨first,bad,q,j,f,rfl,hr,hsc,hnc,hon,hq,hij,hjs,hlf,hhead⟩:=hrel;clear O1 HO P4;obtain⟨c0,c1,c2,z1,z2⟩:=hr.cells;have Z2:=Hd hr;have HS:=Hd hsc;have HN:=Hd hnc;have v1:=Hd hon;have HQ:=Hd hq;have HH:=Hd hhead;clear hr hsc hnc hon hq hhead;have M3:=Zb HS.out;have N3:=Zb HN.out
  have J1:(bad=true/\first=false)\/(bad=false/\first=false/\Zg 93 (rest S j)=true)\/(bad=false/\(first=true\/(first=false/\Zg 93 (rest S j)=false))):=by
   cases bad<;>cases first<;>cases Zg 93 (rest S j)<;>simp
   all_goals
    rcases HH.out with⟨h1,h2,-⟩|⟨h1,h2,-⟩|⟨h1,h2,-⟩<;>cases h1<;>cases h2
  rcases J1 with⟨rfl,rfl⟩|⟨rfl,rfl,h93⟩|⟨rfl,hcd⟩
  ·have m1:FinO O S true q j:=by
    rcases HH.out with⟨-, -, h3⟩|⟨h1,-, -⟩|⟨h1,-, -⟩
    ·exact .inl ⟨rfl,h3⟩
    ·cases h1
    ·cases h1
   have W1:=Hd m1;clear m1
   obtain⟨wx,rfl⟩:∃ wx:World,wx=wr:=⟨_,rfl⟩
   have n2:=Z2;have C0:=HS;have k1:=HN;have Z1:=v1;have m2:=M3;have p2:=N3;have K1:=hij;have S1:=hjs;have s0:wx.cell? ⟨sb,0,none⟩=some (.int .u64 q.a):=Za C0.out 0;have s1:wx.cell? ⟨sb,1,none⟩=some (.int .u64 q.b):=Za C0.out 1;have s2:wx.cell? ⟨sb,2,none⟩=some (.int .u64 q.c):=Za C0.out 2;have s3:wx.cell? ⟨sb,3,none⟩=some (.int .u64 q.d):=Za C0.out 3
   cases nt with
   |false=>
    cases hno:Ws q.a q.b q.c q.d 0 0 0 0
    all_goals
     have k3:=Hd (show q.isNone=_ from hno)
     go_wp2_with (first|fail|(refine wpList_store_row rfl 141 (.tmp 2) (.tmp 71) ?_ nb (Zh (setA q)) ?_ ?_ 141 Zo ?_ (Zj _) (by rw[Zi];rfl) (Zm _) ?_;(with_reducible rfl);rfl;rfl;first|exact k1.out|exact(Below.heap_setCell _ _ _ _ (by show nb≠rb;omega)).trans k1.out)|fail)
     refine bodyPost_ret (results_cell_row rfl _ _ nb 141 (Zh (setA q)) (0,0) _ rfl (setRow_heap _ _ _ _ _ _ (by first|exact k1.out|exact(Below.heap_setCell _ _ _ _ (by show nb≠rb;omega)).trans k1.out)) Tryz.underlying141 rfl (Zj _)) rfl ?_;refine En HR.out ?_ K1 S1 W1.out rfl HQ.out rfl ?_
     ·first
       |exact(Z1.out.setRow (q:=nb) (.inr (by have:=a0.out;omega)) _)
       |exact((Z1.out.setCell (p:=⟨rb,2,none⟩) (.inl rfl) _).setRow (q:=nb) (.inr (by have:=a0.out;omega)) _)
     ·simp only[Bool.false_eq_true,if_false];rw[k3.out]
      first
       |exact Xo n2.out _ _ (by omega)
       |exact Xo n2.out.wrong _ _ (by omega)
   |true=>
    go_wp2_with (first|fail|fail)
    clear s0 s1 s2 s3
    go_loopw [8] (λv wy=>∃ k:Nat,k<=4/\v=.int .i64 k/\wy.heap[sb]?=some (.cells (Q4.cells (ZiK q k)) 138 (0,0))/\Only (λk=>k=sb) wx wy) (λv _=>4 - (intOf v).toNat)
    case atStart=>exact⟨0,by omega,rfl,C0.out,Only.refl _ _⟩
    case round=>
     obtain⟨k,hk,rfl,W0,hox⟩:=hrel;have g0:=Hd W0;have g1:=Hd hox;clear W0 hox;clear c0 c1 c2 z1 z2;obtain⟨x0,x1,x2,x3⟩:=EZ HQ.out;by_cases hk4:k=4
     ·subst hk4;have b2:RefAt wr rb S j true:=(g1.out.block rb (by omega) (by omega)).trans n2.out;have L2:wr.heap[nb]?=some (.cells Zo 141 (0,0)):=(g1.out.block nb (by omega) (by omega)).trans k1.out;have r2:Only (λk=>k=rb) w wr:=Z1.out.trans (g1.out.mono λk _ h=>.inr (by have:=a0.out;omega));have s0:wr.cell? ⟨sb,0,none⟩=some (.int .u64 q.not.a):=Za g0.out 0;have s1:wr.cell? ⟨sb,1,none⟩=some (.int .u64 q.not.b):=Za g0.out 1;have s2:wr.cell? ⟨sb,2,none⟩=some (.int .u64 q.not.c):=Za g0.out 2;have s3:wr.cell? ⟨sb,3,none⟩=some (.int .u64 q.not.d):=Za g0.out 3;obtain⟨c0,c1,c2,z1,z2⟩:=b2.cells;have K0:=Hd b2;have m0:=Hd L2;have I0:=Hd r2;have l3:=Q4.not_ok HQ.out
      obtain⟨qn,hqe⟩:∃ qn,q.not=qn:=⟨_,rfl⟩
      rw[hqe]at s0 s1 s2 s3 l3;have s4:=Hd hqe;have g4:=Hd l3;clear b2 L2 r2 hqe l3 x0 x1 x2 x3;cases hno:Ws qn.a qn.b qn.c qn.d 0 0 0 0
      all_goals
       have k3:=Hd (show qn.isNone=_ from hno)
       go_wp2_with (first|fail|(refine wpList_store_row rfl 141 (.tmp 2) (.tmp 71) ?_ nb (Zh (setA qn)) ?_ ?_ 141 Zo ?_ (Zj _) (by rw[Zi];rfl) (Zm _) ?_;(with_reducible rfl);rfl;rfl;first|exact m0.out|exact(Below.heap_setCell _ _ _ _ (by show nb≠rb;omega)).trans m0.out)|fail)
       refine bodyPost_ret (results_cell_row rfl _ _ nb 141 (Zh (setA qn)) (0,0) _ rfl (setRow_heap _ _ _ _ _ _ (by first|exact m0.out|exact(Below.heap_setCell _ _ _ _ (by show nb≠rb;omega)).trans m0.out)) Tryz.underlying141 rfl (Zj _)) rfl ?_;refine En HR.out ?_ K1 S1 W1.out s4.out g4.out rfl ?_
       ·first
         |exact(I0.out.setRow (q:=nb) (.inr (by have:=a0.out;omega)) _)
         |exact((I0.out.setCell (p:=⟨rb,2,none⟩) (.inl rfl) _).setRow (q:=nb) (.inr (by have:=a0.out;omega)) _)
       ·skip
        rw[k3.out]
        first
         |exact Xo K0.out _ _ (by omega)
         |exact Xo K0.out.wrong _ _ (by omega)
     ·have d4:k=0\/k=1\/k=2\/k=3:=by omega
      rcases d4 with rfl|rfl|rfl|rfl
      ·have s0:wr.cell? ⟨sb,0,none⟩=some (.int .u64 q.a):=Za g0.out 0;have t0:=Zc g0.out 0
       go_wp2_with fail
       exact⟨⟨1,by omega,rfl,(Zf g0.out 0 _).trans rfl,g1.out.setCell (.inl rfl) _⟩,by decide⟩
      ·have s0:wr.cell? ⟨sb,1,none⟩=some (.int .u64 q.b):=Za g0.out 1;have t0:=Zc g0.out 1
       go_wp2_with fail
       exact⟨⟨2,by omega,rfl,(Zf g0.out 1 _).trans rfl,g1.out.setCell (.inl rfl) _⟩,by decide⟩
      ·have s0:wr.cell? ⟨sb,2,none⟩=some (.int .u64 q.c):=Za g0.out 2;have t0:=Zc g0.out 2
       go_wp2_with fail
       exact⟨⟨3,by omega,rfl,(Zf g0.out 2 _).trans rfl,g1.out.setCell (.inl rfl) _⟩,by decide⟩
      ·have s0:wr.cell? ⟨sb,3,none⟩=some (.int .u64 q.d):=Za g0.out 3;have t0:=Zc g0.out 3
       go_wp2_with fail
       exact⟨⟨4,by omega,rfl,(Zf g0.out 3 _).trans rfl,g1.out.setCell (.inl rfl) _⟩,by decide⟩
  ·have m1:FinO O S false q (j+1):=by
    rcases HH.out with⟨h1,-, -⟩|⟨-, h1,-⟩|⟨-, -, h3⟩
    ·cases h1
    ·cases h1
    ·rw[h93,if_pos rfl,<-ZA]at h3;exact .inr ⟨rfl,h3⟩
   have W1:=Hd m1;clear m1;have K1:i<=j+1:=by omega
   have S1:j+1<=S.size:=ZQ h93;have F0:=λw1 (h1:RefAt w1 rb S j false)=>Ei w1 rb S j false 93 93 h1 hs rfl
   rw[h93]at F0;have b1:=Hd F0;clear F0 h93
   cases nt with
   |false=>
    cases hno:Ws q.a q.b q.c q.d 0 0 0 0
    all_goals
     have k3:=Hd (show q.isNone=_ from hno)
     go_wp2_with (first|(go_at_call 132;refine(b1.out _ Z2.out).mono ?_;rintro e wx ⟨rfl,h1,o1⟩;have W0:=(o1.block sb M3 (by omega)).trans HS.out;have P2:=(o1.block nb N3 (by omega)).trans HN.out;have n2:=Hd h1;have C0:=Hd W0;have k1:=Hd P2;have Z1:=Hd (v1.out.then o1);have m2:=Zb W0;have p2:=Zb P2;obtain⟨d0,d1,d2,y1,y2⟩:=h1.cells;clear h1 o1 W0 P2;have s0:wx.cell? ⟨sb,0,none⟩=some (.int .u64 q.a):=Za C0.out 0;have s1:wx.cell? ⟨sb,1,none⟩=some (.int .u64 q.b):=Za C0.out 1;have s2:wx.cell? ⟨sb,2,none⟩=some (.int .u64 q.c):=Za C0.out 2;have s3:wx.cell? ⟨sb,3,none⟩=some (.int .u64 q.d):=Za C0.out 3)|(refine wpList_store_row rfl 141 (.tmp 2) (.tmp 71) ?_ nb (Zh (setA q)) ?_ ?_ 141 Zo ?_ (Zj _) (by rw[Zi];rfl) (Zm _) ?_;(with_reducible rfl);rfl;rfl;first|exact k1.out|exact(Below.heap_setCell _ _ _ _ (by show nb≠rb;omega)).trans k1.out)|fail)
     refine bodyPost_ret (results_cell_row rfl _ _ nb 141 (Zh (setA q)) (0,0) _ rfl (setRow_heap _ _ _ _ _ _ (by first|exact k1.out|exact(Below.heap_setCell _ _ _ _ (by show nb≠rb;omega)).trans k1.out)) Tryz.underlying141 rfl (Zj _)) rfl ?_;refine En HR.out ?_ K1 S1 W1.out rfl HQ.out rfl ?_
     ·first
       |exact(Z1.out.setRow (q:=nb) (.inr (by have:=a0.out;omega)) _)
       |exact((Z1.out.setCell (p:=⟨rb,2,none⟩) (.inl rfl) _).setRow (q:=nb) (.inr (by have:=a0.out;omega)) _)
     ·simp only[Bool.false_eq_true,if_false];rw[k3.out]
      first
       |exact Xo n2.out _ _ (by omega)
       |exact Xo n2.out.wrong _ _ (by omega)
   |true=>
    go_wp2_with (first|(go_at_call 132;refine(b1.out _ Z2.out).mono ?_;rintro e wx ⟨rfl,h1,o1⟩;have W0:=(o1.block sb M3 (by omega)).trans HS.out;have P2:=(o1.block nb N3 (by omega)).trans HN.out;have n2:=Hd h1;have C0:=Hd W0;have k1:=Hd P2;have Z1:=Hd (v1.out.then o1);have m2:=Zb W0;have p2:=Zb P2;obtain⟨d0,d1,d2,y1,y2⟩:=h1.cells;clear h1 o1 W0 P2;have s0:wx.cell? ⟨sb,0,none⟩=some (.int .u64 q.a):=Za C0.out 0;have s1:wx.cell? ⟨sb,1,none⟩=some (.int .u64 q.b):=Za C0.out 1;have s2:wx.cell? ⟨sb,2,none⟩=some (.int .u64 q.c):=Za C0.out 2;have s3:wx.cell? ⟨sb,3,none⟩=some (.int .u64 q.d):=Za C0.out 3)|fail)
    clear s0 s1 s2 s3
    go_loopw [8] (λv wy=>∃ k:Nat,k<=4/\v=.int .i64 k/\wy.heap[sb]?=some (.cells (Q4.cells (ZiK q k)) 138 (0,0))/\Only (λk=>k=sb) wx wy) (λv _=>4 - (intOf v).toNat)
    case atStart=>exact⟨0,by omega,rfl,C0.out,Only.refl _ _⟩
    case round=>
     obtain⟨k,hk,rfl,W0,hox⟩:=hrel;have g0:=Hd W0;have g1:=Hd hox;clear W0 hox;clear d0 d1 d2 y1 y2;obtain⟨x0,x1,x2,x3⟩:=EZ HQ.out;by_cases hk4:k=4
     ·subst hk4;have b2:RefAt wr rb S (j+1) false:=(g1.out.block rb (by omega) (by omega)).trans n2.out;have L2:wr.heap[nb]?=some (.cells Zo 141 (0,0)):=(g1.out.block nb (by omega) (by omega)).trans k1.out;have r2:Only (λk=>k=rb) w wr:=Z1.out.trans (g1.out.mono λk _ h=>.inr (by have:=a0.out;omega));have s0:wr.cell? ⟨sb,0,none⟩=some (.int .u64 q.not.a):=Za g0.out 0;have s1:wr.cell? ⟨sb,1,none⟩=some (.int .u64 q.not.b):=Za g0.out 1;have s2:wr.cell? ⟨sb,2,none⟩=some (.int .u64 q.not.c):=Za g0.out 2;have s3:wr.cell? ⟨sb,3,none⟩=some (.int .u64 q.not.d):=Za g0.out 3;obtain⟨c0,c1,c2,z1,z2⟩:=b2.cells;have K0:=Hd b2;have m0:=Hd L2;have I0:=Hd r2;have l3:=Q4.not_ok HQ.out
      obtain⟨qn,hqe⟩:∃ qn,q.not=qn:=⟨_,rfl⟩
      rw[hqe]at s0 s1 s2 s3 l3;have s4:=Hd hqe;have g4:=Hd l3;clear b2 L2 r2 hqe l3 x0 x1 x2 x3;cases hno:Ws qn.a qn.b qn.c qn.d 0 0 0 0
      all_goals
       have k3:=Hd (show qn.isNone=_ from hno)
       go_wp2_with (first|fail|(refine wpList_store_row rfl 141 (.tmp 2) (.tmp 71) ?_ nb (Zh (setA qn)) ?_ ?_ 141 Zo ?_ (Zj _) (by rw[Zi];rfl) (Zm _) ?_;(with_reducible rfl);rfl;rfl;first|exact m0.out|exact(Below.heap_setCell _ _ _ _ (by show nb≠rb;omega)).trans m0.out)|fail)
       refine bodyPost_ret (results_cell_row rfl _ _ nb 141 (Zh (setA qn)) (0,0) _ rfl (setRow_heap _ _ _ _ _ _ (by first|exact m0.out|exact(Below.heap_setCell _ _ _ _ (by show nb≠rb;omega)).trans m0.out)) Tryz.underlying141 rfl (Zj _)) rfl ?_;refine En HR.out ?_ K1 S1 W1.out s4.out g4.out rfl ?_
       ·first
         |exact(I0.out.setRow (q:=nb) (.inr (by have:=a0.out;omega)) _)
         |exact((I0.out.setCell (p:=⟨rb,2,none⟩) (.inl rfl) _).setRow (q:=nb) (.inr (by have:=a0.out;omega)) _)
       ·skip
        rw[k3.out]
        first
         |exact Xo K0.out _ _ (by omega)
         |exact Xo K0.out.wrong _ _ (by omega)
     ·have d4:k=0\/k=1\/k=2\/k=3:=by omega
      rcases d4 with rfl|rfl|rfl|rfl
      ·have s0:wr.cell? ⟨sb,0,none⟩=some (.int .u64 q.a):=Za g0.out 0;have t0:=Zc g0.out 0
       go_wp2_with fail
       exact⟨⟨1,by omega,rfl,(Zf g0.out 0 _).trans rfl,g1.out.setCell (.inl rfl) _⟩,by decide⟩
      ·have s0:wr.cell? ⟨sb,1,none⟩=some (.int .u64 q.b):=Za g0.out 1;have t0:=Zc g0.out 1
       go_wp2_with fail
       exact⟨⟨2,by omega,rfl,(Zf g0.out 1 _).trans rfl,g1.out.setCell (.inl rfl) _⟩,by decide⟩
      ·have s0:wr.cell? ⟨sb,2,none⟩=some (.int .u64 q.c):=Za g0.out 2;have t0:=Zc g0.out 2
       go_wp2_with fail
       exact⟨⟨3,by omega,rfl,(Zf g0.out 2 _).trans rfl,g1.out.setCell (.inl rfl) _⟩,by decide⟩
      ·have s0:wr.cell? ⟨sb,3,none⟩=some (.int .u64 q.d):=Za g0.out 3;have t0:=Zc g0.out 3
       go_wp2_with fail
       exact⟨⟨4,by omega,rfl,(Zf g0.out 3 _).trans rfl,g1.out.setCell (.inl rfl) _⟩,by decide⟩
  ·have L3:ZU f q (rest S j)=O:=by
    rcases hcd with rfl|⟨rfl,h93⟩
    ·rcases HH.out with⟨h1,-, -⟩|⟨-, -, h3⟩|⟨-, h1,-⟩
     ·cases h1
     ·exact h3.symm
     ·cases h1
    ·rcases HH.out with⟨h1,-, -⟩|⟨-, h1,-⟩|⟨-, -, h3⟩
     ·cases h1
     ·cases h1
     ·rw[h93]at h3;exact h3.symm
   have q5:=Hd L3;clear L3;have F0:=λw1 (h1:RefAt w1 rb S j false)=>Ei w1 rb S j false 93 93 h1 hs rfl
   have b1:=Hd F0;clear F0
   go_upto_region 4 with fail
   go_cut [24] from 12 to 24 (λv wx=>v=.bool true/\RefAt wx rb S j false/\Only (λk=>k=rb) wr wx)
   case first=>
    rcases hcd with rfl|⟨rfl,h93⟩
    ·go_wp2_with fail
     go_meet
     case rel=>exact⟨rfl,Z2.out,Only.refl _ _⟩
    ·have F0:=b1.out;rw[h93]at F0;have j1:=Hd F0;clear F0 h93
     go_wp2_with (go_at_call 132;refine(j1.out _ Z2.out).mono ?_;rintro e w2 ⟨rfl,h1,o1⟩)
     go_meet
     case rel=>exact⟨rfl,h1,o1⟩
   case rest=>
    obtain⟨rfl,hrx,hox⟩:=hcut;have C0:=Hd ((hox.block sb M3 (by omega)).trans HS.out);have k1:=Hd ((hox.block nb N3 (by omega)).trans HN.out);have Z1:=Hd (v1.out.then hox);have n2:=Hd hrx;have m2:=Zb C0.out;have p2:=Zb k1.out;have q3:=Hd (Qz wc rb S j ⟨#[92,93,94,45]⟩ hrx hs hjs (by decide));clear hrx hox b1 c0 c1 c2 z1 z2
    obtain⟨wx,rfl⟩:∃ wx:World,wx=wc:=⟨_,rfl⟩
    go_upto_region 8 with(go_at_call 180;refine q3.out.mono ?_;rintro e w3 hS1;obtain⟨o3,a,ja,ba,rfl,ha256,hja,hjas,hra,hba,hjj⟩:=ER hS1;have e1:=Hd hra;have K4:=Hd hba;have y5:=Hd hjj;have p1:=Hd (Z1.out.then o3);have d5:=Hd ((o3.block sb m2 (by omega)).trans C0.out);have y0:=Hd ((o3.block nb p2 (by omega)).trans k1.out);have m4:=Zb d5.out;have T3:=Zb y0.out;clear hS1 hra hba hjj o3)
    go_cut [36] from 28 to 36 (λv wd=>∃ (p:Bool) (jy:Nat),v=.bool p/\RefAt wd rb S jy ba/\Only (λk=>k=rb) w3 wd/\ja<=jy/\jy<=S.size/\DashO S ja jy ba p)
    case first=>
     have F0:=λw1 (h1:RefAt w1 rb S ja ba)=>Ei w1 rb S ja ba 45 45 h1 hs rfl
     obtain⟨d0,d1,d2,y1,y2⟩:=e1.out.cells
     cases ba with
     |true=>
      clear F0
      go_wp2_with fail
      go_meet
      case rel=>exact⟨false,ja,rfl,e1.out,Only.refl _ _,Nat.le_refl _,hjas,.inr ⟨rfl,rfl,.inl rfl⟩⟩
     |false=>
      cases h45:Zg 45 (rest S ja) with
      |false=>
       rw[h45]at F0;have b1:=Hd F0;have T2:=Hd h45;clear F0 h45
       go_wp2_with (go_at_call 132;refine(b1.out _ e1.out).mono ?_;rintro e w4 ⟨rfl,h4,o4⟩)
       go_meet
       case rel=>exact⟨false,ja,rfl,h4,o4,Nat.le_refl _,hjas,.inr ⟨rfl,rfl,.inr T2.out⟩⟩
      |true=>
       rw[h45]at F0;have b1:=Hd F0;have T2:=Hd h45;clear F0 h45
       go_wp2_with (go_at_call 132;refine(b1.out _ e1.out).mono ?_;rintro e w4 ⟨rfl,h4,o4⟩)
       go_meet
       case rel=>exact⟨true,ja+1,rfl,h4,o4,by omega,ZQ T2.out,.inl ⟨rfl,rfl,T2.out,rfl⟩⟩
    case rest=>
     obtain⟨p,jy,rfl,hrd,hod,hjy1,hjy2,hdash⟩:=hcut;have b5:=Hd ((hod.block sb m4 (by omega)).trans d5.out);have m0:=Hd ((hod.block nb T3 (by omega)).trans y0.out);have I0:=Hd (p1.out.then hod);have K0:=Hd hrd;have C2:=Hd hdash;have k4:=Zb b5.out;have c4:=Zb m0.out;clear hrd hod hdash
     obtain⟨w4,rfl⟩:∃ w4:World,w4=wc:=⟨_,rfl⟩
     go_upto_if 36 with fail
     go_cut [7] from 37 to 38 (λv we=>∃ (b jz:Nat) (bz:Bool),v=.int .i64 b/\b<256/\RefAt we rb S jz bz/\Only (λk=>k=rb) w4 we/\jy<=jz/\jz<=S.size/\OneO S q j a b jz bz)
     case first=>
      cases p with
      |false=>
       go_wp2_with fail
       go_meet
       case rel=>
        rcases C2.out with⟨h1,-⟩|⟨-, rfl,h45⟩
        ·cases h1
        ·refine⟨a,jy,ba,rfl,ha256,K0.out,Only.refl _ _,Nat.le_refl _,hjy2,?_⟩;rcases K4.out with⟨rfl,h1⟩|⟨rfl,h1⟩
         ·rcases h45 with h45|h45
          ·cases h45
          ·exact OneO.single h1 h45 (y5.out rfl)
         ·exact OneO.wrong h1
      |true=>
       obtain⟨rfl,h45,rfl⟩:ba=false/\Zg 45 (rest S ja)=true/\jy=ja+1:=by
        rcases C2.out with⟨-, h1,h2,h3⟩|⟨h1,-⟩
        ·exact⟨h1,h2,h3⟩
        ·cases h1
       have T2:=Hd h45;have I3:=Hd (Qz w4 rb S (ja+1) ⟨#[92,93,94,45]⟩ K0.out hs hjy2 (by decide));clear h45
       go_wp2_with (go_at_call 180;refine I3.out.mono ?_;rintro e w5 hS2;obtain⟨o5,b,jb,bb,rfl,hb256,hjb,hjbs,e0,hbb,hjj2⟩:=ER hS2;have h5:=Hd e0;have k5:=Hd hbb;have H1:=Hd o5;have HJ2:=Hd hjj2;clear hS2 e0 hbb o5 hjj2)
       go_meet
       case rel=>
        refine⟨b,jb,bb,rfl,hb256,h5.out,H1.out,hjb,hjbs,?_⟩
        have h1:one Yn (rest S j)=some (a,rest S ja):=by
         rcases K4.out with⟨-, h1⟩|⟨h1,-⟩
         ·exact h1
         ·cases h1
        rcases k5.out with⟨rfl,h2⟩|⟨rfl,h2⟩
        ·exact OneO.two h1 T2.out h2 (by omega)
        ·exact OneO.half h1 T2.out h2
     case rest=>
      obtain⟨b,jz,bz,rfl,hb256,hre,hoe,hjz1,hjz2,r0⟩:=hcut;have N4:=Hd ((hoe.block sb k4 (by omega)).trans b5.out);have A1:=Hd ((hoe.block nb c4 (by omega)).trans m0.out);have H1:=Hd (I0.out.then hoe);have F1:=Hd hre;have j0:=Hd r0;have q4:=Zb N4.out;have Z3:=Zb A1.out;clear hre hoe r0
      obtain⟨w5,rfl⟩:∃ w5:World,w5=wc:=⟨_,rfl⟩
      go_upto_if 41 with fail
      go_cut [] from 39 to 44 (λwf=>∃ bf:Bool,Hid (bf=(bz || decide (b<a)))/\RefAt wf rb S jz bf/\Only (λk=>k=rb) w5 wf)
      case first=>
       obtain⟨d0,d1,d2,y1,y2⟩:=F1.out.cells;by_cases hab:(b:Int)<(a:Int)
       ·go_wp2_with fail
        go_meet
        case rel=>exact⟨true,Hd (by rw[decide_eq_true (by omega)];simp),F1.out.wrong,(Only.refl (λk=>k=rb) w5).setCell (p:=⟨rb,2,none⟩) (.inl rfl) _⟩
       ·go_wp2_with fail
        go_meet
        case rel=>exact⟨bz,Hd (by rw[decide_eq_false (by omega)];simp),F1.out,Only.refl _ _⟩
      case rest=>
       obtain⟨bf,hbf,hrf,hof⟩:=hcut;have S4:=Hd ((hof.block sb q4 (by omega)).trans N4.out);have P1:=Hd ((hof.block nb Z3 (by omega)).trans A1.out);have W2:=Hd (H1.out.then hof);have d3:=Hd hrf;have hsl6:=Zb S4.out;have hnl6:=Zb P1.out;clear hrf hof
       obtain⟨w6,rfl⟩:∃ w6:World,w6=wc:=⟨_,rfl⟩
       go_wp2_with fail
       go_loopw [6] (λv wl=>∃ k:Nat,k<=b+1 - a/\v=.int .i64 ((a+k:Nat):Int)/\wl.heap[sb]?=some (.cells (Q4.cells (q.withAll a k)) 138 (0,0))/\Only (λk=>k=sb) w6 wl) (λv _=>b+1 - (intOf v).toNat)
       case atStart=>exact⟨0,by omega,rfl,S4.out,Only.refl _ _⟩
       case round=>
        obtain⟨k,hk,rfl,W0,hox⟩:=hrel;have E2:=Hd W0;have M2:=Hd hox;clear W0 hox
        obtain⟨x,hx⟩:∃ x,a+k=x:=⟨_,rfl⟩
        rw[hx];by_cases hkc:k=b+1 - a
        ·have hgt:¬ (x:Int)<=(b:Int):=by omega
         have I4:=Hd hkc;have HX:=Hd hx;have b2:RefAt wr rb S jz bf:=(M2.out.block rb (by omega) (by omega)).trans d3.out;have L2:wr.heap[nb]?=some (.cells Zo 141 (0,0)):=(M2.out.block nb (by omega) (by omega)).trans P1.out;have r2:Only (λk=>k=rb) w wr:=W2.out.trans (M2.out.mono λk _ h=>.inr (by have:=a0.out;omega));have I2:=Zek (bz:=bf) q5.out hlf j0.out hbf.out;have t3:=Hd I2;have C4:=Hd b2;have e5:=Hd L2;have p4:=Hd r2;clear I2 b2 L2 r2 hx hkc
         go_wp2_with fail
         obtain⟨f2,hf2,hh2⟩:=t3.out;rw[<-I4.out]at hh2;refine⟨⟨false,bf,q.withAll a k,jz,f2,rfl,C4.out,E2.out,e5.out,p4.out,Q4.withAll_ok HQ.out (by have:=I4.out;omega),by omega,hjz2,hf2,hh2⟩,?_⟩;rw[YM C4.out,EA C4.out,YM Z2.out,EA Z2.out];have r3:=hbf.out;rcases j0.out with⟨h1,-⟩|⟨-, h1,-⟩
         ·rw[h1]at r3;rw[r3];simp;omega
         ·cases bf<;>simp<;>omega
        ·have i2:(x:Int)<=(b:Int):=by omega
         have A3:x<256:=by omega
         have t4:=Q4.withAll_ok HQ.out (k:=k) (n:=a) (by omega)
         obtain⟨q1,hq1⟩:∃ q1,q.withAll a k=q1:=⟨_,rfl⟩
         rw[hq1]at E2 t4;have v5:=Hd (show q.withAll a (k+1)=q1.with x by rw[Ya,hq1,hx]);have s0:wr.cell? ⟨sb,0,none⟩=some (.int .u64 q1.a):=Za E2.out 0;have s1:wr.cell? ⟨sb,1,none⟩=some (.int .u64 q1.b):=Za E2.out 1;have s2:wr.cell? ⟨sb,2,none⟩=some (.int .u64 q1.c):=Za E2.out 2;have s3:wr.cell? ⟨sb,3,none⟩=some (.int .u64 q1.d):=Za E2.out 3;have A4:=Zb E2.out;have p5:=Hd (BT q1 t4 x A3 wr);have HX:=Hd hx;clear hq1 t4 hx
         go_wp2_with (first|(go_at_call 179;refine p5.out.mono ?_;rintro e w7 ⟨rfl,hb5⟩;have L4:=Hd ((hb5.block sb A4).trans E2.out);have p4:=Hd (M2.out.trans (Only.of_below hb5));clear hb5)|(refine wpList_store_row rfl 138 (.tmp 4) (.tmp 52) ?_ sb (Q4.cells (q1.with x)) ?_ ?_ 138 (Q4.cells q1) ?_ Gi rfl (Zdj _) ?_;(with_reducible rfl);rfl;rfl;exact L4.out)|fail)
         refine⟨⟨k+1,by omega,by have:=HX.out;simp;omega,?_,p4.out.setRow (q:=sb) (.inl rfl) _⟩,by have:=HX.out;simp only[intOf];omega⟩;rw[v5.out];exact setRow_heap _ _ _ _ _ _ L4.out
end Go.Proofs.YtbchkjfnakabkaaGreatDoor
namespace Go.Proofs.YtbchkjfnakabkaaGreatDoor
open Go.RowKit PX
theorem EV(w:World)(kind:Int)(v:Value)(base:Nat)(L:List RxA)(hown:w.ownsRow base 141 8 v L.length (Xd L))(hlen:L.length<=1000) :
 Calls Tryz.prog 131 #[.int .i64 kind,v] w λe w'=>∃ a cap,v=.slice a L.length cap/\e=.returned (.agg (Zh (Xl kind a cap L)))/\Below w.heap.size w w':=by
 obtain⟨a,cap,rfl,hc1,hc2,ha⟩:=Jg hown;by_cases h1:L.length=1
 ·obtain⟨x,rfl⟩:=List.length_eq_one_iff.1 h1;obtain⟨g,rfl,hbg,hgw,-⟩:=ha.resolve_left (by rintro⟨h,-⟩;simp at h)
  have hC:∀ j u,(Zh x)[j]?=some u->w.cell? ⟨g,j,none⟩=some u:=by
   intro j u hu;have hj:j<8:=by have:=(Array.getElem?_eq_some_iff.1 hu).1;rwa [Zi]at this
   rw[hown.cellAt j (by simp;omega)]
   simpa [Xd,Zh] using hu
  have HC:=Hd hC;clear hC;have a0:=Hd (Zi x);have j0:=Hd (Zm x);show Calls _ _ _ _ λe w'=>∃ a' cap',Value.slice (some ⟨g,0,none⟩) [x].length cap=.slice a' [x].length cap'/\e=.returned (.agg (Zh x))/\Below w.heap.size w w'
  obtain⟨CS,HCS⟩:∃ CS,Hid (Zh x=CS):=⟨_,Hd rfl⟩
  rw[HCS.out]at HC a0 j0 ⊢;clear hown;have HZ:=Hd (show(w.alloc (.cells Zo 141)).heap[w.heap.size]?=some (.cells Zo 141 (0,0)) from Zd w _);simp only[List.length_singleton];have C3:(Tryz.prog.info? 141).map (·.size)=some CS.size:=by rw[a0.out];exact ZH
  have n1:=Hd C3;clear C3;have r5:=Hd (λj u hu=>(World.cell?_of_block (w:=w) (a:=⟨g,j,none⟩) (Below.heap_alloc w (.cells Zo 141) g hgw)).trans (HC.out j u hu))
  go_enter Tryz.func131,Tryz.ntmps131
  go_wp2_with (first
   |refine VE rfl 141 (.tmp 9) rfl g 0 rfl CS _ (by intro j u hu;rw[Nat.zero_add];exact r5.out j u hu) Tryz.underlying141 rfl n1.out ?_
   |refine wpList_store_row rfl 141 (.tmp 4) (.tmp 10) rfl w.heap.size CS rfl rfl 141 _ HZ.out n1.out (by rw[a0.out];rfl) j0.out ?_)
  refine bodyPost_ret (results_cell_row rfl _ _ w.heap.size 141 CS (0,0) _ rfl (setRow_heap _ _ _ _ _ _ HZ.out) Tryz.underlying141 rfl n1.out) rfl ?_;exact⟨_,_,rfl,rfl,Y9 w _ _⟩
 ·have hj:Xl kind a cap L=.node kind 0 0 0 0 0 0 a cap L:=by
   match L,h1 with
   |[],_=>rfl
   |[_],h1=>exact absurd rfl h1
   |_::_::_,_=>rfl
  suffices hs:Calls Tryz.prog 131 #[.int .i64 kind,.slice a L.length cap] w λe w'=>e=.returned (.agg (Zh (.node kind 0 0 0 0 0 0 a cap L)))/\Below w.heap.size w w' by
   refine hs.mono ?_;rintro e w' ⟨he,hb⟩;exact⟨a,cap,rfl,by rw[hj];exact he,hb⟩
  have n1:=Hd (Zj (.node kind 0 0 0 0 0 0 a cap L));have j0:=Hd (Zm (.node kind 0 0 0 0 0 0 a cap L));have n0:((L.length:Int)==1)=false:=by rw[beq_eq_false_iff_ne];omega
  obtain⟨n,hn⟩:∃ n,L.length=n:=⟨_,rfl⟩
  have R3:Zh (.node kind 0 0 0 0 0 0 a cap L)=#[.int .i64 kind,.int .i64 0,.int .i64 0,.int .u64 0,.int .u64 0,.int .u64 0,.int .u64 0,.slice a n cap]:=by rw[<-hn];rfl
  obtain⟨CS,HCS⟩:∃ CS,Hid (Zh (.node kind 0 0 0 0 0 0 a cap L)=CS):=⟨_,Hd rfl⟩
  rw[HCS.out]at n1 j0 R3 ⊢;rw[hn]at n0 hlen ⊢;clear hown ha hj;have j4:CS.size=8:=by rw[R3];rfl
  have z5:=Hd R3;clear R3;have HZ:=Hd (show(w.alloc (.cells Zo 141)).heap[w.heap.size]?=some (.cells Zo 141 (0,0)) from Zd w _)
  go_enter Tryz.func131,Tryz.ntmps131
  go_wp2_with (first
   |refine wpList_store_row rfl 141 (.tmp 4) (.tmp 13) rfl w.heap.size CS rfl (by rw[z5.out];rfl) 141 _ HZ.out n1.out (by rw[j4];rfl) j0.out ?_)
  refine bodyPost_ret (results_cell_row rfl _ _ w.heap.size 141 CS (0,0) _ rfl (setRow_heap _ _ _ _ _ _ HZ.out) Tryz.underlying141 rfl n1.out) rfl ?_;exact⟨rfl,Y9 w _ _⟩
def XN(rb:Nat)(S:ByteArray)(i:Nat)(w:World)(o:Option (Rx × List UInt8))(e:Ending)(w':World):Prop:=
 Only (fun k=>k=rb) w w'∧∃ (X:RxA) (j:Nat) (b:Bool),e=.returned (.agg (Zh X))∧i≤j∧j≤S.size∧RefAt w' rb S j b∧X.In w' w'.heap.size∧(∀c∈X.blocks,w.heap.size≤c∧c<w'.heap.size) ∧
  ((b=false/\o=some (X.bare,rest S j))\/(b=true/\o=none))
theorem at_t(w:World)(rb:Nat)(S:ByteArray)(i:Nat)(bad:Bool)(c:UInt8)(n:Int)(h:RefAt w rb S i bad)(hs:S.size<=1000)(hc:(c.toNat:Int)=n)(h1:Zg c (rest S i)=true) :
 Calls Tryz.prog 132 #[.pointer (some ⟨rb,0,none⟩),.int .u8 n] w λe w'=>e=.returned (.bool true)/\RefAt w' rb S (i+1) bad/\Only (λk=>k=rb) w w':=by
 have h2:=Ei w rb S i bad c n h hs hc;rw[h1]at h2;exact h2
theorem at_f(w:World)(rb:Nat)(S:ByteArray)(i:Nat)(bad:Bool)(c:UInt8)(n:Int)(h:RefAt w rb S i bad)(hs:S.size<=1000)(hc:(c.toNat:Int)=n)(h1:Zg c (rest S i)=false) :
 Calls Tryz.prog 132 #[.pointer (some ⟨rb,0,none⟩),.int .u8 n] w λe w'=>e=.returned (.bool false)/\RefAt w' rb S i bad/\Only (λk=>k=rb) w w':=by
 have h2:=Ei w rb S i bad c n h hs hc;rw[h1]at h2;exact h2
theorem Bc{r:Nat->Prop}{X:RxA}{w w':World}{nb:Nat}{cs:Array Value}(hin:X.In w w.heap.size)(hb:∀ c∈X.blocks,nb<c)(E1:∀ c∈X.blocks,c<w.heap.size):X.In (w.setRow nb cs) (w.setRow nb cs).heap.size:=by
 refine hin.keep λc hc=>⟨by rw[size_setRow];exact E1 c hc,λo=>World.cell?_of_block (w:=w) (setRow_other _ _ _ _ (by have:=hb c hc;show c≠nb;omega))⟩
theorem XU{w w1:World}{rb nb i j:Nat}{S:ByteArray}{b:Bool}{X:RxA}{O:Option (Rx × List UInt8)}(hw:w.heap.size=nb)(e0:rb<nb)(ho:Only (λk=>k=rb) w w1)(hr:RefAt w1 rb S j b)(hin:X.In w1 w1.heap.size)
 (hbl:∀ c∈X.blocks,nb<c/\c<w1.heap.size) (hij:i<=j) (hjs:j<=S.size) (hor:(b=false/\O=some (X.bare,rest S j))\/(b=true/\O=none)) :
 XN rb S i w O (.returned (.agg (Zh X))) (w1.setRow nb (Zh X)):=
 ⟨ho.setRow (.inr (by omega)) _,X,j,b,rfl,hij,hjs,Xo hr _ _ (by omega),Bc (r:=λ_=>True) (w':=w) hin (λc hc=>(hbl c hc).1) (λc hc=>(hbl c hc).2),λc hc=>by rw[size_setRow];exact⟨by have:=(hbl c hc).1;omega,(hbl c hc).2⟩,hor⟩
def ZiN:Option (Q4 × List UInt8)->Option (Rx × List UInt8)
 |none=>none
 |some (q,r)=>some (.set q,r)
def ZhD:Option (Nat × List UInt8)->Option (Rx × List UInt8)
 |none=>none
 |some (b,r)=>some (.set (Q4.none.with b),r)
theorem Zfm{rb:Nat}{S:ByteArray}{i f:Nat}{w:World}{l:List UInt8}{e:Ending}{w':World}(h:Says rb S i w (Yt f l) (λq=>.agg (Zh (setA q))) (λv=>∃ q:Q4,q.Ok/\v=.agg (Zh (setA q))) e w') :
 Only (λk=>k=rb) w w'/\∃ (q:Q4) (j:Nat) (b:Bool),q.Ok/\e=.returned (.agg (Zh (setA q)))/\i<=j/\j<=S.size/\RefAt w' rb S j b/\((b=false/\Yt f l=some (q,rest S j))\/(b=true/\Yt f l=none)):=by
 obtain⟨ho,v,j,he,hij,hj,⟨q,h1,rfl,h2⟩|⟨h1,⟨q,hq,rfl⟩,h2⟩⟩:=h
 ·exact⟨ho,q,j,false,Dv h1,he,hij,hj,h2,.inl ⟨rfl,h1⟩⟩
 ·exact⟨ho,q,j,true,hq,he,hij,hj,h2,.inr ⟨rfl,h1⟩⟩
theorem Zdi(w:World)(rb:Nat)(S:ByteArray)(i:Nat)(h:RefAt w rb S i false)(hs:S.size<=1000)(hi:i<=S.size)(altf:List UInt8->Option (Rx × List UInt8))(h46:Zg 46 (rest S i)=true) :
 Calls Tryz.prog 154 #[.pointer (some ⟨rb,0,none⟩)] w λe w'=>XN rb S i w (XB altf (rest S i)) e w':=by
 have hB:XB altf (rest S i)=some (.set Q4.all,rest S (i+1)):=by unfold XB;rw[h46,ZA];rfl
 rw[hB];have r1:=Hd (λw1 (h1:RefAt w1 rb S i false)=>at_t w1 rb S i false 46 46 h1 hs rfl h46);have F2:=ZQ h46;clear h46 hB
 obtain⟨nb,hnb⟩:∃ nb,w.heap.size=nb:=⟨_,rfl⟩
 have e0:=Zb h;rw[hnb]at e0;have b0:(w.alloc (.cells Zo 141)).heap[nb]?=some (.cells Zo 141 (0,0)):=Zr _ _ _ hnb;have l0:RefAt (w.alloc (.cells Zo 141)) rb S i false:=Ze h _;have N0:=Hd b0;have N2:=Hd (show RefAt (w.alloc (.cells #[.int .i64 0,.int .i64 0,.int .i64 0,.int .u64 0,.int .u64 0,.int .u64 0,.int .u64 0,.slice none 0 0] 141)) rb S i false from l0);have S0:=Hd ((Only.refl (λk=>k=rb) w).alloc (.cells Zo 141));have q0:nb<(w.alloc (.cells Zo 141)).heap.size:=Zb b0;have a0:=Hd hnb;clear b0 l0 h
 go_enter Tryz.func154,Tryz.ntmps154
 go_wp2_with (first
  |(go_at_call 132;(with_reducible refine(r1.out _ N2.out).mono ?_);rintro e w1 ⟨rfl,h1,o1⟩;have g3:=Hd h1;have M0:=Hd (S0.out.then o1);have I1:=Hd ((o1.block nb q0 (by omega)).trans N0.out);have M1:=Zb I1.out;clear h1 o1)
  |(refine wpList_store_row rfl 141 (.tmp 2) (.tmp 8) ?_ nb (Zh (setA Q4.all)) ?_ ?_ 141 Zo ?_ (Zj _) (by rw[Zi];rfl) (Zm _) ?_;(with_reducible rfl);rfl;rfl;exact I1.out)
  |fail)
 refine bodyPost_ret (results_cell_row rfl _ _ nb 141 (Zh (setA Q4.all)) (0,0) _ rfl (setRow_heap _ _ _ _ _ _ I1.out) Tryz.underlying141 rfl (Zj _)) rfl ?_;exact XU a0.out e0 M0.out g3.out (Ju _ Q4.all_ok _ _) (by rw[Xy];simp) (by omega) (by omega) (.inl ⟨rfl,by rw[Yg]⟩)
theorem D4(w:World)(rb:Nat)(S:ByteArray)(i:Nat)(h:RefAt w rb S i false)(hs:S.size<=1000)(hi:i<=S.size)(altf:List UInt8->Option (Rx × List UInt8))(h46:Zg 46 (rest S i)=false)(h91:Zg 91 (rest S i)=true) :
 Calls Tryz.prog 154 #[.pointer (some ⟨rb,0,none⟩)] w λe w'=>XN rb S i w (XB altf (rest S i)) e w':=by
 have hB:XB altf (rest S i)=ZiN (Yt (rest S i).length (rest S (i+1))):=by
  unfold XB;rw[h46,h91,ZA];simp only[Bool.false_eq_true,if_false,if_true];cases Yt (rest S i).length (rest S i).tail<;>rfl
 rw[hB];have F2:=ZQ h91;have r1:=Hd (λw1 (h1:RefAt w1 rb S i false)=>at_f w1 rb S i false 46 46 h1 hs rfl h46);have j1:=Hd (λw1 (h1:RefAt w1 rb S i false)=>at_t w1 rb S i false 91 91 h1 hs rfl h91);have S3:=Hd (λw1 (h1:RefAt w1 rb S (i+1) false)=>Zfo w1 rb S (i+1) (rest S i).length h1 hs (by omega) (by rw[ZR,ZR];omega));clear h46 h91 hB
 obtain⟨nb,hnb⟩:∃ nb,w.heap.size=nb:=⟨_,rfl⟩
 have e0:=Zb h;rw[hnb]at e0;have b0:(w.alloc (.cells Zo 141)).heap[nb]?=some (.cells Zo 141 (0,0)):=Zr _ _ _ hnb;have l0:RefAt (w.alloc (.cells Zo 141)) rb S i false:=Ze h _;have N0:=Hd b0;have N2:=Hd (show RefAt (w.alloc (.cells #[.int .i64 0,.int .i64 0,.int .i64 0,.int .u64 0,.int .u64 0,.int .u64 0,.int .u64 0,.slice none 0 0] 141)) rb S i false from l0);have S0:=Hd ((Only.refl (λk=>k=rb) w).alloc (.cells Zo 141));have q0:nb<(w.alloc (.cells Zo 141)).heap.size:=Zb b0;have a0:=Hd hnb;clear b0 l0 h
 go_enter Tryz.func154,Tryz.ntmps154
 go_wp2_with (first
  |(go_at_call 132;(with_reducible refine(r1.out _ N2.out).mono ?_);rintro e w1 ⟨rfl,h1,o1⟩;have g3:=Hd h1;have M0:=Hd (S0.out.then o1);have I1:=Hd ((o1.block nb q0 (by omega)).trans N0.out);have M1:=Zb I1.out;clear h1 o1)
  |(go_at_call 132;(with_reducible refine(j1.out _ g3.out).mono ?_);rintro e w2 ⟨rfl,h1,o1⟩;have v0:=Hd h1;have t1:=Hd (M0.out.then o1);have A0:=Hd ((o1.block nb M1 (by omega)).trans I1.out);have e2:=Zb A0.out;clear h1 o1)
  |(go_at_call 178;(with_reducible refine(S3.out _ v0.out).mono ?_);rintro e w3 hSS;obtain⟨o1,q,j,b,hq,rfl,hij,hjs,h1,hor⟩:=Zfm hSS;have C1:=Hd h1;have p1:=Hd (t1.out.then o1);have y0:=Hd ((o1.block nb e2 (by omega)).trans A0.out);have J2:=Hd hor;have HQ:=Hd hq;clear h1 o1 hor hSS hq)
  |(refine wpList_store_row rfl 141 (.tmp 2) (.tmp 13) ?_ nb (Zh (setA q)) ?_ ?_ 141 Zo ?_ (Zj _) (by rw[Zi];rfl) (Zm _) ?_;(with_reducible rfl);rfl;rfl;exact y0.out)
  |fail)
 refine bodyPost_ret (results_cell_row rfl _ _ nb 141 (Zh (setA q)) (0,0) _ rfl (setRow_heap _ _ _ _ _ _ y0.out) Tryz.underlying141 rfl (Zj _)) rfl ?_;refine XU a0.out e0 p1.out C1.out (Ju _ HQ.out _ _) (by rw[Xy];simp) (by omega) hjs ?_;rcases J2.out with⟨rfl,h⟩|⟨rfl,h⟩
 ·left;rw[h,Yg];exact⟨rfl,rfl⟩
 ·right;rw[h];exact⟨rfl,rfl⟩
theorem Zdh(w:World)(rb:Nat)(S:ByteArray)(i:Nat)(h:RefAt w rb S i false)(hs:S.size<=1000)(hi:i<=S.size)(altf:List UInt8->Option (Rx × List UInt8))(h46:Zg 46 (rest S i)=false)(h91:Zg 91 (rest S i)=false)(h40:Zg 40 (rest S i)=false) :
 Calls Tryz.prog 154 #[.pointer (some ⟨rb,0,none⟩)] w λe w'=>XN rb S i w (XB altf (rest S i)) e w':=by
 have hB:XB altf (rest S i)=ZhD (one V5 (rest S i)):=by
  unfold XB;rw[h46,h91,h40];simp only[Bool.false_eq_true,if_false];cases one V5 (rest S i)<;>rfl
 rw[hB];have r1:=Hd (λw1 (h1:RefAt w1 rb S i false)=>at_f w1 rb S i false 46 46 h1 hs rfl h46);have j1:=Hd (λw1 (h1:RefAt w1 rb S i false)=>at_f w1 rb S i false 91 91 h1 hs rfl h91);have S2:=Hd (λw1 (h1:RefAt w1 rb S i false)=>at_f w1 rb S i false 40 40 h1 hs rfl h40);have j0:=Hd (λw1 (h1:RefAt w1 rb S i false)=>Qz w1 rb S i ⟨#[92,46,91,93,40,41,124,42,43,63,123,125]⟩ h1 hs hi (by decide))
 have J3:=Hd (fun w1 (n:Nat) (hn:n<256)=>show Calls Tryz.prog 179 #[.agg #[.int .u64 0,.int .u64 0,.int .u64 0,.int .u64 0],.int .i64 n] w1 fun e w'=>∃ q2:Q4,Hid (q2=Q4.none.with n)∧e=.returned (.agg #[.int .u64 q2.a,.int .u64 q2.b,.int .u64 q2.c,.int .u64 q2.d])∧Below w1.heap.size w1 w' from
  (BT Q4.none Q4.none_ok n hn w1).mono λe w' h=>⟨_,Hd rfl,h.1,h.2⟩)
 clear h46 h91 h40 hB
 obtain⟨nb,hnb⟩:∃ nb,w.heap.size=nb:=⟨_,rfl⟩
 have e0:=Zb h;rw[hnb]at e0;have b0:(w.alloc (.cells Zo 141)).heap[nb]?=some (.cells Zo 141 (0,0)):=Zr _ _ _ hnb;have l0:RefAt (w.alloc (.cells Zo 141)) rb S i false:=Ze h _;have N0:=Hd b0;have N2:=Hd (show RefAt (w.alloc (.cells #[.int .i64 0,.int .i64 0,.int .i64 0,.int .u64 0,.int .u64 0,.int .u64 0,.int .u64 0,.slice none 0 0] 141)) rb S i false from l0);have S0:=Hd ((Only.refl (λk=>k=rb) w).alloc (.cells Zo 141));have q0:nb<(w.alloc (.cells Zo 141)).heap.size:=Zb b0;have a0:=Hd hnb;clear b0 l0 h
 go_enter Tryz.func154,Tryz.ntmps154
 go_wp2_with (first
  |(go_at_call 132;(with_reducible refine(r1.out _ N2.out).mono ?_);rintro e w1 ⟨rfl,h1,o1⟩;have g3:=Hd h1;have M0:=Hd (S0.out.then o1);have I1:=Hd ((o1.block nb q0 (by omega)).trans N0.out);have M1:=Zb I1.out;clear h1 o1)
  |(go_at_call 132;(with_reducible refine(j1.out _ g3.out).mono ?_);rintro e w2 ⟨rfl,h1,o1⟩;have v0:=Hd h1;have t1:=Hd (M0.out.then o1);have A0:=Hd ((o1.block nb M1 (by omega)).trans I1.out);have e2:=Zb A0.out;clear h1 o1)
  |(go_at_call 132;(with_reducible refine(S2.out _ v0.out).mono ?_);rintro e w3 ⟨rfl,h1,o1⟩;have C1:=Hd h1;have p1:=Hd (t1.out.then o1);have y0:=Hd ((o1.block nb e2 (by omega)).trans A0.out);have j3:=Zb y0.out;clear h1 o1)
  |(go_at_call 180;(with_reducible refine(j0.out _ C1.out).mono ?_);rintro e w4 hSS;obtain⟨o1,a,j,b,rfl,ha256,hij,hjs,h1,hor,-⟩:=ER hSS;have K0:=Hd h1;have I0:=Hd (p1.out.then o1);have m0:=Hd ((o1.block nb j3 (by omega)).trans y0.out);have y3:=Zb m0.out;have J2:=Hd hor;clear h1 o1 hor hSS)
  |(go_at_call 179;(with_reducible refine(J3.out _ a ha256).mono ?_);rintro e w5 ⟨q2,hq2,rfl,hb5⟩;have F1:=Hd (K0.out.below hb5);have H1:=Hd (I0.out.trans (Only.of_below hb5));have A1:=Hd ((hb5.block nb y3).trans m0.out);clear hb5)
  |(refine wpList_store_row rfl 141 (.tmp 2) (.tmp 30) ?_ nb (Zh (setA q2)) ?_ ?_ 141 Zo ?_ (Zj _) (by rw[Zi];rfl) (Zm _) ?_;(with_reducible rfl);rfl;rfl;exact A1.out)
  |fail)
 refine bodyPost_ret (results_cell_row rfl _ _ nb 141 (Zh (setA q2)) (0,0) _ rfl (setRow_heap _ _ _ _ _ _ A1.out) Tryz.underlying141 rfl (Zj _)) rfl ?_;refine XU a0.out e0 H1.out F1.out (Ju _ (by rw[hq2.out];exact Q4.with_ok Q4.none_ok ha256) _ _) (by rw[Xy];simp) hij hjs ?_;rw[hq2.out];rcases J2.out with⟨rfl,h⟩|⟨rfl,h⟩
 ·left;rw[show one V5 (rest S i)=_ from h,Yg];exact⟨rfl,rfl⟩
 ·right;rw[show one V5 (rest S i)=_ from h];exact⟨rfl,rfl⟩
end Go.Proofs.YtbchkjfnakabkaaGreatDoor
namespace Go.Proofs.YtbchkjfnakabkaaGreatDoor
open Go.RowKit PX
def Zhs:Option (Rx × List UInt8)->Option (Rx × List UInt8)
 |none=>none
 |some (x,r)=>if Zg 41 r then some (x,r.tail) else none
theorem Ex{X:RxA}{w w':World}{lo:Nat}(hin:X.In w w.heap.size)(hb:∀ c∈X.blocks,lo<=c/\c<w.heap.size)(hs:w.heap.size<=w'.heap.size)(hk:∀ c,lo<=c->c<w.heap.size->w'.heap[c]?=w.heap[c]?):X.In w' w'.heap.size:=
 hin.keep λc hc=>⟨by have:=(hb c hc).2;omega,λo=>World.cell?_of_block (w:=w) (hk c (hb c hc).1 (hb c hc).2)⟩
theorem Zbn(w:World)(rb:Nat)(S:ByteArray)(i:Nat)(h:RefAt w rb S i false)(hs:S.size<=1000)(hi:i<=S.size)(altf:List UInt8->Option (Rx × List UInt8))(h46:Zg 46 (rest S i)=false)(h91:Zg 91 (rest S i)=false)(h40:Zg 40 (rest S i)=true)
 (halt:∀ w1,RefAt w1 rb S (i+1) false->Calls Tryz.prog 104 #[.pointer (some ⟨rb,0,none⟩)] w1 λe w2=>XN rb S (i+1) w1 (altf (rest S (i+1))) e w2) :
 Calls Tryz.prog 154 #[.pointer (some ⟨rb,0,none⟩)] w λe w'=>XN rb S i w (XB altf (rest S i)) e w':=by
 have hB:XB altf (rest S i)=Zhs (altf (rest S (i+1))):=by
  unfold XB;rw[h46,h91,h40,ZA];simp only[Bool.false_eq_true,if_false,if_true];cases altf (rest S i).tail<;>rfl
 rw[hB];have r1:=Hd (λw1 (h1:RefAt w1 rb S i false)=>at_f w1 rb S i false 46 46 h1 hs rfl h46);have j1:=Hd (λw1 (h1:RefAt w1 rb S i false)=>at_f w1 rb S i false 91 91 h1 hs rfl h91);have S2:=Hd (λw1 (h1:RefAt w1 rb S i false)=>at_t w1 rb S i false 40 40 h1 hs rfl h40);have F2:=ZQ h40;have F3:=Hd halt
 obtain⟨O,hO⟩:∃ O,altf (rest S (i+1))=O:=⟨_,rfl⟩
 rw[hO]at F3 ⊢;clear h46 h91 h40 hB halt hO
 obtain⟨nb,hnb⟩:∃ nb,w.heap.size=nb:=⟨_,rfl⟩
 have e0:=Zb h;rw[hnb]at e0;have b0:(w.alloc (.cells Zo 141)).heap[nb]?=some (.cells Zo 141 (0,0)):=Zr _ _ _ hnb;have l0:RefAt (w.alloc (.cells Zo 141)) rb S i false:=Ze h _;have N0:=Hd b0;have N2:=Hd (show RefAt (w.alloc (.cells #[.int .i64 0,.int .i64 0,.int .i64 0,.int .u64 0,.int .u64 0,.int .u64 0,.int .u64 0,.slice none 0 0] 141)) rb S i false from l0);have S0:=Hd ((Only.refl (λk=>k=rb) w).alloc (.cells Zo 141));have q0:nb<(w.alloc (.cells Zo 141)).heap.size:=Zb b0;have a0:=Hd hnb;clear b0 l0 h
 go_enter Tryz.func154,Tryz.ntmps154
 go_upto_region 7 with(first
  |(go_at_call 132;(with_reducible refine(r1.out _ N2.out).mono ?_);rintro e w1 ⟨rfl,h1,o1⟩;have g3:=Hd h1;have M0:=Hd (S0.out.then o1);have I1:=Hd ((o1.block nb q0 (by omega)).trans N0.out);have M1:=Zb I1.out;clear h1 o1)
  |(go_at_call 132;(with_reducible refine(j1.out _ g3.out).mono ?_);rintro e w2 ⟨rfl,h1,o1⟩;have v0:=Hd h1;have t1:=Hd (M0.out.then o1);have A0:=Hd ((o1.block nb M1 (by omega)).trans I1.out);have e2:=Zb A0.out;clear h1 o1)
  |(go_at_call 132;(with_reducible refine(S2.out _ v0.out).mono ?_);rintro e w3 ⟨rfl,h1,o1⟩;have C1:=Hd h1;have p1:=Hd (t1.out.then o1);have y0:=Hd ((o1.block nb e2 (by omega)).trans A0.out);have j3:=Zb y0.out;clear h1 o1)
  |(go_at_call 104;(with_reducible refine(F3.out _ C1.out).mono ?_);rintro e w4 ⟨o1,X,j,b,rfl,hij,hjs,h1,hin,hbl,hor⟩;have K0:=Hd h1;have I0:=Hd (p1.out.then o1);have m0:=Hd ((o1.block nb j3 (by omega)).trans y0.out);have y3:=Zb m0.out;have hs34:=o1.size;have O0:=Hd hin;have p0:=Hd hbl;have J2:=Hd hor;clear h1 o1 hin hbl hor)
  |(refine wpList_store_row rfl 141 (.tmp 3) (.tmp 18) ?_ w4.heap.size (Zh X) ?_ ?_ 141 Zo ?_ (Zj _) (by rw[Zi];rfl) (Zm _) ?_;(with_reducible rfl);rfl;rfl;exact Zd _ _)
  |fail)
 obtain⟨eb,heb⟩:∃ eb,w4.heap.size=eb:=⟨_,rfl⟩
 obtain⟨W5,hW5⟩:∃ W5,(w4.alloc (.cells Zo 141)).setRow eb (Zh X)=W5:=⟨_,rfl⟩
 have J4:W5.heap[eb]?=some (.cells (Zh X) 141 (0,0)):=by rw[<-hW5];exact setRow_heap _ _ _ _ _ _ (Zr _ _ _ heb)
 have F4:nb<eb:=by omega
 have O2:∀ c o,c<eb->w4.heap[c]?=some o->W5.heap[c]?=some o:=λc o hc h=>by rw[<-hW5];exact(setRow_other _ _ _ _ (by omega)).trans (Ze h _)
 have K2:∀ c,c<eb->W5.heap[c]?=w4.heap[c]?:=λc hc=>by rw[<-hW5];exact(setRow_other _ _ _ _ (by omega)).trans (Below.heap_alloc _ _ _ (by omega))
 have hsz5:W5.heap.size=eb+1:=by rw[<-hW5,size_setRow];simp[heb]
 have F1:=Hd (show RefAt W5 rb S j b from O2 _ _ (by omega) K0.out);have A1:=Hd (O2 _ _ F4 m0.out);have H2:=Hd J4;have M2:=Hd K2;have H1:=Hd (show Only (λk=>k=rb) w W5 by rw[<-hW5];exact(I0.out.alloc _).setRow (q:=eb) (.inr (by have:=I0.out.size;omega)) _);have H4:=Hd heb;rw[heb];rw[show(w4.alloc (.cells #[.int .i64 0,.int .i64 0,.int .i64 0,.int .u64 0,.int .u64 0,.int .u64 0,.int .u64 0,.slice none 0 0] 141)).setRow eb (Zh X)=W5 from hW5];clear O2 K2 J4 hW5 heb
 cases h41:Zg 41 (rest S j) with
 |true=>
  have c3:=Hd (λw1 (h1:RefAt w1 rb S j b)=>at_t w1 rb S j b 41 41 h1 hs rfl h41);have O3:=Hd h41;clear h41
  go_wp2_with (first
   |(go_at_call 132;(with_reducible refine(c3.out _ F1.out).mono ?_);rintro e w6 ⟨rfl,h1,o1⟩;have d3:=Hd h1;have W2:=Hd (H1.out.then o1);have P1:=Hd ((o1.block nb (by omega) (by omega)).trans A1.out);have m3:=Hd ((o1.block eb (by omega) (by omega)).trans H2.out);have H3:=Hd (λc (h0:rb<c) (hc:c<eb)=>(o1.block c (by omega) (by omega)).trans (M2.out c hc));have l5:=o1.size;obtain⟨c0,c1,c2,z1,z2⟩:=h1.cells;clear h1 o1)
   |(refine wpList_load_row rfl 141 (.tmp 3) ?_ eb ?_ 141 (Zh X) (0,0) _ ?_ Tryz.underlying141 rfl (Zj _) ?_;(with_reducible rfl);rfl;exact m3.out)
   |(refine wpList_store_row rfl 141 (.tmp 2) (.tmp 25) ?_ nb (Zh X) ?_ ?_ 141 Zo ?_ (Zj _) (by rw[Zi];rfl) (Zm _) ?_;(with_reducible rfl);rfl;rfl;exact P1.out)
   |fail)
  refine bodyPost_ret (results_cell_row rfl _ _ nb 141 (Zh X) (0,0) _ rfl (setRow_heap _ _ _ _ _ _ (P1.out)) Tryz.underlying141 rfl (Zj _)) rfl ?_;have e4:=H4.out;refine XU a0.out e0 (W2.out) (d3.out) (Ex O0.out p0.out (by first|omega|(simp;omega)) λc hc1 hc2=>H3.out c (by omega) (by omega)) (λc hc=>⟨by have:=(p0.out c hc).1;omega,by have:=(p0.out c hc).2;first|omega|(simp;omega)⟩) (by omega) (by have:=ZQ O3.out;omega) ?_;rcases J2.out with⟨rfl,h⟩|⟨rfl,h⟩
  ·left;rw[h];exact⟨rfl,by simp[Zhs,O3.out,ZA]⟩
  ·right;rw[h];exact⟨rfl,rfl⟩
 |false=>
  have c3:=Hd (λw1 (h1:RefAt w1 rb S j b)=>at_f w1 rb S j b 41 41 h1 hs rfl h41);have O3:=Hd h41;clear h41
  go_wp2_with (first
   |(go_at_call 132;(with_reducible refine(c3.out _ F1.out).mono ?_);rintro e w6 ⟨rfl,h1,o1⟩;have d3:=Hd h1;have W2:=Hd (H1.out.then o1);have P1:=Hd ((o1.block nb (by omega) (by omega)).trans A1.out);have m3:=Hd ((o1.block eb (by omega) (by omega)).trans H2.out);have H3:=Hd (λc (h0:rb<c) (hc:c<eb)=>(o1.block c (by omega) (by omega)).trans (M2.out c hc));have l5:=o1.size;obtain⟨c0,c1,c2,z1,z2⟩:=h1.cells;clear h1 o1)
   |(refine wpList_load_row rfl 141 (.tmp 3) ?_ eb ?_ 141 (Zh X) (0,0) _ ?_ Tryz.underlying141 rfl (Zj _) ?_;(with_reducible rfl);rfl;exact(Below.heap_setCell _ _ _ _ (by show eb≠rb;omega)).trans m3.out)
   |(refine wpList_store_row rfl 141 (.tmp 2) (.tmp 25) ?_ nb (Zh X) ?_ ?_ 141 Zo ?_ (Zj _) (by rw[Zi];rfl) (Zm _) ?_;(with_reducible rfl);rfl;rfl;exact(Below.heap_setCell _ _ _ _ (by show nb≠rb;omega)).trans P1.out)
   |fail)
  refine bodyPost_ret (results_cell_row rfl _ _ nb 141 (Zh X) (0,0) _ rfl (setRow_heap _ _ _ _ _ _ ((Below.heap_setCell _ _ _ _ (by show nb≠rb;omega)).trans P1.out)) Tryz.underlying141 rfl (Zj _)) rfl ?_;have e4:=H4.out;refine XU a0.out e0 (W2.out.setCell (p:=⟨rb,2,none⟩) (.inl rfl) _) (d3.out.wrong) (Ex O0.out p0.out (by first|omega|(simp;omega)) λc hc1 hc2=>(Below.heap_setCell _ _ _ _ (by show c≠rb;omega)).trans (H3.out c (by omega) (by omega))) (λc hc=>⟨by have:=(p0.out c hc).1;omega,by have:=(p0.out c hc).2;first|omega|(simp;omega)⟩) (by omega) hjs ?_;rcases J2.out with⟨rfl,h⟩|⟨rfl,h⟩
  ·right;rw[h];exact⟨rfl,by simp[Zhs,O3.out]⟩
  ·right;rw[h];exact⟨rfl,rfl⟩
end Go.Proofs.YtbchkjfnakabkaaGreatDoor
namespace Go.Proofs.YtbchkjfnakabkaaGreatDoor
open Go.RowKit PX
theorem Qf{rb nb j:Nat}{S:ByteArray}{B:Bool}{w w1:World}{O:Obj}(h1:RefAt w1 rb S j B)(hn:w1.heap[nb]?=some O)(HO:Hid (Only (λk=>k=rb) w w1))(CS:Obj) :
 Hid (RefAt (w1.alloc CS) rb S j B)/\Hid ((w1.alloc CS).heap[nb]?=some O)/\Hid ((w1.alloc CS).heap[w1.heap.size]?=some CS)/\Hid (Only (λk=>k=rb) w (w1.alloc CS))/\w1.heap.size<(w1.alloc CS).heap.size/\Hid (∀c,c<w1.heap.size->(w1.alloc CS).heap[c]?=w1.heap[c]?):=
 ⟨Ze h1 _,Ze hn CS,Zd w1 CS,HO.out.alloc CS,Zb (Zd w1 CS),λc hc=>Below.heap_alloc w1 CS c hc⟩
theorem EY(w:World)(rb:Nat)(S:ByteArray)(i:Nat)(h:RefAt w rb S i false)(hs:S.size<=1000)(hi:i<=S.size)(altf:List UInt8->Option (Rx × List UInt8))
 (halt:Zg 40 (rest S i)=true->∀ w1,RefAt w1 rb S (i+1) false->Calls Tryz.prog 104 #[.pointer (some ⟨rb,0,none⟩)] w1 λe w2=>XN rb S (i+1) w1 (altf (rest S (i+1))) e w2) :
 Calls Tryz.prog 154 #[.pointer (some ⟨rb,0,none⟩)] w λe w'=>XN rb S i w (XB altf (rest S i)) e w':=by
 cases h46:Zg 46 (rest S i) with
 |true=>exact Zdi w rb S i h hs hi altf h46
 |false=>
  cases h91:Zg 91 (rest S i) with
  |true=>exact D4 w rb S i h hs hi altf h46 h91
  |false=>
   cases h40:Zg 40 (rest S i) with
   |true=>exact Zbn w rb S i h hs hi altf h46 h91 h40 (halt h40)
   |false=>exact Zdh w rb S i h hs hi altf h46 h91 h40
def Zjb(bad:Bool)(x:Rx)(X:RxA)(S:ByteArray)(j:Nat)(r:List UInt8):Prop:=bad=false->x=X.bare/\rest S j=r
def Yd(rb:Nat)(S:ByteArray)(i:Nat)(bad:Bool)(x:Rx)(r:List UInt8):Prop:=∀ w1,RefAt w1 rb S i false->Calls Tryz.prog 154 #[.pointer (some ⟨rb,0,none⟩)] w1 λe w2=>
 ∃ k mn mx s0 s1 s2 s3 a cap l j,Zjb bad x (RxA.node k mn mx s0 s1 s2 s3 a cap l) S j r/\e=.returned (.agg #[.int .i64 k,.int .i64 mn,.int .i64 mx,.int .u64 s0,.int .u64 s1,.int .u64 s2,.int .u64 s3,.slice a l.length cap])/\i<=j/\j<=S.size/\RefAt w2 rb S j bad/\Only (λk=>k=rb) w1 w2/\(RxA.node k mn mx s0 s1 s2 s3 a cap l).In w2 w2.heap.size/\∀ b∈(RxA.node k mn mx s0 s1 s2 s3 a cap l).blocks,w1.heap.size<=b/\b<w2.heap.size
theorem Dy{rb:Nat}{S:ByteArray}{i:Nat}{x:Rx}{r:List UInt8}(h:∀ w1,RefAt w1 rb S i false->Calls Tryz.prog 154 #[.pointer (some ⟨rb,0,none⟩)] w1 λe w2=>XN rb S i w1 (some (x,r)) e w2):Yd rb S i false x r:=by
 intro w1 h1;refine(h w1 h1).mono ?_;rintro e w2 ⟨o1,X,j,b,he,hij,hjs,hr,hin,hbl,⟨rfl,hO⟩|⟨-, hO⟩⟩
 ·obtain⟨k,mn,mx,s0,s1,s2,s3,a,cap,l⟩:=X;simp only[Option.some.injEq,Prod.mk.injEq]at hO;exact⟨k,mn,mx,s0,s1,s2,s3,a,cap,l,j,λ_=>⟨hO.1,hO.2.symm⟩,he,hij,hjs,hr,o1,hin,hbl⟩
 ·cases hO
theorem QZ{rb:Nat}{S:ByteArray}{i:Nat}(x:Rx)(r:List UInt8)(h:∀ w1,RefAt w1 rb S i false->Calls Tryz.prog 154 #[.pointer (some ⟨rb,0,none⟩)] w1 λe w2=>XN rb S i w1 none e w2):Yd rb S i true x r:=by
 intro w1 h1;refine(h w1 h1).mono ?_;rintro e w2 ⟨o1,X,j,b,he,hij,hjs,hr,hin,hbl,⟨-, hO⟩|⟨rfl,hO⟩⟩
 ·cases hO
 ·obtain⟨k,mn,mx,s0,s1,s2,s3,a,cap,l⟩:=X;exact⟨k,mn,mx,s0,s1,s2,s3,a,cap,l,j,(λh=>by cases h),he,hij,hjs,hr,o1,hin,hbl⟩
theorem Zfv{w:World}{m n:Int}{hb:Nat}{X:RxA}(hm:-1<=m/\m<=99)(hn:-1<=n/\n<=99)(hX:X.In w w.heap.size)(hh:w.heap[hb]?=some (.cells (Zh X) 141 (0,0))):(repA m n hb X).In w w.heap.size:=by
 have E1:=Zb hh;simp only[repA,RxA.In];refine⟨⟨⟨by omega,by omega⟩,⟨by omega,by omega⟩,⟨by omega,by omega⟩,⟨by omega,by omega⟩,⟨by omega,by omega⟩,⟨by omega,by omega⟩,⟨by omega,by omega⟩⟩,by simp,by unfold maxLen;omega,by simp,.inr ⟨hb,0,rfl,E1,?_⟩⟩;simp only[InL,and_true];refine⟨λj hj=>?_,hX⟩;rw[Za hh];simp[Zh]
theorem Vl{w w1 wz:World}{rb nb i j:Nat}{S:ByteArray}{b:Bool}{X:RxA}{m n:Int}{O:Option (Rx × List UInt8)}(hw:w.heap.size=nb)(e0:rb<nb)(ho:Only (λk=>k=rb) w wz)(hr:RefAt wz rb S j b)(hin:X.In w1 w1.heap.size)
 (hbl:∀ c∈X.blocks,nb<c/\c<w1.heap.size) (hs:w1.heap.size<=wz.heap.size) (hk:∀ c,nb<c->c<w1.heap.size->wz.heap[c]?=w1.heap[c]?) (hm:-1<=m/\m<=99) (hn:-1<=n/\n<=99) (hij:i<=j) (hjs:j<=S.size) (hnb:nb<wz.heap.size)
 (hor:(b=false/\O=some (.rep m n X.bare,rest S j))\/(b=true/\O=none)) :
 XN rb S i w O (.returned (.agg (Zh (repA m n wz.heap.size X)))) ((wz.alloc (.cells (Zh X) 141)).setRow nb (Zh (repA m n wz.heap.size X))):=by
 have l4:X.In (wz.alloc (.cells (Zh X) 141)) (wz.alloc (.cells (Zh X) 141)).heap.size:=
  hin.keep λc hc=>⟨by have:=(hbl c hc).2;simp;omega,λo=>World.cell?_of_block (w:=w1) ((Below.heap_alloc _ _ _ (by have:=(hbl c hc).2;show c<wz.heap.size;omega)).trans (hk c (hbl c hc).1 (hbl c hc).2))⟩
 refine XU hw e0 (ho.alloc _) (show RefAt _ rb S j b from Ze hr _) (Zfv hm hn l4 (Zd wz _)) (λc hc=>?_) hij hjs (by rw[YT];exact hor);rcases X7 _ _ _ _ c hc with rfl|hc
 ·exact⟨hnb,by simp⟩
 ·have:=hbl c hc;exact⟨this.1,by simp;omega⟩
theorem Zbj(w:World)(rb:Nat)(S:ByteArray)(i:Nat)(h:RefAt w rb S i false)(hs:S.size<=1000)(x:Rx)(r:List UInt8)(hatom:Yd rb S i true x r) :
 Calls Tryz.prog 130 #[.pointer (some ⟨rb,0,none⟩)] w λe w'=>XN rb S i w none e w':=by
 obtain⟨nb,hnb⟩:∃ nb,w.heap.size=nb:=⟨_,rfl⟩
 have e0:=Zb h;rw[hnb]at e0;have b0:(w.alloc (.cells Zo 141)).heap[nb]?=some (.cells Zo 141 (0,0)):=Zr _ _ _ hnb;have l0:RefAt (w.alloc (.cells Zo 141)) rb S i false:=Ze h _;have N0:=Hd b0;have S0:=Hd ((Only.refl (λk=>k=rb) w).alloc (.cells Zo 141));have q0:nb<(w.alloc (.cells Zo 141)).heap.size:=Zb b0;have g2:nb<(w.alloc (.cells #[.int .i64 0,.int .i64 0,.int .i64 0,.int .u64 0,.int .u64 0,.int .u64 0,.int .u64 0,.slice none 0 0] 141)).heap.size:=q0;have k0:=Hd (hatom (w.alloc (.cells #[.int .i64 0,.int .i64 0,.int .i64 0,.int .u64 0,.int .u64 0,.int .u64 0,.int .u64 0,.slice none 0 0] 141)) l0);have a0:=Hd hnb;clear b0 l0 h hatom
 go_enter Tryz.func130,Tryz.ntmps130
 go_wp2_with (first
  |(go_at_call 154;(with_reducible refine k0.out.mono ?_);rintro e w1 ⟨k,mn,mx,s0,s1,s2,s3,a,cap,l,j,hX,rfl,hij,hjs,h1,o1,hin,hbl⟩;have HX:=Hd hX;have M0:=Hd (S0.out.then o1);have n0:=(o1.block nb q0 (by omega)).trans N0.out;have M1:=Zb n0;have O0:=Hd hin;have p0:=Hd hbl;have j2:=o1.size;obtain⟨v0,A0,HE2,t1,e2,HK2⟩:=Qf h1 n0 M0 (.cells #[.int .i64 k,.int .i64 mn,.int .i64 mx,.int .u64 s0,.int .u64 s1,.int .u64 s2,.int .u64 s3,.slice a l.length cap] 141);obtain⟨c0,c1,c2,z1,z2⟩:=v0.out.cells;clear hX h1 o1 n0 hin hbl)
  |(refine wpList_load_row rfl 141 (.tmp 3) ?_ w1.heap.size ?_ 141 #[.int .i64 k,.int .i64 mn,.int .i64 mx,.int .u64 s0,.int .u64 s1,.int .u64 s2,.int .u64 s3,.slice a l.length cap] (0,0) _ ?_ Tryz.underlying141 rfl ZH ?_;(with_reducible rfl);rfl;exact HE2.out)
  |(refine wpList_store_row rfl 141 (.tmp 2) (.tmp 14) ?_ nb #[.int .i64 k,.int .i64 mn,.int .i64 mx,.int .u64 s0,.int .u64 s1,.int .u64 s2,.int .u64 s3,.slice a l.length cap] ?_ ?_ 141 Zo ?_ ZH (by rfl) (Zm (RxA.node k mn mx s0 s1 s2 s3 a cap l)) ?_;(with_reducible rfl);rfl;rfl;exact A0.out)
  |fail)
 refine bodyPost_ret (results_cell_row rfl _ _ nb 141 #[.int .i64 k,.int .i64 mn,.int .i64 mx,.int .u64 s0,.int .u64 s1,.int .u64 s2,.int .u64 s3,.slice a l.length cap] (0,0) _ rfl (setRow_heap _ _ _ _ _ _ A0.out) Tryz.underlying141 rfl ZH) rfl ?_;exact XU (X:=(RxA.node k mn mx s0 s1 s2 s3 a cap l)) a0.out e0 t1.out v0.out (Ex O0.out p0.out (by simp) λc hc1 hc2=>HK2.out c hc2) (λc hc=>⟨by have:=(p0.out c hc).1;omega,by have:=(p0.out c hc).2;omega⟩) hij hjs (.inr ⟨rfl,rfl⟩)
theorem DX(w:World)(rb:Nat)(S:ByteArray)(i:Nat)(h:RefAt w rb S i false)(hs:S.size<=1000)(x:Rx)(r:List UInt8)(hatom:Yd rb S i false x r)(h42:Zg 42 r=false)(h43:Zg 43 r=false)(h63:Zg 63 r=false)(h123:Zg 123 r=false) :
 Calls Tryz.prog 130 #[.pointer (some ⟨rb,0,none⟩)] w λe w'=>XN rb S i w (sign x r) e w':=by
 obtain⟨nb,hnb⟩:∃ nb,w.heap.size=nb:=⟨_,rfl⟩
 have e0:=Zb h;rw[hnb]at e0;have b0:(w.alloc (.cells Zo 141)).heap[nb]?=some (.cells Zo 141 (0,0)):=Zr _ _ _ hnb;have l0:RefAt (w.alloc (.cells Zo 141)) rb S i false:=Ze h _;have N0:=Hd b0;have S0:=Hd ((Only.refl (λk=>k=rb) w).alloc (.cells Zo 141));have q0:nb<(w.alloc (.cells Zo 141)).heap.size:=Zb b0;have g2:nb<(w.alloc (.cells #[.int .i64 0,.int .i64 0,.int .i64 0,.int .u64 0,.int .u64 0,.int .u64 0,.int .u64 0,.slice none 0 0] 141)).heap.size:=q0;have k0:=Hd (hatom (w.alloc (.cells #[.int .i64 0,.int .i64 0,.int .i64 0,.int .u64 0,.int .u64 0,.int .u64 0,.int .u64 0,.slice none 0 0] 141)) l0);have a0:=Hd hnb;have hS:sign x r=some (x,r):=by unfold sign;rw[h42,h43,h63,h123];rfl
 rw[hS];have o0:=Hd (λw1 j (h1:RefAt w1 rb S j false) (hj:rest S j=r)=>at_f w1 rb S j false 42 42 h1 hs rfl (by rw[hj];exact h42));have R0:=Hd (λw1 j (h1:RefAt w1 rb S j false) (hj:rest S j=r)=>at_f w1 rb S j false 43 43 h1 hs rfl (by rw[hj];exact h43));have R1:=Hd (λw1 j (h1:RefAt w1 rb S j false) (hj:rest S j=r)=>at_f w1 rb S j false 63 63 h1 hs rfl (by rw[hj];exact h63));have e3:=Hd (λw1 j (h1:RefAt w1 rb S j false) (hj:rest S j=r)=>at_f w1 rb S j false 123 123 h1 hs rfl (by rw[hj];exact h123));clear b0 l0 h hatom hS h42 h43 h63 h123
 go_enter Tryz.func130,Tryz.ntmps130
 go_wp2_with (first
  |(go_at_call 154;(with_reducible refine k0.out.mono ?_);rintro e w1 ⟨k,mn,mx,s0,s1,s2,s3,a,cap,l,j,hX,rfl,hij,hjs,h1,o1,hin,hbl⟩;have i3:=Hd (hX rfl).1;have HJ:=Hd (hX rfl).2;have M0:=Hd (S0.out.then o1);have n0:=(o1.block nb q0 (by omega)).trans N0.out;have M1:=Zb n0;have O0:=Hd hin;have p0:=Hd hbl;have j2:=o1.size;obtain⟨v0,A0,HE2,t1,e2,HK2⟩:=Qf h1 n0 M0 (.cells #[.int .i64 k,.int .i64 mn,.int .i64 mx,.int .u64 s0,.int .u64 s1,.int .u64 s2,.int .u64 s3,.slice a l.length cap] 141);obtain⟨c0,c1,c2,z1,z2⟩:=v0.out.cells;clear hX h1 o1 n0 hin hbl)
  |(go_at_call 132;(with_reducible refine(o0.out _ _ v0.out HJ.out).mono ?_);rintro e w3 ⟨rfl,h1,o1⟩;have C1:=Hd h1;have p1:=Hd (t1.out.then o1);have y0:=Hd ((o1.block nb (by omega) (by omega)).trans A0.out);have T1:=Hd ((o1.block w1.heap.size (by omega) (by omega)).trans HE2.out);have f3:=Hd (λc (hr:rb<c) (hc:c<w1.heap.size)=>(o1.block c (by omega) (by omega)).trans (HK2.out c hc));have j3:w1.heap.size<w3.heap.size:=Zb T1.out;clear h1 o1)
  |(go_at_call 132;(with_reducible refine(R0.out _ _ C1.out HJ.out).mono ?_);rintro e w4 ⟨rfl,h1,o1⟩;have K0:=Hd h1;have I0:=Hd (p1.out.then o1);have m0:=Hd ((o1.block nb (by omega) (by omega)).trans y0.out);have A2:=Hd ((o1.block w1.heap.size (by omega) (by omega)).trans T1.out);have v3:=Hd (λc (hr:rb<c) (hc:c<w1.heap.size)=>(o1.block c (by omega) (by omega)).trans (f3.out c hr hc));have y3:w1.heap.size<w4.heap.size:=Zb A2.out;clear h1 o1)
  |(go_at_call 132;(with_reducible refine(R1.out _ _ K0.out HJ.out).mono ?_);rintro e w5 ⟨rfl,h1,o1⟩;have F1:=Hd h1;have H1:=Hd (I0.out.then o1);have A1:=Hd ((o1.block nb (by omega) (by omega)).trans m0.out);have H2:=Hd ((o1.block w1.heap.size (by omega) (by omega)).trans A2.out);have f4:=Hd (λc (hr:rb<c) (hc:c<w1.heap.size)=>(o1.block c (by omega) (by omega)).trans (v3.out c hr hc));have m5:w1.heap.size<w5.heap.size:=Zb H2.out;clear h1 o1)
  |(go_at_call 132;(with_reducible refine(e3.out _ _ F1.out HJ.out).mono ?_);rintro e w6 ⟨rfl,h1,o1⟩;have d3:=Hd h1;have W2:=Hd (H1.out.then o1);have P1:=Hd ((o1.block nb (by omega) (by omega)).trans A1.out);have m3:=Hd ((o1.block w1.heap.size (by omega) (by omega)).trans H2.out);have H3:=Hd (λc (hr:rb<c) (hc:c<w1.heap.size)=>(o1.block c (by omega) (by omega)).trans (f4.out c hr hc));have hl6:w1.heap.size<w6.heap.size:=Zb m3.out;clear h1 o1)
  |(refine wpList_load_row rfl 141 (.tmp 3) ?_ w1.heap.size ?_ 141 #[.int .i64 k,.int .i64 mn,.int .i64 mx,.int .u64 s0,.int .u64 s1,.int .u64 s2,.int .u64 s3,.slice a l.length cap] (0,0) _ ?_ Tryz.underlying141 rfl ZH ?_;(with_reducible rfl);rfl;exact m3.out)
  |(refine wpList_store_row rfl 141 (.tmp 2) (.tmp 8) ?_ nb #[.int .i64 k,.int .i64 mn,.int .i64 mx,.int .u64 s0,.int .u64 s1,.int .u64 s2,.int .u64 s3,.slice a l.length cap] ?_ ?_ 141 Zo ?_ ZH (by rfl) (Zm (RxA.node k mn mx s0 s1 s2 s3 a cap l)) ?_;(with_reducible rfl);rfl;rfl;exact P1.out)
  |fail)
 refine bodyPost_ret (results_cell_row rfl _ _ nb 141 #[.int .i64 k,.int .i64 mn,.int .i64 mx,.int .u64 s0,.int .u64 s1,.int .u64 s2,.int .u64 s3,.slice a l.length cap] (0,0) _ rfl (setRow_heap _ _ _ _ _ _ P1.out) Tryz.underlying141 rfl ZH) rfl ?_;exact XU (X:=(RxA.node k mn mx s0 s1 s2 s3 a cap l)) a0.out e0 W2.out d3.out (Ex O0.out p0.out (by omega) λc hc1 hc2=>H3.out c (by omega) hc2) (λc hc=>⟨by have:=(p0.out c hc).1;omega,by have:=(p0.out c hc).2;omega⟩) hij hjs (.inl ⟨rfl,by rw[i3.out,HJ.out]⟩)
theorem DV(w:World)(rb:Nat)(S:ByteArray)(i:Nat)(h:RefAt w rb S i false)(hs:S.size<=1000)(x:Rx)(r:List UInt8)(hatom:Yd rb S i false x r)(h42:Zg 42 r=true) :
 Calls Tryz.prog 130 #[.pointer (some ⟨rb,0,none⟩)] w λe w'=>XN rb S i w (sign x r) e w':=by
 obtain⟨nb,hnb⟩:∃ nb,w.heap.size=nb:=⟨_,rfl⟩
 have e0:=Zb h;rw[hnb]at e0;have b0:(w.alloc (.cells Zo 141)).heap[nb]?=some (.cells Zo 141 (0,0)):=Zr _ _ _ hnb;have l0:RefAt (w.alloc (.cells Zo 141)) rb S i false:=Ze h _;have N0:=Hd b0;have S0:=Hd ((Only.refl (λk=>k=rb) w).alloc (.cells Zo 141));have q0:nb<(w.alloc (.cells Zo 141)).heap.size:=Zb b0;have g2:nb<(w.alloc (.cells #[.int .i64 0,.int .i64 0,.int .i64 0,.int .u64 0,.int .u64 0,.int .u64 0,.int .u64 0,.slice none 0 0] 141)).heap.size:=q0;have k0:=Hd (hatom (w.alloc (.cells #[.int .i64 0,.int .i64 0,.int .i64 0,.int .u64 0,.int .u64 0,.int .u64 0,.int .u64 0,.slice none 0 0] 141)) l0);have a0:=Hd hnb;have hS:sign x r=some (.rep 0 (-1) x,r.tail):=by unfold sign;rw[h42];rfl
 rw[hS];have o0:=Hd (λw1 j (h1:RefAt w1 rb S j false) (hj:rest S j=r)=>at_t w1 rb S j false 42 42 h1 hs rfl (by rw[hj];exact h42));have i5:=Hd h42;clear b0 l0 h hatom hS h42
 go_enter Tryz.func130,Tryz.ntmps130
 go_wp2_with (first
  |(go_at_call 154;(with_reducible refine k0.out.mono ?_);rintro e w1 ⟨k,mn,mx,s0,s1,s2,s3,a,cap,l,j,hX,rfl,hij,hjs,h1,o1,hin,hbl⟩;have i3:=Hd (hX rfl).1;have HJ:=Hd (hX rfl).2;have M0:=Hd (S0.out.then o1);have n0:=(o1.block nb q0 (by omega)).trans N0.out;have M1:=Zb n0;have O0:=Hd hin;have p0:=Hd hbl;have j2:=o1.size;obtain⟨v0,A0,HE2,t1,e2,HK2⟩:=Qf h1 n0 M0 (.cells #[.int .i64 k,.int .i64 mn,.int .i64 mx,.int .u64 s0,.int .u64 s1,.int .u64 s2,.int .u64 s3,.slice a l.length cap] 141);obtain⟨c0,c1,c2,z1,z2⟩:=v0.out.cells;clear hX h1 o1 n0 hin hbl)
  |(go_at_call 132;(with_reducible refine(o0.out _ _ v0.out HJ.out).mono ?_);rintro e w3 ⟨rfl,h1,o1⟩;have C1:=Hd h1;have p1:=Hd (t1.out.then o1);have y0:=Hd ((o1.block nb (by omega) (by omega)).trans A0.out);have T1:=Hd ((o1.block w1.heap.size (by omega) (by omega)).trans HE2.out);have f3:=Hd (λc (hr:rb<c) (hc:c<w1.heap.size)=>(o1.block c (by omega) (by omega)).trans (HK2.out c hc));have j3:w1.heap.size<w3.heap.size:=Zb T1.out;clear h1 o1)
  |(refine wpList_load_row rfl 141 (.tmp 3) ?_ w1.heap.size ?_ 141 #[.int .i64 k,.int .i64 mn,.int .i64 mx,.int .u64 s0,.int .u64 s1,.int .u64 s2,.int .u64 s3,.slice a l.length cap] (0,0) _ ?_ Tryz.underlying141 rfl ZH ?_;(with_reducible rfl);rfl;exact T1.out)
  |(refine wpList_store_row rfl 141 (.tmp 2) (.tmp 58) ?_ nb (Zh (repA 0 (-1) w3.heap.size (RxA.node k mn mx s0 s1 s2 s3 a cap l))) ?_ ?_ 141 Zo ?_ (Zj _) (by rw[Zi];rfl) (Zm _) ?_;(with_reducible rfl);rfl;rfl;exact Ze y0.out _)
  |fail)
 have n3:j+1<=S.size:=ZQ (c:=42) (by rw[HJ.out];exact i5.out);refine bodyPost_ret (results_cell_row rfl _ _ nb 141 (Zh (repA 0 (-1) w3.heap.size (RxA.node k mn mx s0 s1 s2 s3 a cap l))) (0,0) _ rfl (setRow_heap _ _ _ _ _ _ (Ze y0.out _)) Tryz.underlying141 rfl (Zj _)) rfl ?_;exact Vl (X:=(RxA.node k mn mx s0 s1 s2 s3 a cap l)) a0.out e0 p1.out C1.out O0.out (λc hc=>⟨by have:=(p0.out c hc).1;omega,(p0.out c hc).2⟩) (by omega) (λc hc1 hc2=>f3.out c (by omega) hc2) (by omega) (by omega) (by omega) n3 (by omega) (.inl ⟨rfl,by rw[i3.out,ZA,HJ.out]⟩)
theorem DW(w:World)(rb:Nat)(S:ByteArray)(i:Nat)(h:RefAt w rb S i false)(hs:S.size<=1000)(x:Rx)(r:List UInt8)(hatom:Yd rb S i false x r)(h42:Zg 42 r=false)(h43:Zg 43 r=true) :
 Calls Tryz.prog 130 #[.pointer (some ⟨rb,0,none⟩)] w λe w'=>XN rb S i w (sign x r) e w':=by
 obtain⟨nb,hnb⟩:∃ nb,w.heap.size=nb:=⟨_,rfl⟩
 have e0:=Zb h;rw[hnb]at e0;have b0:(w.alloc (.cells Zo 141)).heap[nb]?=some (.cells Zo 141 (0,0)):=Zr _ _ _ hnb;have l0:RefAt (w.alloc (.cells Zo 141)) rb S i false:=Ze h _;have N0:=Hd b0;have S0:=Hd ((Only.refl (λk=>k=rb) w).alloc (.cells Zo 141));have q0:nb<(w.alloc (.cells Zo 141)).heap.size:=Zb b0;have g2:nb<(w.alloc (.cells #[.int .i64 0,.int .i64 0,.int .i64 0,.int .u64 0,.int .u64 0,.int .u64 0,.int .u64 0,.slice none 0 0] 141)).heap.size:=q0;have k0:=Hd (hatom (w.alloc (.cells #[.int .i64 0,.int .i64 0,.int .i64 0,.int .u64 0,.int .u64 0,.int .u64 0,.int .u64 0,.slice none 0 0] 141)) l0);have a0:=Hd hnb;have hS:sign x r=some (.rep 1 (-1) x,r.tail):=by unfold sign;rw[h42,h43];rfl
 rw[hS];have o0:=Hd (λw1 j (h1:RefAt w1 rb S j false) (hj:rest S j=r)=>at_f w1 rb S j false 42 42 h1 hs rfl (by rw[hj];exact h42));have R0:=Hd (λw1 j (h1:RefAt w1 rb S j false) (hj:rest S j=r)=>at_t w1 rb S j false 43 43 h1 hs rfl (by rw[hj];exact h43));have A5:=Hd h43;clear b0 l0 h hatom hS h42 h43
 go_enter Tryz.func130,Tryz.ntmps130
 go_wp2_with (first
  |(go_at_call 154;(with_reducible refine k0.out.mono ?_);rintro e w1 ⟨k,mn,mx,s0,s1,s2,s3,a,cap,l,j,hX,rfl,hij,hjs,h1,o1,hin,hbl⟩;have i3:=Hd (hX rfl).1;have HJ:=Hd (hX rfl).2;have M0:=Hd (S0.out.then o1);have n0:=(o1.block nb q0 (by omega)).trans N0.out;have M1:=Zb n0;have O0:=Hd hin;have p0:=Hd hbl;have j2:=o1.size;obtain⟨v0,A0,HE2,t1,e2,HK2⟩:=Qf h1 n0 M0 (.cells #[.int .i64 k,.int .i64 mn,.int .i64 mx,.int .u64 s0,.int .u64 s1,.int .u64 s2,.int .u64 s3,.slice a l.length cap] 141);obtain⟨c0,c1,c2,z1,z2⟩:=v0.out.cells;clear hX h1 o1 n0 hin hbl)
  |(go_at_call 132;(with_reducible refine(o0.out _ _ v0.out HJ.out).mono ?_);rintro e w3 ⟨rfl,h1,o1⟩;have C1:=Hd h1;have p1:=Hd (t1.out.then o1);have y0:=Hd ((o1.block nb (by omega) (by omega)).trans A0.out);have T1:=Hd ((o1.block w1.heap.size (by omega) (by omega)).trans HE2.out);have f3:=Hd (λc (hr:rb<c) (hc:c<w1.heap.size)=>(o1.block c (by omega) (by omega)).trans (HK2.out c hc));have j3:w1.heap.size<w3.heap.size:=Zb T1.out;clear h1 o1)
  |(go_at_call 132;(with_reducible refine(R0.out _ _ C1.out HJ.out).mono ?_);rintro e w4 ⟨rfl,h1,o1⟩;have K0:=Hd h1;have I0:=Hd (p1.out.then o1);have m0:=Hd ((o1.block nb (by omega) (by omega)).trans y0.out);have A2:=Hd ((o1.block w1.heap.size (by omega) (by omega)).trans T1.out);have v3:=Hd (λc (hr:rb<c) (hc:c<w1.heap.size)=>(o1.block c (by omega) (by omega)).trans (f3.out c hr hc));have y3:w1.heap.size<w4.heap.size:=Zb A2.out;clear h1 o1)
  |(refine wpList_load_row rfl 141 (.tmp 3) ?_ w1.heap.size ?_ 141 #[.int .i64 k,.int .i64 mn,.int .i64 mx,.int .u64 s0,.int .u64 s1,.int .u64 s2,.int .u64 s3,.slice a l.length cap] (0,0) _ ?_ Tryz.underlying141 rfl ZH ?_;(with_reducible rfl);rfl;exact A2.out)
  |(refine wpList_store_row rfl 141 (.tmp 2) (.tmp 58) ?_ nb (Zh (repA 1 (-1) w4.heap.size (RxA.node k mn mx s0 s1 s2 s3 a cap l))) ?_ ?_ 141 Zo ?_ (Zj _) (by rw[Zi];rfl) (Zm _) ?_;(with_reducible rfl);rfl;rfl;exact Ze m0.out _)
  |fail)
 have n3:j+1<=S.size:=ZQ (c:=43) (by rw[HJ.out];exact A5.out);refine bodyPost_ret (results_cell_row rfl _ _ nb 141 (Zh (repA 1 (-1) w4.heap.size (RxA.node k mn mx s0 s1 s2 s3 a cap l))) (0,0) _ rfl (setRow_heap _ _ _ _ _ _ (Ze m0.out _)) Tryz.underlying141 rfl (Zj _)) rfl ?_;exact Vl (X:=(RxA.node k mn mx s0 s1 s2 s3 a cap l)) a0.out e0 I0.out K0.out O0.out (λc hc=>⟨by have:=(p0.out c hc).1;omega,(p0.out c hc).2⟩) (by omega) (λc hc1 hc2=>v3.out c (by omega) hc2) (by omega) (by omega) (by omega) n3 (by omega) (.inl ⟨rfl,by rw[i3.out,ZA,HJ.out]⟩)
theorem Zbi(w:World)(rb:Nat)(S:ByteArray)(i:Nat)(h:RefAt w rb S i false)(hs:S.size<=1000)(x:Rx)(r:List UInt8)(hatom:Yd rb S i false x r)(h42:Zg 42 r=false)(h43:Zg 43 r=false)(h63:Zg 63 r=true) :
 Calls Tryz.prog 130 #[.pointer (some ⟨rb,0,none⟩)] w λe w'=>XN rb S i w (sign x r) e w':=by
 obtain⟨nb,hnb⟩:∃ nb,w.heap.size=nb:=⟨_,rfl⟩
 have e0:=Zb h;rw[hnb]at e0;have b0:(w.alloc (.cells Zo 141)).heap[nb]?=some (.cells Zo 141 (0,0)):=Zr _ _ _ hnb;have l0:RefAt (w.alloc (.cells Zo 141)) rb S i false:=Ze h _;have N0:=Hd b0;have S0:=Hd ((Only.refl (λk=>k=rb) w).alloc (.cells Zo 141));have q0:nb<(w.alloc (.cells Zo 141)).heap.size:=Zb b0;have g2:nb<(w.alloc (.cells #[.int .i64 0,.int .i64 0,.int .i64 0,.int .u64 0,.int .u64 0,.int .u64 0,.int .u64 0,.slice none 0 0] 141)).heap.size:=q0;have k0:=Hd (hatom (w.alloc (.cells #[.int .i64 0,.int .i64 0,.int .i64 0,.int .u64 0,.int .u64 0,.int .u64 0,.int .u64 0,.slice none 0 0] 141)) l0);have a0:=Hd hnb;have hS:sign x r=some (.rep 0 1 x,r.tail):=by unfold sign;rw[h42,h43,h63];rfl
 rw[hS];have o0:=Hd (λw1 j (h1:RefAt w1 rb S j false) (hj:rest S j=r)=>at_f w1 rb S j false 42 42 h1 hs rfl (by rw[hj];exact h42));have R0:=Hd (λw1 j (h1:RefAt w1 rb S j false) (hj:rest S j=r)=>at_f w1 rb S j false 43 43 h1 hs rfl (by rw[hj];exact h43));have R1:=Hd (λw1 j (h1:RefAt w1 rb S j false) (hj:rest S j=r)=>at_t w1 rb S j false 63 63 h1 hs rfl (by rw[hj];exact h63));have t5:=Hd h63;clear b0 l0 h hatom hS h42 h43 h63
 go_enter Tryz.func130,Tryz.ntmps130
 go_wp2_with (first
  |(go_at_call 154;(with_reducible refine k0.out.mono ?_);rintro e w1 ⟨k,mn,mx,s0,s1,s2,s3,a,cap,l,j,hX,rfl,hij,hjs,h1,o1,hin,hbl⟩;have i3:=Hd (hX rfl).1;have HJ:=Hd (hX rfl).2;have M0:=Hd (S0.out.then o1);have n0:=(o1.block nb q0 (by omega)).trans N0.out;have M1:=Zb n0;have O0:=Hd hin;have p0:=Hd hbl;have j2:=o1.size;obtain⟨v0,A0,HE2,t1,e2,HK2⟩:=Qf h1 n0 M0 (.cells #[.int .i64 k,.int .i64 mn,.int .i64 mx,.int .u64 s0,.int .u64 s1,.int .u64 s2,.int .u64 s3,.slice a l.length cap] 141);obtain⟨c0,c1,c2,z1,z2⟩:=v0.out.cells;clear hX h1 o1 n0 hin hbl)
  |(go_at_call 132;(with_reducible refine(o0.out _ _ v0.out HJ.out).mono ?_);rintro e w3 ⟨rfl,h1,o1⟩;have C1:=Hd h1;have p1:=Hd (t1.out.then o1);have y0:=Hd ((o1.block nb (by omega) (by omega)).trans A0.out);have T1:=Hd ((o1.block w1.heap.size (by omega) (by omega)).trans HE2.out);have f3:=Hd (λc (hr:rb<c) (hc:c<w1.heap.size)=>(o1.block c (by omega) (by omega)).trans (HK2.out c hc));have j3:w1.heap.size<w3.heap.size:=Zb T1.out;clear h1 o1)
  |(go_at_call 132;(with_reducible refine(R0.out _ _ C1.out HJ.out).mono ?_);rintro e w4 ⟨rfl,h1,o1⟩;have K0:=Hd h1;have I0:=Hd (p1.out.then o1);have m0:=Hd ((o1.block nb (by omega) (by omega)).trans y0.out);have A2:=Hd ((o1.block w1.heap.size (by omega) (by omega)).trans T1.out);have v3:=Hd (λc (hr:rb<c) (hc:c<w1.heap.size)=>(o1.block c (by omega) (by omega)).trans (f3.out c hr hc));have y3:w1.heap.size<w4.heap.size:=Zb A2.out;clear h1 o1)
  |(go_at_call 132;(with_reducible refine(R1.out _ _ K0.out HJ.out).mono ?_);rintro e w5 ⟨rfl,h1,o1⟩;have F1:=Hd h1;have H1:=Hd (I0.out.then o1);have A1:=Hd ((o1.block nb (by omega) (by omega)).trans m0.out);have H2:=Hd ((o1.block w1.heap.size (by omega) (by omega)).trans A2.out);have f4:=Hd (λc (hr:rb<c) (hc:c<w1.heap.size)=>(o1.block c (by omega) (by omega)).trans (v3.out c hr hc));have m5:w1.heap.size<w5.heap.size:=Zb H2.out;clear h1 o1)
  |(refine wpList_load_row rfl 141 (.tmp 3) ?_ w1.heap.size ?_ 141 #[.int .i64 k,.int .i64 mn,.int .i64 mx,.int .u64 s0,.int .u64 s1,.int .u64 s2,.int .u64 s3,.slice a l.length cap] (0,0) _ ?_ Tryz.underlying141 rfl ZH ?_;(with_reducible rfl);rfl;exact H2.out)
  |(refine wpList_store_row rfl 141 (.tmp 2) (.tmp 58) ?_ nb (Zh (repA 0 1 w5.heap.size (RxA.node k mn mx s0 s1 s2 s3 a cap l))) ?_ ?_ 141 Zo ?_ (Zj _) (by rw[Zi];rfl) (Zm _) ?_;(with_reducible rfl);rfl;rfl;exact Ze A1.out _)
  |fail)
 have n3:j+1<=S.size:=ZQ (c:=63) (by rw[HJ.out];exact t5.out);refine bodyPost_ret (results_cell_row rfl _ _ nb 141 (Zh (repA 0 1 w5.heap.size (RxA.node k mn mx s0 s1 s2 s3 a cap l))) (0,0) _ rfl (setRow_heap _ _ _ _ _ _ (Ze A1.out _)) Tryz.underlying141 rfl (Zj _)) rfl ?_;exact Vl (X:=(RxA.node k mn mx s0 s1 s2 s3 a cap l)) a0.out e0 H1.out F1.out O0.out (λc hc=>⟨by have:=(p0.out c hc).1;omega,(p0.out c hc).2⟩) (by omega) (λc hc1 hc2=>f4.out c (by omega) hc2) (by omega) (by omega) (by omega) n3 (by omega) (.inl ⟨rfl,by rw[i3.out,ZA,HJ.out]⟩)
