import Derived.Test.YtbchkjfnakabkaaGreatDoorQa
import Derived.Test.YtbchkjfnakabkaaGreatDoorR23
set_option linter.unusedSimpArgs false
set_option linter.unusedVariables false
set_option maxHeartbeats 4000000
set_option maxRecDepth 100000
namespace Go.Proofs.YtbchkjfnakabkaaGreatDoor
open Go.RowKit PX
theorem ZdJ{but:List UInt8}{s:List UInt8}:one but (92::s)=VQ s:=by
 unfold VQ;simp only[one,if_true]
theorem QM{but:List UInt8}{c:UInt8}{s:List UInt8}(h:c≠92)(hb:c∈but):one but (c::s)=none:=by simp[one,h,hb]
theorem WS{but:List UInt8}{c:UInt8}{s:List UInt8}(h:c≠92)(hb:c∉but):one but (c::s)=some (c.toNat,s):=by simp[one,h,hb]
theorem QH(w:World)(rb:Nat)(S:ByteArray)(i:Nat)(but:ByteArray)(h:RefAt w rb S i false)(hs:S.size<=1000)(hi:i<=S.size)(hbs:but.size<=1000) :
 Calls Tryz.prog 180 #[.pointer (some ⟨rb,0,none⟩),.string but] w λe w'=>Says rb S i w (one but.data.toList (rest S i)) (λn=>.int .i64 (n:Nat)) (λv=>v=.int .i64 0) e w':=by
 cases hr:rest S i with
 |nil=>
  have f3:S.size<=i:=by have:=ZR S i;rw[hr]at this;simp at this;omega
  have b1:=Hd (Zg6 w rb S i false 92 h f3);obtain⟨h0,h1,h2,h3,h4⟩:=h.cells;have hd:decide (S.size<=i)=true:=by simp;omega
  have H:=Hd h;have HI:=Hd hi;clear h hr f3 hi hs
  go_enter Tryz.func180,Tryz.ntmps180
  go_wp2_with (go_at_call 132;(with_reducible refine b1.out.mono ?_);rintro e w1 ⟨rfl,n,rfl⟩)
  go_quiet (fail)
  go_wp2_with fail
  go_ret
  exact⟨((Only.refl (λk=>k=rb) w).drewN _).setCell (.inl rfl) _,_,i,rfl,Nat.le_refl _,HI.out,.inr ⟨rfl,rfl,(H.out.drewN _).wrong⟩⟩
 |cons c r=>
  have R3:=(ZL hr).1;by_cases hc:c=92
  ·subst hc;have b1:=Hd (Zg5 w rb S i false 92 92 r h hr hs rfl);have j5:=Hd (λw1 (h1:RefAt w1 rb S (i+1) false)=>Zfk w1 rb S (i+1) h1 hs (by omega));have HR:=Hd hr;clear h hr hi hs R3
   go_enter Tryz.func180,Tryz.ntmps180
   go_wp2_with (first
    |(go_at_call 132;(with_reducible refine b1.out.mono ?_);rintro e w1 ⟨rfl,h1,o1⟩)
    |(go_at_call 189;refine(j5.out _ h1).mono ?_;rintro e w2 ⟨o2,v,j,rfl,hij,hj,hor⟩;have A2:=Hd hor;clear hor)
    |fail)
   go_ret
   refine⟨o1.then o2,v,j,rfl,by omega,hj,?_⟩;rw[ZdJ,<-(ZL HR.out).2];exact A2.out
  ·have s4:((c.toNat:Int))≠92:=λhe=>hc (UInt8.toNat_inj.1 (by show c.toNat=92;omega))
   have b1:=Hd (Zjb w rb S i false 92 c r h hr s4);obtain⟨h0,h1,h2,h3,h4⟩:=h.cells;have hd:decide (S.size<=i)=false:=by simp;omega
   have hx:=Xg hr;have hi2:i<=1000:=by omega
   have H:=Hd h;have HR:=Hd hr;have i5:=Hd R3;have HI:=Hd hi;have T0:=Hd (λw=>Zdj but c w hbs)
   cases hb:inS but c with
   |true=>
    have C3:c∈but.data.toList:=by unfold inS at hb;exact of_decide_eq_true hb
    have r0:=QM (s:=r) hc C3;rw[hb]at T0;have j0:=Hd r0;clear h hr hi hs R3 hc s4 hb C3 r0
    go_enter Tryz.func180,Tryz.ntmps180
    go_wp2_with (go_at_call 132;(with_reducible refine b1.out.mono ?_);rintro e w1 ⟨rfl,n,rfl⟩)
    go_quiet ((go_at_call 190;exact WL T0.out))
    go_wp2_with fail
    go_ret
    exact⟨((Only.refl (λk=>k=rb) w).drewN _).setCell (.inl rfl) _,_,i,rfl,Nat.le_refl _,HI.out,.inr ⟨j0.out,rfl,(H.out.drewN _).wrong⟩⟩
   |false=>
    have C3:c∉but.data.toList:=by unfold inS at hb;exact of_decide_eq_false hb
    have r0:=WS (s:=r) hc C3;rw[hb]at T0;have j0:=Hd r0;have hd256:(c.toNat:Int)<256:=by have:=UInt8.toNat_lt c;omega
    clear h hr hi hs R3 hc s4 hb C3 r0
    go_enter Tryz.func180,Tryz.ntmps180
    go_wp2_with (go_at_call 132;(with_reducible refine b1.out.mono ?_);rintro e w1 ⟨rfl,n,rfl⟩)
    go_quiet ((go_at_call 190;exact WL T0.out))
    go_wp2_with fail
    go_quiet (fail)
    go_wp2_with fail
    go_ret
    refine⟨(((Only.refl (λk=>k=rb) w).drewN _).setCell (p:=⟨rb,1,none⟩) (.inl rfl) _).drewN _,_,i+1,rfl,by omega,i5.out,.inl ⟨c.toNat,?_,rfl,((H.out.drewN _).to (i+1)).drewN _⟩⟩;rw[j0.out,(ZL HR.out).2]
theorem B1(q:Q4)(hq:q.Ok)(n:Nat)(hn:n<256)(w:World) :
 Calls Tryz.prog 179 #[.agg (Q4.cells q),.int .i64 n] w λe w'=>e=.returned (.agg (Q4.cells (q.with n)))/\Below w.heap.size w w':=by
 obtain⟨k,hk⟩:∃ k,n%64=k:=⟨_,rfl⟩
 have m2:k<64:=by omega
 have hm:(n:Int)%64=k:=by omega
 have hnn:n<=255:=by omega
 have r5:n<64\/(64<=n/\n<128)\/(128<=n/\n<192)\/192<=n:=by omega
 unfold Q4.cells;rcases r5 with h4|h4|h4|h4
 ·have hd:(n:Int)/64=0:=by omega
  have p4:=Jy q.a k hq.1 m2
  have HW:Hid (q.with n={ q with a:=YH q.a k }):=by
   apply Hd;simp only[Q4.with];rw[if_pos (by omega)];rw[show n=k by omega]
  clear hk hn h4
  go_enter Tryz.func179,Tryz.ntmps179
  go_wp2_with fail
  go_region
  go_wp2_with fail
  refine bodyPost_ret (results_cell_row rfl _ _ (w.heap.size+1) 138 #[.int .u64 (YH q.a k),.int .u64 (q.b),.int .u64 (q.c),.int .u64 (q.d)] (0,0) _ rfl (Zq _ _ _ (by simp)) Tryz.underlying138 rfl Gn) rfl ?_;refine⟨?_,(((Below.refl _ w).alloc (Nat.le_refl _) _).alloc (by simp) _).drew⟩;rw[HW.out]
 ·have hd:(n:Int)/64=1:=by omega
  have p4:=Jy q.b k hq.2.1 m2
  have HW:Hid (q.with n={ q with b:=YH q.b k }):=by
   apply Hd;simp only[Q4.with];rw[if_neg (by omega),if_pos (by omega)];rw[show n - 64=k by omega]
  clear hk hn h4
  go_enter Tryz.func179,Tryz.ntmps179
  go_wp2_with fail
  go_region
  go_wp2_with fail
  refine bodyPost_ret (results_cell_row rfl _ _ (w.heap.size+1) 138 #[.int .u64 (q.a),.int .u64 (YH q.b k),.int .u64 (q.c),.int .u64 (q.d)] (0,0) _ rfl (Zq _ _ _ (by simp)) Tryz.underlying138 rfl Gn) rfl ?_;refine⟨?_,(((Below.refl _ w).alloc (Nat.le_refl _) _).alloc (by simp) _).drew⟩;rw[HW.out]
 ·have hd:(n:Int)/64=2:=by omega
  have p4:=Jy q.c k hq.2.2.1 m2
  have HW:Hid (q.with n={ q with c:=YH q.c k }):=by
   apply Hd;simp only[Q4.with];rw[if_neg (by omega),if_neg (by omega),if_pos (by omega)];rw[show n - 128=k by omega]
  clear hk hn h4
  go_enter Tryz.func179,Tryz.ntmps179
  go_wp2_with fail
  go_region
  go_wp2_with fail
  refine bodyPost_ret (results_cell_row rfl _ _ (w.heap.size+1) 138 #[.int .u64 (q.a),.int .u64 (q.b),.int .u64 (YH q.c k),.int .u64 (q.d)] (0,0) _ rfl (Zq _ _ _ (by simp)) Tryz.underlying138 rfl Gn) rfl ?_;refine⟨?_,(((Below.refl _ w).alloc (Nat.le_refl _) _).alloc (by simp) _).drew⟩;rw[HW.out]
 ·have hd:(n:Int)/64=3:=by omega
  have p4:=Jy q.d k hq.2.2.2 m2
  have HW:Hid (q.with n={ q with d:=YH q.d k }):=by
   apply Hd;simp only[Q4.with];rw[if_neg (by omega),if_neg (by omega),if_neg (by omega)];rw[show n - 192=k by omega]
  clear hk hn h4
  go_enter Tryz.func179,Tryz.ntmps179
  go_wp2_with fail
  go_region
  go_wp2_with fail
  refine bodyPost_ret (results_cell_row rfl _ _ (w.heap.size+1) 138 #[.int .u64 (q.a),.int .u64 (q.b),.int .u64 (q.c),.int .u64 (YH q.d k)] (0,0) _ rfl (Zq _ _ _ (by simp)) Tryz.underlying138 rfl Gn) rfl ?_;refine⟨?_,(((Below.refl _ w).alloc (Nat.le_refl _) _).alloc (by simp) _).drew⟩;rw[HW.out]
end Go.Proofs.YtbchkjfnakabkaaGreatDoor
namespace Go.Proofs.YtbchkjfnakabkaaGreatDoor.PX
def NumTo(s:List UInt8)(k n:Nat):Prop:=
 (k=0/\n=0)\/(∃a t,s=a::t/\ZS a=true/\k=1/\n=a.toNat - 48)\/(∃a b r,s=a::b::r/\ZS a=true/\ZS b=true/\k=2/\n=10*(a.toNat - 48)+(b.toNat - 48))
theorem NumTo.bd{s:List UInt8}{k n:Nat}(h:NumTo s k n):k<=2/\n<=99/\(k<2->n<=9)/\(k=0->n=0):=by
 rcases h with⟨rfl,rfl⟩|⟨a,t,rfl,ha,rfl,rfl⟩|⟨a,b,r,rfl,ha,hb,rfl,rfl⟩
 ·omega
 ·rw[X6]at ha;omega
 ·rw[X6]at ha hb;omega
theorem NumTo.step{s:List UInt8}{k n:Nat}(h:NumTo s k n)(hk:k<2){d:UInt8}{r:List UInt8}(hd:s.drop k=d::r)(hg:48<=d.toNat/\d.toNat<=57):NumTo s (k+1) (10*n+(d.toNat - 48)):=by
 rcases h with⟨rfl,rfl⟩|⟨a,t,rfl,ha,rfl,rfl⟩|⟨a,b,r',rfl,ha,hb,rfl,rfl⟩
 ·right;left;exact⟨d,r,by simpa using hd,(X6 d).2 hg,rfl,by omega⟩
 ·right;right;rw[List.drop_succ_cons,List.drop_zero]at hd;subst hd;exact⟨a,d,r,rfl,ha,(X6 d).2 hg,rfl,rfl⟩
 ·omega
def ZaX(s:List UInt8)(k:Nat):Prop:=k=2\/s.drop k=[]\/∃ d r,s.drop k=d::r/\¬ (48<=d.toNat/\d.toNat<=57)
theorem NumTo.none{s:List UInt8}{k n:Nat}(h:NumTo s k n)(he:ZaX s k)(hb:k=0\/15<n\/(k=2/\n<10)):numX s=none:=by
 rcases h with⟨rfl,rfl⟩|⟨a,t,rfl,ha,rfl,rfl⟩|⟨a,b,r',rfl,ha,hb',rfl,rfl⟩
 ·rcases he with h|h|⟨d,r,h,hn⟩
  ·omega
  ·rw[List.drop_zero]at h;subst h;rfl
  ·rw[List.drop_zero]at h;subst h;rw[<-X6]at hn;simp[numX,hn]
 ·rw[X6]at ha;omega
 ·simp only[numX];rw[if_pos ha,if_pos hb',if_pos (by omega)]
theorem NumTo.some{s:List UInt8}{k n:Nat}(h:NumTo s k n)(he:ZaX s k)(h0:0<k)(h15:n<=15)(h2:k=2->10<=n):numX s=some (n,s.drop k):=by
 rcases h with⟨rfl,rfl⟩|⟨a,t,rfl,ha,rfl,rfl⟩|⟨a,b,r',rfl,ha,hb',rfl,rfl⟩
 ·omega
 ·simp only[numX];rw[if_pos ha];rcases he with h|h|⟨d,r,h,hn⟩
  ·omega
  ·rw[List.drop_succ_cons,List.drop_zero]at h ⊢;subst h;rfl
  ·rw[List.drop_succ_cons,List.drop_zero]at h ⊢;subst h;rw[<-X6]at hn;simp[hn]
 ·simp only[numX];rw[if_pos ha,if_pos hb',if_neg (by have:=h2 rfl;omega)];rfl
end Go.Proofs.YtbchkjfnakabkaaGreatDoor.PX
namespace Go.Proofs.YtbchkjfnakabkaaGreatDoor
open Go.RowKit PX
def ZbA(rb:Nat)(w:World):Nat:=match w.cell? ⟨rb,1,none⟩ with|some (.int _ j)=>j.toNat|_=>0
theorem YQ{w:World}{rb:Nat}{S:ByteArray}{i:Nat}{b:Bool}(h:RefAt w rb S i b):ZbA rb w=i:=by
 unfold ZbA;rw[h.cells.2.1];simp
def Ze7(rb:Nat)(S:ByteArray)(i0:Nat)(b:Bool)(w:World)(e:Ending)(w':World):Prop:=
 Only (λk=>k=rb) w w'/\∃ n i:Nat,e=.returned (.int .i64 n)/\n<=99/\i0<=i/\i<=S.size/\((numX (rest S i0)=some (n,rest S i)/\RefAt w' rb S i b)\/(numX (rest S i0)=none/\RefAt w' rb S i true))
theorem YP(S:ByteArray)(i k:Nat):rest S (i+k)=(rest S i).drop k:=by unfold rest;rw[List.drop_drop]
theorem Ba(w:World)(rb:Nat)(S:ByteArray)(i0:Nat)(b:Bool)(h:RefAt w rb S i0 b)(hs:S.size<=1000)(hi:i0<=S.size) :
 Calls Tryz.prog 155 #[.pointer (some ⟨rb,0,none⟩)] w λe w'=>Ze7 rb S i0 b w e w':=by
 obtain⟨h0,h1,h2,h3,h4⟩:=h.cells;have H:=Hd h;clear h
 go_enter Tryz.func155,Tryz.ntmps155
 go_wp2_with fail
 go_loopw [4] (λv wr=>∃ i k n:Nat,Hid (i=i0+k)/\v=.int .i64 n/\RefAt wr rb S i b/\Only (λk=>k=rb) w wr/\i<=S.size/\NumTo (rest S i0) k n) (λ_ wr=>2+i0 - ZbA rb wr)
 case atStart=>exact⟨i0,0,0,Hd rfl,rfl,H.out,Only.refl _ _,hi,.inl ⟨rfl,rfl⟩⟩
 case round=>
  obtain⟨i,k,n,hik,rfl,hra,hon,t2,hnum⟩:=hrel;clear h0 h1 h2 h3 h4;obtain⟨h0,h1,h2,h3,h4⟩:=hra.cells;have j4:=hnum.bd;have W0:=Hd hra;clear hra;have v1:=Hd hon;clear hon;have C0:=Hd hnum;clear hnum;have E2:i<=1000:=by omega
  have R0:n<=99:=j4.2.1;have Z2:=Hd j4;clear j4
  have S1:(k<2/\∃ d r,rest S i=d::r/\(48<=d.toNat/\d.toNat<=57))\/ZaX (rest S i0) k:=by
   unfold ZaX;rw[<-YP,<-hik.out];by_cases K1:k=2
   ·exact .inr (.inl K1)
   ·cases hr:rest S i with
    |nil=>exact .inr (.inr (.inl rfl))
    |cons d r=>
     by_cases hd:48<=d.toNat/\d.toNat<=57
     ·exact .inl ⟨by have:=Z2.out.1;omega,d,r,rfl,hd⟩
     ·exact .inr (.inr (.inr ⟨d,r,rfl,hd⟩))
  rcases S1 with⟨K1,d,r,hr,hg⟩|hend
  ·have hx:=Xg hr;have C1:=(ZL hr).1;have hd:decide (i<S.size)=true:=by simp;omega
   have H2:=C0.out.step K1 (by rw[<-YP,<-hik.out];exact hr) hg;have hn9:n<=9:=Z2.out.2.2.1 K1;have p5:decide ((i:Int)<(i0:Int)+2)=true:=by have:=hik.out;simp;omega
   obtain⟨z,hz⟩:∃ z:Int,Hid ((d.toNat:Int)=z):=⟨_,Hd rfl⟩
   have hz48:(48:Int)<=z:=by have:=hz.out;omega
   have hz57:z<=(57:Int):=by have:=hz.out;omega
   rw[hz.out]at hx;have y3:=Hd H2;clear H2 hr C1 hg
   go_wp2_with fail
   go_quiet (fail)
   go_wp2_with fail
   go_quiet (fail)
   go_wp2_with fail
   refine⟨⟨i+1,k+1,10*n+(d.toNat - 48),Hd (by have:=hik.out;omega),?_,(W0.out.drewN _).to (i+1),(v1.out.drewN _).setCell (.inl rfl) _,by have:=of_decide_eq_true hd;omega,y3.out⟩,?_⟩
   ·have:=hz.out;rw[show 10*(n:Int)+(z - 48)=((10*n+(d.toNat - 48):Nat):Int) by omega]
   ·have hm:=YQ W0.out;rw[hm];refine Nat.lt_of_le_of_lt (Nat.le_of_eq (congrArg (2+i0 - ·) (YQ ((W0.out.drewN _).to (i+1))))) ?_;have:=hik.out;have:=Z2.out.1;show 2+i0 - (i+1)<2+i0 - i;omega
  ·have i4:(S.size<=i)\/(∃d r,rest S i=d::r/\i<S.size/\((d.toNat:Int)<48))\/(∃d r,rest S i=d::r/\i<S.size/\(48:Int)<=d.toNat/\(57:Int)<(d.toNat:Int))\/(∃d r,rest S i=d::r/\i<S.size/\(48:Int)<=d.toNat/\(d.toNat:Int)<=57/\k=2):=by
    by_cases f3:S.size<=i
    ·exact .inl f3
    ·obtain⟨d,r,hr⟩:=EZ (S:=S) (i:=i) (by omega);by_cases h48:(d.toNat:Int)<48
     ·exact .inr (.inl ⟨d,r,hr,by omega,h48⟩)
     ·by_cases h57:(57:Int)<(d.toNat:Int)
      ·exact .inr (.inr (.inl ⟨d,r,hr,by omega,by omega,h57⟩))
      ·refine .inr (.inr (.inr ⟨d,r,hr,by omega,by omega,by omega,?_⟩));rcases hend with h|h|⟨d',r',h,hn⟩
       ·exact h
       ·rw[<-YP,<-hik.out,hr]at h;cases h
       ·rw[<-YP,<-hik.out,hr]at h;cases h;omega
   have P0:=Hd hend;clear hend;have O0:i0<=i:=by have:=hik.out;omega
   rcases i4 with f3|⟨d,r,hr,C1,h48⟩|⟨d,r,hr,C1,h48,h57⟩|⟨d,r,hr,C1,h48,h57,K1⟩
   ·have hd:decide (i<S.size)=false:=by simp;omega
    have HSI:=Hd f3;clear f3
    go_wp2_with fail
    go_quiet (fail)
    go_wp2_with fail
    all_goals
     go_ret
     have p1:=hik.out;have K1:=Z2.out.1
     first
      |exact⟨(v1.out.drewN _).setCell (.inl rfl) _,n,i,rfl,R0,O0,t2,.inr ⟨C0.out.none P0.out (by omega),(W0.out.drewN _).wrong⟩⟩
      |exact⟨v1.out.drewN _,n,i,rfl,R0,O0,t2,.inl ⟨(C0.out.some P0.out (by omega) (by omega) (by omega)).trans (by rw[<-YP,<-p1]),W0.out.drewN _⟩⟩
   ·have hd:decide (i<S.size)=true:=by simp;omega
    have hx:=Xg hr
    obtain⟨z,hz⟩:∃ z:Int,Hid ((d.toNat:Int)=z):=⟨_,Hd rfl⟩
    rw[hz.out]at hx h48;have hb48:decide ((48:Int)<=z)=false:=by simp;omega
    clear hr C1
    go_wp2_with fail
    go_quiet (fail)
    go_wp2_with fail
    all_goals
     go_ret
     have p1:=hik.out;have K1:=Z2.out.1
     first
      |exact⟨(v1.out.drewN _).setCell (.inl rfl) _,n,i,rfl,R0,O0,t2,.inr ⟨C0.out.none P0.out (by omega),(W0.out.drewN _).wrong⟩⟩
      |exact⟨v1.out.drewN _,n,i,rfl,R0,O0,t2,.inl ⟨(C0.out.some P0.out (by omega) (by omega) (by omega)).trans (by rw[<-YP,<-p1]),W0.out.drewN _⟩⟩
   ·have hd:decide (i<S.size)=true:=by simp;omega
    have hx:=Xg hr
    obtain⟨z,hz⟩:∃ z:Int,Hid ((d.toNat:Int)=z):=⟨_,Hd rfl⟩
    rw[hz.out]at hx h48 h57;have hb57:decide (z<=(57:Int))=false:=by simp;omega
    clear hr C1
    go_wp2_with fail
    go_quiet (fail)
    go_wp2_with fail
    all_goals
     go_ret
     have p1:=hik.out;have K1:=Z2.out.1
     first
      |exact⟨(v1.out.drewN _).setCell (.inl rfl) _,n,i,rfl,R0,O0,t2,.inr ⟨C0.out.none P0.out (by omega),(W0.out.drewN _).wrong⟩⟩
      |exact⟨v1.out.drewN _,n,i,rfl,R0,O0,t2,.inl ⟨(C0.out.some P0.out (by omega) (by omega) (by omega)).trans (by rw[<-YP,<-p1]),W0.out.drewN _⟩⟩
   ·have hd:decide (i<S.size)=true:=by simp;omega
    have p5:decide ((i:Int)<(i0:Int)+2)=false:=by have:=hik.out;simp;omega
    have hx:=Xg hr
    obtain⟨z,hz⟩:∃ z:Int,Hid ((d.toNat:Int)=z):=⟨_,Hd rfl⟩
    rw[hz.out]at hx h48 h57;have HK:=Hd K1;clear hr C1 K1
    go_wp2_with fail
    go_quiet (fail)
    go_wp2_with fail
    all_goals
     go_ret
     have p1:=hik.out;have K1:=Z2.out.1
     first
      |exact⟨(v1.out.drewN _).setCell (.inl rfl) _,n,i,rfl,R0,O0,t2,.inr ⟨C0.out.none P0.out (by omega),(W0.out.drewN _).wrong⟩⟩
      |exact⟨v1.out.drewN _,n,i,rfl,R0,O0,t2,.inl ⟨(C0.out.some P0.out (by omega) (by omega) (by omega)).trans (by rw[<-YP,<-p1]),W0.out.drewN _⟩⟩
end Go.Proofs.YtbchkjfnakabkaaGreatDoor
namespace Go.Proofs.YtbchkjfnakabkaaGreatDoor
open Go.RowKit PX
theorem ZA(S:ByteArray)(i:Nat):rest S (i+1)=(rest S i).tail:=by
 rw[YP];simp
theorem ZQ{S:ByteArray}{i:Nat}{c:UInt8}(h:Zg c (rest S i)=true):i<S.size:=by
 cases hr:rest S i with
 |nil=>rw[hr]at h;cases h
 |cons d r=>exact(ZL hr).1
def Ziv(O:Option (Q4 × List UInt8))(S:ByteArray)(first bad:Bool)(q:Q4)(j f:Nat):Prop:=
 (bad=true∧first=false∧O=none)∨(bad=false∧first=true∧O=ZV f q (rest S j)) ∨
  (bad=false/\first=false/\O=if Zg 93 (rest S j) then some (q,(rest S j).tail) else ZV f q (rest S j))
def OneO(S:ByteArray)(q:Q4)(j a b ja:Nat)(bad:Bool):Prop:=
 (bad=true/\Xe q (rest S j)=none)\/(bad=false/\j<ja/\Xe q (rest S j)=if a<=b then some (q.withAll a (b+1 - a),rest S ja) else none)
def ZgI(rb:Nat)(w:World):Nat:=match w.cell? ⟨rb,2,none⟩ with|some (.bool true)=>0|_=>1
theorem EE{w:World}{rb:Nat}{S:ByteArray}{i:Nat}{b:Bool}(h:RefAt w rb S i b):ZgI rb w=if b then 0 else 1:=by
 unfold ZgI;rw[h.cells.2.2.1];cases b<;>rfl
theorem Xq{w:World}{rb:Nat}{S:ByteArray}{i:Nat}{b:Bool}(h:RefAt w rb S i b)(q:Nat)(cs:Array Value)(hq:rb≠q):RefAt (w.setRow q cs) rb S i b:=(setRow_other _ _ _ _ hq).trans h
theorem OneO.single{S:ByteArray}{q:Q4}{j a ja:Nat}(h1:one Ys (rest S j)=some (a,rest S ja))(h45:Zg 45 (rest S ja)=false)(hjj:j<ja):OneO S q j a a ja false:=by
 refine .inr ⟨rfl,hjj,?_⟩;unfold Xe;rw[h1];simp only[h45,Nat.le_refl,if_true,Bool.false_eq_true,if_false];rw[show a+1 - a=1 by omega]
theorem OneO.two{S:ByteArray}{q:Q4}{j a ja b jb:Nat}(h1:one Ys (rest S j)=some (a,rest S ja))(h45:Zg 45 (rest S ja)=true)(h2:one Ys (rest S (ja+1))=some (b,rest S jb))(hjj:j<jb):OneO S q j a b jb false:=by
 refine .inr ⟨rfl,hjj,?_⟩;unfold Xe;rw[ZA]at h2;rw[h1];simp only[h45,if_true,h2]
theorem OneO.half{S:ByteArray}{q:Q4}{j a ja b jb:Nat}(h1:one Ys (rest S j)=some (a,rest S ja))(h45:Zg 45 (rest S ja)=true)(h2:one Ys (rest S (ja+1))=none):OneO S q j a b jb true:=by
 refine .inl ⟨rfl,?_⟩;unfold Xe;rw[ZA]at h2;rw[h1];simp only[h45,if_true,h2]
theorem OneO.wrong{S:ByteArray}{q:Q4}{j a ja:Nat}(h1:one Ys (rest S j)=none):OneO S q j a a ja true:=by
 refine .inl ⟨rfl,?_⟩;unfold Xe;rw[h1]
def ByteO(o:Option (Nat × List UInt8))(S:ByteArray)(a ja:Nat)(ba:Bool):Prop:=(ba=false/\o=some (a,rest S ja))\/(ba=true/\o=none)
theorem EU{rb:Nat}{S:ByteArray}{i:Nat}{w:World}{but:List UInt8}{e:Ending}{w':World}(h:Says rb S i w (one but (rest S i)) (λn=>.int .i64 (n:Nat)) (λv=>v=.int .i64 0) e w') :
 Only (λk=>k=rb) w w'/\∃ (a ja:Nat) (ba:Bool),e=.returned (.int .i64 a)/\a<256/\i<=ja/\ja<=S.size/\RefAt w' rb S ja ba/\ByteO (one but (rest S i)) S a ja ba/\(ba=false->i<ja):=by
 obtain⟨ho,v,j,he,hij,hj,⟨x,h1,rfl,h2⟩|⟨h1,rfl,h2⟩⟩:=h
 ·have hl:=Un h1;have l1:=ZR S i;have l2:=ZR S j;exact⟨ho,x,j,false,he,hl.2,hij,hj,h2,.inl ⟨rfl,h1⟩,λ_=>by omega⟩
 ·exact⟨ho,0,j,true,he,by omega,hij,hj,h2,.inr ⟨rfl,h1⟩,λh=>by cases h⟩
def DashO(S:ByteArray)(ja jy:Nat)(ba p:Bool):Prop:=(p=true/\ba=false/\Zg 45 (rest S ja)=true/\jy=ja+1)\/(p=false/\jy=ja/\(ba=true\/Zg 45 (rest S ja)=false))
theorem Zeq{O:Option (Q4 × List UInt8)}{S:ByteArray}{q:Q4}{j a b jy f:Nat}{by' bz:Bool}(z3:ZV f q (rest S j)=O)(hlf:(rest S j).length<=f)(r0:OneO S q j a b jy by')(hbz:bz=(by' || decide (b<a))) :
 ∃ f2,(rest S jy).length<=f2/\Ziv O S false bz (q.withAll a (b+1 - a)) jy f2:=by
 have I2:∀ (h:Xe q (rest S j)=none),bz=true->∃ f2,(rest S jy).length<=f2/\Ziv O S false bz (q.withAll a (b+1 - a)) jy f2:=λh hb=>
  ⟨_,Nat.le_refl _,.inl ⟨hb,rfl,by rw[<-z3];exact Up h⟩⟩
 rcases r0 with⟨rfl,h⟩|⟨rfl,-, h⟩
 ·exact I2 h (by simpa using hbz)
 ·by_cases hab:a<=b
  ·rw[if_pos hab]at h;obtain⟨f2,hf,hf2,he⟩:=W6 h hlf;refine⟨f2,hf2,.inr (.inr ⟨?_,rfl,?_⟩)⟩
   ·rw[hbz];simp;omega
   ·rw[<-z3,he]
  ·rw[if_neg hab]at h;exact I2 h (by rw[hbz];simp;omega)
def ZiR(q:Q4)(k:Nat):Q4:=⟨if 0<k then q.not.a else q.a,if 1<k then q.not.b else q.b,if 2<k then q.not.c else q.c,if 3<k then q.not.d else q.d⟩
theorem E4{q:Q4}(h:q.Ok):(Go.bits .xor .u64 (if IntKind.u64.signed=true then -1 else IntKind.u64.max) q.a=q.not.a)/\(Go.bits .xor .u64 (if IntKind.u64.signed=true then -1 else IntKind.u64.max) q.b=q.not.b)/\(Go.bits .xor .u64 (if IntKind.u64.signed=true then -1 else IntKind.u64.max) q.c=q.not.c)/\(Go.bits .xor .u64 (if IntKind.u64.signed=true then -1 else IntKind.u64.max) q.d=q.not.d):=
 ⟨xor1 h.1,xor1 h.2.1,xor1 h.2.2.1,xor1 h.2.2.2⟩
def FinO(O:Option (Q4 × List UInt8))(S:ByteArray)(bx:Bool)(q:Q4)(je:Nat):Prop:=(bx=true/\O=none)\/(bx=false/\O=some (q,rest S je))
theorem Er{rb:Nat}{S:ByteArray}{i je:Nat}{w w':World}{O:Option (Q4 × List UInt8)}{nt bx:Bool}{q q1:Q4}{e:Ending}{R:Option (Q4 × List UInt8)}(hR:R=JG nt O)(ho:Only (λk=>k=rb) w w')(hij:i<=je)(hjs:je<=S.size)
 (k1:FinO O S bx q je) (hq1:(if nt then q.not else q)=q1) (hok:q1.Ok) (he:e=.returned (.agg (Zh (setA q1)))) (hr:RefAt w' rb S je (bx || q1.isNone)) :
 Says rb S i w R (λq=>.agg (Zh (setA q))) (λv=>∃ q:Q4,q.Ok/\v=.agg (Zh (setA q))) e w':=by
 refine⟨ho,_,je,he,hij,hjs,?_⟩;rcases k1 with⟨rfl,hO⟩|⟨rfl,hO⟩
 ·right;refine⟨by rw[hR,hO];rfl,⟨q1,hok,rfl⟩,?_⟩
  simpa using hr
 ·subst hO;simp only[JG]at hR;rw[hq1]at hR
  cases hn:q1.isNone with
  |true=>
   rw[hn]at hr hR;exact .inr ⟨by rw[hR];rfl,⟨q1,hok,rfl⟩,hr⟩
  |false=>
   rw[hn]at hr hR;exact .inl ⟨q1,by rw[hR];rfl,rfl,hr⟩
theorem Zfv(w:World)(rb:Nat)(S:ByteArray)(i f0:Nat)(h:RefAt w rb S i false)(hs:S.size<=1000)(hi:i<=S.size)(hf:(rest S i).length<=f0) :
 Calls Tryz.prog 178 #[.pointer (some ⟨rb,0,none⟩)] w λe w'=>Says rb S i w (Yy f0 (rest S i)) (λq=>.agg (Zh (setA q))) (λv=>∃ q:Q4,q.Ok/\v=.agg (Zh (setA q))) e w':=by
 obtain⟨nt,hnt⟩:∃ nt,Zg 94 (rest S i)=nt:=⟨_,rfl⟩
 have hR:=DG f0 (rest S i);rw[hnt]at hR
 obtain⟨i1,E2⟩:∃ i1,(if nt then i+1 else i)=i1:=⟨_,rfl⟩
 have y4:i<=i1/\i1<=S.size:=by
  rw[<-E2];cases nt
  ·exact⟨by simp,by simpa using hi⟩
  ·have:=ZQ hnt;simp;omega
 have T4:(if nt then(rest S i).tail else rest S i)=rest S i1:=by
  rw[<-E2];cases nt
  ·rfl
  ·exact(ZA S i).symm
 obtain⟨O,hO⟩:∃ O,ZV f0 Q4.none (rest S i1)=O:=⟨_,rfl⟩
 rw[T4,hO]at hR
 have a5:(rest S i1).length<=f0:=by
  have:=ZR S i;have:=ZR S i1;omega
 have Z1:=λw1 (h1:RefAt w1 rb S i false)=>El w1 rb S i false 94 94 h1 hs rfl
 rw[hnt,E2]at Z1;have HT:=Hd Z1;have HR:=Hd hR;have HO:=Hd hO;have O4:=Hd a5
 obtain⟨nb,hnb⟩:∃ nb,w.heap.size=nb:=⟨_,rfl⟩
 have C1:=Za h;rw[hnb]at C1;have h0:RefAt (w.alloc (.cells Zn 141)) rb S i false:=Ze h _;have H0:=Hd h0;obtain⟨hi1a,hi1c⟩:=y4;have a0:=Hd hnb;clear Z1 hR hO hf a5 E2 T4 hnt h h0
 go_enter Tryz.func178,Tryz.ntmps178
 go_wp2_with (go_at_call 132;refine(HT.out _ H0.out).mono ?_;rintro e w1 ⟨rfl,h1,o1⟩)
 have n0:w1.heap[nb]?=some (.cells Zn 141 (0,0)):=(o1.block nb (by simp;have:=a0.out;omega) (by omega)).trans (by rw[<-a0.out];exact Zd w _);have c4:Only (λk=>k=rb) w w1:=((Only.refl _ w).alloc _).then o1;have f5:=c4.size;rw[a0.out]at f5;have v4:=Za n0
 obtain⟨sb,hsb⟩:∃ sb,w1.heap.size=sb:=⟨_,rfl⟩
 rw[hsb]at v4;have K3:(w1.alloc (.cells (Q4.cells Q4.none) 138)).heap[sb]?=some (.cells (Q4.cells Q4.none) 138 (0,0)):=Zq _ _ _ hsb;have M4:(w1.alloc (.cells (Q4.cells Q4.none) 138)).heap[nb]?=some (.cells Zn 141 (0,0)):=Ze n0 _;have J4:RefAt (w1.alloc (.cells (Q4.cells Q4.none) 138)) rb S i1 false:=Ze h1 _;have d5:Only (λk=>k=rb) w (w1.alloc (.cells (Q4.cells Q4.none) 138)):=c4.alloc _;have O1:=Hd (show _/\_/\_/\_ from⟨K3,M4,J4,d5⟩);have h5:=Hd hsb;clear n0 c4 f5 hsb K3 M4 J4 d5 o1 h1 HT H0;rw[h5.out]
 go_loopw [5] (fun v wr=>∃ (first bad:Bool) (q:Q4) (j f:Nat),v=.bool first∧RefAt wr rb S j bad∧wr.heap[sb]?=some (.cells (Q4.cells q) 138 (0,0))∧wr.heap[nb]?=some (.cells Zn 141 (0,0))∧Only (fun k=>k=rb) w wr ∧
  q.Ok/\i<=j/\j<=S.size/\(rest S j).length<=f/\Ziv O S first bad q j f) (λ_ wr=>2*(S.size - ZbA rb wr)+ZgI rb wr)
 case atStart=>
  obtain⟨a1,a2,a3,a4⟩:=O1.out;refine⟨true,false,Q4.none,i1,f0,rfl,?_,?_,?_,?_,Q4.none_ok,hi1a,hi1c,O4.out,.inr (.inl ⟨rfl,rfl,HO.out.symm⟩)⟩
  ·exact a3
  ·exact a1
  ·exact a2
  ·exact a4
 case round=>
  obtain⟨first,bad,q,j,f,rfl,hr,hsc,hnc,hon,hq,hij,hjs,hlf,hhead⟩:=hrel;clear O1 HO O4;obtain⟨c0,c1,c2,z1,z2⟩:=hr.cells;have e3:=Hd hr;have HS:=Hd hsc;have HN:=Hd hnc;have v1:=Hd hon;have HQ:=Hd hq;have HH:=Hd hhead;clear hr hsc hnc hon hq hhead;have T3:=Za HS.out;have S3:=Za HN.out
  have S1:(bad=true/\first=false)\/(bad=false/\first=false/\Zg 93 (rest S j)=true)\/(bad=false/\(first=true\/(first=false/\Zg 93 (rest S j)=false))):=by
   cases bad<;>cases first<;>cases Zg 93 (rest S j)<;>simp
   all_goals
    rcases HH.out with⟨h1,h2,-⟩|⟨h1,h2,-⟩|⟨h1,h2,-⟩<;>cases h1<;>cases h2
  rcases S1 with⟨rfl,rfl⟩|⟨rfl,rfl,h93⟩|⟨rfl,hcd⟩
  ·have k1:FinO O S true q j:=by
    rcases HH.out with⟨-, -, h3⟩|⟨h1,-, -⟩|⟨h1,-, -⟩
    ·exact .inl ⟨rfl,h3⟩
    ·cases h1
    ·cases h1
   have R1:=Hd k1;clear k1
   obtain⟨wx,rfl⟩:∃ wx:World,wx=wr:=⟨_,rfl⟩
   have k2:=e3;have A0:=HS;have j1:=HN;have b2:=v1;have i2:=T3;have j2:=S3;have P1:=hij;have L1:=hjs;have s0:wx.cell? ⟨sb,0,none⟩=some (.int .u64 q.a):=Zb A0.out 0;have s1:wx.cell? ⟨sb,1,none⟩=some (.int .u64 q.b):=Zb A0.out 1;have s2:wx.cell? ⟨sb,2,none⟩=some (.int .u64 q.c):=Zb A0.out 2;have s3:wx.cell? ⟨sb,3,none⟩=some (.int .u64 q.d):=Zb A0.out 3
   cases nt with
   |false=>
    cases hno:WB q.a q.b q.c q.d 0 0 0 0
    all_goals
     have d3:=Hd (show q.isNone=_ from hno)
     go_wp2_with (first|fail|(refine wpList_store_row rfl 141 (.tmp 2) (.tmp 71) ?_ nb (Zh (setA q)) ?_ ?_ 141 Zn ?_ (Zj _) (by rw[Zi];rfl) (Zm _) ?_;(with_reducible rfl);rfl;rfl;first|exact j1.out|exact(Below.heap_setCell _ _ _ _ (by show nb≠rb;omega)).trans j1.out)|fail)
     refine bodyPost_ret (results_cell_row rfl _ _ nb 141 (Zh (setA q)) (0,0) _ rfl (setRow_heap _ _ _ _ _ _ (by first|exact j1.out|exact(Below.heap_setCell _ _ _ _ (by show nb≠rb;omega)).trans j1.out)) Tryz.underlying141 rfl (Zj _)) rfl ?_;refine Er HR.out ?_ P1 L1 R1.out rfl HQ.out rfl ?_
     ·first
       |exact(b2.out.setRow (q:=nb) (.inr (by have:=a0.out;omega)) _)
       |exact((b2.out.setCell (p:=⟨rb,2,none⟩) (.inl rfl) _).setRow (q:=nb) (.inr (by have:=a0.out;omega)) _)
     ·simp only[Bool.false_eq_true,if_false];rw[d3.out]
      first
       |exact Xq k2.out _ _ (by omega)
       |exact Xq k2.out.wrong _ _ (by omega)
   |true=>
    go_wp2_with (first|fail|fail)
    clear s0 s1 s2 s3
    go_loopw [8] (λv wy=>∃ k:Nat,k<=4/\v=.int .i64 k/\wy.heap[sb]?=some (.cells (Q4.cells (ZiR q k)) 138 (0,0))/\Only (λk=>k=sb) wx wy) (λv _=>4 - (intOf v).toNat)
    case atStart=>exact⟨0,by omega,rfl,A0.out,Only.refl _ _⟩
    case round=>
     obtain⟨k,hk,rfl,e1,hox⟩:=hrel;have g0:=Hd e1;have r1:=Hd hox;clear e1 hox;clear c0 c1 c2 z1 z2;obtain⟨x0,x1,x2,x3⟩:=E4 HQ.out;by_cases hk4:k=4
     ·subst hk4;have g2:RefAt wr rb S j true:=(r1.out.block rb (by omega) (by omega)).trans k2.out;have K2:wr.heap[nb]?=some (.cells Zn 141 (0,0)):=(r1.out.block nb (by omega) (by omega)).trans j1.out;have L2:Only (λk=>k=rb) w wr:=b2.out.trans (r1.out.mono λk _ h=>.inr (by have:=a0.out;omega));have s0:wr.cell? ⟨sb,0,none⟩=some (.int .u64 q.not.a):=Zb g0.out 0;have s1:wr.cell? ⟨sb,1,none⟩=some (.int .u64 q.not.b):=Zb g0.out 1;have s2:wr.cell? ⟨sb,2,none⟩=some (.int .u64 q.not.c):=Zb g0.out 2;have s3:wr.cell? ⟨sb,3,none⟩=some (.int .u64 q.not.d):=Zb g0.out 3;obtain⟨c0,c1,c2,z1,z2⟩:=g2.cells;have F0:=Hd g2;have m0:=Hd K2;have K0:=Hd L2;have g3:=Q4.not_ok HQ.out
      obtain⟨qn,hqe⟩:∃ qn,q.not=qn:=⟨_,rfl⟩
      rw[hqe]at s0 s1 s2 s3 g3;have e4:=Hd hqe;have k4:=Hd g3;clear g2 K2 L2 hqe g3 x0 x1 x2 x3;cases hno:WB qn.a qn.b qn.c qn.d 0 0 0 0
      all_goals
       have d3:=Hd (show qn.isNone=_ from hno)
       go_wp2_with (first|fail|(refine wpList_store_row rfl 141 (.tmp 2) (.tmp 71) ?_ nb (Zh (setA qn)) ?_ ?_ 141 Zn ?_ (Zj _) (by rw[Zi];rfl) (Zm _) ?_;(with_reducible rfl);rfl;rfl;first|exact m0.out|exact(Below.heap_setCell _ _ _ _ (by show nb≠rb;omega)).trans m0.out)|fail)
       refine bodyPost_ret (results_cell_row rfl _ _ nb 141 (Zh (setA qn)) (0,0) _ rfl (setRow_heap _ _ _ _ _ _ (by first|exact m0.out|exact(Below.heap_setCell _ _ _ _ (by show nb≠rb;omega)).trans m0.out)) Tryz.underlying141 rfl (Zj _)) rfl ?_;refine Er HR.out ?_ P1 L1 R1.out e4.out k4.out rfl ?_
       ·first
         |exact(K0.out.setRow (q:=nb) (.inr (by have:=a0.out;omega)) _)
         |exact((K0.out.setCell (p:=⟨rb,2,none⟩) (.inl rfl) _).setRow (q:=nb) (.inr (by have:=a0.out;omega)) _)
       ·skip
        rw[d3.out]
        first
         |exact Xq F0.out _ _ (by omega)
         |exact Xq F0.out.wrong _ _ (by omega)
     ·have H4:k=0\/k=1\/k=2\/k=3:=by omega
      rcases H4 with rfl|rfl|rfl|rfl
      ·have s0:wr.cell? ⟨sb,0,none⟩=some (.int .u64 q.a):=Zb g0.out 0;have t0:=Zc g0.out 0
       go_wp2_with fail
       exact⟨⟨1,by omega,rfl,(Zf g0.out 0 _).trans rfl,r1.out.setCell (.inl rfl) _⟩,by decide⟩
      ·have s0:wr.cell? ⟨sb,1,none⟩=some (.int .u64 q.b):=Zb g0.out 1;have t0:=Zc g0.out 1
       go_wp2_with fail
       exact⟨⟨2,by omega,rfl,(Zf g0.out 1 _).trans rfl,r1.out.setCell (.inl rfl) _⟩,by decide⟩
      ·have s0:wr.cell? ⟨sb,2,none⟩=some (.int .u64 q.c):=Zb g0.out 2;have t0:=Zc g0.out 2
       go_wp2_with fail
       exact⟨⟨3,by omega,rfl,(Zf g0.out 2 _).trans rfl,r1.out.setCell (.inl rfl) _⟩,by decide⟩
      ·have s0:wr.cell? ⟨sb,3,none⟩=some (.int .u64 q.d):=Zb g0.out 3;have t0:=Zc g0.out 3
       go_wp2_with fail
       exact⟨⟨4,by omega,rfl,(Zf g0.out 3 _).trans rfl,r1.out.setCell (.inl rfl) _⟩,by decide⟩
  ·have k1:FinO O S false q (j+1):=by
    rcases HH.out with⟨h1,-, -⟩|⟨-, h1,-⟩|⟨-, -, h3⟩
    ·cases h1
    ·cases h1
    ·rw[h93,if_pos rfl,<-ZA]at h3;exact .inr ⟨rfl,h3⟩
   have R1:=Hd k1;clear k1;have P1:i<=j+1:=by omega
   have L1:j+1<=S.size:=ZQ h93;have I0:=λw1 (h1:RefAt w1 rb S j false)=>El w1 rb S j false 93 93 h1 hs rfl
   rw[h93]at I0;have b1:=Hd I0;clear I0 h93
   cases nt with
   |false=>
    cases hno:WB q.a q.b q.c q.d 0 0 0 0
    all_goals
     have d3:=Hd (show q.isNone=_ from hno)
     go_wp2_with (first|(go_at_call 132;refine(b1.out _ e3.out).mono ?_;rintro e wx ⟨rfl,h1,o1⟩;have e1:=(o1.block sb T3 (by omega)).trans HS.out;have S2:=(o1.block nb S3 (by omega)).trans HN.out;have k2:=Hd h1;have A0:=Hd e1;have j1:=Hd S2;have b2:=Hd (v1.out.then o1);have i2:=Za e1;have j2:=Za S2;obtain⟨d0,d1,d2,y1,y2⟩:=h1.cells;clear h1 o1 e1 S2;have s0:wx.cell? ⟨sb,0,none⟩=some (.int .u64 q.a):=Zb A0.out 0;have s1:wx.cell? ⟨sb,1,none⟩=some (.int .u64 q.b):=Zb A0.out 1;have s2:wx.cell? ⟨sb,2,none⟩=some (.int .u64 q.c):=Zb A0.out 2;have s3:wx.cell? ⟨sb,3,none⟩=some (.int .u64 q.d):=Zb A0.out 3)|(refine wpList_store_row rfl 141 (.tmp 2) (.tmp 71) ?_ nb (Zh (setA q)) ?_ ?_ 141 Zn ?_ (Zj _) (by rw[Zi];rfl) (Zm _) ?_;(with_reducible rfl);rfl;rfl;first|exact j1.out|exact(Below.heap_setCell _ _ _ _ (by show nb≠rb;omega)).trans j1.out)|fail)
     refine bodyPost_ret (results_cell_row rfl _ _ nb 141 (Zh (setA q)) (0,0) _ rfl (setRow_heap _ _ _ _ _ _ (by first|exact j1.out|exact(Below.heap_setCell _ _ _ _ (by show nb≠rb;omega)).trans j1.out)) Tryz.underlying141 rfl (Zj _)) rfl ?_;refine Er HR.out ?_ P1 L1 R1.out rfl HQ.out rfl ?_
     ·first
       |exact(b2.out.setRow (q:=nb) (.inr (by have:=a0.out;omega)) _)
       |exact((b2.out.setCell (p:=⟨rb,2,none⟩) (.inl rfl) _).setRow (q:=nb) (.inr (by have:=a0.out;omega)) _)
     ·simp only[Bool.false_eq_true,if_false];rw[d3.out]
      first
       |exact Xq k2.out _ _ (by omega)
       |exact Xq k2.out.wrong _ _ (by omega)
   |true=>
    go_wp2_with (first|(go_at_call 132;refine(b1.out _ e3.out).mono ?_;rintro e wx ⟨rfl,h1,o1⟩;have e1:=(o1.block sb T3 (by omega)).trans HS.out;have S2:=(o1.block nb S3 (by omega)).trans HN.out;have k2:=Hd h1;have A0:=Hd e1;have j1:=Hd S2;have b2:=Hd (v1.out.then o1);have i2:=Za e1;have j2:=Za S2;obtain⟨d0,d1,d2,y1,y2⟩:=h1.cells;clear h1 o1 e1 S2;have s0:wx.cell? ⟨sb,0,none⟩=some (.int .u64 q.a):=Zb A0.out 0;have s1:wx.cell? ⟨sb,1,none⟩=some (.int .u64 q.b):=Zb A0.out 1;have s2:wx.cell? ⟨sb,2,none⟩=some (.int .u64 q.c):=Zb A0.out 2;have s3:wx.cell? ⟨sb,3,none⟩=some (.int .u64 q.d):=Zb A0.out 3)|fail)
    clear s0 s1 s2 s3
    go_loopw [8] (λv wy=>∃ k:Nat,k<=4/\v=.int .i64 k/\wy.heap[sb]?=some (.cells (Q4.cells (ZiR q k)) 138 (0,0))/\Only (λk=>k=sb) wx wy) (λv _=>4 - (intOf v).toNat)
    case atStart=>exact⟨0,by omega,rfl,A0.out,Only.refl _ _⟩
    case round=>
     obtain⟨k,hk,rfl,e1,hox⟩:=hrel;have g0:=Hd e1;have r1:=Hd hox;clear e1 hox;clear d0 d1 d2 y1 y2;obtain⟨x0,x1,x2,x3⟩:=E4 HQ.out;by_cases hk4:k=4
     ·subst hk4;have g2:RefAt wr rb S (j+1) false:=(r1.out.block rb (by omega) (by omega)).trans k2.out;have K2:wr.heap[nb]?=some (.cells Zn 141 (0,0)):=(r1.out.block nb (by omega) (by omega)).trans j1.out;have L2:Only (λk=>k=rb) w wr:=b2.out.trans (r1.out.mono λk _ h=>.inr (by have:=a0.out;omega));have s0:wr.cell? ⟨sb,0,none⟩=some (.int .u64 q.not.a):=Zb g0.out 0;have s1:wr.cell? ⟨sb,1,none⟩=some (.int .u64 q.not.b):=Zb g0.out 1;have s2:wr.cell? ⟨sb,2,none⟩=some (.int .u64 q.not.c):=Zb g0.out 2;have s3:wr.cell? ⟨sb,3,none⟩=some (.int .u64 q.not.d):=Zb g0.out 3;obtain⟨c0,c1,c2,z1,z2⟩:=g2.cells;have F0:=Hd g2;have m0:=Hd K2;have K0:=Hd L2;have g3:=Q4.not_ok HQ.out
      obtain⟨qn,hqe⟩:∃ qn,q.not=qn:=⟨_,rfl⟩
      rw[hqe]at s0 s1 s2 s3 g3;have e4:=Hd hqe;have k4:=Hd g3;clear g2 K2 L2 hqe g3 x0 x1 x2 x3;cases hno:WB qn.a qn.b qn.c qn.d 0 0 0 0
      all_goals
       have d3:=Hd (show qn.isNone=_ from hno)
       go_wp2_with (first|fail|(refine wpList_store_row rfl 141 (.tmp 2) (.tmp 71) ?_ nb (Zh (setA qn)) ?_ ?_ 141 Zn ?_ (Zj _) (by rw[Zi];rfl) (Zm _) ?_;(with_reducible rfl);rfl;rfl;first|exact m0.out|exact(Below.heap_setCell _ _ _ _ (by show nb≠rb;omega)).trans m0.out)|fail)
       refine bodyPost_ret (results_cell_row rfl _ _ nb 141 (Zh (setA qn)) (0,0) _ rfl (setRow_heap _ _ _ _ _ _ (by first|exact m0.out|exact(Below.heap_setCell _ _ _ _ (by show nb≠rb;omega)).trans m0.out)) Tryz.underlying141 rfl (Zj _)) rfl ?_;refine Er HR.out ?_ P1 L1 R1.out e4.out k4.out rfl ?_
       ·first
         |exact(K0.out.setRow (q:=nb) (.inr (by have:=a0.out;omega)) _)
         |exact((K0.out.setCell (p:=⟨rb,2,none⟩) (.inl rfl) _).setRow (q:=nb) (.inr (by have:=a0.out;omega)) _)
       ·skip
        rw[d3.out]
        first
         |exact Xq F0.out _ _ (by omega)
         |exact Xq F0.out.wrong _ _ (by omega)
     ·have H4:k=0\/k=1\/k=2\/k=3:=by omega
      rcases H4 with rfl|rfl|rfl|rfl
      ·have s0:wr.cell? ⟨sb,0,none⟩=some (.int .u64 q.a):=Zb g0.out 0;have t0:=Zc g0.out 0
       go_wp2_with fail
       exact⟨⟨1,by omega,rfl,(Zf g0.out 0 _).trans rfl,r1.out.setCell (.inl rfl) _⟩,by decide⟩
      ·have s0:wr.cell? ⟨sb,1,none⟩=some (.int .u64 q.b):=Zb g0.out 1;have t0:=Zc g0.out 1
       go_wp2_with fail
       exact⟨⟨2,by omega,rfl,(Zf g0.out 1 _).trans rfl,r1.out.setCell (.inl rfl) _⟩,by decide⟩
      ·have s0:wr.cell? ⟨sb,2,none⟩=some (.int .u64 q.c):=Zb g0.out 2;have t0:=Zc g0.out 2
       go_wp2_with fail
       exact⟨⟨3,by omega,rfl,(Zf g0.out 2 _).trans rfl,r1.out.setCell (.inl rfl) _⟩,by decide⟩
      ·have s0:wr.cell? ⟨sb,3,none⟩=some (.int .u64 q.d):=Zb g0.out 3;have t0:=Zc g0.out 3
       go_wp2_with fail
       exact⟨⟨4,by omega,rfl,(Zf g0.out 3 _).trans rfl,r1.out.setCell (.inl rfl) _⟩,by decide⟩
  ·have z3:ZV f q (rest S j)=O:=by
    rcases hcd with rfl|⟨rfl,h93⟩
    ·rcases HH.out with⟨h1,-, -⟩|⟨-, -, h3⟩|⟨-, h1,-⟩
     ·cases h1
     ·exact h3.symm
     ·cases h1
    ·rcases HH.out with⟨h1,-, -⟩|⟨-, h1,-⟩|⟨-, -, h3⟩
     ·cases h1
     ·cases h1
     ·rw[h93]at h3;exact h3.symm
   have m5:=Hd z3;clear z3;have I0:=λw1 (h1:RefAt w1 rb S j false)=>El w1 rb S j false 93 93 h1 hs rfl
   have b1:=Hd I0;clear I0
   go_upto_region 4 with fail
   go_cut [24] from 12 to 24 (λv wx=>v=.bool true/\RefAt wx rb S j false/\Only (λk=>k=rb) wr wx)
   case first=>
    rcases hcd with rfl|⟨rfl,h93⟩
    ·go_wp2_with fail
     go_meet
     case rel=>exact⟨rfl,e3.out,Only.refl _ _⟩
    ·have I0:=b1.out;rw[h93]at I0;have t1:=Hd I0;clear I0 h93
     go_wp2_with (go_at_call 132;refine(t1.out _ e3.out).mono ?_;rintro e w2 ⟨rfl,h1,o1⟩)
     go_meet
     case rel=>exact⟨rfl,h1,o1⟩
   case rest=>
    obtain⟨rfl,hrx,hox⟩:=hcut;have A0:=Hd ((hox.block sb T3 (by omega)).trans HS.out);have j1:=Hd ((hox.block nb S3 (by omega)).trans HN.out);have b2:=Hd (v1.out.then hox);have k2:=Hd hrx;have i2:=Za A0.out;have j2:=Za j1.out;have H3:=Hd (QH wc rb S j ⟨#[92,93,94,45]⟩ hrx hs hjs (by decide));clear hrx hox b1 c0 c1 c2 z1 z2
    obtain⟨wx,rfl⟩:∃ wx:World,wx=wc:=⟨_,rfl⟩
    go_upto_region 8 with(go_at_call 180;refine H3.out.mono ?_;rintro e w3 hS1;obtain⟨o3,a,ja,ba,rfl,ha256,hja,hjas,hra,hba,hjj⟩:=EU hS1;have W0:=Hd hra;have S4:=Hd hba;have l5:=Hd hjj;have m1:=Hd (b2.out.then o3);have b5:=Hd ((o3.block sb i2 (by omega)).trans A0.out);have y0:=Hd ((o3.block nb j2 (by omega)).trans j1.out);have F4:=Za b5.out;have q4:=Za y0.out;clear hS1 hra hba hjj o3)
    go_cut [36] from 28 to 36 (λv wd=>∃ (p:Bool) (jy:Nat),v=.bool p/\RefAt wd rb S jy ba/\Only (λk=>k=rb) w3 wd/\ja<=jy/\jy<=S.size/\DashO S ja jy ba p)
    case first=>
     have I0:=λw1 (h1:RefAt w1 rb S ja ba)=>El w1 rb S ja ba 45 45 h1 hs rfl
     obtain⟨d0,d1,d2,y1,y2⟩:=W0.out.cells
     cases ba with
     |true=>
      clear I0
      go_wp2_with fail
      go_meet
      case rel=>exact⟨false,ja,rfl,W0.out,Only.refl _ _,Nat.le_refl _,hjas,.inr ⟨rfl,rfl,.inl rfl⟩⟩
     |false=>
      cases h45:Zg 45 (rest S ja) with
      |false=>
       rw[h45]at I0;have b1:=Hd I0;have W2:=Hd h45;clear I0 h45
       go_wp2_with (go_at_call 132;refine(b1.out _ W0.out).mono ?_;rintro e w4 ⟨rfl,h4,o4⟩)
       go_meet
       case rel=>exact⟨false,ja,rfl,h4,o4,Nat.le_refl _,hjas,.inr ⟨rfl,rfl,.inr W2.out⟩⟩
      |true=>
       rw[h45]at I0;have b1:=Hd I0;have W2:=Hd h45;clear I0 h45
       go_wp2_with (go_at_call 132;refine(b1.out _ W0.out).mono ?_;rintro e w4 ⟨rfl,h4,o4⟩)
       go_meet
       case rel=>exact⟨true,ja+1,rfl,h4,o4,by omega,ZQ W2.out,.inl ⟨rfl,rfl,W2.out,rfl⟩⟩
    case rest=>
     obtain⟨p,jy,rfl,hrd,hod,hjy1,hjy2,hdash⟩:=hcut;have P4:=Hd ((hod.block sb F4 (by omega)).trans b5.out);have m0:=Hd ((hod.block nb q4 (by omega)).trans y0.out);have K0:=Hd (m1.out.then hod);have F0:=Hd hrd;have v2:=Hd hdash;have f4:=Za P4.out;have t4:=Za m0.out;clear hrd hod hdash
     obtain⟨w4,rfl⟩:∃ w4:World,w4=wc:=⟨_,rfl⟩
     go_upto_if 36 with fail
     go_cut [7] from 37 to 38 (λv we=>∃ (b jz:Nat) (bz:Bool),v=.int .i64 b/\b<256/\RefAt we rb S jz bz/\Only (λk=>k=rb) w4 we/\jy<=jz/\jz<=S.size/\OneO S q j a b jz bz)
     case first=>
      cases p with
      |false=>
       go_wp2_with fail
       go_meet
       case rel=>
        rcases v2.out with⟨h1,-⟩|⟨-, rfl,h45⟩
        ·cases h1
        ·refine⟨a,jy,ba,rfl,ha256,F0.out,Only.refl _ _,Nat.le_refl _,hjy2,?_⟩;rcases S4.out with⟨rfl,h1⟩|⟨rfl,h1⟩
         ·rcases h45 with h45|h45
          ·cases h45
          ·exact OneO.single h1 h45 (l5.out rfl)
         ·exact OneO.wrong h1
      |true=>
       obtain⟨rfl,h45,rfl⟩:ba=false/\Zg 45 (rest S ja)=true/\jy=ja+1:=by
        rcases v2.out with⟨-, h1,h2,h3⟩|⟨h1,-⟩
        ·exact⟨h1,h2,h3⟩
        ·cases h1
       have W2:=Hd h45;have t3:=Hd (QH w4 rb S (ja+1) ⟨#[92,93,94,45]⟩ F0.out hs hjy2 (by decide));clear h45
       go_wp2_with (go_at_call 180;refine t3.out.mono ?_;rintro e w5 hS2;obtain⟨o5,b,jb,bb,rfl,hb256,hjb,hjbs,e0,hbb,hjj2⟩:=EU hS2;have q5:=Hd e0;have g5:=Hd hbb;have J1:=Hd o5;have HJ2:=Hd hjj2;clear hS2 e0 hbb o5 hjj2)
       go_meet
       case rel=>
        refine⟨b,jb,bb,rfl,hb256,q5.out,J1.out,hjb,hjbs,?_⟩
        have h1:one Ys (rest S j)=some (a,rest S ja):=by
         rcases S4.out with⟨-, h1⟩|⟨h1,-⟩
         ·exact h1
         ·cases h1
        rcases g5.out with⟨rfl,h2⟩|⟨rfl,h2⟩
        ·exact OneO.two h1 W2.out h2 (by omega)
        ·exact OneO.half h1 W2.out h2
     case rest=>
      obtain⟨b,jz,bz,rfl,hb256,hre,hoe,hjz1,hjz2,r0⟩:=hcut;have e5:=Hd ((hoe.block sb f4 (by omega)).trans P4.out);have F1:=Hd ((hoe.block nb t4 (by omega)).trans m0.out);have J1:=Hd (K0.out.then hoe);have I1:=Hd hre;have j0:=Hd r0;have d4:=Za e5.out;have b4:=Za F1.out;clear hre hoe r0
      obtain⟨w5,rfl⟩:∃ w5:World,w5=wc:=⟨_,rfl⟩
      go_upto_if 41 with fail
      go_cut [] from 39 to 44 (λwf=>∃ bf:Bool,Hid (bf=(bz || decide (b<a)))/\RefAt wf rb S jz bf/\Only (λk=>k=rb) w5 wf)
      case first=>
       obtain⟨d0,d1,d2,y1,y2⟩:=I1.out.cells;by_cases hab:(b:Int)<(a:Int)
       ·go_wp2_with fail
        go_meet
        case rel=>exact⟨true,Hd (by rw[decide_eq_true (by omega)];simp),I1.out.wrong,(Only.refl (λk=>k=rb) w5).setCell (p:=⟨rb,2,none⟩) (.inl rfl) _⟩
       ·go_wp2_with fail
        go_meet
        case rel=>exact⟨bz,Hd (by rw[decide_eq_false (by omega)];simp),I1.out,Only.refl _ _⟩
      case rest=>
       obtain⟨bf,hbf,hrf,hof⟩:=hcut;have c5:=Hd ((hof.block sb d4 (by omega)).trans e5.out);have W1:=Hd ((hof.block nb b4 (by omega)).trans F1.out);have O2:=Hd (J1.out.then hof);have P2:=Hd hrf;have hsl6:=Za c5.out;have hnl6:=Za W1.out;clear hrf hof
       obtain⟨w6,rfl⟩:∃ w6:World,w6=wc:=⟨_,rfl⟩
       go_wp2_with fail
       go_loopw [6] (λv wl=>∃ k:Nat,k<=b+1 - a/\v=.int .i64 ((a+k:Nat):Int)/\wl.heap[sb]?=some (.cells (Q4.cells (q.withAll a k)) 138 (0,0))/\Only (λk=>k=sb) w6 wl) (λv _=>b+1 - (intOf v).toNat)
       case atStart=>exact⟨0,by omega,rfl,c5.out,Only.refl _ _⟩
       case round=>
        obtain⟨k,hk,rfl,e1,hox⟩:=hrel;have N2:=Hd e1;have T2:=Hd hox;clear e1 hox
        obtain⟨x,hx⟩:∃ x,a+k=x:=⟨_,rfl⟩
        rw[hx];by_cases hkc:k=b+1 - a
        ·have hgt:¬ (x:Int)<=(b:Int):=by omega
         have R4:=Hd hkc;have HX:=Hd hx;have g2:RefAt wr rb S jz bf:=(T2.out.block rb (by omega) (by omega)).trans P2.out;have K2:wr.heap[nb]?=some (.cells Zn 141 (0,0)):=(T2.out.block nb (by omega) (by omega)).trans W1.out;have L2:Only (λk=>k=rb) w wr:=O2.out.trans (T2.out.mono λk _ h=>.inr (by have:=a0.out;omega));have C2:=Zeq (bz:=bf) m5.out hlf j0.out hbf.out;have M3:=Hd C2;have C4:=Hd g2;have t5:=Hd K2;have r4:=Hd L2;clear C2 g2 K2 L2 hx hkc
         go_wp2_with fail
         obtain⟨f2,hf2,hh2⟩:=M3.out;rw[<-R4.out]at hh2;refine⟨⟨false,bf,q.withAll a k,jz,f2,rfl,C4.out,N2.out,t5.out,r4.out,Q4.withAll_ok HQ.out (by have:=R4.out;omega),by omega,hjz2,hf2,hh2⟩,?_⟩;rw[YQ C4.out,EE C4.out,YQ e3.out,EE e3.out];have r3:=hbf.out;rcases j0.out with⟨h1,-⟩|⟨-, h1,-⟩
         ·rw[h1]at r3;rw[r3];simp;omega
         ·cases bf<;>simp<;>omega
        ·have t2:(x:Int)<=(b:Int):=by omega
         have v3:x<256:=by omega
         have Z3:=Q4.withAll_ok HQ.out (k:=k) (n:=a) (by omega)
         obtain⟨q1,hq1⟩:∃ q1,q.withAll a k=q1:=⟨_,rfl⟩
         rw[hq1]at N2 Z3;have v5:=Hd (show q.withAll a (k+1)=q1.with x by rw[Yg,hq1,hx]);have s0:wr.cell? ⟨sb,0,none⟩=some (.int .u64 q1.a):=Zb N2.out 0;have s1:wr.cell? ⟨sb,1,none⟩=some (.int .u64 q1.b):=Zb N2.out 1;have s2:wr.cell? ⟨sb,2,none⟩=some (.int .u64 q1.c):=Zb N2.out 2;have s3:wr.cell? ⟨sb,3,none⟩=some (.int .u64 q1.d):=Zb N2.out 3;have n4:=Za N2.out;have k5:=Hd (B1 q1 Z3 x v3 wr);have HX:=Hd hx;clear hq1 Z3 hx
         go_wp2_with (first|(go_at_call 179;refine k5.out.mono ?_;rintro e w7 ⟨rfl,hb5⟩;have K4:=Hd ((hb5.block sb n4).trans N2.out);have r4:=Hd (T2.out.trans (Only.of_below hb5));clear hb5)|(refine wpList_store_row rfl 138 (.tmp 4) (.tmp 52) ?_ sb (Q4.cells (q1.with x)) ?_ ?_ 138 (Q4.cells q1) ?_ Gn rfl (Zdq _) ?_;(with_reducible rfl);rfl;rfl;exact K4.out)|fail)
         refine⟨⟨k+1,by omega,by have:=HX.out;simp;omega,?_,r4.out.setRow (q:=sb) (.inl rfl) _⟩,by have:=HX.out;simp only[intOf];omega⟩;rw[v5.out];exact setRow_heap _ _ _ _ _ _ K4.out
end Go.Proofs.YtbchkjfnakabkaaGreatDoor
namespace Go.Proofs.YtbchkjfnakabkaaGreatDoor
open Go.RowKit PX
theorem EY(w:World)(kind:Int)(v:Value)(base:Nat)(L:List RxA)(hown:w.ownsRow base 141 8 v L.length (Xf L))(hlen:L.length<=1000) :
 Calls Tryz.prog 131 #[.int .i64 kind,v] w λe w'=>∃ a cap,v=.slice a L.length cap/\e=.returned (.agg (Zh (Xn kind a cap L)))/\Below w.heap.size w w':=by
 obtain⟨a,cap,rfl,hc1,hc2,ha⟩:=Jk hown;by_cases h1:L.length=1
 ·obtain⟨x,rfl⟩:=List.length_eq_one_iff.1 h1;obtain⟨g,rfl,hbg,hgw,-⟩:=ha.resolve_left (by rintro⟨h,-⟩;simp at h)
  have hC:∀ j u,(Zh x)[j]?=some u->w.cell? ⟨g,j,none⟩=some u:=by
   intro j u hu;have hj:j<8:=by have:=(Array.getElem?_eq_some_iff.1 hu).1;rwa [Zi]at this
   rw[hown.cellAt j (by simp;omega)]
   simpa [Xf,Zh] using hu
  have HC:=Hd hC;clear hC;have a0:=Hd (Zi x);have j0:=Hd (Zm x);show Calls _ _ _ _ λe w'=>∃ a' cap',Value.slice (some ⟨g,0,none⟩) [x].length cap=.slice a' [x].length cap'/\e=.returned (.agg (Zh x))/\Below w.heap.size w w'
  obtain⟨CS,HCS⟩:∃ CS,Hid (Zh x=CS):=⟨_,Hd rfl⟩
  rw[HCS.out]at HC a0 j0 ⊢;clear hown;have HZ:=Hd (show(w.alloc (.cells Zn 141)).heap[w.heap.size]?=some (.cells Zn 141 (0,0)) from Zd w _);simp only[List.length_singleton];have J3:(Tryz.prog.info? 141).map (·.size)=some CS.size:=by rw[a0.out];exact ZH
  have n1:=Hd J3;clear J3;have s5:=Hd (λj u hu=>(World.cell?_of_block (w:=w) (a:=⟨g,j,none⟩) (Below.heap_alloc w (.cells Zn 141) g hgw)).trans (HC.out j u hu))
  go_enter Tryz.func131,Tryz.ntmps131
  go_wp2_with (first
   |refine VF rfl 141 (.tmp 9) rfl g 0 rfl CS _ (by intro j u hu;rw[Nat.zero_add];exact s5.out j u hu) Tryz.underlying141 rfl n1.out ?_
   |refine wpList_store_row rfl 141 (.tmp 4) (.tmp 10) rfl w.heap.size CS rfl rfl 141 _ HZ.out n1.out (by rw[a0.out];rfl) j0.out ?_)
  refine bodyPost_ret (results_cell_row rfl _ _ w.heap.size 141 CS (0,0) _ rfl (setRow_heap _ _ _ _ _ _ HZ.out) Tryz.underlying141 rfl n1.out) rfl ?_;exact⟨_,_,rfl,rfl,Jd w _ _⟩
 ·have hj:Xn kind a cap L=.node kind 0 0 0 0 0 0 a cap L:=by
   match L,h1 with
   |[],_=>rfl
   |[_],h1=>exact absurd rfl h1
   |_::_::_,_=>rfl
  suffices hs:Calls Tryz.prog 131 #[.int .i64 kind,.slice a L.length cap] w λe w'=>e=.returned (.agg (Zh (.node kind 0 0 0 0 0 0 a cap L)))/\Below w.heap.size w w' by
   refine hs.mono ?_;rintro e w' ⟨he,hb⟩;exact⟨a,cap,rfl,by rw[hj];exact he,hb⟩
  have n1:=Hd (Zj (.node kind 0 0 0 0 0 0 a cap L));have j0:=Hd (Zm (.node kind 0 0 0 0 0 0 a cap L));have n0:((L.length:Int)==1)=false:=by rw[beq_eq_false_iff_ne];omega
  obtain⟨n,hn⟩:∃ n,L.length=n:=⟨_,rfl⟩
  have O3:Zh (.node kind 0 0 0 0 0 0 a cap L)=#[.int .i64 kind,.int .i64 0,.int .i64 0,.int .u64 0,.int .u64 0,.int .u64 0,.int .u64 0,.slice a n cap]:=by rw[<-hn];rfl
  obtain⟨CS,HCS⟩:∃ CS,Hid (Zh (.node kind 0 0 0 0 0 0 a cap L)=CS):=⟨_,Hd rfl⟩
  rw[HCS.out]at n1 j0 O3 ⊢;rw[hn]at n0 hlen ⊢;clear hown ha hj;have g4:CS.size=8:=by rw[O3];rfl
  have F5:=Hd O3;clear O3;have HZ:=Hd (show(w.alloc (.cells Zn 141)).heap[w.heap.size]?=some (.cells Zn 141 (0,0)) from Zd w _)
  go_enter Tryz.func131,Tryz.ntmps131
  go_wp2_with (first
   |refine wpList_store_row rfl 141 (.tmp 4) (.tmp 13) rfl w.heap.size CS rfl (by rw[F5.out];rfl) 141 _ HZ.out n1.out (by rw[g4];rfl) j0.out ?_)
  refine bodyPost_ret (results_cell_row rfl _ _ w.heap.size 141 CS (0,0) _ rfl (setRow_heap _ _ _ _ _ _ HZ.out) Tryz.underlying141 rfl n1.out) rfl ?_;exact⟨rfl,Jd w _ _⟩
def XQ(rb:Nat)(S:ByteArray)(i:Nat)(w:World)(o:Option (Rx × List UInt8))(e:Ending)(w':World):Prop:=
 Only (fun k=>k=rb) w w'∧∃ (X:RxA) (j:Nat) (b:Bool),e=.returned (.agg (Zh X))∧i≤j∧j≤S.size∧RefAt w' rb S j b∧X.In w' w'.heap.size∧(∀c∈X.blocks,w.heap.size≤c∧c<w'.heap.size) ∧
  ((b=false/\o=some (X.bare,rest S j))\/(b=true/\o=none))
theorem at_t(w:World)(rb:Nat)(S:ByteArray)(i:Nat)(bad:Bool)(c:UInt8)(n:Int)(h:RefAt w rb S i bad)(hs:S.size<=1000)(hc:(c.toNat:Int)=n)(h1:Zg c (rest S i)=true) :
 Calls Tryz.prog 132 #[.pointer (some ⟨rb,0,none⟩),.int .u8 n] w λe w'=>e=.returned (.bool true)/\RefAt w' rb S (i+1) bad/\Only (λk=>k=rb) w w':=by
 have h2:=El w rb S i bad c n h hs hc;rw[h1]at h2;exact h2
theorem at_f(w:World)(rb:Nat)(S:ByteArray)(i:Nat)(bad:Bool)(c:UInt8)(n:Int)(h:RefAt w rb S i bad)(hs:S.size<=1000)(hc:(c.toNat:Int)=n)(h1:Zg c (rest S i)=false) :
 Calls Tryz.prog 132 #[.pointer (some ⟨rb,0,none⟩),.int .u8 n] w λe w'=>e=.returned (.bool false)/\RefAt w' rb S i bad/\Only (λk=>k=rb) w w':=by
 have h2:=El w rb S i bad c n h hs hc;rw[h1]at h2;exact h2
theorem Bm{r:Nat->Prop}{X:RxA}{w w':World}{nb:Nat}{cs:Array Value}(hin:X.In w w.heap.size)(hb:∀ c∈X.blocks,nb<c)(C1:∀ c∈X.blocks,c<w.heap.size):X.In (w.setRow nb cs) (w.setRow nb cs).heap.size:=by
 refine hin.keep λc hc=>⟨by rw[size_setRow];exact C1 c hc,λo=>World.cell?_of_block (w:=w) (setRow_other _ _ _ _ (by have:=hb c hc;show c≠nb;omega))⟩
theorem XW{w w1:World}{rb nb i j:Nat}{S:ByteArray}{b:Bool}{X:RxA}{O:Option (Rx × List UInt8)}(hw:w.heap.size=nb)(e0:rb<nb)(ho:Only (λk=>k=rb) w w1)(hr:RefAt w1 rb S j b)(hin:X.In w1 w1.heap.size)
 (hbl:∀ c∈X.blocks,nb<c/\c<w1.heap.size) (hij:i<=j) (hjs:j<=S.size) (hor:(b=false/\O=some (X.bare,rest S j))\/(b=true/\O=none)) :
 XQ rb S i w O (.returned (.agg (Zh X))) (w1.setRow nb (Zh X)):=
 ⟨ho.setRow (.inr (by omega)) _,X,j,b,rfl,hij,hjs,Xq hr _ _ (by omega),Bm (r:=λ_=>True) (w':=w) hin (λc hc=>(hbl c hc).1) (λc hc=>(hbl c hc).2),λc hc=>by rw[size_setRow];exact⟨by have:=(hbl c hc).1;omega,(hbl c hc).2⟩,hor⟩
def ZiU:Option (Q4 × List UInt8)->Option (Rx × List UInt8)
 |none=>none
 |some (q,r)=>some (.set q,r)
def ZhL:Option (Nat × List UInt8)->Option (Rx × List UInt8)
 |none=>none
 |some (b,r)=>some (.set (Q4.none.with b),r)
theorem Zft{rb:Nat}{S:ByteArray}{i f:Nat}{w:World}{l:List UInt8}{e:Ending}{w':World}(h:Says rb S i w (Yy f l) (λq=>.agg (Zh (setA q))) (λv=>∃ q:Q4,q.Ok/\v=.agg (Zh (setA q))) e w') :
 Only (λk=>k=rb) w w'/\∃ (q:Q4) (j:Nat) (b:Bool),q.Ok/\e=.returned (.agg (Zh (setA q)))/\i<=j/\j<=S.size/\RefAt w' rb S j b/\((b=false/\Yy f l=some (q,rest S j))\/(b=true/\Yy f l=none)):=by
 obtain⟨ho,v,j,he,hij,hj,⟨q,h1,rfl,h2⟩|⟨h1,⟨q,hq,rfl⟩,h2⟩⟩:=h
 ·exact⟨ho,q,j,false,DF h1,he,hij,hj,h2,.inl ⟨rfl,h1⟩⟩
 ·exact⟨ho,q,j,true,hq,he,hij,hj,h2,.inr ⟨rfl,h1⟩⟩
theorem Zdp(w:World)(rb:Nat)(S:ByteArray)(i:Nat)(h:RefAt w rb S i false)(hs:S.size<=1000)(hi:i<=S.size)(altf:List UInt8->Option (Rx × List UInt8))(h46:Zg 46 (rest S i)=true) :
 Calls Tryz.prog 154 #[.pointer (some ⟨rb,0,none⟩)] w λe w'=>XQ rb S i w (XE altf (rest S i)) e w':=by
 have hB:XE altf (rest S i)=some (.set Q4.all,rest S (i+1)):=by unfold XE;rw[h46,ZA];rfl
 rw[hB];have f1:=Hd (λw1 (h1:RefAt w1 rb S i false)=>at_t w1 rb S i false 46 46 h1 hs rfl h46);have E2:=ZQ h46;clear h46 hB
 obtain⟨nb,hnb⟩:∃ nb,w.heap.size=nb:=⟨_,rfl⟩
 have e0:=Za h;rw[hnb]at e0;have b0:(w.alloc (.cells Zn 141)).heap[nb]?=some (.cells Zn 141 (0,0)):=Zq _ _ _ hnb;have l0:RefAt (w.alloc (.cells Zn 141)) rb S i false:=Ze h _;have S0:=Hd b0;have j3:=Hd (show RefAt (w.alloc (.cells #[.int .i64 0,.int .i64 0,.int .i64 0,.int .u64 0,.int .u64 0,.int .u64 0,.int .u64 0,.slice none 0 0] 141)) rb S i false from l0);have N0:=Hd ((Only.refl (λk=>k=rb) w).alloc (.cells Zn 141));have q0:nb<(w.alloc (.cells Zn 141)).heap.size:=Za b0;have a0:=Hd hnb;clear b0 l0 h
 go_enter Tryz.func154,Tryz.ntmps154
 go_wp2_with (first
  |(go_at_call 132;(with_reducible refine(f1.out _ j3.out).mono ?_);rintro e w1 ⟨rfl,h1,o1⟩;have n3:=Hd h1;have M0:=Hd (N0.out.then o1);have H1:=Hd ((o1.block nb q0 (by omega)).trans S0.out);have M1:=Za H1.out;clear h1 o1)
  |(refine wpList_store_row rfl 141 (.tmp 2) (.tmp 8) ?_ nb (Zh (setA Q4.all)) ?_ ?_ 141 Zn ?_ (Zj _) (by rw[Zi];rfl) (Zm _) ?_;(with_reducible rfl);rfl;rfl;exact H1.out)
  |fail)
 refine bodyPost_ret (results_cell_row rfl _ _ nb 141 (Zh (setA Q4.all)) (0,0) _ rfl (setRow_heap _ _ _ _ _ _ H1.out) Tryz.underlying141 rfl (Zj _)) rfl ?_;exact XW a0.out e0 M0.out n3.out (Jv _ Q4.all_ok _ _) (by rw[XB];simp) (by omega) (by omega) (.inl ⟨rfl,by rw[Ym]⟩)
theorem Bd(w:World)(rb:Nat)(S:ByteArray)(i:Nat)(h:RefAt w rb S i false)(hs:S.size<=1000)(hi:i<=S.size)(altf:List UInt8->Option (Rx × List UInt8))(h46:Zg 46 (rest S i)=false)(h91:Zg 91 (rest S i)=true) :
 Calls Tryz.prog 154 #[.pointer (some ⟨rb,0,none⟩)] w λe w'=>XQ rb S i w (XE altf (rest S i)) e w':=by
 have hB:XE altf (rest S i)=ZiU (Yy (rest S i).length (rest S (i+1))):=by
  unfold XE;rw[h46,h91,ZA];simp only[Bool.false_eq_true,if_false,if_true];cases Yy (rest S i).length (rest S i).tail<;>rfl
 rw[hB];have E2:=ZQ h91;have f1:=Hd (λw1 (h1:RefAt w1 rb S i false)=>at_f w1 rb S i false 46 46 h1 hs rfl h46);have t1:=Hd (λw1 (h1:RefAt w1 rb S i false)=>at_t w1 rb S i false 91 91 h1 hs rfl h91);have A4:=Hd (λw1 (h1:RefAt w1 rb S (i+1) false)=>Zfv w1 rb S (i+1) (rest S i).length h1 hs (by omega) (by rw[ZR,ZR];omega));clear h46 h91 hB
 obtain⟨nb,hnb⟩:∃ nb,w.heap.size=nb:=⟨_,rfl⟩
 have e0:=Za h;rw[hnb]at e0;have b0:(w.alloc (.cells Zn 141)).heap[nb]?=some (.cells Zn 141 (0,0)):=Zq _ _ _ hnb;have l0:RefAt (w.alloc (.cells Zn 141)) rb S i false:=Ze h _;have S0:=Hd b0;have j3:=Hd (show RefAt (w.alloc (.cells #[.int .i64 0,.int .i64 0,.int .i64 0,.int .u64 0,.int .u64 0,.int .u64 0,.int .u64 0,.slice none 0 0] 141)) rb S i false from l0);have N0:=Hd ((Only.refl (λk=>k=rb) w).alloc (.cells Zn 141));have q0:nb<(w.alloc (.cells Zn 141)).heap.size:=Za b0;have a0:=Hd hnb;clear b0 l0 h
 go_enter Tryz.func154,Tryz.ntmps154
 go_wp2_with (first
  |(go_at_call 132;(with_reducible refine(f1.out _ j3.out).mono ?_);rintro e w1 ⟨rfl,h1,o1⟩;have n3:=Hd h1;have M0:=Hd (N0.out.then o1);have H1:=Hd ((o1.block nb q0 (by omega)).trans S0.out);have M1:=Za H1.out;clear h1 o1)
  |(go_at_call 132;(with_reducible refine(t1.out _ n3.out).mono ?_);rintro e w2 ⟨rfl,h1,o1⟩;have v0:=Hd h1;have g1:=Hd (M0.out.then o1);have z0:=Hd ((o1.block nb M1 (by omega)).trans H1.out);have e2:=Za z0.out;clear h1 o1)
  |(go_at_call 178;(with_reducible refine(A4.out _ v0.out).mono ?_);rintro e w3 hSS;obtain⟨o1,q,j,b,hq,rfl,hij,hjs,h1,hor⟩:=Zft hSS;have E1:=Hd h1;have m1:=Hd (g1.out.then o1);have y0:=Hd ((o1.block nb e2 (by omega)).trans z0.out);have A2:=Hd hor;have HQ:=Hd hq;clear h1 o1 hor hSS hq)
  |(refine wpList_store_row rfl 141 (.tmp 2) (.tmp 13) ?_ nb (Zh (setA q)) ?_ ?_ 141 Zn ?_ (Zj _) (by rw[Zi];rfl) (Zm _) ?_;(with_reducible rfl);rfl;rfl;exact y0.out)
  |fail)
 refine bodyPost_ret (results_cell_row rfl _ _ nb 141 (Zh (setA q)) (0,0) _ rfl (setRow_heap _ _ _ _ _ _ y0.out) Tryz.underlying141 rfl (Zj _)) rfl ?_;refine XW a0.out e0 m1.out E1.out (Jv _ HQ.out _ _) (by rw[XB];simp) (by omega) hjs ?_;rcases A2.out with⟨rfl,h⟩|⟨rfl,h⟩
 ·left;rw[h,Ym];exact⟨rfl,rfl⟩
 ·right;rw[h];exact⟨rfl,rfl⟩
theorem Zdo(w:World)(rb:Nat)(S:ByteArray)(i:Nat)(h:RefAt w rb S i false)(hs:S.size<=1000)(hi:i<=S.size)(altf:List UInt8->Option (Rx × List UInt8))(h46:Zg 46 (rest S i)=false)(h91:Zg 91 (rest S i)=false)(h40:Zg 40 (rest S i)=false) :
 Calls Tryz.prog 154 #[.pointer (some ⟨rb,0,none⟩)] w λe w'=>XQ rb S i w (XE altf (rest S i)) e w':=by
 have hB:XE altf (rest S i)=ZhL (one V8 (rest S i)):=by
  unfold XE;rw[h46,h91,h40];simp only[Bool.false_eq_true,if_false];cases one V8 (rest S i)<;>rfl
 rw[hB];have f1:=Hd (λw1 (h1:RefAt w1 rb S i false)=>at_f w1 rb S i false 46 46 h1 hs rfl h46);have t1:=Hd (λw1 (h1:RefAt w1 rb S i false)=>at_f w1 rb S i false 91 91 h1 hs rfl h91);have l3:=Hd (λw1 (h1:RefAt w1 rb S i false)=>at_f w1 rb S i false 40 40 h1 hs rfl h40);have j0:=Hd (λw1 (h1:RefAt w1 rb S i false)=>QH w1 rb S i ⟨#[92,46,91,93,40,41,124,42,43,63,123,125]⟩ h1 hs hi (by decide))
 have L3:=Hd (fun w1 (n:Nat) (hn:n<256)=>show Calls Tryz.prog 179 #[.agg #[.int .u64 0,.int .u64 0,.int .u64 0,.int .u64 0],.int .i64 n] w1 fun e w'=>∃ q2:Q4,Hid (q2=Q4.none.with n)∧e=.returned (.agg #[.int .u64 q2.a,.int .u64 q2.b,.int .u64 q2.c,.int .u64 q2.d])∧Below w1.heap.size w1 w' from
  (B1 Q4.none Q4.none_ok n hn w1).mono λe w' h=>⟨_,Hd rfl,h.1,h.2⟩)
 clear h46 h91 h40 hB
 obtain⟨nb,hnb⟩:∃ nb,w.heap.size=nb:=⟨_,rfl⟩
 have e0:=Za h;rw[hnb]at e0;have b0:(w.alloc (.cells Zn 141)).heap[nb]?=some (.cells Zn 141 (0,0)):=Zq _ _ _ hnb;have l0:RefAt (w.alloc (.cells Zn 141)) rb S i false:=Ze h _;have S0:=Hd b0;have j3:=Hd (show RefAt (w.alloc (.cells #[.int .i64 0,.int .i64 0,.int .i64 0,.int .u64 0,.int .u64 0,.int .u64 0,.int .u64 0,.slice none 0 0] 141)) rb S i false from l0);have N0:=Hd ((Only.refl (λk=>k=rb) w).alloc (.cells Zn 141));have q0:nb<(w.alloc (.cells Zn 141)).heap.size:=Za b0;have a0:=Hd hnb;clear b0 l0 h
 go_enter Tryz.func154,Tryz.ntmps154
 go_wp2_with (first
  |(go_at_call 132;(with_reducible refine(f1.out _ j3.out).mono ?_);rintro e w1 ⟨rfl,h1,o1⟩;have n3:=Hd h1;have M0:=Hd (N0.out.then o1);have H1:=Hd ((o1.block nb q0 (by omega)).trans S0.out);have M1:=Za H1.out;clear h1 o1)
  |(go_at_call 132;(with_reducible refine(t1.out _ n3.out).mono ?_);rintro e w2 ⟨rfl,h1,o1⟩;have v0:=Hd h1;have g1:=Hd (M0.out.then o1);have z0:=Hd ((o1.block nb M1 (by omega)).trans H1.out);have e2:=Za z0.out;clear h1 o1)
  |(go_at_call 132;(with_reducible refine(l3.out _ v0.out).mono ?_);rintro e w3 ⟨rfl,h1,o1⟩;have E1:=Hd h1;have m1:=Hd (g1.out.then o1);have y0:=Hd ((o1.block nb e2 (by omega)).trans z0.out);have b3:=Za y0.out;clear h1 o1)
  |(go_at_call 180;(with_reducible refine(j0.out _ E1.out).mono ?_);rintro e w4 hSS;obtain⟨o1,a,j,b,rfl,ha256,hij,hjs,h1,hor,-⟩:=EU hSS;have F0:=Hd h1;have K0:=Hd (m1.out.then o1);have m0:=Hd ((o1.block nb b3 (by omega)).trans y0.out);have I3:=Za m0.out;have A2:=Hd hor;clear h1 o1 hor hSS)
  |(go_at_call 179;(with_reducible refine(L3.out _ a ha256).mono ?_);rintro e w5 ⟨q2,hq2,rfl,hb5⟩;have I1:=Hd (F0.out.below hb5);have J1:=Hd (K0.out.trans (Only.of_below hb5));have F1:=Hd ((hb5.block nb I3).trans m0.out);clear hb5)
  |(refine wpList_store_row rfl 141 (.tmp 2) (.tmp 30) ?_ nb (Zh (setA q2)) ?_ ?_ 141 Zn ?_ (Zj _) (by rw[Zi];rfl) (Zm _) ?_;(with_reducible rfl);rfl;rfl;exact F1.out)
  |fail)
 refine bodyPost_ret (results_cell_row rfl _ _ nb 141 (Zh (setA q2)) (0,0) _ rfl (setRow_heap _ _ _ _ _ _ F1.out) Tryz.underlying141 rfl (Zj _)) rfl ?_;refine XW a0.out e0 J1.out I1.out (Jv _ (by rw[hq2.out];exact Q4.with_ok Q4.none_ok ha256) _ _) (by rw[XB];simp) hij hjs ?_;rw[hq2.out];rcases A2.out with⟨rfl,h⟩|⟨rfl,h⟩
 ·left;rw[show one V8 (rest S i)=_ from h,Ym];exact⟨rfl,rfl⟩
 ·right;rw[show one V8 (rest S i)=_ from h];exact⟨rfl,rfl⟩
end Go.Proofs.YtbchkjfnakabkaaGreatDoor
namespace Go.Proofs.YtbchkjfnakabkaaGreatDoor
open Go.RowKit PX
def ZhA:Option (Rx × List UInt8)->Option (Rx × List UInt8)
 |none=>none
 |some (x,r)=>if Zg 41 r then some (x,r.tail) else none
theorem EA{X:RxA}{w w':World}{lo:Nat}(hin:X.In w w.heap.size)(hb:∀ c∈X.blocks,lo<=c/\c<w.heap.size)(hs:w.heap.size<=w'.heap.size)(hk:∀ c,lo<=c->c<w.heap.size->w'.heap[c]?=w.heap[c]?):X.In w' w'.heap.size:=
 hin.keep λc hc=>⟨by have:=(hb c hc).2;omega,λo=>World.cell?_of_block (w:=w) (hk c (hb c hc).1 (hb c hc).2)⟩
theorem Zby(w:World)(rb:Nat)(S:ByteArray)(i:Nat)(h:RefAt w rb S i false)(hs:S.size<=1000)(hi:i<=S.size)(altf:List UInt8->Option (Rx × List UInt8))(h46:Zg 46 (rest S i)=false)(h91:Zg 91 (rest S i)=false)(h40:Zg 40 (rest S i)=true)
 (halt:∀ w1,RefAt w1 rb S (i+1) false->Calls Tryz.prog 104 #[.pointer (some ⟨rb,0,none⟩)] w1 λe w2=>XQ rb S (i+1) w1 (altf (rest S (i+1))) e w2) :
 Calls Tryz.prog 154 #[.pointer (some ⟨rb,0,none⟩)] w λe w'=>XQ rb S i w (XE altf (rest S i)) e w':=by
 have hB:XE altf (rest S i)=ZhA (altf (rest S (i+1))):=by
  unfold XE;rw[h46,h91,h40,ZA];simp only[Bool.false_eq_true,if_false,if_true];cases altf (rest S i).tail<;>rfl
 rw[hB];have f1:=Hd (λw1 (h1:RefAt w1 rb S i false)=>at_f w1 rb S i false 46 46 h1 hs rfl h46);have t1:=Hd (λw1 (h1:RefAt w1 rb S i false)=>at_f w1 rb S i false 91 91 h1 hs rfl h91);have l3:=Hd (λw1 (h1:RefAt w1 rb S i false)=>at_t w1 rb S i false 40 40 h1 hs rfl h40);have E2:=ZQ h40;have A3:=Hd halt
 obtain⟨O,hO⟩:∃ O,altf (rest S (i+1))=O:=⟨_,rfl⟩
 rw[hO]at A3 ⊢;clear h46 h91 h40 hB halt hO
 obtain⟨nb,hnb⟩:∃ nb,w.heap.size=nb:=⟨_,rfl⟩
 have e0:=Za h;rw[hnb]at e0;have b0:(w.alloc (.cells Zn 141)).heap[nb]?=some (.cells Zn 141 (0,0)):=Zq _ _ _ hnb;have l0:RefAt (w.alloc (.cells Zn 141)) rb S i false:=Ze h _;have S0:=Hd b0;have j3:=Hd (show RefAt (w.alloc (.cells #[.int .i64 0,.int .i64 0,.int .i64 0,.int .u64 0,.int .u64 0,.int .u64 0,.int .u64 0,.slice none 0 0] 141)) rb S i false from l0);have N0:=Hd ((Only.refl (λk=>k=rb) w).alloc (.cells Zn 141));have q0:nb<(w.alloc (.cells Zn 141)).heap.size:=Za b0;have a0:=Hd hnb;clear b0 l0 h
 go_enter Tryz.func154,Tryz.ntmps154
 go_upto_region 7 with(first
  |(go_at_call 132;(with_reducible refine(f1.out _ j3.out).mono ?_);rintro e w1 ⟨rfl,h1,o1⟩;have n3:=Hd h1;have M0:=Hd (N0.out.then o1);have H1:=Hd ((o1.block nb q0 (by omega)).trans S0.out);have M1:=Za H1.out;clear h1 o1)
  |(go_at_call 132;(with_reducible refine(t1.out _ n3.out).mono ?_);rintro e w2 ⟨rfl,h1,o1⟩;have v0:=Hd h1;have g1:=Hd (M0.out.then o1);have z0:=Hd ((o1.block nb M1 (by omega)).trans H1.out);have e2:=Za z0.out;clear h1 o1)
  |(go_at_call 132;(with_reducible refine(l3.out _ v0.out).mono ?_);rintro e w3 ⟨rfl,h1,o1⟩;have E1:=Hd h1;have m1:=Hd (g1.out.then o1);have y0:=Hd ((o1.block nb e2 (by omega)).trans z0.out);have b3:=Za y0.out;clear h1 o1)
  |(go_at_call 104;(with_reducible refine(A3.out _ E1.out).mono ?_);rintro e w4 ⟨o1,X,j,b,rfl,hij,hjs,h1,hin,hbl,hor⟩;have F0:=Hd h1;have K0:=Hd (m1.out.then o1);have m0:=Hd ((o1.block nb b3 (by omega)).trans y0.out);have I3:=Za m0.out;have hs34:=o1.size;have T0:=Hd hin;have p0:=Hd hbl;have A2:=Hd hor;clear h1 o1 hin hbl hor)
  |(refine wpList_store_row rfl 141 (.tmp 3) (.tmp 18) ?_ w4.heap.size (Zh X) ?_ ?_ 141 Zn ?_ (Zj _) (by rw[Zi];rfl) (Zm _) ?_;(with_reducible rfl);rfl;rfl;exact Zd _ _)
  |fail)
 obtain⟨eb,heb⟩:∃ eb,w4.heap.size=eb:=⟨_,rfl⟩
 obtain⟨W5,hW5⟩:∃ W5,(w4.alloc (.cells Zn 141)).setRow eb (Zh X)=W5:=⟨_,rfl⟩
 have L4:W5.heap[eb]?=some (.cells (Zh X) 141 (0,0)):=by rw[<-hW5];exact setRow_heap _ _ _ _ _ _ (Zq _ _ _ heb)
 have l4:nb<eb:=by omega
 have m3:∀ c o,c<eb->w4.heap[c]?=some o->W5.heap[c]?=some o:=λc o hc h=>by rw[<-hW5];exact(setRow_other _ _ _ _ (by omega)).trans (Ze h _)
 have M2:∀ c,c<eb->W5.heap[c]?=w4.heap[c]?:=λc hc=>by rw[<-hW5];exact(setRow_other _ _ _ _ (by omega)).trans (Below.heap_alloc _ _ _ (by omega))
 have hsz5:W5.heap.size=eb+1:=by rw[<-hW5,size_setRow];simp[heb]
 have I1:=Hd (show RefAt W5 rb S j b from m3 _ _ (by omega) F0.out);have F1:=Hd (m3 _ _ l4 m0.out);have F2:=Hd L4;have T2:=Hd M2;have J1:=Hd (show Only (λk=>k=rb) w W5 by rw[<-hW5];exact(K0.out.alloc _).setRow (q:=eb) (.inr (by have:=K0.out.size;omega)) _);have N4:=Hd heb;rw[heb];rw[show(w4.alloc (.cells #[.int .i64 0,.int .i64 0,.int .i64 0,.int .u64 0,.int .u64 0,.int .u64 0,.int .u64 0,.slice none 0 0] 141)).setRow eb (Zh X)=W5 from hW5];clear m3 M2 L4 hW5 heb
 cases h41:Zg 41 (rest S j) with
 |true=>
  have i3:=Hd (λw1 (h1:RefAt w1 rb S j b)=>at_t w1 rb S j b 41 41 h1 hs rfl h41);have P3:=Hd h41;clear h41
  go_wp2_with (first
   |(go_at_call 132;(with_reducible refine(i3.out _ I1.out).mono ?_);rintro e w6 ⟨rfl,h1,o1⟩;have P2:=Hd h1;have O2:=Hd (J1.out.then o1);have W1:=Hd ((o1.block nb (by omega) (by omega)).trans F1.out);have p3:=Hd ((o1.block eb (by omega) (by omega)).trans F2.out);have F3:=Hd (λc (h0:rb<c) (hc:c<eb)=>(o1.block c (by omega) (by omega)).trans (T2.out c hc));have z5:=o1.size;obtain⟨c0,c1,c2,z1,z2⟩:=h1.cells;clear h1 o1)
   |(refine wpList_load_row rfl 141 (.tmp 3) ?_ eb ?_ 141 (Zh X) (0,0) _ ?_ Tryz.underlying141 rfl (Zj _) ?_;(with_reducible rfl);rfl;exact p3.out)
   |(refine wpList_store_row rfl 141 (.tmp 2) (.tmp 25) ?_ nb (Zh X) ?_ ?_ 141 Zn ?_ (Zj _) (by rw[Zi];rfl) (Zm _) ?_;(with_reducible rfl);rfl;rfl;exact W1.out)
   |fail)
  refine bodyPost_ret (results_cell_row rfl _ _ nb 141 (Zh X) (0,0) _ rfl (setRow_heap _ _ _ _ _ _ (W1.out)) Tryz.underlying141 rfl (Zj _)) rfl ?_;have m4:=N4.out;refine XW a0.out e0 (O2.out) (P2.out) (EA T0.out p0.out (by first|omega|(simp;omega)) λc hc1 hc2=>F3.out c (by omega) (by omega)) (λc hc=>⟨by have:=(p0.out c hc).1;omega,by have:=(p0.out c hc).2;first|omega|(simp;omega)⟩) (by omega) (by have:=ZQ P3.out;omega) ?_;rcases A2.out with⟨rfl,h⟩|⟨rfl,h⟩
  ·left;rw[h];exact⟨rfl,by simp[ZhA,P3.out,ZA]⟩
  ·right;rw[h];exact⟨rfl,rfl⟩
 |false=>
  have i3:=Hd (λw1 (h1:RefAt w1 rb S j b)=>at_f w1 rb S j b 41 41 h1 hs rfl h41);have P3:=Hd h41;clear h41
  go_wp2_with (first
   |(go_at_call 132;(with_reducible refine(i3.out _ I1.out).mono ?_);rintro e w6 ⟨rfl,h1,o1⟩;have P2:=Hd h1;have O2:=Hd (J1.out.then o1);have W1:=Hd ((o1.block nb (by omega) (by omega)).trans F1.out);have p3:=Hd ((o1.block eb (by omega) (by omega)).trans F2.out);have F3:=Hd (λc (h0:rb<c) (hc:c<eb)=>(o1.block c (by omega) (by omega)).trans (T2.out c hc));have z5:=o1.size;obtain⟨c0,c1,c2,z1,z2⟩:=h1.cells;clear h1 o1)
   |(refine wpList_load_row rfl 141 (.tmp 3) ?_ eb ?_ 141 (Zh X) (0,0) _ ?_ Tryz.underlying141 rfl (Zj _) ?_;(with_reducible rfl);rfl;exact(Below.heap_setCell _ _ _ _ (by show eb≠rb;omega)).trans p3.out)
   |(refine wpList_store_row rfl 141 (.tmp 2) (.tmp 25) ?_ nb (Zh X) ?_ ?_ 141 Zn ?_ (Zj _) (by rw[Zi];rfl) (Zm _) ?_;(with_reducible rfl);rfl;rfl;exact(Below.heap_setCell _ _ _ _ (by show nb≠rb;omega)).trans W1.out)
   |fail)
  refine bodyPost_ret (results_cell_row rfl _ _ nb 141 (Zh X) (0,0) _ rfl (setRow_heap _ _ _ _ _ _ ((Below.heap_setCell _ _ _ _ (by show nb≠rb;omega)).trans W1.out)) Tryz.underlying141 rfl (Zj _)) rfl ?_;have m4:=N4.out;refine XW a0.out e0 (O2.out.setCell (p:=⟨rb,2,none⟩) (.inl rfl) _) (P2.out.wrong) (EA T0.out p0.out (by first|omega|(simp;omega)) λc hc1 hc2=>(Below.heap_setCell _ _ _ _ (by show c≠rb;omega)).trans (F3.out c (by omega) (by omega))) (λc hc=>⟨by have:=(p0.out c hc).1;omega,by have:=(p0.out c hc).2;first|omega|(simp;omega)⟩) (by omega) hjs ?_;rcases A2.out with⟨rfl,h⟩|⟨rfl,h⟩
  ·right;rw[h];exact⟨rfl,by simp[ZhA,P3.out]⟩
  ·right;rw[h];exact⟨rfl,rfl⟩
end Go.Proofs.YtbchkjfnakabkaaGreatDoor
namespace Go.Proofs.YtbchkjfnakabkaaGreatDoor
open Go.RowKit PX
theorem E3(w:World)(rb:Nat)(S:ByteArray)(i:Nat)(h:RefAt w rb S i false)(hs:S.size<=1000)(hi:i<=S.size)(altf:List UInt8->Option (Rx × List UInt8))
 (halt:Zg 40 (rest S i)=true->∀ w1,RefAt w1 rb S (i+1) false->Calls Tryz.prog 104 #[.pointer (some ⟨rb,0,none⟩)] w1 λe w2=>XQ rb S (i+1) w1 (altf (rest S (i+1))) e w2) :
 Calls Tryz.prog 154 #[.pointer (some ⟨rb,0,none⟩)] w λe w'=>XQ rb S i w (XE altf (rest S i)) e w':=by
 cases h46:Zg 46 (rest S i) with
 |true=>exact Zdp w rb S i h hs hi altf h46
 |false=>
  cases h91:Zg 91 (rest S i) with
  |true=>exact Bd w rb S i h hs hi altf h46 h91
  |false=>
   cases h40:Zg 40 (rest S i) with
   |true=>exact Zby w rb S i h hs hi altf h46 h91 h40 (halt h40)
   |false=>exact Zdo w rb S i h hs hi altf h46 h91 h40
def Zjj(bad:Bool)(x:Rx)(X:RxA)(S:ByteArray)(j:Nat)(r:List UInt8):Prop:=bad=false->x=X.bare/\rest S j=r
def Yj(rb:Nat)(S:ByteArray)(i:Nat)(bad:Bool)(x:Rx)(r:List UInt8):Prop:=∀ w1,RefAt w1 rb S i false->Calls Tryz.prog 154 #[.pointer (some ⟨rb,0,none⟩)] w1 λe w2=>
 ∃ k mn mx s0 s1 s2 s3 a cap l j,Zjj bad x (RxA.node k mn mx s0 s1 s2 s3 a cap l) S j r/\e=.returned (.agg #[.int .i64 k,.int .i64 mn,.int .i64 mx,.int .u64 s0,.int .u64 s1,.int .u64 s2,.int .u64 s3,.slice a l.length cap])/\i<=j/\j<=S.size/\RefAt w2 rb S j bad/\Only (λk=>k=rb) w1 w2/\(RxA.node k mn mx s0 s1 s2 s3 a cap l).In w2 w2.heap.size/\∀ b∈(RxA.node k mn mx s0 s1 s2 s3 a cap l).blocks,w1.heap.size<=b/\b<w2.heap.size
theorem DI{rb:Nat}{S:ByteArray}{i:Nat}{x:Rx}{r:List UInt8}(h:∀ w1,RefAt w1 rb S i false->Calls Tryz.prog 154 #[.pointer (some ⟨rb,0,none⟩)] w1 λe w2=>XQ rb S i w1 (some (x,r)) e w2):Yj rb S i false x r:=by
 intro w1 h1;refine(h w1 h1).mono ?_;rintro e w2 ⟨o1,X,j,b,he,hij,hjs,hr,hin,hbl,⟨rfl,hO⟩|⟨-, hO⟩⟩
 ·obtain⟨k,mn,mx,s0,s1,s2,s3,a,cap,l⟩:=X;simp only[Option.some.injEq,Prod.mk.injEq]at hO;exact⟨k,mn,mx,s0,s1,s2,s3,a,cap,l,j,λ_=>⟨hO.1,hO.2.symm⟩,he,hij,hjs,hr,o1,hin,hbl⟩
 ·cases hO
theorem Q9{rb:Nat}{S:ByteArray}{i:Nat}(x:Rx)(r:List UInt8)(h:∀ w1,RefAt w1 rb S i false->Calls Tryz.prog 154 #[.pointer (some ⟨rb,0,none⟩)] w1 λe w2=>XQ rb S i w1 none e w2):Yj rb S i true x r:=by
 intro w1 h1;refine(h w1 h1).mono ?_;rintro e w2 ⟨o1,X,j,b,he,hij,hjs,hr,hin,hbl,⟨-, hO⟩|⟨rfl,hO⟩⟩
 ·cases hO
 ·obtain⟨k,mn,mx,s0,s1,s2,s3,a,cap,l⟩:=X;exact⟨k,mn,mx,s0,s1,s2,s3,a,cap,l,j,(λh=>by cases h),he,hij,hjs,hr,o1,hin,hbl⟩
theorem ZfC{w:World}{m n:Int}{hb:Nat}{X:RxA}(hm:-1<=m/\m<=99)(hn:-1<=n/\n<=99)(hX:X.In w w.heap.size)(hh:w.heap[hb]?=some (.cells (Zh X) 141 (0,0))):(repA m n hb X).In w w.heap.size:=by
 have C1:=Za hh;simp only[repA,RxA.In];refine⟨⟨⟨by omega,by omega⟩,⟨by omega,by omega⟩,⟨by omega,by omega⟩,⟨by omega,by omega⟩,⟨by omega,by omega⟩,⟨by omega,by omega⟩,⟨by omega,by omega⟩⟩,by simp,by unfold maxLen;omega,by simp,.inr ⟨hb,0,rfl,C1,?_⟩⟩;simp only[InL,and_true];refine⟨λj hj=>?_,hX⟩;rw[Zb hh];simp[Zh]
theorem Vk{w w1 wz:World}{rb nb i j:Nat}{S:ByteArray}{b:Bool}{X:RxA}{m n:Int}{O:Option (Rx × List UInt8)}(hw:w.heap.size=nb)(e0:rb<nb)(ho:Only (λk=>k=rb) w wz)(hr:RefAt wz rb S j b)(hin:X.In w1 w1.heap.size)
 (hbl:∀ c∈X.blocks,nb<c/\c<w1.heap.size) (hs:w1.heap.size<=wz.heap.size) (hk:∀ c,nb<c->c<w1.heap.size->wz.heap[c]?=w1.heap[c]?) (hm:-1<=m/\m<=99) (hn:-1<=n/\n<=99) (hij:i<=j) (hjs:j<=S.size) (hnb:nb<wz.heap.size)
 (hor:(b=false/\O=some (.rep m n X.bare,rest S j))\/(b=true/\O=none)) :
 XQ rb S i w O (.returned (.agg (Zh (repA m n wz.heap.size X)))) ((wz.alloc (.cells (Zh X) 141)).setRow nb (Zh (repA m n wz.heap.size X))):=by
 have I4:X.In (wz.alloc (.cells (Zh X) 141)) (wz.alloc (.cells (Zh X) 141)).heap.size:=
  hin.keep λc hc=>⟨by have:=(hbl c hc).2;simp;omega,λo=>World.cell?_of_block (w:=w1) ((Below.heap_alloc _ _ _ (by have:=(hbl c hc).2;show c<wz.heap.size;omega)).trans (hk c (hbl c hc).1 (hbl c hc).2))⟩
 refine XW hw e0 (ho.alloc _) (show RefAt _ rb S j b from Ze hr _) (ZfC hm hn I4 (Zd wz _)) (λc hc=>?_) hij hjs (by rw[YY];exact hor);rcases Yd _ _ _ _ c hc with rfl|hc
 ·exact⟨hnb,by simp⟩
 ·have:=hbl c hc;exact⟨this.1,by simp;omega⟩
theorem Zbu(w:World)(rb:Nat)(S:ByteArray)(i:Nat)(h:RefAt w rb S i false)(hs:S.size<=1000)(x:Rx)(r:List UInt8)(hatom:Yj rb S i true x r) :
 Calls Tryz.prog 130 #[.pointer (some ⟨rb,0,none⟩)] w λe w'=>XQ rb S i w none e w':=by
 obtain⟨nb,hnb⟩:∃ nb,w.heap.size=nb:=⟨_,rfl⟩
 have e0:=Za h;rw[hnb]at e0;have b0:(w.alloc (.cells Zn 141)).heap[nb]?=some (.cells Zn 141 (0,0)):=Zq _ _ _ hnb;have l0:RefAt (w.alloc (.cells Zn 141)) rb S i false:=Ze h _;have S0:=Hd b0;have N0:=Hd ((Only.refl (λk=>k=rb) w).alloc (.cells Zn 141));have q0:nb<(w.alloc (.cells Zn 141)).heap.size:=Za b0;have p2:nb<(w.alloc (.cells #[.int .i64 0,.int .i64 0,.int .i64 0,.int .u64 0,.int .u64 0,.int .u64 0,.int .u64 0,.slice none 0 0] 141)).heap.size:=q0;have k0:=Hd (hatom (w.alloc (.cells #[.int .i64 0,.int .i64 0,.int .i64 0,.int .u64 0,.int .u64 0,.int .u64 0,.int .u64 0,.slice none 0 0] 141)) l0);have a0:=Hd hnb;clear b0 l0 h hatom
 go_enter Tryz.func130,Tryz.ntmps130
 go_wp2_with (first
  |(go_at_call 154;(with_reducible refine k0.out.mono ?_);rintro e w1 ⟨k,mn,mx,s0,s1,s2,s3,a,cap,l,j,hX,rfl,hij,hjs,h1,o1,hin,hbl⟩;have HX:=Hd hX;have M0:=Hd (N0.out.then o1);have n0:=(o1.block nb q0 (by omega)).trans S0.out;have M1:=Za n0;have T0:=Hd hin;have p0:=Hd hbl;have r2:=o1.size;have v0:=Hd (show RefAt (w1.alloc (.cells #[.int .i64 k,.int .i64 mn,.int .i64 mx,.int .u64 s0,.int .u64 s1,.int .u64 s2,.int .u64 s3,.slice a l.length cap] 141)) rb S j true from Ze h1 _);have z0:=Hd (Ze n0 (.cells #[.int .i64 k,.int .i64 mn,.int .i64 mx,.int .u64 s0,.int .u64 s1,.int .u64 s2,.int .u64 s3,.slice a l.length cap] 141));have A1:=Hd (Zd w1 (.cells #[.int .i64 k,.int .i64 mn,.int .i64 mx,.int .u64 s0,.int .u64 s1,.int .u64 s2,.int .u64 s3,.slice a l.length cap] 141));have g1:=Hd (M0.out.alloc (.cells #[.int .i64 k,.int .i64 mn,.int .i64 mx,.int .u64 s0,.int .u64 s1,.int .u64 s2,.int .u64 s3,.slice a l.length cap] 141));have e2:w1.heap.size<(w1.alloc (.cells #[.int .i64 k,.int .i64 mn,.int .i64 mx,.int .u64 s0,.int .u64 s1,.int .u64 s2,.int .u64 s3,.slice a l.length cap] 141)).heap.size:=Za A1.out;have n2:=Hd (λc (hc:c<w1.heap.size)=>Below.heap_alloc w1 (.cells #[.int .i64 k,.int .i64 mn,.int .i64 mx,.int .u64 s0,.int .u64 s1,.int .u64 s2,.int .u64 s3,.slice a l.length cap] 141) c hc);obtain⟨c0,c1,c2,z1,z2⟩:=v0.out.cells;clear hX h1 o1 n0 hin hbl)
  |(refine wpList_load_row rfl 141 (.tmp 3) ?_ w1.heap.size ?_ 141 #[.int .i64 k,.int .i64 mn,.int .i64 mx,.int .u64 s0,.int .u64 s1,.int .u64 s2,.int .u64 s3,.slice a l.length cap] (0,0) _ ?_ Tryz.underlying141 rfl ZH ?_;(with_reducible rfl);rfl;exact A1.out)
  |(refine wpList_store_row rfl 141 (.tmp 2) (.tmp 14) ?_ nb #[.int .i64 k,.int .i64 mn,.int .i64 mx,.int .u64 s0,.int .u64 s1,.int .u64 s2,.int .u64 s3,.slice a l.length cap] ?_ ?_ 141 Zn ?_ ZH (by rfl) (Zm (RxA.node k mn mx s0 s1 s2 s3 a cap l)) ?_;(with_reducible rfl);rfl;rfl;exact z0.out)
  |fail)
 refine bodyPost_ret (results_cell_row rfl _ _ nb 141 #[.int .i64 k,.int .i64 mn,.int .i64 mx,.int .u64 s0,.int .u64 s1,.int .u64 s2,.int .u64 s3,.slice a l.length cap] (0,0) _ rfl (setRow_heap _ _ _ _ _ _ z0.out) Tryz.underlying141 rfl ZH) rfl ?_;exact XW (X:=(RxA.node k mn mx s0 s1 s2 s3 a cap l)) a0.out e0 g1.out v0.out (EA T0.out p0.out (by simp) λc hc1 hc2=>n2.out c hc2) (λc hc=>⟨by have:=(p0.out c hc).1;omega,by have:=(p0.out c hc).2;omega⟩) hij hjs (.inr ⟨rfl,rfl⟩)
theorem D6(w:World)(rb:Nat)(S:ByteArray)(i:Nat)(h:RefAt w rb S i false)(hs:S.size<=1000)(x:Rx)(r:List UInt8)(hatom:Yj rb S i false x r)(h42:Zg 42 r=false)(h43:Zg 43 r=false)(h63:Zg 63 r=false)(h123:Zg 123 r=false) :
 Calls Tryz.prog 130 #[.pointer (some ⟨rb,0,none⟩)] w λe w'=>XQ rb S i w (sign x r) e w':=by
 obtain⟨nb,hnb⟩:∃ nb,w.heap.size=nb:=⟨_,rfl⟩
 have e0:=Za h;rw[hnb]at e0;have b0:(w.alloc (.cells Zn 141)).heap[nb]?=some (.cells Zn 141 (0,0)):=Zq _ _ _ hnb;have l0:RefAt (w.alloc (.cells Zn 141)) rb S i false:=Ze h _;have S0:=Hd b0;have N0:=Hd ((Only.refl (λk=>k=rb) w).alloc (.cells Zn 141));have q0:nb<(w.alloc (.cells Zn 141)).heap.size:=Za b0;have p2:nb<(w.alloc (.cells #[.int .i64 0,.int .i64 0,.int .i64 0,.int .u64 0,.int .u64 0,.int .u64 0,.int .u64 0,.slice none 0 0] 141)).heap.size:=q0;have k0:=Hd (hatom (w.alloc (.cells #[.int .i64 0,.int .i64 0,.int .i64 0,.int .u64 0,.int .u64 0,.int .u64 0,.int .u64 0,.slice none 0 0] 141)) l0);have a0:=Hd hnb;have hS:sign x r=some (x,r):=by unfold sign;rw[h42,h43,h63,h123];rfl
 rw[hS];have o0:=Hd (λw1 j (h1:RefAt w1 rb S j false) (hj:rest S j=r)=>at_f w1 rb S j false 42 42 h1 hs rfl (by rw[hj];exact h42));have L0:=Hd (λw1 j (h1:RefAt w1 rb S j false) (hj:rest S j=r)=>at_f w1 rb S j false 43 43 h1 hs rfl (by rw[hj];exact h43));have T1:=Hd (λw1 j (h1:RefAt w1 rb S j false) (hj:rest S j=r)=>at_f w1 rb S j false 63 63 h1 hs rfl (by rw[hj];exact h63));have k3:=Hd (λw1 j (h1:RefAt w1 rb S j false) (hj:rest S j=r)=>at_f w1 rb S j false 123 123 h1 hs rfl (by rw[hj];exact h123));clear b0 l0 h hatom hS h42 h43 h63 h123
 go_enter Tryz.func130,Tryz.ntmps130
 go_wp2_with (first
  |(go_at_call 154;(with_reducible refine k0.out.mono ?_);rintro e w1 ⟨k,mn,mx,s0,s1,s2,s3,a,cap,l,j,hX,rfl,hij,hjs,h1,o1,hin,hbl⟩;have c3:=Hd (hX rfl).1;have HJ:=Hd (hX rfl).2;have M0:=Hd (N0.out.then o1);have n0:=(o1.block nb q0 (by omega)).trans S0.out;have M1:=Za n0;have T0:=Hd hin;have p0:=Hd hbl;have r2:=o1.size;have v0:=Hd (show RefAt (w1.alloc (.cells #[.int .i64 k,.int .i64 mn,.int .i64 mx,.int .u64 s0,.int .u64 s1,.int .u64 s2,.int .u64 s3,.slice a l.length cap] 141)) rb S j false from Ze h1 _);have z0:=Hd (Ze n0 (.cells #[.int .i64 k,.int .i64 mn,.int .i64 mx,.int .u64 s0,.int .u64 s1,.int .u64 s2,.int .u64 s3,.slice a l.length cap] 141));have A1:=Hd (Zd w1 (.cells #[.int .i64 k,.int .i64 mn,.int .i64 mx,.int .u64 s0,.int .u64 s1,.int .u64 s2,.int .u64 s3,.slice a l.length cap] 141));have g1:=Hd (M0.out.alloc (.cells #[.int .i64 k,.int .i64 mn,.int .i64 mx,.int .u64 s0,.int .u64 s1,.int .u64 s2,.int .u64 s3,.slice a l.length cap] 141));have e2:w1.heap.size<(w1.alloc (.cells #[.int .i64 k,.int .i64 mn,.int .i64 mx,.int .u64 s0,.int .u64 s1,.int .u64 s2,.int .u64 s3,.slice a l.length cap] 141)).heap.size:=Za A1.out;have n2:=Hd (λc (hc:c<w1.heap.size)=>Below.heap_alloc w1 (.cells #[.int .i64 k,.int .i64 mn,.int .i64 mx,.int .u64 s0,.int .u64 s1,.int .u64 s2,.int .u64 s3,.slice a l.length cap] 141) c hc);obtain⟨c0,c1,c2,z1,z2⟩:=v0.out.cells;clear hX h1 o1 n0 hin hbl)
  |(go_at_call 132;(with_reducible refine(o0.out _ _ v0.out HJ.out).mono ?_);rintro e w3 ⟨rfl,h1,o1⟩;have E1:=Hd h1;have m1:=Hd (g1.out.then o1);have y0:=Hd ((o1.block nb (by omega) (by omega)).trans z0.out);have N1:=Hd ((o1.block w1.heap.size (by omega) (by omega)).trans A1.out);have R2:=Hd (λc (hr:rb<c) (hc:c<w1.heap.size)=>(o1.block c (by omega) (by omega)).trans (n2.out c hc));have b3:w1.heap.size<w3.heap.size:=Za N1.out;clear h1 o1)
  |(go_at_call 132;(with_reducible refine(L0.out _ _ E1.out HJ.out).mono ?_);rintro e w4 ⟨rfl,h1,o1⟩;have F0:=Hd h1;have K0:=Hd (m1.out.then o1);have m0:=Hd ((o1.block nb (by omega) (by omega)).trans y0.out);have J2:=Hd ((o1.block w1.heap.size (by omega) (by omega)).trans N1.out);have q3:=Hd (λc (hr:rb<c) (hc:c<w1.heap.size)=>(o1.block c (by omega) (by omega)).trans (R2.out c hr hc));have I3:w1.heap.size<w4.heap.size:=Za J2.out;clear h1 o1)
  |(go_at_call 132;(with_reducible refine(T1.out _ _ F0.out HJ.out).mono ?_);rintro e w5 ⟨rfl,h1,o1⟩;have I1:=Hd h1;have J1:=Hd (K0.out.then o1);have F1:=Hd ((o1.block nb (by omega) (by omega)).trans m0.out);have F2:=Hd ((o1.block w1.heap.size (by omega) (by omega)).trans J2.out);have z4:=Hd (λc (hr:rb<c) (hc:c<w1.heap.size)=>(o1.block c (by omega) (by omega)).trans (q3.out c hr hc));have C5:w1.heap.size<w5.heap.size:=Za F2.out;clear h1 o1)
  |(go_at_call 132;(with_reducible refine(k3.out _ _ I1.out HJ.out).mono ?_);rintro e w6 ⟨rfl,h1,o1⟩;have P2:=Hd h1;have O2:=Hd (J1.out.then o1);have W1:=Hd ((o1.block nb (by omega) (by omega)).trans F1.out);have p3:=Hd ((o1.block w1.heap.size (by omega) (by omega)).trans F2.out);have F3:=Hd (λc (hr:rb<c) (hc:c<w1.heap.size)=>(o1.block c (by omega) (by omega)).trans (z4.out c hr hc));have hl6:w1.heap.size<w6.heap.size:=Za p3.out;clear h1 o1)
  |(refine wpList_load_row rfl 141 (.tmp 3) ?_ w1.heap.size ?_ 141 #[.int .i64 k,.int .i64 mn,.int .i64 mx,.int .u64 s0,.int .u64 s1,.int .u64 s2,.int .u64 s3,.slice a l.length cap] (0,0) _ ?_ Tryz.underlying141 rfl ZH ?_;(with_reducible rfl);rfl;exact p3.out)
  |(refine wpList_store_row rfl 141 (.tmp 2) (.tmp 8) ?_ nb #[.int .i64 k,.int .i64 mn,.int .i64 mx,.int .u64 s0,.int .u64 s1,.int .u64 s2,.int .u64 s3,.slice a l.length cap] ?_ ?_ 141 Zn ?_ ZH (by rfl) (Zm (RxA.node k mn mx s0 s1 s2 s3 a cap l)) ?_;(with_reducible rfl);rfl;rfl;exact W1.out)
  |fail)
 refine bodyPost_ret (results_cell_row rfl _ _ nb 141 #[.int .i64 k,.int .i64 mn,.int .i64 mx,.int .u64 s0,.int .u64 s1,.int .u64 s2,.int .u64 s3,.slice a l.length cap] (0,0) _ rfl (setRow_heap _ _ _ _ _ _ W1.out) Tryz.underlying141 rfl ZH) rfl ?_;exact XW (X:=(RxA.node k mn mx s0 s1 s2 s3 a cap l)) a0.out e0 O2.out P2.out (EA T0.out p0.out (by omega) λc hc1 hc2=>F3.out c (by omega) hc2) (λc hc=>⟨by have:=(p0.out c hc).1;omega,by have:=(p0.out c hc).2;omega⟩) hij hjs (.inl ⟨rfl,by rw[c3.out,HJ.out]⟩)
theorem D4(w:World)(rb:Nat)(S:ByteArray)(i:Nat)(h:RefAt w rb S i false)(hs:S.size<=1000)(x:Rx)(r:List UInt8)(hatom:Yj rb S i false x r)(h42:Zg 42 r=true) :
 Calls Tryz.prog 130 #[.pointer (some ⟨rb,0,none⟩)] w λe w'=>XQ rb S i w (sign x r) e w':=by
 obtain⟨nb,hnb⟩:∃ nb,w.heap.size=nb:=⟨_,rfl⟩
 have e0:=Za h;rw[hnb]at e0;have b0:(w.alloc (.cells Zn 141)).heap[nb]?=some (.cells Zn 141 (0,0)):=Zq _ _ _ hnb;have l0:RefAt (w.alloc (.cells Zn 141)) rb S i false:=Ze h _;have S0:=Hd b0;have N0:=Hd ((Only.refl (λk=>k=rb) w).alloc (.cells Zn 141));have q0:nb<(w.alloc (.cells Zn 141)).heap.size:=Za b0;have p2:nb<(w.alloc (.cells #[.int .i64 0,.int .i64 0,.int .i64 0,.int .u64 0,.int .u64 0,.int .u64 0,.int .u64 0,.slice none 0 0] 141)).heap.size:=q0;have k0:=Hd (hatom (w.alloc (.cells #[.int .i64 0,.int .i64 0,.int .i64 0,.int .u64 0,.int .u64 0,.int .u64 0,.int .u64 0,.slice none 0 0] 141)) l0);have a0:=Hd hnb;have hS:sign x r=some (.rep 0 (-1) x,r.tail):=by unfold sign;rw[h42];rfl
 rw[hS];have o0:=Hd (λw1 j (h1:RefAt w1 rb S j false) (hj:rest S j=r)=>at_t w1 rb S j false 42 42 h1 hs rfl (by rw[hj];exact h42));have y5:=Hd h42;clear b0 l0 h hatom hS h42
 go_enter Tryz.func130,Tryz.ntmps130
 go_wp2_with (first
  |(go_at_call 154;(with_reducible refine k0.out.mono ?_);rintro e w1 ⟨k,mn,mx,s0,s1,s2,s3,a,cap,l,j,hX,rfl,hij,hjs,h1,o1,hin,hbl⟩;have c3:=Hd (hX rfl).1;have HJ:=Hd (hX rfl).2;have M0:=Hd (N0.out.then o1);have n0:=(o1.block nb q0 (by omega)).trans S0.out;have M1:=Za n0;have T0:=Hd hin;have p0:=Hd hbl;have r2:=o1.size;have v0:=Hd (show RefAt (w1.alloc (.cells #[.int .i64 k,.int .i64 mn,.int .i64 mx,.int .u64 s0,.int .u64 s1,.int .u64 s2,.int .u64 s3,.slice a l.length cap] 141)) rb S j false from Ze h1 _);have z0:=Hd (Ze n0 (.cells #[.int .i64 k,.int .i64 mn,.int .i64 mx,.int .u64 s0,.int .u64 s1,.int .u64 s2,.int .u64 s3,.slice a l.length cap] 141));have A1:=Hd (Zd w1 (.cells #[.int .i64 k,.int .i64 mn,.int .i64 mx,.int .u64 s0,.int .u64 s1,.int .u64 s2,.int .u64 s3,.slice a l.length cap] 141));have g1:=Hd (M0.out.alloc (.cells #[.int .i64 k,.int .i64 mn,.int .i64 mx,.int .u64 s0,.int .u64 s1,.int .u64 s2,.int .u64 s3,.slice a l.length cap] 141));have e2:w1.heap.size<(w1.alloc (.cells #[.int .i64 k,.int .i64 mn,.int .i64 mx,.int .u64 s0,.int .u64 s1,.int .u64 s2,.int .u64 s3,.slice a l.length cap] 141)).heap.size:=Za A1.out;have n2:=Hd (λc (hc:c<w1.heap.size)=>Below.heap_alloc w1 (.cells #[.int .i64 k,.int .i64 mn,.int .i64 mx,.int .u64 s0,.int .u64 s1,.int .u64 s2,.int .u64 s3,.slice a l.length cap] 141) c hc);obtain⟨c0,c1,c2,z1,z2⟩:=v0.out.cells;clear hX h1 o1 n0 hin hbl)
  |(go_at_call 132;(with_reducible refine(o0.out _ _ v0.out HJ.out).mono ?_);rintro e w3 ⟨rfl,h1,o1⟩;have E1:=Hd h1;have m1:=Hd (g1.out.then o1);have y0:=Hd ((o1.block nb (by omega) (by omega)).trans z0.out);have N1:=Hd ((o1.block w1.heap.size (by omega) (by omega)).trans A1.out);have R2:=Hd (λc (hr:rb<c) (hc:c<w1.heap.size)=>(o1.block c (by omega) (by omega)).trans (n2.out c hc));have b3:w1.heap.size<w3.heap.size:=Za N1.out;clear h1 o1)
  |(refine wpList_load_row rfl 141 (.tmp 3) ?_ w1.heap.size ?_ 141 #[.int .i64 k,.int .i64 mn,.int .i64 mx,.int .u64 s0,.int .u64 s1,.int .u64 s2,.int .u64 s3,.slice a l.length cap] (0,0) _ ?_ Tryz.underlying141 rfl ZH ?_;(with_reducible rfl);rfl;exact N1.out)
  |(refine wpList_store_row rfl 141 (.tmp 2) (.tmp 58) ?_ nb (Zh (repA 0 (-1) w3.heap.size (RxA.node k mn mx s0 s1 s2 s3 a cap l))) ?_ ?_ 141 Zn ?_ (Zj _) (by rw[Zi];rfl) (Zm _) ?_;(with_reducible rfl);rfl;rfl;exact Ze y0.out _)
  |fail)
 have N3:j+1<=S.size:=ZQ (c:=42) (by rw[HJ.out];exact y5.out);refine bodyPost_ret (results_cell_row rfl _ _ nb 141 (Zh (repA 0 (-1) w3.heap.size (RxA.node k mn mx s0 s1 s2 s3 a cap l))) (0,0) _ rfl (setRow_heap _ _ _ _ _ _ (Ze y0.out _)) Tryz.underlying141 rfl (Zj _)) rfl ?_;exact Vk (X:=(RxA.node k mn mx s0 s1 s2 s3 a cap l)) a0.out e0 m1.out E1.out T0.out (λc hc=>⟨by have:=(p0.out c hc).1;omega,(p0.out c hc).2⟩) (by omega) (λc hc1 hc2=>R2.out c (by omega) hc2) (by omega) (by omega) (by omega) N3 (by omega) (.inl ⟨rfl,by rw[c3.out,ZA,HJ.out]⟩)
theorem D5(w:World)(rb:Nat)(S:ByteArray)(i:Nat)(h:RefAt w rb S i false)(hs:S.size<=1000)(x:Rx)(r:List UInt8)(hatom:Yj rb S i false x r)(h42:Zg 42 r=false)(h43:Zg 43 r=true) :
 Calls Tryz.prog 130 #[.pointer (some ⟨rb,0,none⟩)] w λe w'=>XQ rb S i w (sign x r) e w':=by
 obtain⟨nb,hnb⟩:∃ nb,w.heap.size=nb:=⟨_,rfl⟩
 have e0:=Za h;rw[hnb]at e0;have b0:(w.alloc (.cells Zn 141)).heap[nb]?=some (.cells Zn 141 (0,0)):=Zq _ _ _ hnb;have l0:RefAt (w.alloc (.cells Zn 141)) rb S i false:=Ze h _;have S0:=Hd b0;have N0:=Hd ((Only.refl (λk=>k=rb) w).alloc (.cells Zn 141));have q0:nb<(w.alloc (.cells Zn 141)).heap.size:=Za b0;have p2:nb<(w.alloc (.cells #[.int .i64 0,.int .i64 0,.int .i64 0,.int .u64 0,.int .u64 0,.int .u64 0,.int .u64 0,.slice none 0 0] 141)).heap.size:=q0;have k0:=Hd (hatom (w.alloc (.cells #[.int .i64 0,.int .i64 0,.int .i64 0,.int .u64 0,.int .u64 0,.int .u64 0,.int .u64 0,.slice none 0 0] 141)) l0);have a0:=Hd hnb;have hS:sign x r=some (.rep 1 (-1) x,r.tail):=by unfold sign;rw[h42,h43];rfl
 rw[hS];have o0:=Hd (λw1 j (h1:RefAt w1 rb S j false) (hj:rest S j=r)=>at_f w1 rb S j false 42 42 h1 hs rfl (by rw[hj];exact h42));have L0:=Hd (λw1 j (h1:RefAt w1 rb S j false) (hj:rest S j=r)=>at_t w1 rb S j false 43 43 h1 hs rfl (by rw[hj];exact h43));have n5:=Hd h43;clear b0 l0 h hatom hS h42 h43
 go_enter Tryz.func130,Tryz.ntmps130
 go_wp2_with (first
  |(go_at_call 154;(with_reducible refine k0.out.mono ?_);rintro e w1 ⟨k,mn,mx,s0,s1,s2,s3,a,cap,l,j,hX,rfl,hij,hjs,h1,o1,hin,hbl⟩;have c3:=Hd (hX rfl).1;have HJ:=Hd (hX rfl).2;have M0:=Hd (N0.out.then o1);have n0:=(o1.block nb q0 (by omega)).trans S0.out;have M1:=Za n0;have T0:=Hd hin;have p0:=Hd hbl;have r2:=o1.size;have v0:=Hd (show RefAt (w1.alloc (.cells #[.int .i64 k,.int .i64 mn,.int .i64 mx,.int .u64 s0,.int .u64 s1,.int .u64 s2,.int .u64 s3,.slice a l.length cap] 141)) rb S j false from Ze h1 _);have z0:=Hd (Ze n0 (.cells #[.int .i64 k,.int .i64 mn,.int .i64 mx,.int .u64 s0,.int .u64 s1,.int .u64 s2,.int .u64 s3,.slice a l.length cap] 141));have A1:=Hd (Zd w1 (.cells #[.int .i64 k,.int .i64 mn,.int .i64 mx,.int .u64 s0,.int .u64 s1,.int .u64 s2,.int .u64 s3,.slice a l.length cap] 141));have g1:=Hd (M0.out.alloc (.cells #[.int .i64 k,.int .i64 mn,.int .i64 mx,.int .u64 s0,.int .u64 s1,.int .u64 s2,.int .u64 s3,.slice a l.length cap] 141));have e2:w1.heap.size<(w1.alloc (.cells #[.int .i64 k,.int .i64 mn,.int .i64 mx,.int .u64 s0,.int .u64 s1,.int .u64 s2,.int .u64 s3,.slice a l.length cap] 141)).heap.size:=Za A1.out;have n2:=Hd (λc (hc:c<w1.heap.size)=>Below.heap_alloc w1 (.cells #[.int .i64 k,.int .i64 mn,.int .i64 mx,.int .u64 s0,.int .u64 s1,.int .u64 s2,.int .u64 s3,.slice a l.length cap] 141) c hc);obtain⟨c0,c1,c2,z1,z2⟩:=v0.out.cells;clear hX h1 o1 n0 hin hbl)
  |(go_at_call 132;(with_reducible refine(o0.out _ _ v0.out HJ.out).mono ?_);rintro e w3 ⟨rfl,h1,o1⟩;have E1:=Hd h1;have m1:=Hd (g1.out.then o1);have y0:=Hd ((o1.block nb (by omega) (by omega)).trans z0.out);have N1:=Hd ((o1.block w1.heap.size (by omega) (by omega)).trans A1.out);have R2:=Hd (λc (hr:rb<c) (hc:c<w1.heap.size)=>(o1.block c (by omega) (by omega)).trans (n2.out c hc));have b3:w1.heap.size<w3.heap.size:=Za N1.out;clear h1 o1)
  |(go_at_call 132;(with_reducible refine(L0.out _ _ E1.out HJ.out).mono ?_);rintro e w4 ⟨rfl,h1,o1⟩;have F0:=Hd h1;have K0:=Hd (m1.out.then o1);have m0:=Hd ((o1.block nb (by omega) (by omega)).trans y0.out);have J2:=Hd ((o1.block w1.heap.size (by omega) (by omega)).trans N1.out);have q3:=Hd (λc (hr:rb<c) (hc:c<w1.heap.size)=>(o1.block c (by omega) (by omega)).trans (R2.out c hr hc));have I3:w1.heap.size<w4.heap.size:=Za J2.out;clear h1 o1)
  |(refine wpList_load_row rfl 141 (.tmp 3) ?_ w1.heap.size ?_ 141 #[.int .i64 k,.int .i64 mn,.int .i64 mx,.int .u64 s0,.int .u64 s1,.int .u64 s2,.int .u64 s3,.slice a l.length cap] (0,0) _ ?_ Tryz.underlying141 rfl ZH ?_;(with_reducible rfl);rfl;exact J2.out)
  |(refine wpList_store_row rfl 141 (.tmp 2) (.tmp 58) ?_ nb (Zh (repA 1 (-1) w4.heap.size (RxA.node k mn mx s0 s1 s2 s3 a cap l))) ?_ ?_ 141 Zn ?_ (Zj _) (by rw[Zi];rfl) (Zm _) ?_;(with_reducible rfl);rfl;rfl;exact Ze m0.out _)
  |fail)
 have N3:j+1<=S.size:=ZQ (c:=43) (by rw[HJ.out];exact n5.out);refine bodyPost_ret (results_cell_row rfl _ _ nb 141 (Zh (repA 1 (-1) w4.heap.size (RxA.node k mn mx s0 s1 s2 s3 a cap l))) (0,0) _ rfl (setRow_heap _ _ _ _ _ _ (Ze m0.out _)) Tryz.underlying141 rfl (Zj _)) rfl ?_;exact Vk (X:=(RxA.node k mn mx s0 s1 s2 s3 a cap l)) a0.out e0 K0.out F0.out T0.out (λc hc=>⟨by have:=(p0.out c hc).1;omega,(p0.out c hc).2⟩) (by omega) (λc hc1 hc2=>q3.out c (by omega) hc2) (by omega) (by omega) (by omega) N3 (by omega) (.inl ⟨rfl,by rw[c3.out,ZA,HJ.out]⟩)
theorem Zbt(w:World)(rb:Nat)(S:ByteArray)(i:Nat)(h:RefAt w rb S i false)(hs:S.size<=1000)(x:Rx)(r:List UInt8)(hatom:Yj rb S i false x r)(h42:Zg 42 r=false)(h43:Zg 43 r=false)(h63:Zg 63 r=true) :
 Calls Tryz.prog 130 #[.pointer (some ⟨rb,0,none⟩)] w λe w'=>XQ rb S i w (sign x r) e w':=by
 obtain⟨nb,hnb⟩:∃ nb,w.heap.size=nb:=⟨_,rfl⟩
 have e0:=Za h;rw[hnb]at e0;have b0:(w.alloc (.cells Zn 141)).heap[nb]?=some (.cells Zn 141 (0,0)):=Zq _ _ _ hnb;have l0:RefAt (w.alloc (.cells Zn 141)) rb S i false:=Ze h _;have S0:=Hd b0;have N0:=Hd ((Only.refl (λk=>k=rb) w).alloc (.cells Zn 141));have q0:nb<(w.alloc (.cells Zn 141)).heap.size:=Za b0;have p2:nb<(w.alloc (.cells #[.int .i64 0,.int .i64 0,.int .i64 0,.int .u64 0,.int .u64 0,.int .u64 0,.int .u64 0,.slice none 0 0] 141)).heap.size:=q0;have k0:=Hd (hatom (w.alloc (.cells #[.int .i64 0,.int .i64 0,.int .i64 0,.int .u64 0,.int .u64 0,.int .u64 0,.int .u64 0,.slice none 0 0] 141)) l0);have a0:=Hd hnb;have hS:sign x r=some (.rep 0 1 x,r.tail):=by unfold sign;rw[h42,h43,h63];rfl
 rw[hS];have o0:=Hd (λw1 j (h1:RefAt w1 rb S j false) (hj:rest S j=r)=>at_f w1 rb S j false 42 42 h1 hs rfl (by rw[hj];exact h42));have L0:=Hd (λw1 j (h1:RefAt w1 rb S j false) (hj:rest S j=r)=>at_f w1 rb S j false 43 43 h1 hs rfl (by rw[hj];exact h43));have T1:=Hd (λw1 j (h1:RefAt w1 rb S j false) (hj:rest S j=r)=>at_t w1 rb S j false 63 63 h1 hs rfl (by rw[hj];exact h63));have A5:=Hd h63;clear b0 l0 h hatom hS h42 h43 h63
 go_enter Tryz.func130,Tryz.ntmps130
 go_wp2_with (first
  |(go_at_call 154;(with_reducible refine k0.out.mono ?_);rintro e w1 ⟨k,mn,mx,s0,s1,s2,s3,a,cap,l,j,hX,rfl,hij,hjs,h1,o1,hin,hbl⟩;have c3:=Hd (hX rfl).1;have HJ:=Hd (hX rfl).2;have M0:=Hd (N0.out.then o1);have n0:=(o1.block nb q0 (by omega)).trans S0.out;have M1:=Za n0;have T0:=Hd hin;have p0:=Hd hbl;have r2:=o1.size;have v0:=Hd (show RefAt (w1.alloc (.cells #[.int .i64 k,.int .i64 mn,.int .i64 mx,.int .u64 s0,.int .u64 s1,.int .u64 s2,.int .u64 s3,.slice a l.length cap] 141)) rb S j false from Ze h1 _);have z0:=Hd (Ze n0 (.cells #[.int .i64 k,.int .i64 mn,.int .i64 mx,.int .u64 s0,.int .u64 s1,.int .u64 s2,.int .u64 s3,.slice a l.length cap] 141));have A1:=Hd (Zd w1 (.cells #[.int .i64 k,.int .i64 mn,.int .i64 mx,.int .u64 s0,.int .u64 s1,.int .u64 s2,.int .u64 s3,.slice a l.length cap] 141));have g1:=Hd (M0.out.alloc (.cells #[.int .i64 k,.int .i64 mn,.int .i64 mx,.int .u64 s0,.int .u64 s1,.int .u64 s2,.int .u64 s3,.slice a l.length cap] 141));have e2:w1.heap.size<(w1.alloc (.cells #[.int .i64 k,.int .i64 mn,.int .i64 mx,.int .u64 s0,.int .u64 s1,.int .u64 s2,.int .u64 s3,.slice a l.length cap] 141)).heap.size:=Za A1.out;have n2:=Hd (λc (hc:c<w1.heap.size)=>Below.heap_alloc w1 (.cells #[.int .i64 k,.int .i64 mn,.int .i64 mx,.int .u64 s0,.int .u64 s1,.int .u64 s2,.int .u64 s3,.slice a l.length cap] 141) c hc);obtain⟨c0,c1,c2,z1,z2⟩:=v0.out.cells;clear hX h1 o1 n0 hin hbl)
  |(go_at_call 132;(with_reducible refine(o0.out _ _ v0.out HJ.out).mono ?_);rintro e w3 ⟨rfl,h1,o1⟩;have E1:=Hd h1;have m1:=Hd (g1.out.then o1);have y0:=Hd ((o1.block nb (by omega) (by omega)).trans z0.out);have N1:=Hd ((o1.block w1.heap.size (by omega) (by omega)).trans A1.out);have R2:=Hd (λc (hr:rb<c) (hc:c<w1.heap.size)=>(o1.block c (by omega) (by omega)).trans (n2.out c hc));have b3:w1.heap.size<w3.heap.size:=Za N1.out;clear h1 o1)
  |(go_at_call 132;(with_reducible refine(L0.out _ _ E1.out HJ.out).mono ?_);rintro e w4 ⟨rfl,h1,o1⟩;have F0:=Hd h1;have K0:=Hd (m1.out.then o1);have m0:=Hd ((o1.block nb (by omega) (by omega)).trans y0.out);have J2:=Hd ((o1.block w1.heap.size (by omega) (by omega)).trans N1.out);have q3:=Hd (λc (hr:rb<c) (hc:c<w1.heap.size)=>(o1.block c (by omega) (by omega)).trans (R2.out c hr hc));have I3:w1.heap.size<w4.heap.size:=Za J2.out;clear h1 o1)
  |(go_at_call 132;(with_reducible refine(T1.out _ _ F0.out HJ.out).mono ?_);rintro e w5 ⟨rfl,h1,o1⟩;have I1:=Hd h1;have J1:=Hd (K0.out.then o1);have F1:=Hd ((o1.block nb (by omega) (by omega)).trans m0.out);have F2:=Hd ((o1.block w1.heap.size (by omega) (by omega)).trans J2.out);have z4:=Hd (λc (hr:rb<c) (hc:c<w1.heap.size)=>(o1.block c (by omega) (by omega)).trans (q3.out c hr hc));have C5:w1.heap.size<w5.heap.size:=Za F2.out;clear h1 o1)
  |(refine wpList_load_row rfl 141 (.tmp 3) ?_ w1.heap.size ?_ 141 #[.int .i64 k,.int .i64 mn,.int .i64 mx,.int .u64 s0,.int .u64 s1,.int .u64 s2,.int .u64 s3,.slice a l.length cap] (0,0) _ ?_ Tryz.underlying141 rfl ZH ?_;(with_reducible rfl);rfl;exact F2.out)
  |(refine wpList_store_row rfl 141 (.tmp 2) (.tmp 58) ?_ nb (Zh (repA 0 1 w5.heap.size (RxA.node k mn mx s0 s1 s2 s3 a cap l))) ?_ ?_ 141 Zn ?_ (Zj _) (by rw[Zi];rfl) (Zm _) ?_;(with_reducible rfl);rfl;rfl;exact Ze F1.out _)
  |fail)
 have N3:j+1<=S.size:=ZQ (c:=63) (by rw[HJ.out];exact A5.out);refine bodyPost_ret (results_cell_row rfl _ _ nb 141 (Zh (repA 0 1 w5.heap.size (RxA.node k mn mx s0 s1 s2 s3 a cap l))) (0,0) _ rfl (setRow_heap _ _ _ _ _ _ (Ze F1.out _)) Tryz.underlying141 rfl (Zj _)) rfl ?_;exact Vk (X:=(RxA.node k mn mx s0 s1 s2 s3 a cap l)) a0.out e0 J1.out I1.out T0.out (λc hc=>⟨by have:=(p0.out c hc).1;omega,(p0.out c hc).2⟩) (by omega) (λc hc1 hc2=>z4.out c (by omega) hc2) (by omega) (by omega) (by omega) N3 (by omega) (.inl ⟨rfl,by rw[c3.out,ZA,HJ.out]⟩)
end Go.Proofs.YtbchkjfnakabkaaGreatDoor
