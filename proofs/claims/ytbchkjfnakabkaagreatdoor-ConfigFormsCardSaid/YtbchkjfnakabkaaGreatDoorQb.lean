import Derived.Test.YtbchkjfnakabkaaGreatDoorQa
import Derived.Test.YtbchkjfnakabkaaGreatDoorR23
set_option linter.unusedSimpArgs false
set_option linter.unusedVariables false
set_option maxHeartbeats 4000000
set_option maxRecDepth 100000
namespace Go.Proofs.YtbchkjfnakabkaaGreatDoor
open Go.RowKit PX
theorem ZcV{but:List UInt8}{s:List UInt8}:one but (92::s)=Vz s:=by
 unfold Vz;simp only[one,if_true]
theorem Qk{but:List UInt8}{c:UInt8}{s:List UInt8}(h:c≠92)(hb:c∈but):one but (c::s)=none:=by simp[one,h,hb]
theorem Wi{but:List UInt8}{c:UInt8}{s:List UInt8}(h:c≠92)(hb:c∉but):one but (c::s)=some (c.toNat,s):=by simp[one,h,hb]
theorem Qf(w:World)(rb:Nat)(S:ByteArray)(i:Nat)(but:ByteArray)(h:RefAt w rb S i false)(hs:S.size≤1000)(hi:i≤S.size)(hbs:but.size≤1000) :
 Calls Tryz.prog 180 #[.pointer (some ⟨rb,0,none⟩),.string but] w fun e w'=>Says rb S i w (one but.data.toList (rest S i)) (fun n=>.int .i64 (n:Nat)) (fun v=>v=.int .i64 0) e w':=by
 cases hr:rest S i with
 |nil=>
  have hsi:S.size≤i:=by have:=ZP S i;rw[hr]at this;simp at this;omega
  have HAT:=Hd (Zgd w rb S i false 92 h hsi);obtain⟨h0,h1,h2,h3,h4⟩:=h.cells;have hd:decide (S.size≤i)=true:=by simp;omega
  have H:=Hd h;have HI:=Hd hi;clear h hr hsi hi hs
  go_enter Tryz.func180,Tryz.ntmps180
  go_wp2_with (go_at_call 132;(with_reducible refine HAT.out.mono ?_);rintro e w1 ⟨rfl,n,rfl⟩)
  go_quiet (fail)
  go_wp2_with fail
  go_ret
  exact⟨((Only.refl (fun k=>k=rb) w).drewN _).setCell (.inl rfl) _,_,i,rfl,Nat.le_refl _,HI.out,.inr ⟨rfl,rfl,(H.out.drewN _).wrong⟩⟩
 |cons c r=>
  have hi0:=(ZJ hr).1;by_cases hc:c=92
  ·subst hc;have HAT:=Hd (Zgc w rb S i false 92 92 r h hr hs rfl);have HTO:=Hd (fun w1 (h1:RefAt w1 rb S (i+1) false)=>Zeu w1 rb S (i+1) h1 hs (by omega));have HR:=Hd hr;clear h hr hi hs hi0
   go_enter Tryz.func180,Tryz.ntmps180
   go_wp2_with (first
    |(go_at_call 132;(with_reducible refine HAT.out.mono ?_);rintro e w1 ⟨rfl,h1,o1⟩)
    |(go_at_call 189;refine(HTO.out _ h1).mono ?_;rintro e w2 ⟨o2,v,j,rfl,hij,hj,hor⟩;have HOR:=Hd hor;clear hor)
    |fail)
   go_ret
   refine⟨o1.then o2,v,j,rfl,by omega,hj,?_⟩;rw[ZcV,←(ZJ HR.out).2];exact HOR.out
  ·have hne:((c.toNat:Int))≠92:=fun he=>hc (UInt8.toNat_inj.1 (by show c.toNat=92;omega))
   have HAT:=Hd (Zii w rb S i false 92 c r h hr hne);obtain⟨h0,h1,h2,h3,h4⟩:=h.cells;have hd:decide (S.size≤i)=false:=by simp;omega
   have hx:=Xd hr;have hi2:i≤1000:=by omega
   have H:=Hd h;have HR:=Hd hr;have HI0:=Hd hi0;have HI:=Hd hi;have HIN:=Hd (fun w=>Zct but c w hbs)
   cases hb:inS but c with
   |true=>
    have hbm:c∈but.data.toList:=by unfold inS at hb;exact of_decide_eq_true hb
    have hone:=Qk (s:=r) hc hbm;rw[hb]at HIN;have HONE:=Hd hone;clear h hr hi hs hi0 hc hne hb hbm hone
    go_enter Tryz.func180,Tryz.ntmps180
    go_wp2_with (go_at_call 132;(with_reducible refine HAT.out.mono ?_);rintro e w1 ⟨rfl,n,rfl⟩)
    go_quiet ((go_at_call 190;exact Wb HIN.out))
    go_wp2_with fail
    go_ret
    exact⟨((Only.refl (fun k=>k=rb) w).drewN _).setCell (.inl rfl) _,_,i,rfl,Nat.le_refl _,HI.out,.inr ⟨HONE.out,rfl,(H.out.drewN _).wrong⟩⟩
   |false=>
    have hbm:c∉but.data.toList:=by unfold inS at hb;exact of_decide_eq_false hb
    have hone:=Wi (s:=r) hc hbm;rw[hb]at HIN;have HONE:=Hd hone;have hd256:(c.toNat:Int)<256:=by have:=UInt8.toNat_lt c;omega
    clear h hr hi hs hi0 hc hne hb hbm hone
    go_enter Tryz.func180,Tryz.ntmps180
    go_wp2_with (go_at_call 132;(with_reducible refine HAT.out.mono ?_);rintro e w1 ⟨rfl,n,rfl⟩)
    go_quiet ((go_at_call 190;exact Wb HIN.out))
    go_wp2_with fail
    go_quiet (fail)
    go_wp2_with fail
    go_ret
    refine⟨(((Only.refl (fun k=>k=rb) w).drewN _).setCell (p:=⟨rb,1,none⟩) (.inl rfl) _).drewN _,_,i+1,rfl,by omega,HI0.out,.inl ⟨c.toNat,?_,rfl,((H.out.drewN _).to (i+1)).drewN _⟩⟩;rw[HONE.out,(ZJ HR.out).2]
theorem Bn(q:Q4)(hq:q.Ok)(n:Nat)(hn:n<256)(w:World) :
 Calls Tryz.prog 179 #[.agg (Q4.cells q),.int .i64 n] w fun e w'=>e=.returned (.agg (Q4.cells (q.with n)))∧Below w.heap.size w w':=by
 obtain⟨k,hk⟩:∃ k,n%64=k:=⟨_,rfl⟩
 have hk64:k<64:=by omega
 have hm:(n:Int)%64=k:=by omega
 have hnn:n≤255:=by omega
 have hw4:n<64∨(64≤n∧n<128)∨(128≤n∧n<192)∨192≤n:=by omega
 unfold Q4.cells;rcases hw4 with h4|h4|h4|h4
 ·have hd:(n:Int)/64=0:=by omega
  have hob:=Jk q.a k hq.1 hk64
  have HW:Hid (q.with n={ q with a:=Yy q.a k }):=by
   apply Hd;simp only[Q4.with];rw[if_pos (by omega)];rw[show n=k by omega]
  clear hk hn h4
  go_enter Tryz.func179,Tryz.ntmps179
  go_wp2_with fail
  go_region
  go_wp2_with fail
  refine bodyPost_ret (results_cell_row rfl _ _ (w.heap.size+1) 138 #[.int .u64 (Yy q.a k),.int .u64 (q.b),.int .u64 (q.c),.int .u64 (q.d)] (0,0) _ rfl (Zp _ _ _ (by simp)) Tryz.underlying138 rfl E7) rfl ?_;refine⟨?_,(((Below.refl _ w).alloc (Nat.le_refl _) _).alloc (by simp) _).drew⟩;rw[HW.out]
 ·have hd:(n:Int)/64=1:=by omega
  have hob:=Jk q.b k hq.2.1 hk64
  have HW:Hid (q.with n={ q with b:=Yy q.b k }):=by
   apply Hd;simp only[Q4.with];rw[if_neg (by omega),if_pos (by omega)];rw[show n - 64=k by omega]
  clear hk hn h4
  go_enter Tryz.func179,Tryz.ntmps179
  go_wp2_with fail
  go_region
  go_wp2_with fail
  refine bodyPost_ret (results_cell_row rfl _ _ (w.heap.size+1) 138 #[.int .u64 (q.a),.int .u64 (Yy q.b k),.int .u64 (q.c),.int .u64 (q.d)] (0,0) _ rfl (Zp _ _ _ (by simp)) Tryz.underlying138 rfl E7) rfl ?_;refine⟨?_,(((Below.refl _ w).alloc (Nat.le_refl _) _).alloc (by simp) _).drew⟩;rw[HW.out]
 ·have hd:(n:Int)/64=2:=by omega
  have hob:=Jk q.c k hq.2.2.1 hk64
  have HW:Hid (q.with n={ q with c:=Yy q.c k }):=by
   apply Hd;simp only[Q4.with];rw[if_neg (by omega),if_neg (by omega),if_pos (by omega)];rw[show n - 128=k by omega]
  clear hk hn h4
  go_enter Tryz.func179,Tryz.ntmps179
  go_wp2_with fail
  go_region
  go_wp2_with fail
  refine bodyPost_ret (results_cell_row rfl _ _ (w.heap.size+1) 138 #[.int .u64 (q.a),.int .u64 (q.b),.int .u64 (Yy q.c k),.int .u64 (q.d)] (0,0) _ rfl (Zp _ _ _ (by simp)) Tryz.underlying138 rfl E7) rfl ?_;refine⟨?_,(((Below.refl _ w).alloc (Nat.le_refl _) _).alloc (by simp) _).drew⟩;rw[HW.out]
 ·have hd:(n:Int)/64=3:=by omega
  have hob:=Jk q.d k hq.2.2.2 hk64
  have HW:Hid (q.with n={ q with d:=Yy q.d k }):=by
   apply Hd;simp only[Q4.with];rw[if_neg (by omega),if_neg (by omega),if_neg (by omega)];rw[show n - 192=k by omega]
  clear hk hn h4
  go_enter Tryz.func179,Tryz.ntmps179
  go_wp2_with fail
  go_region
  go_wp2_with fail
  refine bodyPost_ret (results_cell_row rfl _ _ (w.heap.size+1) 138 #[.int .u64 (q.a),.int .u64 (q.b),.int .u64 (q.c),.int .u64 (Yy q.d k)] (0,0) _ rfl (Zp _ _ _ (by simp)) Tryz.underlying138 rfl E7) rfl ?_;refine⟨?_,(((Below.refl _ w).alloc (Nat.le_refl _) _).alloc (by simp) _).drew⟩;rw[HW.out]
end Go.Proofs.YtbchkjfnakabkaaGreatDoor
namespace Go.Proofs.YtbchkjfnakabkaaGreatDoor.PX
def NumTo(s:List UInt8)(k n:Nat):Prop:=
 (k=0∧n=0)∨(∃a t,s=a::t∧ZQ a=true∧k=1∧n=a.toNat - 48)∨(∃a b r,s=a::b::r∧ZQ a=true∧ZQ b=true∧k=2∧n=10*(a.toNat - 48)+(b.toNat - 48))
theorem NumTo.bd{s:List UInt8}{k n:Nat}(h:NumTo s k n):k≤2∧n≤99∧(k<2→n≤9)∧(k=0→n=0):=by
 rcases h with⟨rfl,rfl⟩|⟨a,t,rfl,ha,rfl,rfl⟩|⟨a,b,r,rfl,ha,hb,rfl,rfl⟩
 ·omega
 ·rw[XX]at ha;omega
 ·rw[XX]at ha hb;omega
theorem NumTo.step{s:List UInt8}{k n:Nat}(h:NumTo s k n)(hk:k<2){d:UInt8}{r:List UInt8}(hd:s.drop k=d::r)(hg:48≤d.toNat∧d.toNat≤57):NumTo s (k+1) (10*n+(d.toNat - 48)):=by
 rcases h with⟨rfl,rfl⟩|⟨a,t,rfl,ha,rfl,rfl⟩|⟨a,b,r',rfl,ha,hb,rfl,rfl⟩
 ·right;left;exact⟨d,r,by simpa using hd,(XX d).2 hg,rfl,by omega⟩
 ·right;right;rw[List.drop_succ_cons,List.drop_zero]at hd;subst hd;exact⟨a,d,r,rfl,ha,(XX d).2 hg,rfl,rfl⟩
 ·omega
def Zag(s:List UInt8)(k:Nat):Prop:=k=2∨s.drop k=[]∨∃ d r,s.drop k=d::r∧¬ (48≤d.toNat∧d.toNat≤57)
theorem NumTo.none{s:List UInt8}{k n:Nat}(h:NumTo s k n)(he:Zag s k)(hb:k=0∨15<n∨(k=2∧n<10)):numX s=none:=by
 rcases h with⟨rfl,rfl⟩|⟨a,t,rfl,ha,rfl,rfl⟩|⟨a,b,r',rfl,ha,hb',rfl,rfl⟩
 ·rcases he with h|h|⟨d,r,h,hn⟩
  ·omega
  ·rw[List.drop_zero]at h;subst h;rfl
  ·rw[List.drop_zero]at h;subst h;rw[←XX]at hn;simp[numX,hn]
 ·rw[XX]at ha;omega
 ·simp only[numX];rw[if_pos ha,if_pos hb',if_pos (by omega)]
theorem NumTo.some{s:List UInt8}{k n:Nat}(h:NumTo s k n)(he:Zag s k)(h0:0<k)(h15:n≤15)(h2:k=2→10≤n):numX s=some (n,s.drop k):=by
 rcases h with⟨rfl,rfl⟩|⟨a,t,rfl,ha,rfl,rfl⟩|⟨a,b,r',rfl,ha,hb',rfl,rfl⟩
 ·omega
 ·simp only[numX];rw[if_pos ha];rcases he with h|h|⟨d,r,h,hn⟩
  ·omega
  ·rw[List.drop_succ_cons,List.drop_zero]at h ⊢;subst h;rfl
  ·rw[List.drop_succ_cons,List.drop_zero]at h ⊢;subst h;rw[←XX]at hn;simp[hn]
 ·simp only[numX];rw[if_pos ha,if_pos hb',if_neg (by have:=h2 rfl;omega)];rfl
end Go.Proofs.YtbchkjfnakabkaaGreatDoor.PX
namespace Go.Proofs.YtbchkjfnakabkaaGreatDoor
open Go.RowKit PX
def ZaQ(rb:Nat)(w:World):Nat:=match w.cell? ⟨rb,1,none⟩ with|some (.int _ j)=>j.toNat|_=>0
theorem YG{w:World}{rb:Nat}{S:ByteArray}{i:Nat}{b:Bool}(h:RefAt w rb S i b):ZaQ rb w=i:=by
 unfold ZaQ;rw[h.cells.2.1];simp
def Zeh(rb:Nat)(S:ByteArray)(i0:Nat)(b:Bool)(w:World)(e:Ending)(w':World):Prop:=
 Only (fun k=>k=rb) w w'∧∃ n i:Nat,e=.returned (.int .i64 n)∧n≤99∧i0≤i∧i≤S.size∧((numX (rest S i0)=some (n,rest S i)∧RefAt w' rb S i b)∨(numX (rest S i0)=none∧RefAt w' rb S i true))
theorem YF(S:ByteArray)(i k:Nat):rest S (i+k)=(rest S i).drop k:=by unfold rest;rw[List.drop_drop]
theorem DC(w:World)(rb:Nat)(S:ByteArray)(i0:Nat)(b:Bool)(h:RefAt w rb S i0 b)(hs:S.size≤1000)(hi:i0≤S.size) :
 Calls Tryz.prog 155 #[.pointer (some ⟨rb,0,none⟩)] w fun e w'=>Zeh rb S i0 b w e w':=by
 obtain⟨h0,h1,h2,h3,h4⟩:=h.cells;have H:=Hd h;clear h
 go_enter Tryz.func155,Tryz.ntmps155
 go_wp2_with fail
 go_loopw [4] (fun v wr=>∃ i k n:Nat,Hid (i=i0+k)∧v=.int .i64 n∧RefAt wr rb S i b∧Only (fun k=>k=rb) w wr∧i≤S.size∧NumTo (rest S i0) k n) (fun _ wr=>2+i0 - ZaQ rb wr)
 case atStart=>exact⟨i0,0,0,Hd rfl,rfl,H.out,Only.refl _ _,hi,.inl ⟨rfl,rfl⟩⟩
 case round=>
  obtain⟨i,k,n,hik,rfl,hra,hon,hle,hnum⟩:=hrel;clear h0 h1 h2 h3 h4;obtain⟨h0,h1,h2,h3,h4⟩:=hra.cells;have hbd:=hnum.bd;have HRA:=Hd hra;clear hra;have HON:=Hd hon;clear hon;have HNUM:=Hd hnum;clear hnum;have hi1:i≤1000:=by omega
  have hn99:n≤99:=hbd.2.1;have HBD:=Hd hbd;clear hbd
  have hcase:(k<2∧∃ d r,rest S i=d::r∧(48≤d.toNat∧d.toNat≤57))∨Zag (rest S i0) k:=by
   unfold Zag;rw[←YF,←hik.out];by_cases hk2:k=2
   ·exact .inr (.inl hk2)
   ·cases hr:rest S i with
    |nil=>exact .inr (.inr (.inl rfl))
    |cons d r=>
     by_cases hd:48≤d.toNat∧d.toNat≤57
     ·exact .inl ⟨by have:=HBD.out.1;omega,d,r,rfl,hd⟩
     ·exact .inr (.inr (.inr ⟨d,r,rfl,hd⟩))
  rcases hcase with⟨hk2,d,r,hr,hg⟩|hend
  ·have hx:=Xd hr;have hlt:=(ZJ hr).1;have hd:decide (i<S.size)=true:=by simp;omega
   have hstep:=HNUM.out.step hk2 (by rw[←YF,←hik.out];exact hr) hg;have hn9:n≤9:=HBD.out.2.2.1 hk2;have hz2:decide ((i:Int)<(i0:Int)+2)=true:=by have:=hik.out;simp;omega
   obtain⟨z,hz⟩:∃ z:Int,Hid ((d.toNat:Int)=z):=⟨_,Hd rfl⟩
   have hz48:(48:Int)≤z:=by have:=hz.out;omega
   have hz57:z≤(57:Int):=by have:=hz.out;omega
   rw[hz.out]at hx;have HSTEP:=Hd hstep;clear hstep hr hlt hg
   go_wp2_with fail
   go_quiet (fail)
   go_wp2_with fail
   go_quiet (fail)
   go_wp2_with fail
   refine⟨⟨i+1,k+1,10*n+(d.toNat - 48),Hd (by have:=hik.out;omega),?_,(HRA.out.drewN _).to (i+1),(HON.out.drewN _).setCell (.inl rfl) _,by have:=of_decide_eq_true hd;omega,HSTEP.out⟩,?_⟩
   ·have:=hz.out;rw[show 10*(n:Int)+(z - 48)=((10*n+(d.toNat - 48):Nat):Int) by omega]
   ·have hm:=YG HRA.out;rw[hm];refine Nat.lt_of_le_of_lt (Nat.le_of_eq (congrArg (2+i0 - ·) (YG ((HRA.out.drewN _).to (i+1))))) ?_;have:=hik.out;have:=HBD.out.1;show 2+i0 - (i+1)<2+i0 - i;omega
  ·have hwhy:(S.size≤i)∨(∃d r,rest S i=d::r∧i<S.size∧((d.toNat:Int)<48))∨(∃d r,rest S i=d::r∧i<S.size∧(48:Int)≤d.toNat∧(57:Int)<(d.toNat:Int))∨(∃d r,rest S i=d::r∧i<S.size∧(48:Int)≤d.toNat∧(d.toNat:Int)≤57∧k=2):=by
    by_cases hsi:S.size≤i
    ·exact .inl hsi
    ·obtain⟨d,r,hr⟩:=EL (S:=S) (i:=i) (by omega);by_cases h48:(d.toNat:Int)<48
     ·exact .inr (.inl ⟨d,r,hr,by omega,h48⟩)
     ·by_cases h57:(57:Int)<(d.toNat:Int)
      ·exact .inr (.inr (.inl ⟨d,r,hr,by omega,by omega,h57⟩))
      ·refine .inr (.inr (.inr ⟨d,r,hr,by omega,by omega,by omega,?_⟩));rcases hend with h|h|⟨d',r',h,hn⟩
       ·exact h
       ·rw[←YF,←hik.out,hr]at h;cases h
       ·rw[←YF,←hik.out,hr]at h;cases h;omega
   have HEND:=Hd hend;clear hend;have hii0:i0≤i:=by have:=hik.out;omega
   rcases hwhy with hsi|⟨d,r,hr,hlt,h48⟩|⟨d,r,hr,hlt,h48,h57⟩|⟨d,r,hr,hlt,h48,h57,hk2⟩
   ·have hd:decide (i<S.size)=false:=by simp;omega
    have HSI:=Hd hsi;clear hsi
    go_wp2_with fail
    go_quiet (fail)
    go_wp2_with fail
    all_goals
     go_ret
     have hik':=hik.out;have hk2:=HBD.out.1
     first
      |exact⟨(HON.out.drewN _).setCell (.inl rfl) _,n,i,rfl,hn99,hii0,hle,.inr ⟨HNUM.out.none HEND.out (by omega),(HRA.out.drewN _).wrong⟩⟩
      |exact⟨HON.out.drewN _,n,i,rfl,hn99,hii0,hle,.inl ⟨(HNUM.out.some HEND.out (by omega) (by omega) (by omega)).trans (by rw[←YF,←hik']),HRA.out.drewN _⟩⟩
   ·have hd:decide (i<S.size)=true:=by simp;omega
    have hx:=Xd hr
    obtain⟨z,hz⟩:∃ z:Int,Hid ((d.toNat:Int)=z):=⟨_,Hd rfl⟩
    rw[hz.out]at hx h48;have hb48:decide ((48:Int)≤z)=false:=by simp;omega
    clear hr hlt
    go_wp2_with fail
    go_quiet (fail)
    go_wp2_with fail
    all_goals
     go_ret
     have hik':=hik.out;have hk2:=HBD.out.1
     first
      |exact⟨(HON.out.drewN _).setCell (.inl rfl) _,n,i,rfl,hn99,hii0,hle,.inr ⟨HNUM.out.none HEND.out (by omega),(HRA.out.drewN _).wrong⟩⟩
      |exact⟨HON.out.drewN _,n,i,rfl,hn99,hii0,hle,.inl ⟨(HNUM.out.some HEND.out (by omega) (by omega) (by omega)).trans (by rw[←YF,←hik']),HRA.out.drewN _⟩⟩
   ·have hd:decide (i<S.size)=true:=by simp;omega
    have hx:=Xd hr
    obtain⟨z,hz⟩:∃ z:Int,Hid ((d.toNat:Int)=z):=⟨_,Hd rfl⟩
    rw[hz.out]at hx h48 h57;have hb57:decide (z≤(57:Int))=false:=by simp;omega
    clear hr hlt
    go_wp2_with fail
    go_quiet (fail)
    go_wp2_with fail
    all_goals
     go_ret
     have hik':=hik.out;have hk2:=HBD.out.1
     first
      |exact⟨(HON.out.drewN _).setCell (.inl rfl) _,n,i,rfl,hn99,hii0,hle,.inr ⟨HNUM.out.none HEND.out (by omega),(HRA.out.drewN _).wrong⟩⟩
      |exact⟨HON.out.drewN _,n,i,rfl,hn99,hii0,hle,.inl ⟨(HNUM.out.some HEND.out (by omega) (by omega) (by omega)).trans (by rw[←YF,←hik']),HRA.out.drewN _⟩⟩
   ·have hd:decide (i<S.size)=true:=by simp;omega
    have hz2:decide ((i:Int)<(i0:Int)+2)=false:=by have:=hik.out;simp;omega
    have hx:=Xd hr
    obtain⟨z,hz⟩:∃ z:Int,Hid ((d.toNat:Int)=z):=⟨_,Hd rfl⟩
    rw[hz.out]at hx h48 h57;have HK:=Hd hk2;clear hr hlt hk2
    go_wp2_with fail
    go_quiet (fail)
    go_wp2_with fail
    all_goals
     go_ret
     have hik':=hik.out;have hk2:=HBD.out.1
     first
      |exact⟨(HON.out.drewN _).setCell (.inl rfl) _,n,i,rfl,hn99,hii0,hle,.inr ⟨HNUM.out.none HEND.out (by omega),(HRA.out.drewN _).wrong⟩⟩
      |exact⟨HON.out.drewN _,n,i,rfl,hn99,hii0,hle,.inl ⟨(HNUM.out.some HEND.out (by omega) (by omega) (by omega)).trans (by rw[←YF,←hik']),HRA.out.drewN _⟩⟩
end Go.Proofs.YtbchkjfnakabkaaGreatDoor
namespace Go.Proofs.YtbchkjfnakabkaaGreatDoor
open Go.RowKit PX
theorem Zy(S:ByteArray)(i:Nat):rest S (i+1)=(rest S i).tail:=by
 rw[YF];simp
theorem ZO{S:ByteArray}{i:Nat}{c:UInt8}(h:Zg c (rest S i)=true):i<S.size:=by
 cases hr:rest S i with
 |nil=>rw[hr]at h;cases h
 |cons d r=>exact(ZJ hr).1
def ZhE(O:Option (Q4 × List UInt8))(S:ByteArray)(first bad:Bool)(q:Q4)(j f:Nat):Prop:=
 (bad=true∧first=false∧O=none)∨(bad=false∧first=true∧O=ZS f q (rest S j)) ∨
  (bad=false∧first=false∧O=if Zg 93 (rest S j) then some (q,(rest S j).tail) else ZS f q (rest S j))
def OneO(S:ByteArray)(q:Q4)(j a b ja:Nat)(bad:Bool):Prop:=
 (bad=true∧Xa q (rest S j)=none)∨(bad=false∧j<ja∧Xa q (rest S j)=if a≤b then some (q.withAll a (b+1 - a),rest S ja) else none)
def ZfP(rb:Nat)(w:World):Nat:=match w.cell? ⟨rb,2,none⟩ with|some (.bool true)=>0|_=>1
theorem Eo{w:World}{rb:Nat}{S:ByteArray}{i:Nat}{b:Bool}(h:RefAt w rb S i b):ZfP rb w=if b then 0 else 1:=by
 unfold ZfP;rw[h.cells.2.2.1];cases b<;>rfl
theorem Xm{w:World}{rb:Nat}{S:ByteArray}{i:Nat}{b:Bool}(h:RefAt w rb S i b)(q:Nat)(cs:Array Value)(hq:rb≠q):RefAt (w.setRow q cs) rb S i b:=(setRow_other _ _ _ _ hq).trans h
theorem OneO.single{S:ByteArray}{q:Q4}{j a ja:Nat}(h1:one Yh (rest S j)=some (a,rest S ja))(h45:Zg 45 (rest S ja)=false)(hjj:j<ja):OneO S q j a a ja false:=by
 refine .inr ⟨rfl,hjj,?_⟩;unfold Xa;rw[h1];simp only[h45,Nat.le_refl,if_true,Bool.false_eq_true,if_false];rw[show a+1 - a=1 by omega]
theorem OneO.two{S:ByteArray}{q:Q4}{j a ja b jb:Nat}(h1:one Yh (rest S j)=some (a,rest S ja))(h45:Zg 45 (rest S ja)=true)(h2:one Yh (rest S (ja+1))=some (b,rest S jb))(hjj:j<jb):OneO S q j a b jb false:=by
 refine .inr ⟨rfl,hjj,?_⟩;unfold Xa;rw[Zy]at h2;rw[h1];simp only[h45,if_true,h2]
theorem OneO.half{S:ByteArray}{q:Q4}{j a ja b jb:Nat}(h1:one Yh (rest S j)=some (a,rest S ja))(h45:Zg 45 (rest S ja)=true)(h2:one Yh (rest S (ja+1))=none):OneO S q j a b jb true:=by
 refine .inl ⟨rfl,?_⟩;unfold Xa;rw[Zy]at h2;rw[h1];simp only[h45,if_true,h2]
theorem OneO.wrong{S:ByteArray}{q:Q4}{j a ja:Nat}(h1:one Yh (rest S j)=none):OneO S q j a a ja true:=by
 refine .inl ⟨rfl,?_⟩;unfold Xa;rw[h1]
def ByteO(o:Option (Nat × List UInt8))(S:ByteArray)(a ja:Nat)(ba:Bool):Prop:=(ba=false∧o=some (a,rest S ja))∨(ba=true∧o=none)
theorem EE{rb:Nat}{S:ByteArray}{i:Nat}{w:World}{but:List UInt8}{e:Ending}{w':World}(h:Says rb S i w (one but (rest S i)) (fun n=>.int .i64 (n:Nat)) (fun v=>v=.int .i64 0) e w') :
 Only (fun k=>k=rb) w w'∧∃ (a ja:Nat) (ba:Bool),e=.returned (.int .i64 a)∧a<256∧i≤ja∧ja≤S.size∧RefAt w' rb S ja ba∧ByteO (one but (rest S i)) S a ja ba∧(ba=false→i<ja):=by
 obtain⟨ho,v,j,he,hij,hj,⟨x,h1,rfl,h2⟩|⟨h1,rfl,h2⟩⟩:=h
 ·have hl:=V5 h1;have l1:=ZP S i;have l2:=ZP S j;exact⟨ho,x,j,false,he,hl.2,hij,hj,h2,.inl ⟨rfl,h1⟩,fun _=>by omega⟩
 ·exact⟨ho,0,j,true,he,by omega,hij,hj,h2,.inr ⟨rfl,h1⟩,fun h=>by cases h⟩
def DashO(S:ByteArray)(ja jy:Nat)(ba p:Bool):Prop:=(p=true∧ba=false∧Zg 45 (rest S ja)=true∧jy=ja+1)∨(p=false∧jy=ja∧(ba=true∨Zg 45 (rest S ja)=false))
theorem ZdE{O:Option (Q4 × List UInt8)}{S:ByteArray}{q:Q4}{j a b jy f:Nat}{by' bz:Bool}(hcl:ZS f q (rest S j)=O)(hlf:(rest S j).length≤f)(hone:OneO S q j a b jy by')(hbz:bz=(by' || decide (b<a))) :
 ∃ f2,(rest S jy).length≤f2∧ZhE O S false bz (q.withAll a (b+1 - a)) jy f2:=by
 have hnone:∀ (h:Xa q (rest S j)=none),bz=true→∃ f2,(rest S jy).length≤f2∧ZhE O S false bz (q.withAll a (b+1 - a)) jy f2:=fun h hb=>
  ⟨_,Nat.le_refl _,.inl ⟨hb,rfl,by rw[←hcl];exact V8 h⟩⟩
 rcases hone with⟨rfl,h⟩|⟨rfl,-, h⟩
 ·exact hnone h (by simpa using hbz)
 ·by_cases hab:a≤b
  ·rw[if_pos hab]at h;obtain⟨f2,hf,hf2,he⟩:=Wt h hlf;refine⟨f2,hf2,.inr (.inr ⟨?_,rfl,?_⟩)⟩
   ·rw[hbz];simp;omega
   ·rw[←hcl,he]
  ·rw[if_neg hab]at h;exact hnone h (by rw[hbz];simp;omega)
def ZhZ(q:Q4)(k:Nat):Q4:=⟨if 0<k then q.not.a else q.a,if 1<k then q.not.b else q.b,if 2<k then q.not.c else q.c,if 3<k then q.not.d else q.d⟩
theorem EO{q:Q4}(h:q.Ok):(Go.bits .xor .u64 (if IntKind.u64.signed=true then -1 else IntKind.u64.max) q.a=q.not.a)∧(Go.bits .xor .u64 (if IntKind.u64.signed=true then -1 else IntKind.u64.max) q.b=q.not.b)∧(Go.bits .xor .u64 (if IntKind.u64.signed=true then -1 else IntKind.u64.max) q.c=q.not.c)∧(Go.bits .xor .u64 (if IntKind.u64.signed=true then -1 else IntKind.u64.max) q.d=q.not.d):=
 ⟨xor1 h.1,xor1 h.2.1,xor1 h.2.2.1,xor1 h.2.2.2⟩
def FinO(O:Option (Q4 × List UInt8))(S:ByteArray)(bx:Bool)(q:Q4)(je:Nat):Prop:=(bx=true∧O=none)∨(bx=false∧O=some (q,rest S je))
theorem Ea{rb:Nat}{S:ByteArray}{i je:Nat}{w w':World}{O:Option (Q4 × List UInt8)}{nt bx:Bool}{q q1:Q4}{e:Ending}{R:Option (Q4 × List UInt8)}(hR:R=Jr nt O)(ho:Only (fun k=>k=rb) w w')(hij:i≤je)(hjs:je≤S.size)
 (hfin:FinO O S bx q je) (hq1:(if nt then q.not else q)=q1) (hok:q1.Ok) (he:e=.returned (.agg (Zh (setA q1)))) (hr:RefAt w' rb S je (bx || q1.isNone)) :
 Says rb S i w R (fun q=>.agg (Zh (setA q))) (fun v=>∃ q:Q4,q.Ok∧v=.agg (Zh (setA q))) e w':=by
 refine⟨ho,_,je,he,hij,hjs,?_⟩;rcases hfin with⟨rfl,hO⟩|⟨rfl,hO⟩
 ·right;refine⟨by rw[hR,hO];rfl,⟨q1,hok,rfl⟩,?_⟩
  simpa using hr
 ·subst hO;simp only[Jr]at hR;rw[hq1]at hR
  cases hn:q1.isNone with
  |true=>
   rw[hn]at hr hR;exact .inr ⟨by rw[hR];rfl,⟨q1,hok,rfl⟩,hr⟩
  |false=>
   rw[hn]at hr hR;exact .inl ⟨q1,by rw[hR];rfl,rfl,hr⟩
theorem ZeE(w:World)(rb:Nat)(S:ByteArray)(i f0:Nat)(h:RefAt w rb S i false)(hs:S.size≤1000)(hi:i≤S.size)(hf:(rest S i).length≤f0) :
 Calls Tryz.prog 178 #[.pointer (some ⟨rb,0,none⟩)] w fun e w'=>Says rb S i w (Yp f0 (rest S i)) (fun q=>.agg (Zh (setA q))) (fun v=>∃ q:Q4,q.Ok∧v=.agg (Zh (setA q))) e w':=by
 obtain⟨nt,hnt⟩:∃ nt,Zg 94 (rest S i)=nt:=⟨_,rfl⟩
 have hR:=W6 f0 (rest S i);rw[hnt]at hR
 obtain⟨i1,hi1⟩:∃ i1,(if nt then i+1 else i)=i1:=⟨_,rfl⟩
 have hi1b:i≤i1∧i1≤S.size:=by
  rw[←hi1];cases nt
  ·exact⟨by simp,by simpa using hi⟩
  ·have:=ZO hnt;simp;omega
 have hri:(if nt then(rest S i).tail else rest S i)=rest S i1:=by
  rw[←hi1];cases nt
  ·rfl
  ·exact(Zy S i).symm
 obtain⟨O,hO⟩:∃ O,ZS f0 Q4.none (rest S i1)=O:=⟨_,rfl⟩
 rw[hri,hO]at hR
 have hf1:(rest S i1).length≤f0:=by
  have:=ZP S i;have:=ZP S i1;omega
 have htake:=fun w1 (h1:RefAt w1 rb S i false)=>U3 w1 rb S i false 94 94 h1 hs rfl
 rw[hnt,hi1]at htake;have HT:=Hd htake;have HR:=Hd hR;have HO:=Hd hO;have HF1:=Hd hf1
 obtain⟨nb,hnb⟩:∃ nb,w.heap.size=nb:=⟨_,rfl⟩
 have hlt:=Za h;rw[hnb]at hlt;have h0:RefAt (w.alloc (.cells Zn 141)) rb S i false:=Zd h _;have H0:=Hd h0;obtain⟨hi1a,hi1c⟩:=hi1b;have HSZ:=Hd hnb;clear htake hR hO hf hf1 hi1 hri hnt h h0
 go_enter Tryz.func178,Tryz.ntmps178
 go_wp2_with (go_at_call 132;refine(HT.out _ H0.out).mono ?_;rintro e w1 ⟨rfl,h1,o1⟩)
 have hn1:w1.heap[nb]?=some (.cells Zn 141 (0,0)):=(o1.block nb (by simp;have:=HSZ.out;omega) (by omega)).trans (by rw[←HSZ.out];exact Ze w _);have ho0:Only (fun k=>k=rb) w w1:=((Only.refl _ w).alloc _).then o1;have hs1:=ho0.size;rw[HSZ.out]at hs1;have hnb1:=Za hn1
 obtain⟨sb,hsb⟩:∃ sb,w1.heap.size=sb:=⟨_,rfl⟩
 rw[hsb]at hnb1;have hsb1:(w1.alloc (.cells (Q4.cells Q4.none) 138)).heap[sb]?=some (.cells (Q4.cells Q4.none) 138 (0,0)):=Zp _ _ _ hsb;have hn2:(w1.alloc (.cells (Q4.cells Q4.none) 138)).heap[nb]?=some (.cells Zn 141 (0,0)):=Zd hn1 _;have hr2:RefAt (w1.alloc (.cells (Q4.cells Q4.none) 138)) rb S i1 false:=Zd h1 _;have ho2:Only (fun k=>k=rb) w (w1.alloc (.cells (Q4.cells Q4.none) 138)):=ho0.alloc _;have HSTART:=Hd (show _∧_∧_∧_ from⟨hsb1,hn2,hr2,ho2⟩);have HSB:=Hd hsb;clear hn1 ho0 hs1 hsb hsb1 hn2 hr2 ho2 o1 h1 HT H0;rw[HSB.out]
 go_loopw [5] (fun v wr=>∃ (first bad:Bool) (q:Q4) (j f:Nat),v=.bool first∧RefAt wr rb S j bad∧wr.heap[sb]?=some (.cells (Q4.cells q) 138 (0,0))∧wr.heap[nb]?=some (.cells Zn 141 (0,0))∧Only (fun k=>k=rb) w wr ∧
  q.Ok∧i≤j∧j≤S.size∧(rest S j).length≤f∧ZhE O S first bad q j f) (fun _ wr=>2*(S.size - ZaQ rb wr)+ZfP rb wr)
 case atStart=>
  obtain⟨a1,a2,a3,a4⟩:=HSTART.out;refine⟨true,false,Q4.none,i1,f0,rfl,?_,?_,?_,?_,Q4.none_ok,hi1a,hi1c,HF1.out,.inr (.inl ⟨rfl,rfl,HO.out.symm⟩)⟩
  ·exact a3
  ·exact a1
  ·exact a2
  ·exact a4
 case round=>
  obtain⟨first,bad,q,j,f,rfl,hr,hsc,hnc,hon,hq,hij,hjs,hlf,hhead⟩:=hrel;clear HSTART HO HF1;obtain⟨c0,c1,c2,z1,z2⟩:=hr.cells;have HRR:=Hd hr;have HS:=Hd hsc;have HN:=Hd hnc;have HON:=Hd hon;have HQ:=Hd hq;have HH:=Hd hhead;clear hr hsc hnc hon hq hhead;have hsl:=Za HS.out;have hnl:=Za HN.out
  have hcase:(bad=true∧first=false)∨(bad=false∧first=false∧Zg 93 (rest S j)=true)∨(bad=false∧(first=true∨(first=false∧Zg 93 (rest S j)=false))):=by
   cases bad<;>cases first<;>cases Zg 93 (rest S j)<;>simp
   all_goals
    rcases HH.out with⟨h1,h2,-⟩|⟨h1,h2,-⟩|⟨h1,h2,-⟩<;>cases h1<;>cases h2
  rcases hcase with⟨rfl,rfl⟩|⟨rfl,rfl,h93⟩|⟨rfl,hcd⟩
  ·have hfin:FinO O S true q j:=by
    rcases HH.out with⟨-, -, h3⟩|⟨h1,-, -⟩|⟨h1,-, -⟩
    ·exact .inl ⟨rfl,h3⟩
    ·cases h1
    ·cases h1
   have HFIN:=Hd hfin;clear hfin
   obtain⟨wx,rfl⟩:∃ wx:World,wx=wr:=⟨_,rfl⟩
   have HRX:=HRR;have HSW:=HS;have HNW:=HN;have HOW:=HON;have hsl2:=hsl;have hnl2:=hnl;have hje1:=hij;have hje2:=hjs;have s0:wx.cell? ⟨sb,0,none⟩=some (.int .u64 q.a):=Zb HSW.out 0;have s1:wx.cell? ⟨sb,1,none⟩=some (.int .u64 q.b):=Zb HSW.out 1;have s2:wx.cell? ⟨sb,2,none⟩=some (.int .u64 q.c):=Zb HSW.out 2;have s3:wx.cell? ⟨sb,3,none⟩=some (.int .u64 q.d):=Zb HSW.out 3
   cases nt with
   |false=>
    cases hno:Q3 q.a q.b q.c q.d 0 0 0 0
    all_goals
     have HNO:=Hd (show q.isNone=_ from hno)
     go_wp2_with (first|fail|(refine wpList_store_row rfl 141 (.tmp 2) (.tmp 71) ?_ nb (Zh (setA q)) ?_ ?_ 141 Zn ?_ (Zj _) (by rw[Zi];rfl) (Zl _) ?_;(with_reducible rfl);rfl;rfl;first|exact HNW.out|exact(Below.heap_setCell _ _ _ _ (by show nb≠rb;omega)).trans HNW.out)|fail)
     refine bodyPost_ret (results_cell_row rfl _ _ nb 141 (Zh (setA q)) (0,0) _ rfl (setRow_heap _ _ _ _ _ _ (by first|exact HNW.out|exact(Below.heap_setCell _ _ _ _ (by show nb≠rb;omega)).trans HNW.out)) Tryz.underlying141 rfl (Zj _)) rfl ?_;refine Ea HR.out ?_ hje1 hje2 HFIN.out rfl HQ.out rfl ?_
     ·first
       |exact(HOW.out.setRow (q:=nb) (.inr (by have:=HSZ.out;omega)) _)
       |exact((HOW.out.setCell (p:=⟨rb,2,none⟩) (.inl rfl) _).setRow (q:=nb) (.inr (by have:=HSZ.out;omega)) _)
     ·simp only[Bool.false_eq_true,if_false];rw[HNO.out]
      first
       |exact Xm HRX.out _ _ (by omega)
       |exact Xm HRX.out.wrong _ _ (by omega)
   |true=>
    go_wp2_with (first|fail|fail)
    clear s0 s1 s2 s3
    go_loopw [8] (fun v wy=>∃ k:Nat,k≤4∧v=.int .i64 k∧wy.heap[sb]?=some (.cells (Q4.cells (ZhZ q k)) 138 (0,0))∧Only (fun k=>k=sb) wx wy) (fun v _=>4 - (intOf v).toNat)
    case atStart=>exact⟨0,by omega,rfl,HSW.out,Only.refl _ _⟩
    case round=>
     obtain⟨k,hk,rfl,hsx,hox⟩:=hrel;have HSX:=Hd hsx;have HOX:=Hd hox;clear hsx hox;clear c0 c1 c2 z1 z2;obtain⟨x0,x1,x2,x3⟩:=EO HQ.out;by_cases hk4:k=4
     ·subst hk4;have hr4:RefAt wr rb S j true:=(HOX.out.block rb (by omega) (by omega)).trans HRX.out;have hn4:wr.heap[nb]?=some (.cells Zn 141 (0,0)):=(HOX.out.block nb (by omega) (by omega)).trans HNW.out;have ho4:Only (fun k=>k=rb) w wr:=HOW.out.trans (HOX.out.mono fun k _ h=>.inr (by have:=HSZ.out;omega));have s0:wr.cell? ⟨sb,0,none⟩=some (.int .u64 q.not.a):=Zb HSX.out 0;have s1:wr.cell? ⟨sb,1,none⟩=some (.int .u64 q.not.b):=Zb HSX.out 1;have s2:wr.cell? ⟨sb,2,none⟩=some (.int .u64 q.not.c):=Zb HSX.out 2;have s3:wr.cell? ⟨sb,3,none⟩=some (.int .u64 q.not.d):=Zb HSX.out 3;obtain⟨c0,c1,c2,z1,z2⟩:=hr4.cells;have HR4:=Hd hr4;have HN4:=Hd hn4;have HO4:=Hd ho4;have hqn:=Q4.not_ok HQ.out
      obtain⟨qn,hqe⟩:∃ qn,q.not=qn:=⟨_,rfl⟩
      rw[hqe]at s0 s1 s2 s3 hqn;have HQE:=Hd hqe;have HQN:=Hd hqn;clear hr4 hn4 ho4 hqe hqn x0 x1 x2 x3;cases hno:Q3 qn.a qn.b qn.c qn.d 0 0 0 0
      all_goals
       have HNO:=Hd (show qn.isNone=_ from hno)
       go_wp2_with (first|fail|(refine wpList_store_row rfl 141 (.tmp 2) (.tmp 71) ?_ nb (Zh (setA qn)) ?_ ?_ 141 Zn ?_ (Zj _) (by rw[Zi];rfl) (Zl _) ?_;(with_reducible rfl);rfl;rfl;first|exact HN4.out|exact(Below.heap_setCell _ _ _ _ (by show nb≠rb;omega)).trans HN4.out)|fail)
       refine bodyPost_ret (results_cell_row rfl _ _ nb 141 (Zh (setA qn)) (0,0) _ rfl (setRow_heap _ _ _ _ _ _ (by first|exact HN4.out|exact(Below.heap_setCell _ _ _ _ (by show nb≠rb;omega)).trans HN4.out)) Tryz.underlying141 rfl (Zj _)) rfl ?_;refine Ea HR.out ?_ hje1 hje2 HFIN.out HQE.out HQN.out rfl ?_
       ·first
         |exact(HO4.out.setRow (q:=nb) (.inr (by have:=HSZ.out;omega)) _)
         |exact((HO4.out.setCell (p:=⟨rb,2,none⟩) (.inl rfl) _).setRow (q:=nb) (.inr (by have:=HSZ.out;omega)) _)
       ·skip
        rw[HNO.out]
        first
         |exact Xm HR4.out _ _ (by omega)
         |exact Xm HR4.out.wrong _ _ (by omega)
     ·have hk3:k=0∨k=1∨k=2∨k=3:=by omega
      rcases hk3 with rfl|rfl|rfl|rfl
      ·have s0:wr.cell? ⟨sb,0,none⟩=some (.int .u64 q.a):=Zb HSX.out 0;have t0:=Zc HSX.out 0
       go_wp2_with fail
       exact⟨⟨1,by omega,rfl,(Zf HSX.out 0 _).trans rfl,HOX.out.setCell (.inl rfl) _⟩,by decide⟩
      ·have s0:wr.cell? ⟨sb,1,none⟩=some (.int .u64 q.b):=Zb HSX.out 1;have t0:=Zc HSX.out 1
       go_wp2_with fail
       exact⟨⟨2,by omega,rfl,(Zf HSX.out 1 _).trans rfl,HOX.out.setCell (.inl rfl) _⟩,by decide⟩
      ·have s0:wr.cell? ⟨sb,2,none⟩=some (.int .u64 q.c):=Zb HSX.out 2;have t0:=Zc HSX.out 2
       go_wp2_with fail
       exact⟨⟨3,by omega,rfl,(Zf HSX.out 2 _).trans rfl,HOX.out.setCell (.inl rfl) _⟩,by decide⟩
      ·have s0:wr.cell? ⟨sb,3,none⟩=some (.int .u64 q.d):=Zb HSX.out 3;have t0:=Zc HSX.out 3
       go_wp2_with fail
       exact⟨⟨4,by omega,rfl,(Zf HSX.out 3 _).trans rfl,HOX.out.setCell (.inl rfl) _⟩,by decide⟩
  ·have hfin:FinO O S false q (j+1):=by
    rcases HH.out with⟨h1,-, -⟩|⟨-, h1,-⟩|⟨-, -, h3⟩
    ·cases h1
    ·cases h1
    ·rw[h93,if_pos rfl,←Zy]at h3;exact .inr ⟨rfl,h3⟩
   have HFIN:=Hd hfin;clear hfin;have hje1:i≤j+1:=by omega
   have hje2:j+1≤S.size:=ZO h93;have hat:=fun w1 (h1:RefAt w1 rb S j false)=>U3 w1 rb S j false 93 93 h1 hs rfl
   rw[h93]at hat;have HAT:=Hd hat;clear hat h93
   cases nt with
   |false=>
    cases hno:Q3 q.a q.b q.c q.d 0 0 0 0
    all_goals
     have HNO:=Hd (show q.isNone=_ from hno)
     go_wp2_with (first|(go_at_call 132;refine(HAT.out _ HRR.out).mono ?_;rintro e wx ⟨rfl,h1,o1⟩;have hsx:=(o1.block sb hsl (by omega)).trans HS.out;have hnx:=(o1.block nb hnl (by omega)).trans HN.out;have HRX:=Hd h1;have HSW:=Hd hsx;have HNW:=Hd hnx;have HOW:=Hd (HON.out.then o1);have hsl2:=Za hsx;have hnl2:=Za hnx;obtain⟨d0,d1,d2,y1,y2⟩:=h1.cells;clear h1 o1 hsx hnx;have s0:wx.cell? ⟨sb,0,none⟩=some (.int .u64 q.a):=Zb HSW.out 0;have s1:wx.cell? ⟨sb,1,none⟩=some (.int .u64 q.b):=Zb HSW.out 1;have s2:wx.cell? ⟨sb,2,none⟩=some (.int .u64 q.c):=Zb HSW.out 2;have s3:wx.cell? ⟨sb,3,none⟩=some (.int .u64 q.d):=Zb HSW.out 3)|(refine wpList_store_row rfl 141 (.tmp 2) (.tmp 71) ?_ nb (Zh (setA q)) ?_ ?_ 141 Zn ?_ (Zj _) (by rw[Zi];rfl) (Zl _) ?_;(with_reducible rfl);rfl;rfl;first|exact HNW.out|exact(Below.heap_setCell _ _ _ _ (by show nb≠rb;omega)).trans HNW.out)|fail)
     refine bodyPost_ret (results_cell_row rfl _ _ nb 141 (Zh (setA q)) (0,0) _ rfl (setRow_heap _ _ _ _ _ _ (by first|exact HNW.out|exact(Below.heap_setCell _ _ _ _ (by show nb≠rb;omega)).trans HNW.out)) Tryz.underlying141 rfl (Zj _)) rfl ?_;refine Ea HR.out ?_ hje1 hje2 HFIN.out rfl HQ.out rfl ?_
     ·first
       |exact(HOW.out.setRow (q:=nb) (.inr (by have:=HSZ.out;omega)) _)
       |exact((HOW.out.setCell (p:=⟨rb,2,none⟩) (.inl rfl) _).setRow (q:=nb) (.inr (by have:=HSZ.out;omega)) _)
     ·simp only[Bool.false_eq_true,if_false];rw[HNO.out]
      first
       |exact Xm HRX.out _ _ (by omega)
       |exact Xm HRX.out.wrong _ _ (by omega)
   |true=>
    go_wp2_with (first|(go_at_call 132;refine(HAT.out _ HRR.out).mono ?_;rintro e wx ⟨rfl,h1,o1⟩;have hsx:=(o1.block sb hsl (by omega)).trans HS.out;have hnx:=(o1.block nb hnl (by omega)).trans HN.out;have HRX:=Hd h1;have HSW:=Hd hsx;have HNW:=Hd hnx;have HOW:=Hd (HON.out.then o1);have hsl2:=Za hsx;have hnl2:=Za hnx;obtain⟨d0,d1,d2,y1,y2⟩:=h1.cells;clear h1 o1 hsx hnx;have s0:wx.cell? ⟨sb,0,none⟩=some (.int .u64 q.a):=Zb HSW.out 0;have s1:wx.cell? ⟨sb,1,none⟩=some (.int .u64 q.b):=Zb HSW.out 1;have s2:wx.cell? ⟨sb,2,none⟩=some (.int .u64 q.c):=Zb HSW.out 2;have s3:wx.cell? ⟨sb,3,none⟩=some (.int .u64 q.d):=Zb HSW.out 3)|fail)
    clear s0 s1 s2 s3
    go_loopw [8] (fun v wy=>∃ k:Nat,k≤4∧v=.int .i64 k∧wy.heap[sb]?=some (.cells (Q4.cells (ZhZ q k)) 138 (0,0))∧Only (fun k=>k=sb) wx wy) (fun v _=>4 - (intOf v).toNat)
    case atStart=>exact⟨0,by omega,rfl,HSW.out,Only.refl _ _⟩
    case round=>
     obtain⟨k,hk,rfl,hsx,hox⟩:=hrel;have HSX:=Hd hsx;have HOX:=Hd hox;clear hsx hox;clear d0 d1 d2 y1 y2;obtain⟨x0,x1,x2,x3⟩:=EO HQ.out;by_cases hk4:k=4
     ·subst hk4;have hr4:RefAt wr rb S (j+1) false:=(HOX.out.block rb (by omega) (by omega)).trans HRX.out;have hn4:wr.heap[nb]?=some (.cells Zn 141 (0,0)):=(HOX.out.block nb (by omega) (by omega)).trans HNW.out;have ho4:Only (fun k=>k=rb) w wr:=HOW.out.trans (HOX.out.mono fun k _ h=>.inr (by have:=HSZ.out;omega));have s0:wr.cell? ⟨sb,0,none⟩=some (.int .u64 q.not.a):=Zb HSX.out 0;have s1:wr.cell? ⟨sb,1,none⟩=some (.int .u64 q.not.b):=Zb HSX.out 1;have s2:wr.cell? ⟨sb,2,none⟩=some (.int .u64 q.not.c):=Zb HSX.out 2;have s3:wr.cell? ⟨sb,3,none⟩=some (.int .u64 q.not.d):=Zb HSX.out 3;obtain⟨c0,c1,c2,z1,z2⟩:=hr4.cells;have HR4:=Hd hr4;have HN4:=Hd hn4;have HO4:=Hd ho4;have hqn:=Q4.not_ok HQ.out
      obtain⟨qn,hqe⟩:∃ qn,q.not=qn:=⟨_,rfl⟩
      rw[hqe]at s0 s1 s2 s3 hqn;have HQE:=Hd hqe;have HQN:=Hd hqn;clear hr4 hn4 ho4 hqe hqn x0 x1 x2 x3;cases hno:Q3 qn.a qn.b qn.c qn.d 0 0 0 0
      all_goals
       have HNO:=Hd (show qn.isNone=_ from hno)
       go_wp2_with (first|fail|(refine wpList_store_row rfl 141 (.tmp 2) (.tmp 71) ?_ nb (Zh (setA qn)) ?_ ?_ 141 Zn ?_ (Zj _) (by rw[Zi];rfl) (Zl _) ?_;(with_reducible rfl);rfl;rfl;first|exact HN4.out|exact(Below.heap_setCell _ _ _ _ (by show nb≠rb;omega)).trans HN4.out)|fail)
       refine bodyPost_ret (results_cell_row rfl _ _ nb 141 (Zh (setA qn)) (0,0) _ rfl (setRow_heap _ _ _ _ _ _ (by first|exact HN4.out|exact(Below.heap_setCell _ _ _ _ (by show nb≠rb;omega)).trans HN4.out)) Tryz.underlying141 rfl (Zj _)) rfl ?_;refine Ea HR.out ?_ hje1 hje2 HFIN.out HQE.out HQN.out rfl ?_
       ·first
         |exact(HO4.out.setRow (q:=nb) (.inr (by have:=HSZ.out;omega)) _)
         |exact((HO4.out.setCell (p:=⟨rb,2,none⟩) (.inl rfl) _).setRow (q:=nb) (.inr (by have:=HSZ.out;omega)) _)
       ·skip
        rw[HNO.out]
        first
         |exact Xm HR4.out _ _ (by omega)
         |exact Xm HR4.out.wrong _ _ (by omega)
     ·have hk3:k=0∨k=1∨k=2∨k=3:=by omega
      rcases hk3 with rfl|rfl|rfl|rfl
      ·have s0:wr.cell? ⟨sb,0,none⟩=some (.int .u64 q.a):=Zb HSX.out 0;have t0:=Zc HSX.out 0
       go_wp2_with fail
       exact⟨⟨1,by omega,rfl,(Zf HSX.out 0 _).trans rfl,HOX.out.setCell (.inl rfl) _⟩,by decide⟩
      ·have s0:wr.cell? ⟨sb,1,none⟩=some (.int .u64 q.b):=Zb HSX.out 1;have t0:=Zc HSX.out 1
       go_wp2_with fail
       exact⟨⟨2,by omega,rfl,(Zf HSX.out 1 _).trans rfl,HOX.out.setCell (.inl rfl) _⟩,by decide⟩
      ·have s0:wr.cell? ⟨sb,2,none⟩=some (.int .u64 q.c):=Zb HSX.out 2;have t0:=Zc HSX.out 2
       go_wp2_with fail
       exact⟨⟨3,by omega,rfl,(Zf HSX.out 2 _).trans rfl,HOX.out.setCell (.inl rfl) _⟩,by decide⟩
      ·have s0:wr.cell? ⟨sb,3,none⟩=some (.int .u64 q.d):=Zb HSX.out 3;have t0:=Zc HSX.out 3
       go_wp2_with fail
       exact⟨⟨4,by omega,rfl,(Zf HSX.out 3 _).trans rfl,HOX.out.setCell (.inl rfl) _⟩,by decide⟩
  ·have hcl:ZS f q (rest S j)=O:=by
    rcases hcd with rfl|⟨rfl,h93⟩
    ·rcases HH.out with⟨h1,-, -⟩|⟨-, -, h3⟩|⟨-, h1,-⟩
     ·cases h1
     ·exact h3.symm
     ·cases h1
    ·rcases HH.out with⟨h1,-, -⟩|⟨-, h1,-⟩|⟨-, -, h3⟩
     ·cases h1
     ·cases h1
     ·rw[h93]at h3;exact h3.symm
   have HCL:=Hd hcl;clear hcl;have hat:=fun w1 (h1:RefAt w1 rb S j false)=>U3 w1 rb S j false 93 93 h1 hs rfl
   have HAT:=Hd hat;clear hat
   go_upto_region 4 with fail
   go_cut [24] from 12 to 24 (fun v wx=>v=.bool true∧RefAt wx rb S j false∧Only (fun k=>k=rb) wr wx)
   case first=>
    rcases hcd with rfl|⟨rfl,h93⟩
    ·go_wp2_with fail
     go_meet
     case rel=>exact⟨rfl,HRR.out,Only.refl _ _⟩
    ·have hat:=HAT.out;rw[h93]at hat;have HAT2:=Hd hat;clear hat h93
     go_wp2_with (go_at_call 132;refine(HAT2.out _ HRR.out).mono ?_;rintro e w2 ⟨rfl,h1,o1⟩)
     go_meet
     case rel=>exact⟨rfl,h1,o1⟩
   case rest=>
    obtain⟨rfl,hrx,hox⟩:=hcut;have HSW:=Hd ((hox.block sb hsl (by omega)).trans HS.out);have HNW:=Hd ((hox.block nb hnl (by omega)).trans HN.out);have HOW:=Hd (HON.out.then hox);have HRX:=Hd hrx;have hsl2:=Za HSW.out;have hnl2:=Za HNW.out;have HONE1:=Hd (Qf wc rb S j ⟨#[92,93,94,45]⟩ hrx hs hjs (by decide));clear hrx hox HAT c0 c1 c2 z1 z2
    obtain⟨wx,rfl⟩:∃ wx:World,wx=wc:=⟨_,rfl⟩
    go_upto_region 8 with(go_at_call 180;refine HONE1.out.mono ?_;rintro e w3 hS1;obtain⟨o3,a,ja,ba,rfl,ha256,hja,hjas,hra,hba,hjj⟩:=EE hS1;have HRA:=Hd hra;have HBA:=Hd hba;have HJJ:=Hd hjj;have HO3:=Hd (HOW.out.then o3);have HS3:=Hd ((o3.block sb hsl2 (by omega)).trans HSW.out);have HN3:=Hd ((o3.block nb hnl2 (by omega)).trans HNW.out);have hsl3:=Za HS3.out;have hnl3:=Za HN3.out;clear hS1 hra hba hjj o3)
    go_cut [36] from 28 to 36 (fun v wd=>∃ (p:Bool) (jy:Nat),v=.bool p∧RefAt wd rb S jy ba∧Only (fun k=>k=rb) w3 wd∧ja≤jy∧jy≤S.size∧DashO S ja jy ba p)
    case first=>
     have hat:=fun w1 (h1:RefAt w1 rb S ja ba)=>U3 w1 rb S ja ba 45 45 h1 hs rfl
     obtain⟨d0,d1,d2,y1,y2⟩:=HRA.out.cells
     cases ba with
     |true=>
      clear hat
      go_wp2_with fail
      go_meet
      case rel=>exact⟨false,ja,rfl,HRA.out,Only.refl _ _,Nat.le_refl _,hjas,.inr ⟨rfl,rfl,.inl rfl⟩⟩
     |false=>
      cases h45:Zg 45 (rest S ja) with
      |false=>
       rw[h45]at hat;have HAT:=Hd hat;have H45:=Hd h45;clear hat h45
       go_wp2_with (go_at_call 132;refine(HAT.out _ HRA.out).mono ?_;rintro e w4 ⟨rfl,h4,o4⟩)
       go_meet
       case rel=>exact⟨false,ja,rfl,h4,o4,Nat.le_refl _,hjas,.inr ⟨rfl,rfl,.inr H45.out⟩⟩
      |true=>
       rw[h45]at hat;have HAT:=Hd hat;have H45:=Hd h45;clear hat h45
       go_wp2_with (go_at_call 132;refine(HAT.out _ HRA.out).mono ?_;rintro e w4 ⟨rfl,h4,o4⟩)
       go_meet
       case rel=>exact⟨true,ja+1,rfl,h4,o4,by omega,ZO H45.out,.inl ⟨rfl,rfl,H45.out,rfl⟩⟩
    case rest=>
     obtain⟨p,jy,rfl,hrd,hod,hjy1,hjy2,hdash⟩:=hcut;have HS4:=Hd ((hod.block sb hsl3 (by omega)).trans HS3.out);have HN4:=Hd ((hod.block nb hnl3 (by omega)).trans HN3.out);have HO4:=Hd (HO3.out.then hod);have HR4:=Hd hrd;have HDASH:=Hd hdash;have hsl4:=Za HS4.out;have hnl4:=Za HN4.out;clear hrd hod hdash
     obtain⟨w4,rfl⟩:∃ w4:World,w4=wc:=⟨_,rfl⟩
     go_upto_if 36 with fail
     go_cut [7] from 37 to 38 (fun v we=>∃ (b jz:Nat) (bz:Bool),v=.int .i64 b∧b<256∧RefAt we rb S jz bz∧Only (fun k=>k=rb) w4 we∧jy≤jz∧jz≤S.size∧OneO S q j a b jz bz)
     case first=>
      cases p with
      |false=>
       go_wp2_with fail
       go_meet
       case rel=>
        rcases HDASH.out with⟨h1,-⟩|⟨-, rfl,h45⟩
        ·cases h1
        ·refine⟨a,jy,ba,rfl,ha256,HR4.out,Only.refl _ _,Nat.le_refl _,hjy2,?_⟩;rcases HBA.out with⟨rfl,h1⟩|⟨rfl,h1⟩
         ·rcases h45 with h45|h45
          ·cases h45
          ·exact OneO.single h1 h45 (HJJ.out rfl)
         ·exact OneO.wrong h1
      |true=>
       obtain⟨rfl,h45,rfl⟩:ba=false∧Zg 45 (rest S ja)=true∧jy=ja+1:=by
        rcases HDASH.out with⟨-, h1,h2,h3⟩|⟨h1,-⟩
        ·exact⟨h1,h2,h3⟩
        ·cases h1
       have H45:=Hd h45;have HONE2:=Hd (Qf w4 rb S (ja+1) ⟨#[92,93,94,45]⟩ HR4.out hs hjy2 (by decide));clear h45
       go_wp2_with (go_at_call 180;refine HONE2.out.mono ?_;rintro e w5 hS2;obtain⟨o5,b,jb,bb,rfl,hb256,hjb,hjbs,hrb,hbb,hjj2⟩:=EE hS2;have HRB:=Hd hrb;have HBB:=Hd hbb;have HO5:=Hd o5;have HJ2:=Hd hjj2;clear hS2 hrb hbb o5 hjj2)
       go_meet
       case rel=>
        refine⟨b,jb,bb,rfl,hb256,HRB.out,HO5.out,hjb,hjbs,?_⟩
        have h1:one Yh (rest S j)=some (a,rest S ja):=by
         rcases HBA.out with⟨-, h1⟩|⟨h1,-⟩
         ·exact h1
         ·cases h1
        rcases HBB.out with⟨rfl,h2⟩|⟨rfl,h2⟩
        ·exact OneO.two h1 H45.out h2 (by omega)
        ·exact OneO.half h1 H45.out h2
     case rest=>
      obtain⟨b,jz,bz,rfl,hb256,hre,hoe,hjz1,hjz2,hone⟩:=hcut;have HS5:=Hd ((hoe.block sb hsl4 (by omega)).trans HS4.out);have HN5:=Hd ((hoe.block nb hnl4 (by omega)).trans HN4.out);have HO5:=Hd (HO4.out.then hoe);have HR5:=Hd hre;have HONE:=Hd hone;have hsl5:=Za HS5.out;have hnl5:=Za HN5.out;clear hre hoe hone
      obtain⟨w5,rfl⟩:∃ w5:World,w5=wc:=⟨_,rfl⟩
      go_upto_if 41 with fail
      go_cut [] from 39 to 44 (fun wf=>∃ bf:Bool,Hid (bf=(bz || decide (b<a)))∧RefAt wf rb S jz bf∧Only (fun k=>k=rb) w5 wf)
      case first=>
       obtain⟨d0,d1,d2,y1,y2⟩:=HR5.out.cells;by_cases hab:(b:Int)<(a:Int)
       ·go_wp2_with fail
        go_meet
        case rel=>exact⟨true,Hd (by rw[decide_eq_true (by omega)];simp),HR5.out.wrong,(Only.refl (fun k=>k=rb) w5).setCell (p:=⟨rb,2,none⟩) (.inl rfl) _⟩
       ·go_wp2_with fail
        go_meet
        case rel=>exact⟨bz,Hd (by rw[decide_eq_false (by omega)];simp),HR5.out,Only.refl _ _⟩
      case rest=>
       obtain⟨bf,hbf,hrf,hof⟩:=hcut;have HS6:=Hd ((hof.block sb hsl5 (by omega)).trans HS5.out);have HN6:=Hd ((hof.block nb hnl5 (by omega)).trans HN5.out);have HO6:=Hd (HO5.out.then hof);have HR6:=Hd hrf;have hsl6:=Za HS6.out;have hnl6:=Za HN6.out;clear hrf hof
       obtain⟨w6,rfl⟩:∃ w6:World,w6=wc:=⟨_,rfl⟩
       go_wp2_with fail
       go_loopw [6] (fun v wl=>∃ k:Nat,k≤b+1 - a∧v=.int .i64 ((a+k:Nat):Int)∧wl.heap[sb]?=some (.cells (Q4.cells (q.withAll a k)) 138 (0,0))∧Only (fun k=>k=sb) w6 wl) (fun v _=>b+1 - (intOf v).toNat)
       case atStart=>exact⟨0,by omega,rfl,HS6.out,Only.refl _ _⟩
       case round=>
        obtain⟨k,hk,rfl,hsx,hox⟩:=hrel;have HSL:=Hd hsx;have HOL:=Hd hox;clear hsx hox
        obtain⟨x,hx⟩:∃ x,a+k=x:=⟨_,rfl⟩
        rw[hx];by_cases hkc:k=b+1 - a
        ·have hgt:¬ (x:Int)≤(b:Int):=by omega
         have HKC:=Hd hkc;have HX:=Hd hx;have hr4:RefAt wr rb S jz bf:=(HOL.out.block rb (by omega) (by omega)).trans HR6.out;have hn4:wr.heap[nb]?=some (.cells Zn 141 (0,0)):=(HOL.out.block nb (by omega) (by omega)).trans HN6.out;have ho4:Only (fun k=>k=rb) w wr:=HO6.out.trans (HOL.out.mono fun k _ h=>.inr (by have:=HSZ.out;omega));have hnext:=ZdE (bz:=bf) HCL.out hlf HONE.out hbf.out;have HNEXT:=Hd hnext;have HR7:=Hd hr4;have HN7:=Hd hn4;have HO7:=Hd ho4;clear hnext hr4 hn4 ho4 hx hkc
         go_wp2_with fail
         obtain⟨f2,hf2,hh2⟩:=HNEXT.out;rw[←HKC.out]at hh2;refine⟨⟨false,bf,q.withAll a k,jz,f2,rfl,HR7.out,HSL.out,HN7.out,HO7.out,Q4.withAll_ok HQ.out (by have:=HKC.out;omega),by omega,hjz2,hf2,hh2⟩,?_⟩;rw[YG HR7.out,Eo HR7.out,YG HRR.out,Eo HRR.out];have hbf':=hbf.out;rcases HONE.out with⟨h1,-⟩|⟨-, h1,-⟩
         ·rw[h1]at hbf';rw[hbf'];simp;omega
         ·cases bf<;>simp<;>omega
        ·have hle:(x:Int)≤(b:Int):=by omega
         have hx256:x<256:=by omega
         have hqk:=Q4.withAll_ok HQ.out (k:=k) (n:=a) (by omega)
         obtain⟨q1,hq1⟩:∃ q1,q.withAll a k=q1:=⟨_,rfl⟩
         rw[hq1]at HSL hqk;have HQS:=Hd (show q.withAll a (k+1)=q1.with x by rw[X4,hq1,hx]);have s0:wr.cell? ⟨sb,0,none⟩=some (.int .u64 q1.a):=Zb HSL.out 0;have s1:wr.cell? ⟨sb,1,none⟩=some (.int .u64 q1.b):=Zb HSL.out 1;have s2:wr.cell? ⟨sb,2,none⟩=some (.int .u64 q1.c):=Zb HSL.out 2;have s3:wr.cell? ⟨sb,3,none⟩=some (.int .u64 q1.d):=Zb HSL.out 3;have hsll:=Za HSL.out;have HW4:=Hd (Bn q1 hqk x hx256 wr);have HX:=Hd hx;clear hq1 hqk hx
         go_wp2_with (first|(go_at_call 179;refine HW4.out.mono ?_;rintro e w7 ⟨rfl,hb5⟩;have HS7:=Hd ((hb5.block sb hsll).trans HSL.out);have HO7:=Hd (HOL.out.trans (Only.of_below hb5));clear hb5)|(refine wpList_store_row rfl 138 (.tmp 4) (.tmp 52) ?_ sb (Q4.cells (q1.with x)) ?_ ?_ 138 (Q4.cells q1) ?_ E7 rfl (ZcB _) ?_;(with_reducible rfl);rfl;rfl;exact HS7.out)|fail)
         refine⟨⟨k+1,by omega,by have:=HX.out;simp;omega,?_,HO7.out.setRow (q:=sb) (.inl rfl) _⟩,by have:=HX.out;simp only[intOf];omega⟩;rw[HQS.out];exact setRow_heap _ _ _ _ _ _ HS7.out
end Go.Proofs.YtbchkjfnakabkaaGreatDoor
namespace Go.Proofs.YtbchkjfnakabkaaGreatDoor
open Go.RowKit PX
theorem EK(w:World)(kind:Int)(v:Value)(base:Nat)(L:List RxA)(hown:w.ownsRow base 141 8 v L.length (Xb L))(hlen:L.length≤1000) :
 Calls Tryz.prog 131 #[.int .i64 kind,v] w fun e w'=>∃ a cap,v=.slice a L.length cap∧e=.returned (.agg (Zh (Xk kind a cap L)))∧Below w.heap.size w w':=by
 obtain⟨a,cap,rfl,hc1,hc2,ha⟩:=Y9 hown;by_cases h1:L.length=1
 ·obtain⟨x,rfl⟩:=List.length_eq_one_iff.1 h1;obtain⟨g,rfl,hbg,hgw,-⟩:=ha.resolve_left (by rintro⟨h,-⟩;simp at h)
  have hC:∀ j u,(Zh x)[j]?=some u→w.cell? ⟨g,j,none⟩=some u:=by
   intro j u hu;have hj:j<8:=by have:=(Array.getElem?_eq_some_iff.1 hu).1;rwa [Zi]at this
   rw[hown.cellAt j (by simp;omega)]
   simpa [Xb,Zh] using hu
  have HC:=Hd hC;clear hC;have HSZ:=Hd (Zi x);have HONE:=Hd (Zl x);show Calls _ _ _ _ fun e w'=>∃ a' cap',Value.slice (some ⟨g,0,none⟩) [x].length cap=.slice a' [x].length cap'∧e=.returned (.agg (Zh x))∧Below w.heap.size w w'
  obtain⟨CS,HCS⟩:∃ CS,Hid (Zh x=CS):=⟨_,Hd rfl⟩
  rw[HCS.out]at HC HSZ HONE ⊢;clear hown;have HZ:=Hd (show(w.alloc (.cells Zn 141)).heap[w.heap.size]?=some (.cells Zn 141 (0,0)) from Ze w _);simp only[List.length_singleton];have hINF:(Tryz.prog.info? 141).map (·.size)=some CS.size:=by rw[HSZ.out];exact ZF
  have HINF:=Hd hINF;clear hINF;have HC2:=Hd (fun j u hu=>(World.cell?_of_block (w:=w) (a:=⟨g,j,none⟩) (Below.heap_alloc w (.cells Zn 141) g hgw)).trans (HC.out j u hu))
  go_enter Tryz.func131,Tryz.ntmps131
  go_wp2_with (first
   |refine Vn rfl 141 (.tmp 9) rfl g 0 rfl CS _ (by intro j u hu;rw[Nat.zero_add];exact HC2.out j u hu) Tryz.underlying141 rfl HINF.out ?_
   |refine wpList_store_row rfl 141 (.tmp 4) (.tmp 10) rfl w.heap.size CS rfl rfl 141 _ HZ.out HINF.out (by rw[HSZ.out];rfl) HONE.out ?_)
  refine bodyPost_ret (results_cell_row rfl _ _ w.heap.size 141 CS (0,0) _ rfl (setRow_heap _ _ _ _ _ _ HZ.out) Tryz.underlying141 rfl HINF.out) rfl ?_;exact⟨_,_,rfl,rfl,Y2 w _ _⟩
 ·have hj:Xk kind a cap L=.node kind 0 0 0 0 0 0 a cap L:=by
   match L,h1 with
   |[],_=>rfl
   |[_],h1=>exact absurd rfl h1
   |_::_::_,_=>rfl
  suffices hs:Calls Tryz.prog 131 #[.int .i64 kind,.slice a L.length cap] w fun e w'=>e=.returned (.agg (Zh (.node kind 0 0 0 0 0 0 a cap L)))∧Below w.heap.size w w' by
   refine hs.mono ?_;rintro e w' ⟨he,hb⟩;exact⟨a,cap,rfl,by rw[hj];exact he,hb⟩
  have HINF:=Hd (Zj (.node kind 0 0 0 0 0 0 a cap L));have HONE:=Hd (Zl (.node kind 0 0 0 0 0 0 a cap L));have hn1:((L.length:Int)==1)=false:=by rw[beq_eq_false_iff_ne];omega
  obtain⟨n,hn⟩:∃ n,L.length=n:=⟨_,rfl⟩
  have hcs:Zh (.node kind 0 0 0 0 0 0 a cap L)=#[.int .i64 kind,.int .i64 0,.int .i64 0,.int .u64 0,.int .u64 0,.int .u64 0,.int .u64 0,.slice a n cap]:=by rw[←hn];rfl
  obtain⟨CS,HCS⟩:∃ CS,Hid (Zh (.node kind 0 0 0 0 0 0 a cap L)=CS):=⟨_,Hd rfl⟩
  rw[HCS.out]at HINF HONE hcs ⊢;rw[hn]at hn1 hlen ⊢;clear hown ha hj;have hsz8:CS.size=8:=by rw[hcs];rfl
  have HCE:=Hd hcs;clear hcs;have HZ:=Hd (show(w.alloc (.cells Zn 141)).heap[w.heap.size]?=some (.cells Zn 141 (0,0)) from Ze w _)
  go_enter Tryz.func131,Tryz.ntmps131
  go_wp2_with (first
   |refine wpList_store_row rfl 141 (.tmp 4) (.tmp 13) rfl w.heap.size CS rfl (by rw[HCE.out];rfl) 141 _ HZ.out HINF.out (by rw[hsz8];rfl) HONE.out ?_)
  refine bodyPost_ret (results_cell_row rfl _ _ w.heap.size 141 CS (0,0) _ rfl (setRow_heap _ _ _ _ _ _ HZ.out) Tryz.underlying141 rfl HINF.out) rfl ?_;exact⟨rfl,Y2 w _ _⟩
def XK(rb:Nat)(S:ByteArray)(i:Nat)(w:World)(o:Option (Rx × List UInt8))(e:Ending)(w':World):Prop:=
 Only (fun k=>k=rb) w w'∧∃ (X:RxA) (j:Nat) (b:Bool),e=.returned (.agg (Zh X))∧i≤j∧j≤S.size∧RefAt w' rb S j b∧X.In w' w'.heap.size∧(∀c∈X.blocks,w.heap.size≤c∧c<w'.heap.size) ∧
  ((b=false∧o=some (X.bare,rest S j))∨(b=true∧o=none))
theorem at_t(w:World)(rb:Nat)(S:ByteArray)(i:Nat)(bad:Bool)(c:UInt8)(n:Int)(h:RefAt w rb S i bad)(hs:S.size≤1000)(hc:(c.toNat:Int)=n)(h1:Zg c (rest S i)=true) :
 Calls Tryz.prog 132 #[.pointer (some ⟨rb,0,none⟩),.int .u8 n] w fun e w'=>e=.returned (.bool true)∧RefAt w' rb S (i+1) bad∧Only (fun k=>k=rb) w w':=by
 have h2:=U3 w rb S i bad c n h hs hc;rw[h1]at h2;exact h2
theorem at_f(w:World)(rb:Nat)(S:ByteArray)(i:Nat)(bad:Bool)(c:UInt8)(n:Int)(h:RefAt w rb S i bad)(hs:S.size≤1000)(hc:(c.toNat:Int)=n)(h1:Zg c (rest S i)=false) :
 Calls Tryz.prog 132 #[.pointer (some ⟨rb,0,none⟩),.int .u8 n] w fun e w'=>e=.returned (.bool false)∧RefAt w' rb S i bad∧Only (fun k=>k=rb) w w':=by
 have h2:=U3 w rb S i bad c n h hs hc;rw[h1]at h2;exact h2
theorem DM{r:Nat→Prop}{X:RxA}{w w':World}{nb:Nat}{cs:Array Value}(hin:X.In w w.heap.size)(hb:∀ c∈X.blocks,nb<c)(hlt:∀ c∈X.blocks,c<w.heap.size):X.In (w.setRow nb cs) (w.setRow nb cs).heap.size:=by
 refine hin.keep fun c hc=>⟨by rw[size_setRow];exact hlt c hc,fun o=>World.cell?_of_block (w:=w) (setRow_other _ _ _ _ (by have:=hb c hc;show c≠nb;omega))⟩
theorem XP{w w1:World}{rb nb i j:Nat}{S:ByteArray}{b:Bool}{X:RxA}{O:Option (Rx × List UInt8)}(hw:w.heap.size=nb)(hrb:rb<nb)(ho:Only (fun k=>k=rb) w w1)(hr:RefAt w1 rb S j b)(hin:X.In w1 w1.heap.size)
 (hbl:∀ c∈X.blocks,nb<c∧c<w1.heap.size) (hij:i≤j) (hjs:j≤S.size) (hor:(b=false∧O=some (X.bare,rest S j))∨(b=true∧O=none)) :
 XK rb S i w O (.returned (.agg (Zh X))) (w1.setRow nb (Zh X)):=
 ⟨ho.setRow (.inr (by omega)) _,X,j,b,rfl,hij,hjs,Xm hr _ _ (by omega),DM (r:=fun _=>True) (w':=w) hin (fun c hc=>(hbl c hc).1) (fun c hc=>(hbl c hc).2),fun c hc=>by rw[size_setRow];exact⟨by have:=(hbl c hc).1;omega,(hbl c hc).2⟩,hor⟩
def Zh2:Option (Q4 × List UInt8)→Option (Rx × List UInt8)
 |none=>none
 |some (q,r)=>some (.set q,r)
def ZgT:Option (Nat × List UInt8)→Option (Rx × List UInt8)
 |none=>none
 |some (b,r)=>some (.set (Q4.none.with b),r)
theorem ZeD{rb:Nat}{S:ByteArray}{i f:Nat}{w:World}{l:List UInt8}{e:Ending}{w':World}(h:Says rb S i w (Yp f l) (fun q=>.agg (Zh (setA q))) (fun v=>∃ q:Q4,q.Ok∧v=.agg (Zh (setA q))) e w') :
 Only (fun k=>k=rb) w w'∧∃ (q:Q4) (j:Nat) (b:Bool),q.Ok∧e=.returned (.agg (Zh (setA q)))∧i≤j∧j≤S.size∧RefAt w' rb S j b∧((b=false∧Yp f l=some (q,rest S j))∨(b=true∧Yp f l=none)):=by
 obtain⟨ho,v,j,he,hij,hj,⟨q,h1,rfl,h2⟩|⟨h1,⟨q,hq,rfl⟩,h2⟩⟩:=h
 ·exact⟨ho,q,j,false,W4 h1,he,hij,hj,h2,.inl ⟨rfl,h1⟩⟩
 ·exact⟨ho,q,j,true,hq,he,hij,hj,h2,.inr ⟨rfl,h1⟩⟩
theorem ZcA(w:World)(rb:Nat)(S:ByteArray)(i:Nat)(h:RefAt w rb S i false)(hs:S.size≤1000)(hi:i≤S.size)(altf:List UInt8→Option (Rx × List UInt8))(h46:Zg 46 (rest S i)=true) :
 Calls Tryz.prog 154 #[.pointer (some ⟨rb,0,none⟩)] w fun e w'=>XK rb S i w (Xx altf (rest S i)) e w':=by
 have hB:Xx altf (rest S i)=some (.set Q4.all,rest S (i+1)):=by unfold Xx;rw[h46,Zy];rfl
 rw[hB];have HAT1:=Hd (fun w1 (h1:RefAt w1 rb S i false)=>at_t w1 rb S i false 46 46 h1 hs rfl h46);have hi1:=ZO h46;clear h46 hB
 obtain⟨nb,hnb⟩:∃ nb,w.heap.size=nb:=⟨_,rfl⟩
 have hrb:=Za h;rw[hnb]at hrb;have hN0:(w.alloc (.cells Zn 141)).heap[nb]?=some (.cells Zn 141 (0,0)):=Zp _ _ _ hnb;have hR0:RefAt (w.alloc (.cells Zn 141)) rb S i false:=Zd h _;have HN0:=Hd hN0;have HR0:=Hd (show RefAt (w.alloc (.cells #[.int .i64 0,.int .i64 0,.int .i64 0,.int .u64 0,.int .u64 0,.int .u64 0,.int .u64 0,.slice none 0 0] 141)) rb S i false from hR0);have HO0:=Hd ((Only.refl (fun k=>k=rb) w).alloc (.cells Zn 141));have hl0:nb<(w.alloc (.cells Zn 141)).heap.size:=Za hN0;have HSZ:=Hd hnb;clear hN0 hR0 h
 go_enter Tryz.func154,Tryz.ntmps154
 go_wp2_with (first
  |(go_at_call 132;(with_reducible refine(HAT1.out _ HR0.out).mono ?_);rintro e w1 ⟨rfl,h1,o1⟩;have HR1:=Hd h1;have HO1:=Hd (HO0.out.then o1);have HN1:=Hd ((o1.block nb hl0 (by omega)).trans HN0.out);have hl1:=Za HN1.out;clear h1 o1)
  |(refine wpList_store_row rfl 141 (.tmp 2) (.tmp 8) ?_ nb (Zh (setA Q4.all)) ?_ ?_ 141 Zn ?_ (Zj _) (by rw[Zi];rfl) (Zl _) ?_;(with_reducible rfl);rfl;rfl;exact HN1.out)
  |fail)
 refine bodyPost_ret (results_cell_row rfl _ _ nb 141 (Zh (setA Q4.all)) (0,0) _ rfl (setRow_heap _ _ _ _ _ _ HN1.out) Tryz.underlying141 rfl (Zj _)) rfl ?_;exact XP HSZ.out hrb HO1.out HR1.out (Jg _ Q4.all_ok _ _) (by rw[Xv];simp) (by omega) (by omega) (.inl ⟨rfl,by rw[Yc]⟩)
theorem DF(w:World)(rb:Nat)(S:ByteArray)(i:Nat)(h:RefAt w rb S i false)(hs:S.size≤1000)(hi:i≤S.size)(altf:List UInt8→Option (Rx × List UInt8))(h46:Zg 46 (rest S i)=false)(h91:Zg 91 (rest S i)=true) :
 Calls Tryz.prog 154 #[.pointer (some ⟨rb,0,none⟩)] w fun e w'=>XK rb S i w (Xx altf (rest S i)) e w':=by
 have hB:Xx altf (rest S i)=Zh2 (Yp (rest S i).length (rest S (i+1))):=by
  unfold Xx;rw[h46,h91,Zy];simp only[Bool.false_eq_true,if_false,if_true];cases Yp (rest S i).length (rest S i).tail<;>rfl
 rw[hB];have hi1:=ZO h91;have HAT1:=Hd (fun w1 (h1:RefAt w1 rb S i false)=>at_f w1 rb S i false 46 46 h1 hs rfl h46);have HAT2:=Hd (fun w1 (h1:RefAt w1 rb S i false)=>at_t w1 rb S i false 91 91 h1 hs rfl h91);have HSET:=Hd (fun w1 (h1:RefAt w1 rb S (i+1) false)=>ZeE w1 rb S (i+1) (rest S i).length h1 hs (by omega) (by rw[ZP,ZP];omega));clear h46 h91 hB
 obtain⟨nb,hnb⟩:∃ nb,w.heap.size=nb:=⟨_,rfl⟩
 have hrb:=Za h;rw[hnb]at hrb;have hN0:(w.alloc (.cells Zn 141)).heap[nb]?=some (.cells Zn 141 (0,0)):=Zp _ _ _ hnb;have hR0:RefAt (w.alloc (.cells Zn 141)) rb S i false:=Zd h _;have HN0:=Hd hN0;have HR0:=Hd (show RefAt (w.alloc (.cells #[.int .i64 0,.int .i64 0,.int .i64 0,.int .u64 0,.int .u64 0,.int .u64 0,.int .u64 0,.slice none 0 0] 141)) rb S i false from hR0);have HO0:=Hd ((Only.refl (fun k=>k=rb) w).alloc (.cells Zn 141));have hl0:nb<(w.alloc (.cells Zn 141)).heap.size:=Za hN0;have HSZ:=Hd hnb;clear hN0 hR0 h
 go_enter Tryz.func154,Tryz.ntmps154
 go_wp2_with (first
  |(go_at_call 132;(with_reducible refine(HAT1.out _ HR0.out).mono ?_);rintro e w1 ⟨rfl,h1,o1⟩;have HR1:=Hd h1;have HO1:=Hd (HO0.out.then o1);have HN1:=Hd ((o1.block nb hl0 (by omega)).trans HN0.out);have hl1:=Za HN1.out;clear h1 o1)
  |(go_at_call 132;(with_reducible refine(HAT2.out _ HR1.out).mono ?_);rintro e w2 ⟨rfl,h1,o1⟩;have HR2:=Hd h1;have HO2:=Hd (HO1.out.then o1);have HN2:=Hd ((o1.block nb hl1 (by omega)).trans HN1.out);have hl2:=Za HN2.out;clear h1 o1)
  |(go_at_call 178;(with_reducible refine(HSET.out _ HR2.out).mono ?_);rintro e w3 hSS;obtain⟨o1,q,j,b,hq,rfl,hij,hjs,h1,hor⟩:=ZeD hSS;have HR3:=Hd h1;have HO3:=Hd (HO2.out.then o1);have HN3:=Hd ((o1.block nb hl2 (by omega)).trans HN2.out);have HOR:=Hd hor;have HQ:=Hd hq;clear h1 o1 hor hSS hq)
  |(refine wpList_store_row rfl 141 (.tmp 2) (.tmp 13) ?_ nb (Zh (setA q)) ?_ ?_ 141 Zn ?_ (Zj _) (by rw[Zi];rfl) (Zl _) ?_;(with_reducible rfl);rfl;rfl;exact HN3.out)
  |fail)
 refine bodyPost_ret (results_cell_row rfl _ _ nb 141 (Zh (setA q)) (0,0) _ rfl (setRow_heap _ _ _ _ _ _ HN3.out) Tryz.underlying141 rfl (Zj _)) rfl ?_;refine XP HSZ.out hrb HO3.out HR3.out (Jg _ HQ.out _ _) (by rw[Xv];simp) (by omega) hjs ?_;rcases HOR.out with⟨rfl,h⟩|⟨rfl,h⟩
 ·left;rw[h,Yc];exact⟨rfl,rfl⟩
 ·right;rw[h];exact⟨rfl,rfl⟩
theorem Zcz(w:World)(rb:Nat)(S:ByteArray)(i:Nat)(h:RefAt w rb S i false)(hs:S.size≤1000)(hi:i≤S.size)(altf:List UInt8→Option (Rx × List UInt8))(h46:Zg 46 (rest S i)=false)(h91:Zg 91 (rest S i)=false)(h40:Zg 40 (rest S i)=false) :
 Calls Tryz.prog 154 #[.pointer (some ⟨rb,0,none⟩)] w fun e w'=>XK rb S i w (Xx altf (rest S i)) e w':=by
 have hB:Xx altf (rest S i)=ZgT (one VO (rest S i)):=by
  unfold Xx;rw[h46,h91,h40];simp only[Bool.false_eq_true,if_false];cases one VO (rest S i)<;>rfl
 rw[hB];have HAT1:=Hd (fun w1 (h1:RefAt w1 rb S i false)=>at_f w1 rb S i false 46 46 h1 hs rfl h46);have HAT2:=Hd (fun w1 (h1:RefAt w1 rb S i false)=>at_f w1 rb S i false 91 91 h1 hs rfl h91);have HAT3:=Hd (fun w1 (h1:RefAt w1 rb S i false)=>at_f w1 rb S i false 40 40 h1 hs rfl h40);have HONE:=Hd (fun w1 (h1:RefAt w1 rb S i false)=>Qf w1 rb S i ⟨#[92,46,91,93,40,41,124,42,43,63,123,125]⟩ h1 hs hi (by decide))
 have HWITH:=Hd (fun w1 (n:Nat) (hn:n<256)=>show Calls Tryz.prog 179 #[.agg #[.int .u64 0,.int .u64 0,.int .u64 0,.int .u64 0],.int .i64 n] w1 fun e w'=>∃ q2:Q4,Hid (q2=Q4.none.with n)∧e=.returned (.agg #[.int .u64 q2.a,.int .u64 q2.b,.int .u64 q2.c,.int .u64 q2.d])∧Below w1.heap.size w1 w' from
  (Bn Q4.none Q4.none_ok n hn w1).mono fun e w' h=>⟨_,Hd rfl,h.1,h.2⟩)
 clear h46 h91 h40 hB
 obtain⟨nb,hnb⟩:∃ nb,w.heap.size=nb:=⟨_,rfl⟩
 have hrb:=Za h;rw[hnb]at hrb;have hN0:(w.alloc (.cells Zn 141)).heap[nb]?=some (.cells Zn 141 (0,0)):=Zp _ _ _ hnb;have hR0:RefAt (w.alloc (.cells Zn 141)) rb S i false:=Zd h _;have HN0:=Hd hN0;have HR0:=Hd (show RefAt (w.alloc (.cells #[.int .i64 0,.int .i64 0,.int .i64 0,.int .u64 0,.int .u64 0,.int .u64 0,.int .u64 0,.slice none 0 0] 141)) rb S i false from hR0);have HO0:=Hd ((Only.refl (fun k=>k=rb) w).alloc (.cells Zn 141));have hl0:nb<(w.alloc (.cells Zn 141)).heap.size:=Za hN0;have HSZ:=Hd hnb;clear hN0 hR0 h
 go_enter Tryz.func154,Tryz.ntmps154
 go_wp2_with (first
  |(go_at_call 132;(with_reducible refine(HAT1.out _ HR0.out).mono ?_);rintro e w1 ⟨rfl,h1,o1⟩;have HR1:=Hd h1;have HO1:=Hd (HO0.out.then o1);have HN1:=Hd ((o1.block nb hl0 (by omega)).trans HN0.out);have hl1:=Za HN1.out;clear h1 o1)
  |(go_at_call 132;(with_reducible refine(HAT2.out _ HR1.out).mono ?_);rintro e w2 ⟨rfl,h1,o1⟩;have HR2:=Hd h1;have HO2:=Hd (HO1.out.then o1);have HN2:=Hd ((o1.block nb hl1 (by omega)).trans HN1.out);have hl2:=Za HN2.out;clear h1 o1)
  |(go_at_call 132;(with_reducible refine(HAT3.out _ HR2.out).mono ?_);rintro e w3 ⟨rfl,h1,o1⟩;have HR3:=Hd h1;have HO3:=Hd (HO2.out.then o1);have HN3:=Hd ((o1.block nb hl2 (by omega)).trans HN2.out);have hl3:=Za HN3.out;clear h1 o1)
  |(go_at_call 180;(with_reducible refine(HONE.out _ HR3.out).mono ?_);rintro e w4 hSS;obtain⟨o1,a,j,b,rfl,ha256,hij,hjs,h1,hor,-⟩:=EE hSS;have HR4:=Hd h1;have HO4:=Hd (HO3.out.then o1);have HN4:=Hd ((o1.block nb hl3 (by omega)).trans HN3.out);have hl4:=Za HN4.out;have HOR:=Hd hor;clear h1 o1 hor hSS)
  |(go_at_call 179;(with_reducible refine(HWITH.out _ a ha256).mono ?_);rintro e w5 ⟨q2,hq2,rfl,hb5⟩;have HR5:=Hd (HR4.out.below hb5);have HO5:=Hd (HO4.out.trans (Only.of_below hb5));have HN5:=Hd ((hb5.block nb hl4).trans HN4.out);clear hb5)
  |(refine wpList_store_row rfl 141 (.tmp 2) (.tmp 30) ?_ nb (Zh (setA q2)) ?_ ?_ 141 Zn ?_ (Zj _) (by rw[Zi];rfl) (Zl _) ?_;(with_reducible rfl);rfl;rfl;exact HN5.out)
  |fail)
 refine bodyPost_ret (results_cell_row rfl _ _ nb 141 (Zh (setA q2)) (0,0) _ rfl (setRow_heap _ _ _ _ _ _ HN5.out) Tryz.underlying141 rfl (Zj _)) rfl ?_;refine XP HSZ.out hrb HO5.out HR5.out (Jg _ (by rw[hq2.out];exact Q4.with_ok Q4.none_ok ha256) _ _) (by rw[Xv];simp) hij hjs ?_;rw[hq2.out];rcases HOR.out with⟨rfl,h⟩|⟨rfl,h⟩
 ·left;rw[show one VO (rest S i)=_ from h,Yc];exact⟨rfl,rfl⟩
 ·right;rw[show one VO (rest S i)=_ from h];exact⟨rfl,rfl⟩
end Go.Proofs.YtbchkjfnakabkaaGreatDoor
namespace Go.Proofs.YtbchkjfnakabkaaGreatDoor
open Go.RowKit PX
def ZgI:Option (Rx × List UInt8)→Option (Rx × List UInt8)
 |none=>none
 |some (x,r)=>if Zg 41 r then some (x,r.tail) else none
theorem Ek{X:RxA}{w w':World}{lo:Nat}(hin:X.In w w.heap.size)(hb:∀ c∈X.blocks,lo≤c∧c<w.heap.size)(hs:w.heap.size≤w'.heap.size)(hk:∀ c,lo≤c→c<w.heap.size→w'.heap[c]?=w.heap[c]?):X.In w' w'.heap.size:=
 hin.keep fun c hc=>⟨by have:=(hb c hc).2;omega,fun o=>World.cell?_of_block (w:=w) (hk c (hb c hc).1 (hb c hc).2)⟩
theorem ZaO(w:World)(rb:Nat)(S:ByteArray)(i:Nat)(h:RefAt w rb S i false)(hs:S.size≤1000)(hi:i≤S.size)(altf:List UInt8→Option (Rx × List UInt8))(h46:Zg 46 (rest S i)=false)(h91:Zg 91 (rest S i)=false)(h40:Zg 40 (rest S i)=true)
 (halt:∀ w1,RefAt w1 rb S (i+1) false→Calls Tryz.prog 104 #[.pointer (some ⟨rb,0,none⟩)] w1 fun e w2=>XK rb S (i+1) w1 (altf (rest S (i+1))) e w2) :
 Calls Tryz.prog 154 #[.pointer (some ⟨rb,0,none⟩)] w fun e w'=>XK rb S i w (Xx altf (rest S i)) e w':=by
 have hB:Xx altf (rest S i)=ZgI (altf (rest S (i+1))):=by
  unfold Xx;rw[h46,h91,h40,Zy];simp only[Bool.false_eq_true,if_false,if_true];cases altf (rest S i).tail<;>rfl
 rw[hB];have HAT1:=Hd (fun w1 (h1:RefAt w1 rb S i false)=>at_f w1 rb S i false 46 46 h1 hs rfl h46);have HAT2:=Hd (fun w1 (h1:RefAt w1 rb S i false)=>at_f w1 rb S i false 91 91 h1 hs rfl h91);have HAT3:=Hd (fun w1 (h1:RefAt w1 rb S i false)=>at_t w1 rb S i false 40 40 h1 hs rfl h40);have hi1:=ZO h40;have HALT:=Hd halt
 obtain⟨O,hO⟩:∃ O,altf (rest S (i+1))=O:=⟨_,rfl⟩
 rw[hO]at HALT ⊢;clear h46 h91 h40 hB halt hO
 obtain⟨nb,hnb⟩:∃ nb,w.heap.size=nb:=⟨_,rfl⟩
 have hrb:=Za h;rw[hnb]at hrb;have hN0:(w.alloc (.cells Zn 141)).heap[nb]?=some (.cells Zn 141 (0,0)):=Zp _ _ _ hnb;have hR0:RefAt (w.alloc (.cells Zn 141)) rb S i false:=Zd h _;have HN0:=Hd hN0;have HR0:=Hd (show RefAt (w.alloc (.cells #[.int .i64 0,.int .i64 0,.int .i64 0,.int .u64 0,.int .u64 0,.int .u64 0,.int .u64 0,.slice none 0 0] 141)) rb S i false from hR0);have HO0:=Hd ((Only.refl (fun k=>k=rb) w).alloc (.cells Zn 141));have hl0:nb<(w.alloc (.cells Zn 141)).heap.size:=Za hN0;have HSZ:=Hd hnb;clear hN0 hR0 h
 go_enter Tryz.func154,Tryz.ntmps154
 go_upto_region 7 with(first
  |(go_at_call 132;(with_reducible refine(HAT1.out _ HR0.out).mono ?_);rintro e w1 ⟨rfl,h1,o1⟩;have HR1:=Hd h1;have HO1:=Hd (HO0.out.then o1);have HN1:=Hd ((o1.block nb hl0 (by omega)).trans HN0.out);have hl1:=Za HN1.out;clear h1 o1)
  |(go_at_call 132;(with_reducible refine(HAT2.out _ HR1.out).mono ?_);rintro e w2 ⟨rfl,h1,o1⟩;have HR2:=Hd h1;have HO2:=Hd (HO1.out.then o1);have HN2:=Hd ((o1.block nb hl1 (by omega)).trans HN1.out);have hl2:=Za HN2.out;clear h1 o1)
  |(go_at_call 132;(with_reducible refine(HAT3.out _ HR2.out).mono ?_);rintro e w3 ⟨rfl,h1,o1⟩;have HR3:=Hd h1;have HO3:=Hd (HO2.out.then o1);have HN3:=Hd ((o1.block nb hl2 (by omega)).trans HN2.out);have hl3:=Za HN3.out;clear h1 o1)
  |(go_at_call 104;(with_reducible refine(HALT.out _ HR3.out).mono ?_);rintro e w4 ⟨o1,X,j,b,rfl,hij,hjs,h1,hin,hbl,hor⟩;have HR4:=Hd h1;have HO4:=Hd (HO3.out.then o1);have HN4:=Hd ((o1.block nb hl3 (by omega)).trans HN3.out);have hl4:=Za HN4.out;have hs34:=o1.size;have HIN:=Hd hin;have HBL:=Hd hbl;have HOR:=Hd hor;clear h1 o1 hin hbl hor)
  |(refine wpList_store_row rfl 141 (.tmp 3) (.tmp 18) ?_ w4.heap.size (Zh X) ?_ ?_ 141 Zn ?_ (Zj _) (by rw[Zi];rfl) (Zl _) ?_;(with_reducible rfl);rfl;rfl;exact Ze _ _)
  |fail)
 obtain⟨eb,heb⟩:∃ eb,w4.heap.size=eb:=⟨_,rfl⟩
 obtain⟨W5,hW5⟩:∃ W5,(w4.alloc (.cells Zn 141)).setRow eb (Zh X)=W5:=⟨_,rfl⟩
 have hE5:W5.heap[eb]?=some (.cells (Zh X) 141 (0,0)):=by rw[←hW5];exact setRow_heap _ _ _ _ _ _ (Zp _ _ _ heb)
 have hnbe:nb<eb:=by omega
 have hold:∀ c o,c<eb→w4.heap[c]?=some o→W5.heap[c]?=some o:=fun c o hc h=>by rw[←hW5];exact(setRow_other _ _ _ _ (by omega)).trans (Zd h _)
 have hold2:∀ c,c<eb→W5.heap[c]?=w4.heap[c]?:=fun c hc=>by rw[←hW5];exact(setRow_other _ _ _ _ (by omega)).trans (Below.heap_alloc _ _ _ (by omega))
 have hsz5:W5.heap.size=eb+1:=by rw[←hW5,size_setRow];simp[heb]
 have HR5:=Hd (show RefAt W5 rb S j b from hold _ _ (by omega) HR4.out);have HN5:=Hd (hold _ _ hnbe HN4.out);have HE5:=Hd hE5;have HOL:=Hd hold2;have HO5:=Hd (show Only (fun k=>k=rb) w W5 by rw[←hW5];exact(HO4.out.alloc _).setRow (q:=eb) (.inr (by have:=HO4.out.size;omega)) _);have HEB:=Hd heb;rw[heb];rw[show(w4.alloc (.cells #[.int .i64 0,.int .i64 0,.int .i64 0,.int .u64 0,.int .u64 0,.int .u64 0,.int .u64 0,.slice none 0 0] 141)).setRow eb (Zh X)=W5 from hW5];clear hold hold2 hE5 hW5 heb
 cases h41:Zg 41 (rest S j) with
 |true=>
  have HAT4:=Hd (fun w1 (h1:RefAt w1 rb S j b)=>at_t w1 rb S j b 41 41 h1 hs rfl h41);have H41:=Hd h41;clear h41
  go_wp2_with (first
   |(go_at_call 132;(with_reducible refine(HAT4.out _ HR5.out).mono ?_);rintro e w6 ⟨rfl,h1,o1⟩;have HR6:=Hd h1;have HO6:=Hd (HO5.out.then o1);have HN6:=Hd ((o1.block nb (by omega) (by omega)).trans HN5.out);have HE6:=Hd ((o1.block eb (by omega) (by omega)).trans HE5.out);have HK6:=Hd (fun c (h0:rb<c) (hc:c<eb)=>(o1.block c (by omega) (by omega)).trans (HOL.out c hc));have hs6:=o1.size;obtain⟨c0,c1,c2,z1,z2⟩:=h1.cells;clear h1 o1)
   |(refine wpList_load_row rfl 141 (.tmp 3) ?_ eb ?_ 141 (Zh X) (0,0) _ ?_ Tryz.underlying141 rfl (Zj _) ?_;(with_reducible rfl);rfl;exact HE6.out)
   |(refine wpList_store_row rfl 141 (.tmp 2) (.tmp 25) ?_ nb (Zh X) ?_ ?_ 141 Zn ?_ (Zj _) (by rw[Zi];rfl) (Zl _) ?_;(with_reducible rfl);rfl;rfl;exact HN6.out)
   |fail)
  refine bodyPost_ret (results_cell_row rfl _ _ nb 141 (Zh X) (0,0) _ rfl (setRow_heap _ _ _ _ _ _ (HN6.out)) Tryz.underlying141 rfl (Zj _)) rfl ?_;have heb2:=HEB.out;refine XP HSZ.out hrb (HO6.out) (HR6.out) (Ek HIN.out HBL.out (by first|omega|(simp;omega)) fun c hc1 hc2=>HK6.out c (by omega) (by omega)) (fun c hc=>⟨by have:=(HBL.out c hc).1;omega,by have:=(HBL.out c hc).2;first|omega|(simp;omega)⟩) (by omega) (by have:=ZO H41.out;omega) ?_;rcases HOR.out with⟨rfl,h⟩|⟨rfl,h⟩
  ·left;rw[h];exact⟨rfl,by simp[ZgI,H41.out,Zy]⟩
  ·right;rw[h];exact⟨rfl,rfl⟩
 |false=>
  have HAT4:=Hd (fun w1 (h1:RefAt w1 rb S j b)=>at_f w1 rb S j b 41 41 h1 hs rfl h41);have H41:=Hd h41;clear h41
  go_wp2_with (first
   |(go_at_call 132;(with_reducible refine(HAT4.out _ HR5.out).mono ?_);rintro e w6 ⟨rfl,h1,o1⟩;have HR6:=Hd h1;have HO6:=Hd (HO5.out.then o1);have HN6:=Hd ((o1.block nb (by omega) (by omega)).trans HN5.out);have HE6:=Hd ((o1.block eb (by omega) (by omega)).trans HE5.out);have HK6:=Hd (fun c (h0:rb<c) (hc:c<eb)=>(o1.block c (by omega) (by omega)).trans (HOL.out c hc));have hs6:=o1.size;obtain⟨c0,c1,c2,z1,z2⟩:=h1.cells;clear h1 o1)
   |(refine wpList_load_row rfl 141 (.tmp 3) ?_ eb ?_ 141 (Zh X) (0,0) _ ?_ Tryz.underlying141 rfl (Zj _) ?_;(with_reducible rfl);rfl;exact(Below.heap_setCell _ _ _ _ (by show eb≠rb;omega)).trans HE6.out)
   |(refine wpList_store_row rfl 141 (.tmp 2) (.tmp 25) ?_ nb (Zh X) ?_ ?_ 141 Zn ?_ (Zj _) (by rw[Zi];rfl) (Zl _) ?_;(with_reducible rfl);rfl;rfl;exact(Below.heap_setCell _ _ _ _ (by show nb≠rb;omega)).trans HN6.out)
   |fail)
  refine bodyPost_ret (results_cell_row rfl _ _ nb 141 (Zh X) (0,0) _ rfl (setRow_heap _ _ _ _ _ _ ((Below.heap_setCell _ _ _ _ (by show nb≠rb;omega)).trans HN6.out)) Tryz.underlying141 rfl (Zj _)) rfl ?_;have heb2:=HEB.out;refine XP HSZ.out hrb (HO6.out.setCell (p:=⟨rb,2,none⟩) (.inl rfl) _) (HR6.out.wrong) (Ek HIN.out HBL.out (by first|omega|(simp;omega)) fun c hc1 hc2=>(Below.heap_setCell _ _ _ _ (by show c≠rb;omega)).trans (HK6.out c (by omega) (by omega))) (fun c hc=>⟨by have:=(HBL.out c hc).1;omega,by have:=(HBL.out c hc).2;first|omega|(simp;omega)⟩) (by omega) hjs ?_;rcases HOR.out with⟨rfl,h⟩|⟨rfl,h⟩
  ·right;rw[h];exact⟨rfl,by simp[ZgI,H41.out]⟩
  ·right;rw[h];exact⟨rfl,rfl⟩
end Go.Proofs.YtbchkjfnakabkaaGreatDoor
namespace Go.Proofs.YtbchkjfnakabkaaGreatDoor
open Go.RowKit PX
theorem EN(w:World)(rb:Nat)(S:ByteArray)(i:Nat)(h:RefAt w rb S i false)(hs:S.size≤1000)(hi:i≤S.size)(altf:List UInt8→Option (Rx × List UInt8))
 (halt:Zg 40 (rest S i)=true→∀ w1,RefAt w1 rb S (i+1) false→Calls Tryz.prog 104 #[.pointer (some ⟨rb,0,none⟩)] w1 fun e w2=>XK rb S (i+1) w1 (altf (rest S (i+1))) e w2) :
 Calls Tryz.prog 154 #[.pointer (some ⟨rb,0,none⟩)] w fun e w'=>XK rb S i w (Xx altf (rest S i)) e w':=by
 cases h46:Zg 46 (rest S i) with
 |true=>exact ZcA w rb S i h hs hi altf h46
 |false=>
  cases h91:Zg 91 (rest S i) with
  |true=>exact DF w rb S i h hs hi altf h46 h91
  |false=>
   cases h40:Zg 40 (rest S i) with
   |true=>exact ZaO w rb S i h hs hi altf h46 h91 h40 (halt h40)
   |false=>exact Zcz w rb S i h hs hi altf h46 h91 h40
def Zip(bad:Bool)(x:Rx)(X:RxA)(S:ByteArray)(j:Nat)(r:List UInt8):Prop:=bad=false→x=X.bare∧rest S j=r
def X8(rb:Nat)(S:ByteArray)(i:Nat)(bad:Bool)(x:Rx)(r:List UInt8):Prop:=∀ w1,RefAt w1 rb S i false→Calls Tryz.prog 154 #[.pointer (some ⟨rb,0,none⟩)] w1 fun e w2=>
 ∃ k mn mx s0 s1 s2 s3 a cap l j,Zip bad x (RxA.node k mn mx s0 s1 s2 s3 a cap l) S j r∧e=.returned (.agg #[.int .i64 k,.int .i64 mn,.int .i64 mx,.int .u64 s0,.int .u64 s1,.int .u64 s2,.int .u64 s3,.slice a l.length cap])∧i≤j∧j≤S.size∧RefAt w2 rb S j bad∧Only (fun k=>k=rb) w1 w2∧(RxA.node k mn mx s0 s1 s2 s3 a cap l).In w2 w2.heap.size∧∀ b∈(RxA.node k mn mx s0 s1 s2 s3 a cap l).blocks,w1.heap.size≤b∧b<w2.heap.size
theorem W9{rb:Nat}{S:ByteArray}{i:Nat}{x:Rx}{r:List UInt8}(h:∀ w1,RefAt w1 rb S i false→Calls Tryz.prog 154 #[.pointer (some ⟨rb,0,none⟩)] w1 fun e w2=>XK rb S i w1 (some (x,r)) e w2):X8 rb S i false x r:=by
 intro w1 h1;refine(h w1 h1).mono ?_;rintro e w2 ⟨o1,X,j,b,he,hij,hjs,hr,hin,hbl,⟨rfl,hO⟩|⟨-, hO⟩⟩
 ·obtain⟨k,mn,mx,s0,s1,s2,s3,a,cap,l⟩:=X;simp only[Option.some.injEq,Prod.mk.injEq]at hO;exact⟨k,mn,mx,s0,s1,s2,s3,a,cap,l,j,fun _=>⟨hO.1,hO.2.symm⟩,he,hij,hjs,hr,o1,hin,hbl⟩
 ·cases hO
theorem QD{rb:Nat}{S:ByteArray}{i:Nat}(x:Rx)(r:List UInt8)(h:∀ w1,RefAt w1 rb S i false→Calls Tryz.prog 154 #[.pointer (some ⟨rb,0,none⟩)] w1 fun e w2=>XK rb S i w1 none e w2):X8 rb S i true x r:=by
 intro w1 h1;refine(h w1 h1).mono ?_;rintro e w2 ⟨o1,X,j,b,he,hij,hjs,hr,hin,hbl,⟨-, hO⟩|⟨rfl,hO⟩⟩
 ·cases hO
 ·obtain⟨k,mn,mx,s0,s1,s2,s3,a,cap,l⟩:=X;exact⟨k,mn,mx,s0,s1,s2,s3,a,cap,l,j,(fun h=>by cases h),he,hij,hjs,hr,o1,hin,hbl⟩
theorem ZeL{w:World}{m n:Int}{hb:Nat}{X:RxA}(hm:-1≤m∧m≤99)(hn:-1≤n∧n≤99)(hX:X.In w w.heap.size)(hh:w.heap[hb]?=some (.cells (Zh X) 141 (0,0))):(repA m n hb X).In w w.heap.size:=by
 have hlt:=Za hh;simp only[repA,RxA.In];refine⟨⟨⟨by omega,by omega⟩,⟨by omega,by omega⟩,⟨by omega,by omega⟩,⟨by omega,by omega⟩,⟨by omega,by omega⟩,⟨by omega,by omega⟩,⟨by omega,by omega⟩⟩,by simp,by unfold maxLen;omega,by simp,.inr ⟨hb,0,rfl,hlt,?_⟩⟩;simp only[InL,and_true];refine⟨fun j hj=>?_,hX⟩;rw[Zb hh];simp[Zh]
theorem JU{w w1 wz:World}{rb nb i j:Nat}{S:ByteArray}{b:Bool}{X:RxA}{m n:Int}{O:Option (Rx × List UInt8)}(hw:w.heap.size=nb)(hrb:rb<nb)(ho:Only (fun k=>k=rb) w wz)(hr:RefAt wz rb S j b)(hin:X.In w1 w1.heap.size)
 (hbl:∀ c∈X.blocks,nb<c∧c<w1.heap.size) (hs:w1.heap.size≤wz.heap.size) (hk:∀ c,nb<c→c<w1.heap.size→wz.heap[c]?=w1.heap[c]?) (hm:-1≤m∧m≤99) (hn:-1≤n∧n≤99) (hij:i≤j) (hjs:j≤S.size) (hnb:nb<wz.heap.size)
 (hor:(b=false∧O=some (.rep m n X.bare,rest S j))∨(b=true∧O=none)) :
 XK rb S i w O (.returned (.agg (Zh (repA m n wz.heap.size X)))) ((wz.alloc (.cells (Zh X) 141)).setRow nb (Zh (repA m n wz.heap.size X))):=by
 have hin2:X.In (wz.alloc (.cells (Zh X) 141)) (wz.alloc (.cells (Zh X) 141)).heap.size:=
  hin.keep fun c hc=>⟨by have:=(hbl c hc).2;simp;omega,fun o=>World.cell?_of_block (w:=w1) ((Below.heap_alloc _ _ _ (by have:=(hbl c hc).2;show c<wz.heap.size;omega)).trans (hk c (hbl c hc).1 (hbl c hc).2))⟩
 refine XP hw hrb (ho.alloc _) (show RefAt _ rb S j b from Zd hr _) (ZeL hm hn hin2 (Ze wz _)) (fun c hc=>?_) hij hjs (by rw[YN];exact hor);rcases X1 _ _ _ _ c hc with rfl|hc
 ·exact⟨hnb,by simp⟩
 ·have:=hbl c hc;exact⟨this.1,by simp;omega⟩
theorem ZaL(w:World)(rb:Nat)(S:ByteArray)(i:Nat)(h:RefAt w rb S i false)(hs:S.size≤1000)(x:Rx)(r:List UInt8)(hatom:X8 rb S i true x r) :
 Calls Tryz.prog 130 #[.pointer (some ⟨rb,0,none⟩)] w fun e w'=>XK rb S i w none e w':=by
 obtain⟨nb,hnb⟩:∃ nb,w.heap.size=nb:=⟨_,rfl⟩
 have hrb:=Za h;rw[hnb]at hrb;have hN0:(w.alloc (.cells Zn 141)).heap[nb]?=some (.cells Zn 141 (0,0)):=Zp _ _ _ hnb;have hR0:RefAt (w.alloc (.cells Zn 141)) rb S i false:=Zd h _;have HN0:=Hd hN0;have HO0:=Hd ((Only.refl (fun k=>k=rb) w).alloc (.cells Zn 141));have hl0:nb<(w.alloc (.cells Zn 141)).heap.size:=Za hN0;have hl00:nb<(w.alloc (.cells #[.int .i64 0,.int .i64 0,.int .i64 0,.int .u64 0,.int .u64 0,.int .u64 0,.int .u64 0,.slice none 0 0] 141)).heap.size:=hl0;have HATOM:=Hd (hatom (w.alloc (.cells #[.int .i64 0,.int .i64 0,.int .i64 0,.int .u64 0,.int .u64 0,.int .u64 0,.int .u64 0,.slice none 0 0] 141)) hR0);have HSZ:=Hd hnb;clear hN0 hR0 h hatom
 go_enter Tryz.func130,Tryz.ntmps130
 go_wp2_with (first
  |(go_at_call 154;(with_reducible refine HATOM.out.mono ?_);rintro e w1 ⟨k,mn,mx,s0,s1,s2,s3,a,cap,l,j,hX,rfl,hij,hjs,h1,o1,hin,hbl⟩;have HX:=Hd hX;have HO1:=Hd (HO0.out.then o1);have hn1:=(o1.block nb hl0 (by omega)).trans HN0.out;have hl1:=Za hn1;have HIN:=Hd hin;have HBL:=Hd hbl;have hs01:=o1.size;have HR2:=Hd (show RefAt (w1.alloc (.cells #[.int .i64 k,.int .i64 mn,.int .i64 mx,.int .u64 s0,.int .u64 s1,.int .u64 s2,.int .u64 s3,.slice a l.length cap] 141)) rb S j true from Zd h1 _);have HN2:=Hd (Zd hn1 (.cells #[.int .i64 k,.int .i64 mn,.int .i64 mx,.int .u64 s0,.int .u64 s1,.int .u64 s2,.int .u64 s3,.slice a l.length cap] 141));have HE2:=Hd (Ze w1 (.cells #[.int .i64 k,.int .i64 mn,.int .i64 mx,.int .u64 s0,.int .u64 s1,.int .u64 s2,.int .u64 s3,.slice a l.length cap] 141));have HO2:=Hd (HO1.out.alloc (.cells #[.int .i64 k,.int .i64 mn,.int .i64 mx,.int .u64 s0,.int .u64 s1,.int .u64 s2,.int .u64 s3,.slice a l.length cap] 141));have hl2:w1.heap.size<(w1.alloc (.cells #[.int .i64 k,.int .i64 mn,.int .i64 mx,.int .u64 s0,.int .u64 s1,.int .u64 s2,.int .u64 s3,.slice a l.length cap] 141)).heap.size:=Za HE2.out;have HK2:=Hd (fun c (hc:c<w1.heap.size)=>Below.heap_alloc w1 (.cells #[.int .i64 k,.int .i64 mn,.int .i64 mx,.int .u64 s0,.int .u64 s1,.int .u64 s2,.int .u64 s3,.slice a l.length cap] 141) c hc);obtain⟨c0,c1,c2,z1,z2⟩:=HR2.out.cells;clear hX h1 o1 hn1 hin hbl)
  |(refine wpList_load_row rfl 141 (.tmp 3) ?_ w1.heap.size ?_ 141 #[.int .i64 k,.int .i64 mn,.int .i64 mx,.int .u64 s0,.int .u64 s1,.int .u64 s2,.int .u64 s3,.slice a l.length cap] (0,0) _ ?_ Tryz.underlying141 rfl ZF ?_;(with_reducible rfl);rfl;exact HE2.out)
  |(refine wpList_store_row rfl 141 (.tmp 2) (.tmp 14) ?_ nb #[.int .i64 k,.int .i64 mn,.int .i64 mx,.int .u64 s0,.int .u64 s1,.int .u64 s2,.int .u64 s3,.slice a l.length cap] ?_ ?_ 141 Zn ?_ ZF (by rfl) (Zl (RxA.node k mn mx s0 s1 s2 s3 a cap l)) ?_;(with_reducible rfl);rfl;rfl;exact HN2.out)
  |fail)
 refine bodyPost_ret (results_cell_row rfl _ _ nb 141 #[.int .i64 k,.int .i64 mn,.int .i64 mx,.int .u64 s0,.int .u64 s1,.int .u64 s2,.int .u64 s3,.slice a l.length cap] (0,0) _ rfl (setRow_heap _ _ _ _ _ _ HN2.out) Tryz.underlying141 rfl ZF) rfl ?_;exact XP (X:=(RxA.node k mn mx s0 s1 s2 s3 a cap l)) HSZ.out hrb HO2.out HR2.out (Ek HIN.out HBL.out (by simp) fun c hc1 hc2=>HK2.out c hc2) (fun c hc=>⟨by have:=(HBL.out c hc).1;omega,by have:=(HBL.out c hc).2;omega⟩) hij hjs (.inr ⟨rfl,rfl⟩)
theorem Dy(w:World)(rb:Nat)(S:ByteArray)(i:Nat)(h:RefAt w rb S i false)(hs:S.size≤1000)(x:Rx)(r:List UInt8)(hatom:X8 rb S i false x r)(h42:Zg 42 r=false)(h43:Zg 43 r=false)(h63:Zg 63 r=false)(h123:Zg 123 r=false) :
 Calls Tryz.prog 130 #[.pointer (some ⟨rb,0,none⟩)] w fun e w'=>XK rb S i w (sign x r) e w':=by
 obtain⟨nb,hnb⟩:∃ nb,w.heap.size=nb:=⟨_,rfl⟩
 have hrb:=Za h;rw[hnb]at hrb;have hN0:(w.alloc (.cells Zn 141)).heap[nb]?=some (.cells Zn 141 (0,0)):=Zp _ _ _ hnb;have hR0:RefAt (w.alloc (.cells Zn 141)) rb S i false:=Zd h _;have HN0:=Hd hN0;have HO0:=Hd ((Only.refl (fun k=>k=rb) w).alloc (.cells Zn 141));have hl0:nb<(w.alloc (.cells Zn 141)).heap.size:=Za hN0;have hl00:nb<(w.alloc (.cells #[.int .i64 0,.int .i64 0,.int .i64 0,.int .u64 0,.int .u64 0,.int .u64 0,.int .u64 0,.slice none 0 0] 141)).heap.size:=hl0;have HATOM:=Hd (hatom (w.alloc (.cells #[.int .i64 0,.int .i64 0,.int .i64 0,.int .u64 0,.int .u64 0,.int .u64 0,.int .u64 0,.slice none 0 0] 141)) hR0);have HSZ:=Hd hnb;have hS:sign x r=some (x,r):=by unfold sign;rw[h42,h43,h63,h123];rfl
 rw[hS];have HAT42:=Hd (fun w1 j (h1:RefAt w1 rb S j false) (hj:rest S j=r)=>at_f w1 rb S j false 42 42 h1 hs rfl (by rw[hj];exact h42));have HAT43:=Hd (fun w1 j (h1:RefAt w1 rb S j false) (hj:rest S j=r)=>at_f w1 rb S j false 43 43 h1 hs rfl (by rw[hj];exact h43));have HAT63:=Hd (fun w1 j (h1:RefAt w1 rb S j false) (hj:rest S j=r)=>at_f w1 rb S j false 63 63 h1 hs rfl (by rw[hj];exact h63));have HAT123:=Hd (fun w1 j (h1:RefAt w1 rb S j false) (hj:rest S j=r)=>at_f w1 rb S j false 123 123 h1 hs rfl (by rw[hj];exact h123));clear hN0 hR0 h hatom hS h42 h43 h63 h123
 go_enter Tryz.func130,Tryz.ntmps130
 go_wp2_with (first
  |(go_at_call 154;(with_reducible refine HATOM.out.mono ?_);rintro e w1 ⟨k,mn,mx,s0,s1,s2,s3,a,cap,l,j,hX,rfl,hij,hjs,h1,o1,hin,hbl⟩;have HXB:=Hd (hX rfl).1;have HJ:=Hd (hX rfl).2;have HO1:=Hd (HO0.out.then o1);have hn1:=(o1.block nb hl0 (by omega)).trans HN0.out;have hl1:=Za hn1;have HIN:=Hd hin;have HBL:=Hd hbl;have hs01:=o1.size;have HR2:=Hd (show RefAt (w1.alloc (.cells #[.int .i64 k,.int .i64 mn,.int .i64 mx,.int .u64 s0,.int .u64 s1,.int .u64 s2,.int .u64 s3,.slice a l.length cap] 141)) rb S j false from Zd h1 _);have HN2:=Hd (Zd hn1 (.cells #[.int .i64 k,.int .i64 mn,.int .i64 mx,.int .u64 s0,.int .u64 s1,.int .u64 s2,.int .u64 s3,.slice a l.length cap] 141));have HE2:=Hd (Ze w1 (.cells #[.int .i64 k,.int .i64 mn,.int .i64 mx,.int .u64 s0,.int .u64 s1,.int .u64 s2,.int .u64 s3,.slice a l.length cap] 141));have HO2:=Hd (HO1.out.alloc (.cells #[.int .i64 k,.int .i64 mn,.int .i64 mx,.int .u64 s0,.int .u64 s1,.int .u64 s2,.int .u64 s3,.slice a l.length cap] 141));have hl2:w1.heap.size<(w1.alloc (.cells #[.int .i64 k,.int .i64 mn,.int .i64 mx,.int .u64 s0,.int .u64 s1,.int .u64 s2,.int .u64 s3,.slice a l.length cap] 141)).heap.size:=Za HE2.out;have HK2:=Hd (fun c (hc:c<w1.heap.size)=>Below.heap_alloc w1 (.cells #[.int .i64 k,.int .i64 mn,.int .i64 mx,.int .u64 s0,.int .u64 s1,.int .u64 s2,.int .u64 s3,.slice a l.length cap] 141) c hc);obtain⟨c0,c1,c2,z1,z2⟩:=HR2.out.cells;clear hX h1 o1 hn1 hin hbl)
  |(go_at_call 132;(with_reducible refine(HAT42.out _ _ HR2.out HJ.out).mono ?_);rintro e w3 ⟨rfl,h1,o1⟩;have HR3:=Hd h1;have HO3:=Hd (HO2.out.then o1);have HN3:=Hd ((o1.block nb (by omega) (by omega)).trans HN2.out);have HE3:=Hd ((o1.block w1.heap.size (by omega) (by omega)).trans HE2.out);have HK3:=Hd (fun c (hr:rb<c) (hc:c<w1.heap.size)=>(o1.block c (by omega) (by omega)).trans (HK2.out c hc));have hl3:w1.heap.size<w3.heap.size:=Za HE3.out;clear h1 o1)
  |(go_at_call 132;(with_reducible refine(HAT43.out _ _ HR3.out HJ.out).mono ?_);rintro e w4 ⟨rfl,h1,o1⟩;have HR4:=Hd h1;have HO4:=Hd (HO3.out.then o1);have HN4:=Hd ((o1.block nb (by omega) (by omega)).trans HN3.out);have HE4:=Hd ((o1.block w1.heap.size (by omega) (by omega)).trans HE3.out);have HK4:=Hd (fun c (hr:rb<c) (hc:c<w1.heap.size)=>(o1.block c (by omega) (by omega)).trans (HK3.out c hr hc));have hl4:w1.heap.size<w4.heap.size:=Za HE4.out;clear h1 o1)
  |(go_at_call 132;(with_reducible refine(HAT63.out _ _ HR4.out HJ.out).mono ?_);rintro e w5 ⟨rfl,h1,o1⟩;have HR5:=Hd h1;have HO5:=Hd (HO4.out.then o1);have HN5:=Hd ((o1.block nb (by omega) (by omega)).trans HN4.out);have HE5:=Hd ((o1.block w1.heap.size (by omega) (by omega)).trans HE4.out);have HK5:=Hd (fun c (hr:rb<c) (hc:c<w1.heap.size)=>(o1.block c (by omega) (by omega)).trans (HK4.out c hr hc));have hl5:w1.heap.size<w5.heap.size:=Za HE5.out;clear h1 o1)
  |(go_at_call 132;(with_reducible refine(HAT123.out _ _ HR5.out HJ.out).mono ?_);rintro e w6 ⟨rfl,h1,o1⟩;have HR6:=Hd h1;have HO6:=Hd (HO5.out.then o1);have HN6:=Hd ((o1.block nb (by omega) (by omega)).trans HN5.out);have HE6:=Hd ((o1.block w1.heap.size (by omega) (by omega)).trans HE5.out);have HK6:=Hd (fun c (hr:rb<c) (hc:c<w1.heap.size)=>(o1.block c (by omega) (by omega)).trans (HK5.out c hr hc));have hl6:w1.heap.size<w6.heap.size:=Za HE6.out;clear h1 o1)
  |(refine wpList_load_row rfl 141 (.tmp 3) ?_ w1.heap.size ?_ 141 #[.int .i64 k,.int .i64 mn,.int .i64 mx,.int .u64 s0,.int .u64 s1,.int .u64 s2,.int .u64 s3,.slice a l.length cap] (0,0) _ ?_ Tryz.underlying141 rfl ZF ?_;(with_reducible rfl);rfl;exact HE6.out)
  |(refine wpList_store_row rfl 141 (.tmp 2) (.tmp 8) ?_ nb #[.int .i64 k,.int .i64 mn,.int .i64 mx,.int .u64 s0,.int .u64 s1,.int .u64 s2,.int .u64 s3,.slice a l.length cap] ?_ ?_ 141 Zn ?_ ZF (by rfl) (Zl (RxA.node k mn mx s0 s1 s2 s3 a cap l)) ?_;(with_reducible rfl);rfl;rfl;exact HN6.out)
  |fail)
 refine bodyPost_ret (results_cell_row rfl _ _ nb 141 #[.int .i64 k,.int .i64 mn,.int .i64 mx,.int .u64 s0,.int .u64 s1,.int .u64 s2,.int .u64 s3,.slice a l.length cap] (0,0) _ rfl (setRow_heap _ _ _ _ _ _ HN6.out) Tryz.underlying141 rfl ZF) rfl ?_;exact XP (X:=(RxA.node k mn mx s0 s1 s2 s3 a cap l)) HSZ.out hrb HO6.out HR6.out (Ek HIN.out HBL.out (by omega) fun c hc1 hc2=>HK6.out c (by omega) hc2) (fun c hc=>⟨by have:=(HBL.out c hc).1;omega,by have:=(HBL.out c hc).2;omega⟩) hij hjs (.inl ⟨rfl,by rw[HXB.out,HJ.out]⟩)
theorem Dw(w:World)(rb:Nat)(S:ByteArray)(i:Nat)(h:RefAt w rb S i false)(hs:S.size≤1000)(x:Rx)(r:List UInt8)(hatom:X8 rb S i false x r)(h42:Zg 42 r=true) :
 Calls Tryz.prog 130 #[.pointer (some ⟨rb,0,none⟩)] w fun e w'=>XK rb S i w (sign x r) e w':=by
 obtain⟨nb,hnb⟩:∃ nb,w.heap.size=nb:=⟨_,rfl⟩
 have hrb:=Za h;rw[hnb]at hrb;have hN0:(w.alloc (.cells Zn 141)).heap[nb]?=some (.cells Zn 141 (0,0)):=Zp _ _ _ hnb;have hR0:RefAt (w.alloc (.cells Zn 141)) rb S i false:=Zd h _;have HN0:=Hd hN0;have HO0:=Hd ((Only.refl (fun k=>k=rb) w).alloc (.cells Zn 141));have hl0:nb<(w.alloc (.cells Zn 141)).heap.size:=Za hN0;have hl00:nb<(w.alloc (.cells #[.int .i64 0,.int .i64 0,.int .i64 0,.int .u64 0,.int .u64 0,.int .u64 0,.int .u64 0,.slice none 0 0] 141)).heap.size:=hl0;have HATOM:=Hd (hatom (w.alloc (.cells #[.int .i64 0,.int .i64 0,.int .i64 0,.int .u64 0,.int .u64 0,.int .u64 0,.int .u64 0,.slice none 0 0] 141)) hR0);have HSZ:=Hd hnb;have hS:sign x r=some (.rep 0 (-1) x,r.tail):=by unfold sign;rw[h42];rfl
 rw[hS];have HAT42:=Hd (fun w1 j (h1:RefAt w1 rb S j false) (hj:rest S j=r)=>at_t w1 rb S j false 42 42 h1 hs rfl (by rw[hj];exact h42));have H42:=Hd h42;clear hN0 hR0 h hatom hS h42
 go_enter Tryz.func130,Tryz.ntmps130
 go_wp2_with (first
  |(go_at_call 154;(with_reducible refine HATOM.out.mono ?_);rintro e w1 ⟨k,mn,mx,s0,s1,s2,s3,a,cap,l,j,hX,rfl,hij,hjs,h1,o1,hin,hbl⟩;have HXB:=Hd (hX rfl).1;have HJ:=Hd (hX rfl).2;have HO1:=Hd (HO0.out.then o1);have hn1:=(o1.block nb hl0 (by omega)).trans HN0.out;have hl1:=Za hn1;have HIN:=Hd hin;have HBL:=Hd hbl;have hs01:=o1.size;have HR2:=Hd (show RefAt (w1.alloc (.cells #[.int .i64 k,.int .i64 mn,.int .i64 mx,.int .u64 s0,.int .u64 s1,.int .u64 s2,.int .u64 s3,.slice a l.length cap] 141)) rb S j false from Zd h1 _);have HN2:=Hd (Zd hn1 (.cells #[.int .i64 k,.int .i64 mn,.int .i64 mx,.int .u64 s0,.int .u64 s1,.int .u64 s2,.int .u64 s3,.slice a l.length cap] 141));have HE2:=Hd (Ze w1 (.cells #[.int .i64 k,.int .i64 mn,.int .i64 mx,.int .u64 s0,.int .u64 s1,.int .u64 s2,.int .u64 s3,.slice a l.length cap] 141));have HO2:=Hd (HO1.out.alloc (.cells #[.int .i64 k,.int .i64 mn,.int .i64 mx,.int .u64 s0,.int .u64 s1,.int .u64 s2,.int .u64 s3,.slice a l.length cap] 141));have hl2:w1.heap.size<(w1.alloc (.cells #[.int .i64 k,.int .i64 mn,.int .i64 mx,.int .u64 s0,.int .u64 s1,.int .u64 s2,.int .u64 s3,.slice a l.length cap] 141)).heap.size:=Za HE2.out;have HK2:=Hd (fun c (hc:c<w1.heap.size)=>Below.heap_alloc w1 (.cells #[.int .i64 k,.int .i64 mn,.int .i64 mx,.int .u64 s0,.int .u64 s1,.int .u64 s2,.int .u64 s3,.slice a l.length cap] 141) c hc);obtain⟨c0,c1,c2,z1,z2⟩:=HR2.out.cells;clear hX h1 o1 hn1 hin hbl)
  |(go_at_call 132;(with_reducible refine(HAT42.out _ _ HR2.out HJ.out).mono ?_);rintro e w3 ⟨rfl,h1,o1⟩;have HR3:=Hd h1;have HO3:=Hd (HO2.out.then o1);have HN3:=Hd ((o1.block nb (by omega) (by omega)).trans HN2.out);have HE3:=Hd ((o1.block w1.heap.size (by omega) (by omega)).trans HE2.out);have HK3:=Hd (fun c (hr:rb<c) (hc:c<w1.heap.size)=>(o1.block c (by omega) (by omega)).trans (HK2.out c hc));have hl3:w1.heap.size<w3.heap.size:=Za HE3.out;clear h1 o1)
  |(refine wpList_load_row rfl 141 (.tmp 3) ?_ w1.heap.size ?_ 141 #[.int .i64 k,.int .i64 mn,.int .i64 mx,.int .u64 s0,.int .u64 s1,.int .u64 s2,.int .u64 s3,.slice a l.length cap] (0,0) _ ?_ Tryz.underlying141 rfl ZF ?_;(with_reducible rfl);rfl;exact HE3.out)
  |(refine wpList_store_row rfl 141 (.tmp 2) (.tmp 58) ?_ nb (Zh (repA 0 (-1) w3.heap.size (RxA.node k mn mx s0 s1 s2 s3 a cap l))) ?_ ?_ 141 Zn ?_ (Zj _) (by rw[Zi];rfl) (Zl _) ?_;(with_reducible rfl);rfl;rfl;exact Zd HN3.out _)
  |fail)
 have hj2:j+1≤S.size:=ZO (c:=42) (by rw[HJ.out];exact H42.out);refine bodyPost_ret (results_cell_row rfl _ _ nb 141 (Zh (repA 0 (-1) w3.heap.size (RxA.node k mn mx s0 s1 s2 s3 a cap l))) (0,0) _ rfl (setRow_heap _ _ _ _ _ _ (Zd HN3.out _)) Tryz.underlying141 rfl (Zj _)) rfl ?_;exact JU (X:=(RxA.node k mn mx s0 s1 s2 s3 a cap l)) HSZ.out hrb HO3.out HR3.out HIN.out (fun c hc=>⟨by have:=(HBL.out c hc).1;omega,(HBL.out c hc).2⟩) (by omega) (fun c hc1 hc2=>HK3.out c (by omega) hc2) (by omega) (by omega) (by omega) hj2 (by omega) (.inl ⟨rfl,by rw[HXB.out,Zy,HJ.out]⟩)
theorem Dx(w:World)(rb:Nat)(S:ByteArray)(i:Nat)(h:RefAt w rb S i false)(hs:S.size≤1000)(x:Rx)(r:List UInt8)(hatom:X8 rb S i false x r)(h42:Zg 42 r=false)(h43:Zg 43 r=true) :
 Calls Tryz.prog 130 #[.pointer (some ⟨rb,0,none⟩)] w fun e w'=>XK rb S i w (sign x r) e w':=by
 obtain⟨nb,hnb⟩:∃ nb,w.heap.size=nb:=⟨_,rfl⟩
 have hrb:=Za h;rw[hnb]at hrb;have hN0:(w.alloc (.cells Zn 141)).heap[nb]?=some (.cells Zn 141 (0,0)):=Zp _ _ _ hnb;have hR0:RefAt (w.alloc (.cells Zn 141)) rb S i false:=Zd h _;have HN0:=Hd hN0;have HO0:=Hd ((Only.refl (fun k=>k=rb) w).alloc (.cells Zn 141));have hl0:nb<(w.alloc (.cells Zn 141)).heap.size:=Za hN0;have hl00:nb<(w.alloc (.cells #[.int .i64 0,.int .i64 0,.int .i64 0,.int .u64 0,.int .u64 0,.int .u64 0,.int .u64 0,.slice none 0 0] 141)).heap.size:=hl0;have HATOM:=Hd (hatom (w.alloc (.cells #[.int .i64 0,.int .i64 0,.int .i64 0,.int .u64 0,.int .u64 0,.int .u64 0,.int .u64 0,.slice none 0 0] 141)) hR0);have HSZ:=Hd hnb;have hS:sign x r=some (.rep 1 (-1) x,r.tail):=by unfold sign;rw[h42,h43];rfl
 rw[hS];have HAT42:=Hd (fun w1 j (h1:RefAt w1 rb S j false) (hj:rest S j=r)=>at_f w1 rb S j false 42 42 h1 hs rfl (by rw[hj];exact h42));have HAT43:=Hd (fun w1 j (h1:RefAt w1 rb S j false) (hj:rest S j=r)=>at_t w1 rb S j false 43 43 h1 hs rfl (by rw[hj];exact h43));have H43:=Hd h43;clear hN0 hR0 h hatom hS h42 h43
 go_enter Tryz.func130,Tryz.ntmps130
 go_wp2_with (first
  |(go_at_call 154;(with_reducible refine HATOM.out.mono ?_);rintro e w1 ⟨k,mn,mx,s0,s1,s2,s3,a,cap,l,j,hX,rfl,hij,hjs,h1,o1,hin,hbl⟩;have HXB:=Hd (hX rfl).1;have HJ:=Hd (hX rfl).2;have HO1:=Hd (HO0.out.then o1);have hn1:=(o1.block nb hl0 (by omega)).trans HN0.out;have hl1:=Za hn1;have HIN:=Hd hin;have HBL:=Hd hbl;have hs01:=o1.size;have HR2:=Hd (show RefAt (w1.alloc (.cells #[.int .i64 k,.int .i64 mn,.int .i64 mx,.int .u64 s0,.int .u64 s1,.int .u64 s2,.int .u64 s3,.slice a l.length cap] 141)) rb S j false from Zd h1 _);have HN2:=Hd (Zd hn1 (.cells #[.int .i64 k,.int .i64 mn,.int .i64 mx,.int .u64 s0,.int .u64 s1,.int .u64 s2,.int .u64 s3,.slice a l.length cap] 141));have HE2:=Hd (Ze w1 (.cells #[.int .i64 k,.int .i64 mn,.int .i64 mx,.int .u64 s0,.int .u64 s1,.int .u64 s2,.int .u64 s3,.slice a l.length cap] 141));have HO2:=Hd (HO1.out.alloc (.cells #[.int .i64 k,.int .i64 mn,.int .i64 mx,.int .u64 s0,.int .u64 s1,.int .u64 s2,.int .u64 s3,.slice a l.length cap] 141));have hl2:w1.heap.size<(w1.alloc (.cells #[.int .i64 k,.int .i64 mn,.int .i64 mx,.int .u64 s0,.int .u64 s1,.int .u64 s2,.int .u64 s3,.slice a l.length cap] 141)).heap.size:=Za HE2.out;have HK2:=Hd (fun c (hc:c<w1.heap.size)=>Below.heap_alloc w1 (.cells #[.int .i64 k,.int .i64 mn,.int .i64 mx,.int .u64 s0,.int .u64 s1,.int .u64 s2,.int .u64 s3,.slice a l.length cap] 141) c hc);obtain⟨c0,c1,c2,z1,z2⟩:=HR2.out.cells;clear hX h1 o1 hn1 hin hbl)
  |(go_at_call 132;(with_reducible refine(HAT42.out _ _ HR2.out HJ.out).mono ?_);rintro e w3 ⟨rfl,h1,o1⟩;have HR3:=Hd h1;have HO3:=Hd (HO2.out.then o1);have HN3:=Hd ((o1.block nb (by omega) (by omega)).trans HN2.out);have HE3:=Hd ((o1.block w1.heap.size (by omega) (by omega)).trans HE2.out);have HK3:=Hd (fun c (hr:rb<c) (hc:c<w1.heap.size)=>(o1.block c (by omega) (by omega)).trans (HK2.out c hc));have hl3:w1.heap.size<w3.heap.size:=Za HE3.out;clear h1 o1)
  |(go_at_call 132;(with_reducible refine(HAT43.out _ _ HR3.out HJ.out).mono ?_);rintro e w4 ⟨rfl,h1,o1⟩;have HR4:=Hd h1;have HO4:=Hd (HO3.out.then o1);have HN4:=Hd ((o1.block nb (by omega) (by omega)).trans HN3.out);have HE4:=Hd ((o1.block w1.heap.size (by omega) (by omega)).trans HE3.out);have HK4:=Hd (fun c (hr:rb<c) (hc:c<w1.heap.size)=>(o1.block c (by omega) (by omega)).trans (HK3.out c hr hc));have hl4:w1.heap.size<w4.heap.size:=Za HE4.out;clear h1 o1)
  |(refine wpList_load_row rfl 141 (.tmp 3) ?_ w1.heap.size ?_ 141 #[.int .i64 k,.int .i64 mn,.int .i64 mx,.int .u64 s0,.int .u64 s1,.int .u64 s2,.int .u64 s3,.slice a l.length cap] (0,0) _ ?_ Tryz.underlying141 rfl ZF ?_;(with_reducible rfl);rfl;exact HE4.out)
  |(refine wpList_store_row rfl 141 (.tmp 2) (.tmp 58) ?_ nb (Zh (repA 1 (-1) w4.heap.size (RxA.node k mn mx s0 s1 s2 s3 a cap l))) ?_ ?_ 141 Zn ?_ (Zj _) (by rw[Zi];rfl) (Zl _) ?_;(with_reducible rfl);rfl;rfl;exact Zd HN4.out _)
  |fail)
 have hj2:j+1≤S.size:=ZO (c:=43) (by rw[HJ.out];exact H43.out);refine bodyPost_ret (results_cell_row rfl _ _ nb 141 (Zh (repA 1 (-1) w4.heap.size (RxA.node k mn mx s0 s1 s2 s3 a cap l))) (0,0) _ rfl (setRow_heap _ _ _ _ _ _ (Zd HN4.out _)) Tryz.underlying141 rfl (Zj _)) rfl ?_;exact JU (X:=(RxA.node k mn mx s0 s1 s2 s3 a cap l)) HSZ.out hrb HO4.out HR4.out HIN.out (fun c hc=>⟨by have:=(HBL.out c hc).1;omega,(HBL.out c hc).2⟩) (by omega) (fun c hc1 hc2=>HK4.out c (by omega) hc2) (by omega) (by omega) (by omega) hj2 (by omega) (.inl ⟨rfl,by rw[HXB.out,Zy,HJ.out]⟩)
theorem ZaK(w:World)(rb:Nat)(S:ByteArray)(i:Nat)(h:RefAt w rb S i false)(hs:S.size≤1000)(x:Rx)(r:List UInt8)(hatom:X8 rb S i false x r)(h42:Zg 42 r=false)(h43:Zg 43 r=false)(h63:Zg 63 r=true) :
 Calls Tryz.prog 130 #[.pointer (some ⟨rb,0,none⟩)] w fun e w'=>XK rb S i w (sign x r) e w':=by
 obtain⟨nb,hnb⟩:∃ nb,w.heap.size=nb:=⟨_,rfl⟩
 have hrb:=Za h;rw[hnb]at hrb;have hN0:(w.alloc (.cells Zn 141)).heap[nb]?=some (.cells Zn 141 (0,0)):=Zp _ _ _ hnb;have hR0:RefAt (w.alloc (.cells Zn 141)) rb S i false:=Zd h _;have HN0:=Hd hN0;have HO0:=Hd ((Only.refl (fun k=>k=rb) w).alloc (.cells Zn 141));have hl0:nb<(w.alloc (.cells Zn 141)).heap.size:=Za hN0;have hl00:nb<(w.alloc (.cells #[.int .i64 0,.int .i64 0,.int .i64 0,.int .u64 0,.int .u64 0,.int .u64 0,.int .u64 0,.slice none 0 0] 141)).heap.size:=hl0;have HATOM:=Hd (hatom (w.alloc (.cells #[.int .i64 0,.int .i64 0,.int .i64 0,.int .u64 0,.int .u64 0,.int .u64 0,.int .u64 0,.slice none 0 0] 141)) hR0);have HSZ:=Hd hnb;have hS:sign x r=some (.rep 0 1 x,r.tail):=by unfold sign;rw[h42,h43,h63];rfl
 rw[hS];have HAT42:=Hd (fun w1 j (h1:RefAt w1 rb S j false) (hj:rest S j=r)=>at_f w1 rb S j false 42 42 h1 hs rfl (by rw[hj];exact h42));have HAT43:=Hd (fun w1 j (h1:RefAt w1 rb S j false) (hj:rest S j=r)=>at_f w1 rb S j false 43 43 h1 hs rfl (by rw[hj];exact h43));have HAT63:=Hd (fun w1 j (h1:RefAt w1 rb S j false) (hj:rest S j=r)=>at_t w1 rb S j false 63 63 h1 hs rfl (by rw[hj];exact h63));have H63:=Hd h63;clear hN0 hR0 h hatom hS h42 h43 h63
 go_enter Tryz.func130,Tryz.ntmps130
 go_wp2_with (first
  |(go_at_call 154;(with_reducible refine HATOM.out.mono ?_);rintro e w1 ⟨k,mn,mx,s0,s1,s2,s3,a,cap,l,j,hX,rfl,hij,hjs,h1,o1,hin,hbl⟩;have HXB:=Hd (hX rfl).1;have HJ:=Hd (hX rfl).2;have HO1:=Hd (HO0.out.then o1);have hn1:=(o1.block nb hl0 (by omega)).trans HN0.out;have hl1:=Za hn1;have HIN:=Hd hin;have HBL:=Hd hbl;have hs01:=o1.size;have HR2:=Hd (show RefAt (w1.alloc (.cells #[.int .i64 k,.int .i64 mn,.int .i64 mx,.int .u64 s0,.int .u64 s1,.int .u64 s2,.int .u64 s3,.slice a l.length cap] 141)) rb S j false from Zd h1 _);have HN2:=Hd (Zd hn1 (.cells #[.int .i64 k,.int .i64 mn,.int .i64 mx,.int .u64 s0,.int .u64 s1,.int .u64 s2,.int .u64 s3,.slice a l.length cap] 141));have HE2:=Hd (Ze w1 (.cells #[.int .i64 k,.int .i64 mn,.int .i64 mx,.int .u64 s0,.int .u64 s1,.int .u64 s2,.int .u64 s3,.slice a l.length cap] 141));have HO2:=Hd (HO1.out.alloc (.cells #[.int .i64 k,.int .i64 mn,.int .i64 mx,.int .u64 s0,.int .u64 s1,.int .u64 s2,.int .u64 s3,.slice a l.length cap] 141));have hl2:w1.heap.size<(w1.alloc (.cells #[.int .i64 k,.int .i64 mn,.int .i64 mx,.int .u64 s0,.int .u64 s1,.int .u64 s2,.int .u64 s3,.slice a l.length cap] 141)).heap.size:=Za HE2.out;have HK2:=Hd (fun c (hc:c<w1.heap.size)=>Below.heap_alloc w1 (.cells #[.int .i64 k,.int .i64 mn,.int .i64 mx,.int .u64 s0,.int .u64 s1,.int .u64 s2,.int .u64 s3,.slice a l.length cap] 141) c hc);obtain⟨c0,c1,c2,z1,z2⟩:=HR2.out.cells;clear hX h1 o1 hn1 hin hbl)
  |(go_at_call 132;(with_reducible refine(HAT42.out _ _ HR2.out HJ.out).mono ?_);rintro e w3 ⟨rfl,h1,o1⟩;have HR3:=Hd h1;have HO3:=Hd (HO2.out.then o1);have HN3:=Hd ((o1.block nb (by omega) (by omega)).trans HN2.out);have HE3:=Hd ((o1.block w1.heap.size (by omega) (by omega)).trans HE2.out);have HK3:=Hd (fun c (hr:rb<c) (hc:c<w1.heap.size)=>(o1.block c (by omega) (by omega)).trans (HK2.out c hc));have hl3:w1.heap.size<w3.heap.size:=Za HE3.out;clear h1 o1)
  |(go_at_call 132;(with_reducible refine(HAT43.out _ _ HR3.out HJ.out).mono ?_);rintro e w4 ⟨rfl,h1,o1⟩;have HR4:=Hd h1;have HO4:=Hd (HO3.out.then o1);have HN4:=Hd ((o1.block nb (by omega) (by omega)).trans HN3.out);have HE4:=Hd ((o1.block w1.heap.size (by omega) (by omega)).trans HE3.out);have HK4:=Hd (fun c (hr:rb<c) (hc:c<w1.heap.size)=>(o1.block c (by omega) (by omega)).trans (HK3.out c hr hc));have hl4:w1.heap.size<w4.heap.size:=Za HE4.out;clear h1 o1)
  |(go_at_call 132;(with_reducible refine(HAT63.out _ _ HR4.out HJ.out).mono ?_);rintro e w5 ⟨rfl,h1,o1⟩;have HR5:=Hd h1;have HO5:=Hd (HO4.out.then o1);have HN5:=Hd ((o1.block nb (by omega) (by omega)).trans HN4.out);have HE5:=Hd ((o1.block w1.heap.size (by omega) (by omega)).trans HE4.out);have HK5:=Hd (fun c (hr:rb<c) (hc:c<w1.heap.size)=>(o1.block c (by omega) (by omega)).trans (HK4.out c hr hc));have hl5:w1.heap.size<w5.heap.size:=Za HE5.out;clear h1 o1)
  |(refine wpList_load_row rfl 141 (.tmp 3) ?_ w1.heap.size ?_ 141 #[.int .i64 k,.int .i64 mn,.int .i64 mx,.int .u64 s0,.int .u64 s1,.int .u64 s2,.int .u64 s3,.slice a l.length cap] (0,0) _ ?_ Tryz.underlying141 rfl ZF ?_;(with_reducible rfl);rfl;exact HE5.out)
  |(refine wpList_store_row rfl 141 (.tmp 2) (.tmp 58) ?_ nb (Zh (repA 0 1 w5.heap.size (RxA.node k mn mx s0 s1 s2 s3 a cap l))) ?_ ?_ 141 Zn ?_ (Zj _) (by rw[Zi];rfl) (Zl _) ?_;(with_reducible rfl);rfl;rfl;exact Zd HN5.out _)
  |fail)
 have hj2:j+1≤S.size:=ZO (c:=63) (by rw[HJ.out];exact H63.out);refine bodyPost_ret (results_cell_row rfl _ _ nb 141 (Zh (repA 0 1 w5.heap.size (RxA.node k mn mx s0 s1 s2 s3 a cap l))) (0,0) _ rfl (setRow_heap _ _ _ _ _ _ (Zd HN5.out _)) Tryz.underlying141 rfl (Zj _)) rfl ?_;exact JU (X:=(RxA.node k mn mx s0 s1 s2 s3 a cap l)) HSZ.out hrb HO5.out HR5.out HIN.out (fun c hc=>⟨by have:=(HBL.out c hc).1;omega,(HBL.out c hc).2⟩) (by omega) (fun c hc1 hc2=>HK5.out c (by omega) hc2) (by omega) (by omega) (by omega) hj2 (by omega) (.inl ⟨rfl,by rw[HXB.out,Zy,HJ.out]⟩)
end Go.Proofs.YtbchkjfnakabkaaGreatDoor
