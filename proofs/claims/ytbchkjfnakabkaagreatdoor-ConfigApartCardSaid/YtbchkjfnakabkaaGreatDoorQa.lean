import Derived.Test.YtbchkjfnakabkaaGreatDoorQ2
import Derived.LoopTactic
set_option linter.unusedSimpArgs false
set_option linter.unusedVariables false
set_option maxHeartbeats 1000000
set_option maxRecDepth 100000
namespace Go.Proofs.YtbchkjfnakabkaaGreatDoor
open Go.RowKit PX
theorem B4{S:ByteArray}{i:Nat}{c:UInt8}{r:List UInt8}(h:rest S i=c::r)(k:Int)(hk:k=i)(w:World):(Instr.index 9 (.string S) (.int .i64 k)).run Tryz.prog w=.ok (.int .u8 c.toNat) w:=by
 subst hk;exact Xe h w
theorem BJ{c d:UInt8}:((c.toNat:Int)==(d.toNat:Int))=decide (c=d):=by
 rw[Bool.eq_iff_iff,beq_iff_eq,decide_eq_true_eq];constructor
 ·intro h;exact UInt8.toNat_inj.1 (by omega)
 ·rintro rfl;rfl
theorem WB(S:ByteArray)(i:Nat):rest S i=S.data.toList.drop i:=rfl
def inS(S:ByteArray)(c:UInt8):Bool:=decide (c∈S.data.toList)
theorem Zdc(S:ByteArray)(c:UInt8)(w:World)(hs:S.size<=1000) :
 Calls Tryz.prog 190 #[.string S,.int .u8 c.toNat] w λe w'=>e=.returned (.bool (inS S c))/\w'=w:=by
 go_enter Tryz.func190,Tryz.ntmps190
 go_wp2
 go_loop [5] (λi=>∃ k:Nat,k<=S.size/\i=.int .i64 k/\(c∈S.data.toList↔c∈rest S k)) (λi=>S.size - (intOf i).toNat)
 case atStart=>exact⟨0,Nat.zero_le _,rfl,by rw[WB,List.drop_zero]⟩
 case round=>
  obtain⟨k,hk,rfl,hmem⟩:=hrel;have HM:=Hd hmem;clear hmem;by_cases hlt:k<S.size
  ·obtain⟨d,r,hr⟩:=EW hlt;have hx:=Xe hr;have HR:=Hd hr;clear hr;by_cases hdc:d=c
   ·have hb:((d.toNat:Int)==(c.toNat:Int))=true:=by rw[BJ];exact decide_eq_true hdc
    have HD:=Hd hdc;clear hdc
    go_wp2
    go_ret
    refine⟨Zw (Eq.symm ?_),rfl⟩;unfold inS;rw[decide_eq_true_eq,HM.out,HR.out,HD.out];simp
   ·have hb:((d.toNat:Int)==(c.toNat:Int))=false:=by rw[BJ];exact decide_eq_false hdc
    have HD:=Hd hdc;clear hdc
    go_wp2
    go_round
    case rel=>
     refine⟨k+1,by omega,by go_num,?_⟩;rw[HM.out,HR.out,(ZL HR.out).2];constructor
     ·intro h;rcases List.mem_cons.1 h with h|h
      ·exact absurd h.symm HD.out
      ·exact h
     ·intro h;exact List.mem_cons_of_mem _ h
    case measure=>simp[intOf];omega
  ·go_wp2
   go_ret
   refine⟨Zw (Eq.symm ?_),rfl⟩;unfold inS;rw[decide_eq_false_iff_not,HM.out,B3 (by omega)];simp
theorem Zei{c:UInt8}(h:hexv c=none):c.toNat<48\/(57<c.toNat/\c.toNat<65)\/(70<c.toNat/\c.toNat<97)\/102<c.toNat:=by
 unfold hexv at h;split at h
 ·cases h
 ·split at h
  ·cases h
  ·split at h
   ·cases h
   ·omega
def sixI(c:UInt8):Int:=match hexv c with|some v=>v|none=>-1
theorem Wp(z:Int)(h0:0<=z)(h255:z<=255)(v:Int)(w:World)
 (hv:(48<=z/\z<=57/\v=z - 48)\/(97<=z/\z<=102/\v=z - 87)\/(65<=z/\z<=70/\v=z - 55)\/(v=-1/\z<48)\/(v=-1/\57<z/\z<65)\/(v=-1/\70<z/\z<97)\/(v=-1/\102<z)) :
 Calls Tryz.prog 195 #[.int .u8 z] w λe w'=>e=.returned (.int .i64 v)/\w'=w:=by
 rcases hv with⟨h1,h2,h3⟩|⟨h1,h2,h3⟩|⟨h1,h2,h3⟩|⟨h3,h1⟩|⟨h3,h1,h2⟩|⟨h3,h1,h2⟩|⟨h3,h1⟩
 all_goals
  have HV:=Hd h3;clear h3
  go_enter Tryz.func195,Tryz.ntmps195
  go_wp2
  go_ret
  refine⟨ZT ?_,rfl⟩;have:=HV.out;omega
theorem VU(c:UInt8)(w:World):Calls Tryz.prog 195 #[.int .u8 c.toNat] w λe w'=>e=.returned (.int .i64 (sixI c))/\w'=w:=by
 have hc:=UInt8.toNat_lt c;refine Wp c.toNat (by omega) (by omega) _ w ?_;unfold sixI
 cases h:hexv c with
 |some v=>
  rcases W9 h with⟨h1,h2,h3⟩|⟨h1,h2,h3⟩|⟨h1,h2,h3⟩
  ·left;simp only;omega
  ·right;left;simp only;omega
  ·right;right;left;simp only;omega
 |none=>
  rcases Zei h with h|⟨h,h'⟩|⟨h,h'⟩|h
  ·exact .inr (.inr (.inr (.inl ⟨rfl,by omega⟩)))
  ·exact .inr (.inr (.inr (.inr (.inl ⟨rfl,by omega,by omega⟩))))
  ·exact .inr (.inr (.inr (.inr (.inr (.inl ⟨rfl,by omega,by omega⟩)))))
  ·exact .inr (.inr (.inr (.inr (.inr (.inr ⟨rfl,by omega⟩)))))
end Go.Proofs.YtbchkjfnakabkaaGreatDoor
namespace Go.Proofs.YtbchkjfnakabkaaGreatDoor
open Go.RowKit PX
def Says{α:Type}(rb:Nat)(S:ByteArray)(i:Nat)(w:World)(o:Option (α × List UInt8))(V:α->Value)(D:Value->Prop)(e:Ending)(w':World):Prop:=
 Only (λk=>k=rb) w w'/\∃ (v:Value) (j:Nat),e=.returned v/\i<=j/\j<=S.size/\((∃x,o=some (x,rest S j)/\v=V x/\RefAt w' rb S j false)\/(o=none/\D v/\RefAt w' rb S j true))
def VQ(s:List UInt8):Option (Nat × List UInt8):=one [] (92::s)
def Zai:ByteArray:=⟨#[92,46,91,93,40,41,124,42,43,63,123,125,94,45]⟩
theorem Za6{d:UInt8}{r:List UInt8}(h:d∈Yl):VQ (d::r)=some (d.toNat,r):=by
 have a0:d≠120:=by rintro rfl;exact absurd h (by decide)
 simp[VQ,one,h,a0]
theorem Wi{a b:UInt8}{r:List UInt8}:VQ (120::a::b::r)=match hexv a,hexv b with|some x,some y=>some (16*x+y,r)|_,_=>none:=by
 simp only[VQ,one];cases hexv a<;>cases hexv b<;>rfl
theorem Wh:VQ [120]=none:=by simp[VQ,one]
theorem Wg(a:UInt8):VQ [120,a]=none:=by simp[VQ,one]
theorem BX{d:UInt8}{r:List UInt8}(h:d∉Yl)(a0:d≠120):VQ (d::r)=none:=by simp[VQ,one,h,a0]
theorem Zf7(d:UInt8):inS Zai d=decide (d∈Yl):=rfl
theorem ZcV(c:UInt8):-1<=sixI c/\sixI c<=15:=by
 unfold sixI
 cases h:hexv c with
 |some v=>have:=Vc h;simp only;omega
 |none=>simp only;omega
theorem Ep(d:UInt8)(b:Bool)(h:decide (d∈Yl)=b)(w:World) :
 Calls Tryz.prog 190 #[.string ⟨#[92,46,91,93,40,41,124,42,43,63,123,125,94,45]⟩,.int .u8 d.toNat] w λe w'=>e=.returned (.bool b)/\w'=w:=by
 have h1:=Zdc Zai d w (by decide);rw[Zf7,h]at h1;exact h1
theorem ZcL(w:World)(rb:Nat)(S:ByteArray)(i:Nat)(d:UInt8)(r:List UInt8)(h:RefAt w rb S i false)(hs:S.size<=1000)(hr:rest S i=d::r)(hm:d∈Yl) :
 Calls Tryz.prog 189 #[.pointer (some ⟨rb,0,none⟩)] w λe w'=>e=.returned (.int .i64 d.toNat)/\RefAt w' rb S (i+1) false/\Only (λk=>k=rb) w w':=by
 obtain⟨h0,h1,h2,h3,h4⟩:=h.cells;have hi:=(ZL hr).1;have hd:decide (i<S.size)=true:=by simp;omega
 have hx:=Xe hr;have H:=Hd h;have g0:i<=1000:=by omega
 have b0:=Hd (Ep d true (decide_eq_true hm));have hd256:(d.toNat:Int)<256:=by have:=UInt8.toNat_lt d;omega
 clear h hr hi hs hm
 go_enter Tryz.func189,Tryz.ntmps189
 go_wp2_with fail
 go_quiet ((go_at_call 190;exact Calls.quiet_of_same (b0.out _)))
 go_wp2_with fail
 go_quiet (fail)
 go_wp2_with fail
 go_ret
 refine⟨ZT ?_,?_,?_⟩
 ·rfl
 ·exact((H.out.drewN _).to (i+1)).drewN _
 ·exact(((Only.refl (λk=>k=rb) w).drewN _).setCell (.inl rfl) _).drewN _
def GE(rb:Nat)(S:ByteArray)(i:Nat)(w:World)(e:Ending)(w':World):Prop:=e=.returned (.int .i64 0)/\RefAt w' rb S i true/\Only (λk=>k=rb) w w'
theorem Zfc(w:World)(rb:Nat)(S:ByteArray)(i:Nat)(h:RefAt w rb S i false)(hs:S.size<=1000)(hi:S.size<=i)(g0:i<=1000) :
 Calls Tryz.prog 189 #[.pointer (some ⟨rb,0,none⟩)] w λe w'=>GE rb S i w e w':=by
 obtain⟨h0,h1,h2,h3,h4⟩:=h.cells;have hd:decide (i<S.size)=false:=by simp;omega
 have j0:decide ((i:Int)+2<(S.size:Int))=false:=by simp;omega
 have H:=Hd h;clear h hs hi
 go_enter Tryz.func189,Tryz.ntmps189
 go_wp2_with fail
 go_quiet (fail)
 go_wp2_with fail
 go_quiet (fail)
 go_wp2_with fail
 go_ret
 exact⟨rfl,(H.out.drewN _).wrong,((Only.refl (λk=>k=rb) w).drewN _).setCell (.inl rfl) _⟩
theorem Za5(w:World)(rb:Nat)(S:ByteArray)(i:Nat)(d:UInt8)(r:List UInt8)(h:RefAt w rb S i false)(hs:S.size<=1000)(hr:rest S i=d::r)(hm:d∉Yl)(hsh:S.size<=i+2) :
 Calls Tryz.prog 189 #[.pointer (some ⟨rb,0,none⟩)] w λe w'=>GE rb S i w e w':=by
 obtain⟨h0,h1,h2,h3,h4⟩:=h.cells;have hi:=(ZL hr).1;have hd:decide (i<S.size)=true:=by simp;omega
 have j0:decide ((i:Int)+2<(S.size:Int))=false:=by simp;omega
 have hx:=Xe hr;have H:=Hd h;have g0:i<=1000:=by omega
 have b0:=Hd (Ep d false (decide_eq_false hm));clear h hr hi hs hm hsh
 go_enter Tryz.func189,Tryz.ntmps189
 go_wp2_with fail
 go_quiet ((go_at_call 190;exact Calls.quiet_of_same (b0.out _)))
 go_wp2_with fail
 go_quiet (fail)
 go_wp2_with fail
 go_ret
 exact⟨rfl,(H.out.drewN _).wrong,((Only.refl (λk=>k=rb) w).drewN _).setCell (.inl rfl) _⟩
theorem Zg8(w:World)(rb:Nat)(S:ByteArray)(i:Nat)(d:UInt8)(r:List UInt8)(h:RefAt w rb S i false)(hs:S.size<=1000)(hr:rest S i=d::r)(hm:d∉Yl)(hsh:i+2<S.size)(a0:d≠120) :
 Calls Tryz.prog 189 #[.pointer (some ⟨rb,0,none⟩)] w λe w'=>GE rb S i w e w':=by
 obtain⟨h0,h1,h2,h3,h4⟩:=h.cells;have hi:=(ZL hr).1;have hd:decide (i<S.size)=true:=by simp;omega
 have j0:decide ((i:Int)+2<(S.size:Int))=true:=by simp;omega
 have hx:=Xe hr
 have he:((d.toNat:Int)==120)=false:=by
  rw[show(120:Int)=((120:UInt8).toNat:Int) from rfl,BJ];exact decide_eq_false a0
 have H:=Hd h;have g0:i<=1000:=by omega
 have b0:=Hd (Ep d false (decide_eq_false hm));clear h hr hi hs hm hsh a0
 go_enter Tryz.func189,Tryz.ntmps189
 go_wp2_with fail
 go_quiet ((go_at_call 190;exact Calls.quiet_of_same (b0.out _)))
 go_wp2_with fail
 go_quiet (fail)
 go_wp2_with fail
 go_ret
 exact⟨rfl,(H.out.drewN _).wrong,((Only.refl (λk=>k=rb) w).drewN _).setCell (.inl rfl) _⟩
theorem Zfb(w:World)(rb:Nat)(S:ByteArray)(i:Nat)(a b:UInt8)(r:List UInt8)(h:RefAt w rb S i false)(hs:S.size<=1000)(hr:rest S i=120::a::b::r) :
 Calls Tryz.prog 189 #[.pointer (some ⟨rb,0,none⟩)] w λe w'=>
  ((0<=sixI a/\0<=sixI b)/\e=.returned (.int .i64 (16*sixI a+sixI b))/\RefAt w' rb S (i+3) false/\Only (λk=>k=rb) w w')\/(¬(0<=sixI a/\0<=sixI b)/\GE rb S i w e w'):=by
 obtain⟨h0,h1,h2,h3,h4⟩:=h.cells;have f0:=(ZL hr).2;have e0:=(ZL f0).2;have hi:=(ZL e0).1;have hd:decide (i<S.size)=true:=by simp;omega
 have j0:decide ((i:Int)+2<(S.size:Int))=true:=by simp;omega
 have hx:=Xe hr;have hx1:=B4 f0 ((i:Int)+1) (by omega);have hx2:=B4 e0 ((i:Int)+2) (by omega);have H:=Hd h;have g0:i<=1000:=by omega
 have b0:=Hd (Ep 120 false (by decide));have d0:IntKind.i64.wrap ((i:Int)+1)=(i:Int)+1:=IntWalk.i64_in _ (by omega);have c0:IntKind.i64.wrap ((i:Int)+2)=(i:Int)+2:=IntWalk.i64_in _ (by omega);have i0:=Hd d0;have k0:=Hd c0;clear d0 c0;have m0:-1<=sixI a/\sixI a<=15:=ZcV a;have l0:-1<=sixI b/\sixI b<=15:=ZcV b;obtain⟨hsa1,hsa2⟩:=m0;obtain⟨hsb1,hsb2⟩:=l0;clear h hr f0 e0 hi hs;by_cases ha:0<=sixI a
 ·by_cases hb:0<=sixI b
  ·go_enter Tryz.func189,Tryz.ntmps189
   go_wp2_with fail
   go_quiet ((go_at_call 190;exact Calls.quiet_of_same (b0.out _)))
   go_wp2_with fail
   go_quiet (fail)
   go_wp2_with fail
   have d0:=i0.out;have c0:=k0.out
   go_quiet ((go_at_call 195;exact WC (VU _)))
   clear d0 c0
   go_wp2_with fail
   go_ret
   exact .inl ⟨⟨ha,hb⟩,rfl,(H.out.drewN _).to (i+3),((Only.refl (λk=>k=rb) w).drewN _).setCell (.inl rfl) _⟩
  ·go_enter Tryz.func189,Tryz.ntmps189
   go_wp2_with fail
   go_quiet ((go_at_call 190;exact Calls.quiet_of_same (b0.out _)))
   go_wp2_with fail
   go_quiet (fail)
   go_wp2_with fail
   have d0:=i0.out;have c0:=k0.out
   go_quiet ((go_at_call 195;exact WC (VU _)))
   clear d0 c0
   go_wp2_with fail
   go_ret
   exact .inr ⟨by omega,rfl,(H.out.drewN _).wrong,((Only.refl (λk=>k=rb) w).drewN _).setCell (.inl rfl) _⟩
 ·go_enter Tryz.func189,Tryz.ntmps189
  go_wp2_with fail
  go_quiet ((go_at_call 190;exact Calls.quiet_of_same (b0.out _)))
  go_wp2_with fail
  go_quiet (fail)
  go_wp2_with fail
  have d0:=i0.out;have c0:=k0.out
  go_quiet ((go_at_call 195;exact WC (VU _)))
  clear d0 c0
  go_wp2_with fail
  go_ret
  exact .inr ⟨by omega,rfl,(H.out.drewN _).wrong,((Only.refl (λk=>k=rb) w).drewN _).setCell (.inl rfl) _⟩
theorem Zfd(w:World)(rb:Nat)(S:ByteArray)(i:Nat)(h:RefAt w rb S i false)(hs:S.size<=1000)(hi:i<=S.size) :
 Calls Tryz.prog 189 #[.pointer (some ⟨rb,0,none⟩)] w λe w'=>Says rb S i w (VQ (rest S i)) (λn=>.int .i64 (n:Nat)) (λv=>v=.int .i64 0) e w':=by
 have bad:VQ (rest S i)=none->∀ e w',GE rb S i w e w'->Says rb S i w (VQ (rest S i)) (λn=>.int .i64 (n:Nat)) (λv=>v=.int .i64 0) e w':=by
  rintro ho e w' ⟨rfl,h1,h2⟩;exact⟨h2,_,i,rfl,Nat.le_refl _,hi,.inr ⟨ho,rfl,h1⟩⟩
 cases hr:rest S i with
 |nil=>
  have n0:S.size<=i:=by have:=ZR S i;rw[hr]at this;simp at this;omega
  exact(Zfc w rb S i h hs n0 (by omega)).mono λe w' hb=>hr▸bad (by rw[hr];rfl) e w' hb
 |cons d r=>
  by_cases hm:d∈Yl
  ·refine(ZcL w rb S i d r h hs hr hm).mono ?_;rintro e w' ⟨rfl,h1,h2⟩;exact⟨h2,_,i+1,rfl,by omega,(ZL hr).1,.inl ⟨d.toNat,by rw[Za6 hm,(ZL hr).2],rfl,h1⟩⟩
  ·by_cases hsh:i+2<S.size
   ·by_cases a0:d=120
    ·subst a0;obtain⟨a,r1,f0⟩:=EW (S:=S) (i:=i+1) (by omega);obtain⟨b,r2,e0⟩:=EW (S:=S) (i:=i+2) (by omega);have e1:=(ZL hr).2;have e2:=(ZL f0).2;have er:rest S i=120::a::b::r2:=by rw[hr,<-e1,f0,<-e2,e0]
     have e3:rest S (i+3)=r2:=(ZL e0).2;refine(Zfb w rb S i a b r2 h hs er).mono ?_;rw[<-hr,er];rintro e w' (⟨⟨ha,hb⟩,rfl,h1,h2⟩|⟨hn,hbad⟩)
     ·unfold sixI at ha hb
      cases hxa:hexv a with
      |none=>rw[hxa]at ha;simp at ha
      |some x=>
       cases hxb:hexv b with
       |none=>rw[hxb]at hb;simp at hb
       |some y=>
        refine⟨h2,_,i+3,rfl,by omega,(ZL e0).1,.inl ⟨16*x+y,by rw[Wi,hxa,hxb,e3],?_,h1⟩⟩;unfold sixI;rw[hxa,hxb];simp
     ·refine er▸bad ?_ e w' hbad;rw[er,Wi]
      cases hxa:hexv a with
      |none=>rfl
      |some x=>
       cases hxb:hexv b with
       |none=>rfl
       |some y=>exact absurd ⟨by unfold sixI;rw[hxa];simp,by unfold sixI;rw[hxb];simp⟩ hn
    ·exact(Zg8 w rb S i d r h hs hr hm hsh a0).mono λe w' hb=>hr▸bad (by rw[hr];exact BX hm a0) e w' hb
   ·refine(Za5 w rb S i d r h hs hr hm (by omega)).mono λe w' hb=>hr▸bad ?_ e w' hb
    rw[hr];by_cases a0:d=120
    ·subst a0;have hl:r.length<=1:=by have:=ZR S i;rw[hr]at this;simp at this;omega
     match r,hl with
     |[],_=>exact Wh
     |[a],_=>exact Wg a
    ·exact BX hm a0
