import Derived.Test.YtbchkjfnakabkaaGreatDoorQ2
import Derived.Test.YtbchkjfnakabkaaGreatDoorB1
import Derived.LoopTactic
set_option linter.unusedSimpArgs false
set_option linter.unusedVariables false
set_option maxHeartbeats 1000000
set_option maxRecDepth 100000
namespace Go.Proofs.YtbchkjfnakabkaaGreatDoor
open Go.RowKit PX
theorem Bx{S:ByteArray}{i:Nat}{c:UInt8}{r:List UInt8}(h:rest S i=c::r)(k:Int)(hk:k=i)(w:World):(Instr.index 9 (.string S) (.int .i64 k)).run Tryz.prog w=.ok (.int .u8 c.toNat) w:=by
 subst hk;exact Xd h w
theorem Bd{c d:UInt8}:((c.toNat:Int)==(d.toNat:Int))=decide (c=d):=by
 rw[Bool.eq_iff_iff,beq_iff_eq,decide_eq_true_eq];constructor
 ·intro h;exact UInt8.toNat_inj.1 (by omega)
 ·rintro rfl;rfl
theorem Wa(S:ByteArray)(i:Nat):rest S i=S.data.toList.drop i:=rfl
def inS(S:ByteArray)(c:UInt8):Bool:=decide (c∈S.data.toList)
theorem Zct(S:ByteArray)(c:UInt8)(w:World)(hs:S.size≤1000) :
 Calls Tryz.prog 190 #[.string S,.int .u8 c.toNat] w fun e w'=>e=.returned (.bool (inS S c))∧w'=w:=by
 go_enter Tryz.func190,Tryz.ntmps190
 go_wp2
 go_loop [5] (fun i=>∃ k:Nat,k≤S.size∧i=.int .i64 k∧(c∈S.data.toList↔c∈rest S k)) (fun i=>S.size - (intOf i).toNat)
 case atStart=>exact⟨0,Nat.zero_le _,rfl,by rw[Wa,List.drop_zero]⟩
 case round=>
  obtain⟨k,hk,rfl,hmem⟩:=hrel;have HM:=Hd hmem;clear hmem;by_cases hlt:k<S.size
  ·obtain⟨d,r,hr⟩:=EL hlt;have hx:=Xd hr;have HR:=Hd hr;clear hr;by_cases hdc:d=c
   ·have hb:((d.toNat:Int)==(c.toNat:Int))=true:=by rw[Bd];exact decide_eq_true hdc
    have HD:=Hd hdc;clear hdc
    go_wp2
    go_ret
    refine⟨Zs (Eq.symm ?_),rfl⟩;unfold inS;rw[decide_eq_true_eq,HM.out,HR.out,HD.out];simp
   ·have hb:((d.toNat:Int)==(c.toNat:Int))=false:=by rw[Bd];exact decide_eq_false hdc
    have HD:=Hd hdc;clear hdc
    go_wp2
    go_round
    case rel=>
     refine⟨k+1,by omega,by go_num,?_⟩;rw[HM.out,HR.out,(ZJ HR.out).2];constructor
     ·intro h;rcases List.mem_cons.1 h with h|h
      ·exact absurd h.symm HD.out
      ·exact h
     ·intro h;exact List.mem_cons_of_mem _ h
    case measure=>simp[intOf];omega
  ·go_wp2
   go_ret
   refine⟨Zs (Eq.symm ?_),rfl⟩;unfold inS;rw[decide_eq_false_iff_not,HM.out,Bw (by omega)];simp
theorem ZdC{c:UInt8}(h:hexv c=none):c.toNat<48∨(57<c.toNat∧c.toNat<65)∨(70<c.toNat∧c.toNat<97)∨102<c.toNat:=by
 unfold hexv at h;split at h
 ·cases h
 ·split at h
  ·cases h
  ·split at h
   ·cases h
   ·omega
def sixI(c:UInt8):Int:=match hexv c with|some v=>v|none=>-1
theorem Q1(z:Int)(h0:0≤z)(h255:z≤255)(v:Int)(w:World)
 (hv:(48≤z∧z≤57∧v=z - 48)∨(97≤z∧z≤102∧v=z - 87)∨(65≤z∧z≤70∧v=z - 55)∨(v=-1∧z<48)∨(v=-1∧57<z∧z<65)∨(v=-1∧70<z∧z<97)∨(v=-1∧102<z)) :
 Calls Tryz.prog 195 #[.int .u8 z] w fun e w'=>e=.returned (.int .i64 v)∧w'=w:=by
 rcases hv with⟨h1,h2,h3⟩|⟨h1,h2,h3⟩|⟨h1,h2,h3⟩|⟨h3,h1⟩|⟨h3,h1,h2⟩|⟨h3,h1,h2⟩|⟨h3,h1⟩
 all_goals
  have HV:=Hd h3;clear h3
  go_enter Tryz.func195,Tryz.ntmps195
  go_wp2
  go_ret
  refine⟨ZT ?_,rfl⟩;have:=HV.out;omega
theorem VD(c:UInt8)(w:World):Calls Tryz.prog 195 #[.int .u8 c.toNat] w fun e w'=>e=.returned (.int .i64 (sixI c))∧w'=w:=by
 have hc:=UInt8.toNat_lt c;refine Q1 c.toNat (by omega) (by omega) _ w ?_;unfold sixI
 cases h:hexv c with
 |some v=>
  rcases WF h with⟨h1,h2,h3⟩|⟨h1,h2,h3⟩|⟨h1,h2,h3⟩
  ·left;simp only;omega
  ·right;left;simp only;omega
  ·right;right;left;simp only;omega
 |none=>
  rcases ZdC h with h|⟨h,h'⟩|⟨h,h'⟩|h
  ·exact .inr (.inr (.inr (.inl ⟨rfl,by omega⟩)))
  ·exact .inr (.inr (.inr (.inr (.inl ⟨rfl,by omega,by omega⟩))))
  ·exact .inr (.inr (.inr (.inr (.inr (.inl ⟨rfl,by omega,by omega⟩)))))
  ·exact .inr (.inr (.inr (.inr (.inr (.inr ⟨rfl,by omega⟩)))))
end Go.Proofs.YtbchkjfnakabkaaGreatDoor
namespace Go.Proofs.YtbchkjfnakabkaaGreatDoor
open Go.RowKit PX
def Says{α:Type}(rb:Nat)(S:ByteArray)(i:Nat)(w:World)(o:Option (α × List UInt8))(V:α→Value)(D:Value→Prop)(e:Ending)(w':World):Prop:=
 Only (fun k=>k=rb) w w'∧∃ (v:Value) (j:Nat),e=.returned v∧i≤j∧j≤S.size∧((∃x,o=some (x,rest S j)∧v=V x∧RefAt w' rb S j false)∨(o=none∧D v∧RefAt w' rb S j true))
def Vz(s:List UInt8):Option (Nat × List UInt8):=one [] (92::s)
def BM:ByteArray:=⟨#[92,46,91,93,40,41,124,42,43,63,123,125,94,45]⟩
theorem Zaw{d:UInt8}{r:List UInt8}(h:d∈Yf):Vz (d::r)=some (d.toNat,r):=by
 have h120:d≠120:=by rintro rfl;exact absurd h (by decide)
 simp[Vz,one,h,h120]
theorem QU{a b:UInt8}{r:List UInt8}:Vz (120::a::b::r)=match hexv a,hexv b with|some x,some y=>some (16*x+y,r)|_,_=>none:=by
 simp only[Vz,one];cases hexv a<;>cases hexv b<;>rfl
theorem QT:Vz [120]=none:=by simp[Vz,one]
theorem QS(a:UInt8):Vz [120,a]=none:=by simp[Vz,one]
theorem Bq{d:UInt8}{r:List UInt8}(h:d∉Yf)(h120:d≠120):Vz (d::r)=none:=by simp[Vz,one,h,h120]
theorem Zfl(d:UInt8):inS BM d=decide (d∈Yf):=rfl
theorem Zcd(c:UInt8):-1≤sixI c∧sixI c≤15:=by
 unfold sixI
 cases h:hexv c with
 |some v=>have:=JN h;simp only;omega
 |none=>simp only;omega
theorem Ed(d:UInt8)(b:Bool)(h:decide (d∈Yf)=b)(w:World) :
 Calls Tryz.prog 190 #[.string ⟨#[92,46,91,93,40,41,124,42,43,63,123,125,94,45]⟩,.int .u8 d.toNat] w fun e w'=>e=.returned (.bool b)∧w'=w:=by
 have h1:=Zct BM d w (by decide);rw[Zfl,h]at h1;exact h1
theorem Zb2(w:World)(rb:Nat)(S:ByteArray)(i:Nat)(d:UInt8)(r:List UInt8)(h:RefAt w rb S i false)(hs:S.size≤1000)(hr:rest S i=d::r)(hm:d∈Yf) :
 Calls Tryz.prog 189 #[.pointer (some ⟨rb,0,none⟩)] w fun e w'=>e=.returned (.int .i64 d.toNat)∧RefAt w' rb S (i+1) false∧Only (fun k=>k=rb) w w':=by
 obtain⟨h0,h1,h2,h3,h4⟩:=h.cells;have hi:=(ZJ hr).1;have hd:decide (i<S.size)=true:=by simp;omega
 have hx:=Xd hr;have H:=Hd h;have hi2:i≤1000:=by omega
 have HIN:=Hd (Ed d true (decide_eq_true hm));have hd256:(d.toNat:Int)<256:=by have:=UInt8.toNat_lt d;omega
 clear h hr hi hs hm
 go_enter Tryz.func189,Tryz.ntmps189
 go_wp2_with fail
 go_quiet ((go_at_call 190;exact Calls.quiet_of_same (HIN.out _)))
 go_wp2_with fail
 go_quiet (fail)
 go_wp2_with fail
 go_ret
 refine⟨ZT ?_,?_,?_⟩
 ·rfl
 ·exact((H.out.drewN _).to (i+1)).drewN _
 ·exact(((Only.refl (fun k=>k=rb) w).drewN _).setCell (.inl rfl) _).drewN _
def Gq(rb:Nat)(S:ByteArray)(i:Nat)(w:World)(e:Ending)(w':World):Prop:=e=.returned (.int .i64 0)∧RefAt w' rb S i true∧Only (fun k=>k=rb) w w'
theorem Zet(w:World)(rb:Nat)(S:ByteArray)(i:Nat)(h:RefAt w rb S i false)(hs:S.size≤1000)(hi:S.size≤i)(hi2:i≤1000) :
 Calls Tryz.prog 189 #[.pointer (some ⟨rb,0,none⟩)] w fun e w'=>Gq rb S i w e w':=by
 obtain⟨h0,h1,h2,h3,h4⟩:=h.cells;have hd:decide (i<S.size)=false:=by simp;omega
 have hd2:decide ((i:Int)+2<(S.size:Int))=false:=by simp;omega
 have H:=Hd h;clear h hs hi
 go_enter Tryz.func189,Tryz.ntmps189
 go_wp2_with fail
 go_quiet (fail)
 go_wp2_with fail
 go_quiet (fail)
 go_wp2_with fail
 go_ret
 exact⟨rfl,(H.out.drewN _).wrong,((Only.refl (fun k=>k=rb) w).drewN _).setCell (.inl rfl) _⟩
theorem Zav(w:World)(rb:Nat)(S:ByteArray)(i:Nat)(d:UInt8)(r:List UInt8)(h:RefAt w rb S i false)(hs:S.size≤1000)(hr:rest S i=d::r)(hm:d∉Yf)(hsh:S.size≤i+2) :
 Calls Tryz.prog 189 #[.pointer (some ⟨rb,0,none⟩)] w fun e w'=>Gq rb S i w e w':=by
 obtain⟨h0,h1,h2,h3,h4⟩:=h.cells;have hi:=(ZJ hr).1;have hd:decide (i<S.size)=true:=by simp;omega
 have hd2:decide ((i:Int)+2<(S.size:Int))=false:=by simp;omega
 have hx:=Xd hr;have H:=Hd h;have hi2:i≤1000:=by omega
 have HIN:=Hd (Ed d false (decide_eq_false hm));clear h hr hi hs hm hsh
 go_enter Tryz.func189,Tryz.ntmps189
 go_wp2_with fail
 go_quiet ((go_at_call 190;exact Calls.quiet_of_same (HIN.out _)))
 go_wp2_with fail
 go_quiet (fail)
 go_wp2_with fail
 go_ret
 exact⟨rfl,(H.out.drewN _).wrong,((Only.refl (fun k=>k=rb) w).drewN _).setCell (.inl rfl) _⟩
theorem Zgm(w:World)(rb:Nat)(S:ByteArray)(i:Nat)(d:UInt8)(r:List UInt8)(h:RefAt w rb S i false)(hs:S.size≤1000)(hr:rest S i=d::r)(hm:d∉Yf)(hsh:i+2<S.size)(h120:d≠120) :
 Calls Tryz.prog 189 #[.pointer (some ⟨rb,0,none⟩)] w fun e w'=>Gq rb S i w e w':=by
 obtain⟨h0,h1,h2,h3,h4⟩:=h.cells;have hi:=(ZJ hr).1;have hd:decide (i<S.size)=true:=by simp;omega
 have hd2:decide ((i:Int)+2<(S.size:Int))=true:=by simp;omega
 have hx:=Xd hr
 have he:((d.toNat:Int)==120)=false:=by
  rw[show(120:Int)=((120:UInt8).toNat:Int) from rfl,Bd];exact decide_eq_false h120
 have H:=Hd h;have hi2:i≤1000:=by omega
 have HIN:=Hd (Ed d false (decide_eq_false hm));clear h hr hi hs hm hsh h120
 go_enter Tryz.func189,Tryz.ntmps189
 go_wp2_with fail
 go_quiet ((go_at_call 190;exact Calls.quiet_of_same (HIN.out _)))
 go_wp2_with fail
 go_quiet (fail)
 go_wp2_with fail
 go_ret
 exact⟨rfl,(H.out.drewN _).wrong,((Only.refl (fun k=>k=rb) w).drewN _).setCell (.inl rfl) _⟩
theorem Zes(w:World)(rb:Nat)(S:ByteArray)(i:Nat)(a b:UInt8)(r:List UInt8)(h:RefAt w rb S i false)(hs:S.size≤1000)(hr:rest S i=120::a::b::r) :
 Calls Tryz.prog 189 #[.pointer (some ⟨rb,0,none⟩)] w fun e w'=>
  ((0≤sixI a∧0≤sixI b)∧e=.returned (.int .i64 (16*sixI a+sixI b))∧RefAt w' rb S (i+3) false∧Only (fun k=>k=rb) w w')∨(¬(0≤sixI a∧0≤sixI b)∧Gq rb S i w e w'):=by
 obtain⟨h0,h1,h2,h3,h4⟩:=h.cells;have hr1:=(ZJ hr).2;have hr2:=(ZJ hr1).2;have hi:=(ZJ hr2).1;have hd:decide (i<S.size)=true:=by simp;omega
 have hd2:decide ((i:Int)+2<(S.size:Int))=true:=by simp;omega
 have hx:=Xd hr;have hx1:=Bx hr1 ((i:Int)+1) (by omega);have hx2:=Bx hr2 ((i:Int)+2) (by omega);have H:=Hd h;have hi2:i≤1000:=by omega
 have HIN:=Hd (Ed 120 false (by decide));have hw1:IntKind.i64.wrap ((i:Int)+1)=(i:Int)+1:=IntWalk.i64_in _ (by omega);have hw2:IntKind.i64.wrap ((i:Int)+2)=(i:Int)+2:=IntWalk.i64_in _ (by omega);have HW1:=Hd hw1;have HW2:=Hd hw2;clear hw1 hw2;have hsa:-1≤sixI a∧sixI a≤15:=Zcd a;have hsb:-1≤sixI b∧sixI b≤15:=Zcd b;obtain⟨hsa1,hsa2⟩:=hsa;obtain⟨hsb1,hsb2⟩:=hsb;clear h hr hr1 hr2 hi hs;by_cases ha:0≤sixI a
 ·by_cases hb:0≤sixI b
  ·go_enter Tryz.func189,Tryz.ntmps189
   go_wp2_with fail
   go_quiet ((go_at_call 190;exact Calls.quiet_of_same (HIN.out _)))
   go_wp2_with fail
   go_quiet (fail)
   go_wp2_with fail
   have hw1:=HW1.out;have hw2:=HW2.out
   go_quiet ((go_at_call 195;exact Wb (VD _)))
   clear hw1 hw2
   go_wp2_with fail
   go_ret
   exact .inl ⟨⟨ha,hb⟩,rfl,(H.out.drewN _).to (i+3),((Only.refl (fun k=>k=rb) w).drewN _).setCell (.inl rfl) _⟩
  ·go_enter Tryz.func189,Tryz.ntmps189
   go_wp2_with fail
   go_quiet ((go_at_call 190;exact Calls.quiet_of_same (HIN.out _)))
   go_wp2_with fail
   go_quiet (fail)
   go_wp2_with fail
   have hw1:=HW1.out;have hw2:=HW2.out
   go_quiet ((go_at_call 195;exact Wb (VD _)))
   clear hw1 hw2
   go_wp2_with fail
   go_ret
   exact .inr ⟨by omega,rfl,(H.out.drewN _).wrong,((Only.refl (fun k=>k=rb) w).drewN _).setCell (.inl rfl) _⟩
 ·go_enter Tryz.func189,Tryz.ntmps189
  go_wp2_with fail
  go_quiet ((go_at_call 190;exact Calls.quiet_of_same (HIN.out _)))
  go_wp2_with fail
  go_quiet (fail)
  go_wp2_with fail
  have hw1:=HW1.out;have hw2:=HW2.out
  go_quiet ((go_at_call 195;exact Wb (VD _)))
  clear hw1 hw2
  go_wp2_with fail
  go_ret
  exact .inr ⟨by omega,rfl,(H.out.drewN _).wrong,((Only.refl (fun k=>k=rb) w).drewN _).setCell (.inl rfl) _⟩
theorem Zeu(w:World)(rb:Nat)(S:ByteArray)(i:Nat)(h:RefAt w rb S i false)(hs:S.size≤1000)(hi:i≤S.size) :
 Calls Tryz.prog 189 #[.pointer (some ⟨rb,0,none⟩)] w fun e w'=>Says rb S i w (Vz (rest S i)) (fun n=>.int .i64 (n:Nat)) (fun v=>v=.int .i64 0) e w':=by
 have bad:Vz (rest S i)=none→∀ e w',Gq rb S i w e w'→Says rb S i w (Vz (rest S i)) (fun n=>.int .i64 (n:Nat)) (fun v=>v=.int .i64 0) e w':=by
  rintro ho e w' ⟨rfl,h1,h2⟩;exact⟨h2,_,i,rfl,Nat.le_refl _,hi,.inr ⟨ho,rfl,h1⟩⟩
 cases hr:rest S i with
 |nil=>
  have hsi:S.size≤i:=by have:=ZP S i;rw[hr]at this;simp at this;omega
  exact(Zet w rb S i h hs hsi (by omega)).mono fun e w' hb=>hr▸bad (by rw[hr];rfl) e w' hb
 |cons d r=>
  by_cases hm:d∈Yf
  ·refine(Zb2 w rb S i d r h hs hr hm).mono ?_;rintro e w' ⟨rfl,h1,h2⟩;exact⟨h2,_,i+1,rfl,by omega,(ZJ hr).1,.inl ⟨d.toNat,by rw[Zaw hm,(ZJ hr).2],rfl,h1⟩⟩
  ·by_cases hsh:i+2<S.size
   ·by_cases h120:d=120
    ·subst h120;obtain⟨a,r1,hr1⟩:=EL (S:=S) (i:=i+1) (by omega);obtain⟨b,r2,hr2⟩:=EL (S:=S) (i:=i+2) (by omega);have e1:=(ZJ hr).2;have e2:=(ZJ hr1).2;have er:rest S i=120::a::b::r2:=by rw[hr,←e1,hr1,←e2,hr2]
     have e3:rest S (i+3)=r2:=(ZJ hr2).2;refine(Zes w rb S i a b r2 h hs er).mono ?_;rw[←hr,er];rintro e w' (⟨⟨ha,hb⟩,rfl,h1,h2⟩|⟨hn,hbad⟩)
     ·unfold sixI at ha hb
      cases hxa:hexv a with
      |none=>rw[hxa]at ha;simp at ha
      |some x=>
       cases hxb:hexv b with
       |none=>rw[hxb]at hb;simp at hb
       |some y=>
        refine⟨h2,_,i+3,rfl,by omega,(ZJ hr2).1,.inl ⟨16*x+y,by rw[QU,hxa,hxb,e3],?_,h1⟩⟩;unfold sixI;rw[hxa,hxb];simp
     ·refine er▸bad ?_ e w' hbad;rw[er,QU]
      cases hxa:hexv a with
      |none=>rfl
      |some x=>
       cases hxb:hexv b with
       |none=>rfl
       |some y=>exact absurd ⟨by unfold sixI;rw[hxa];simp,by unfold sixI;rw[hxb];simp⟩ hn
    ·exact(Zgm w rb S i d r h hs hr hm hsh h120).mono fun e w' hb=>hr▸bad (by rw[hr];exact Bq hm h120) e w' hb
   ·refine(Zav w rb S i d r h hs hr hm (by omega)).mono fun e w' hb=>hr▸bad ?_ e w' hb
    rw[hr];by_cases h120:d=120
    ·subst h120;have hl:r.length≤1:=by have:=ZP S i;rw[hr]at this;simp at this;omega
     match r,hl with
     |[],_=>exact QT
     |[a],_=>exact QS a
    ·exact Bq hm h120
end Go.Proofs.YtbchkjfnakabkaaGreatDoor
