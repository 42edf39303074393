import Derived.Test.YtbchkjfnakabkaaGreatDoorQ1
import Derived.Deep.QuietTactic
import Derived.BigQuiet
import Derived.Deep.RegionWith
import Derived.BigRegion
set_option linter.unusedSimpArgs false
set_option linter.unusedVariables false
set_option maxRecDepth 100000
namespace Go.Proofs.YtbchkjfnakabkaaGreatDoor
open Go.RowKit PX
theorem WC{f:FuncId}{args:Array Value}{w:World}{a n:Nat}{v:Value}(h:∀ W,Calls Tryz.prog f args W λe w'=>e=.returned v/\w'=W) :
 Calls Tryz.prog f args (w.drewN (a+n)) λe w''=>e=.returned v/\∃ m,w''=w.drewN (a+m):=
 (h _).mono λ_ _ ⟨he,hm⟩=>⟨he,n,hm⟩
def rest(S:ByteArray)(i:Nat):List UInt8:=S.data.toList.drop i
theorem B3{S:ByteArray}{i:Nat}(h:S.size<=i):rest S i=[]:=by
 unfold rest;exact List.drop_eq_nil_of_le (by rw[Array.length_toList];exact h)
theorem ZL{S:ByteArray}{i:Nat}{c:UInt8}{r:List UInt8}(h:rest S i=c::r):i<S.size/\rest S (i+1)=r:=by
 unfold rest at h ⊢
 have hl:i<S.data.toList.length:=by
  rcases Nat.lt_or_ge i S.data.toList.length with hl|hl
  ·exact hl
  ·rw[List.drop_eq_nil_of_le hl]at h;cases h
 refine⟨by rw[Array.length_toList]at hl;exact hl,?_⟩;rw[List.drop_eq_getElem_cons hl]at h;exact(List.cons.inj h).2
theorem EW{S:ByteArray}{i:Nat}(h:i<S.size):∃ c r,rest S i=c::r:=by
 have hl:i<S.data.toList.length:=by rw[Array.length_toList];exact h
 exact⟨_,_,List.drop_eq_getElem_cons hl⟩
theorem ZR(S:ByteArray)(i:Nat):(rest S i).length=S.size - i:=by
 unfold rest;rw[List.length_drop,Array.length_toList];rfl
theorem Xe{S:ByteArray}{i:Nat}{c:UInt8}{r:List UInt8}(h:rest S i=c::r)(w:World):(Instr.index 9 (.string S) (.int .i64 i)).run Tryz.prog w=.ok (.int .u8 c.toNat) w:=by
 have a0:=(ZL h).1;have hl:i<S.data.toList.length:=by rw[Array.length_toList];exact a0
 have hi:(0:Int)<=(i:Int)/\(i:Int)<(S.size:Int):=by omega
 rw[run_index_string (h:=Tryz.underlying9),dif_pos hi]
 have hc:S.data.toList[i]=c:=by
  unfold rest at h;rw[List.drop_eq_getElem_cons hl]at h;exact(List.cons.inj h).1
 rw[<-hc];rfl
def RefAt(w:World)(rb:Nat)(S:ByteArray)(i:Nat)(bad:Bool):Prop:=w.heap[rb]?=some (.cells #[.string S,.int .i64 i,.bool bad] 150 (0,0))
theorem RefAt.cells{w:World}{rb:Nat}{S:ByteArray}{i:Nat}{bad:Bool}(h:RefAt w rb S i bad):w.cell? ⟨rb,0,none⟩=some (.string S)/\w.cell? ⟨rb,1,none⟩=some (.int .i64 i)/\w.cell? ⟨rb,2,none⟩=some (.bool bad) /\
 w.frozen? ⟨rb,1,none⟩=false/\w.frozen? ⟨rb,2,none⟩=false:=
 ⟨Za h 0,Za h 1,Za h 2,Zc h 1,Zc h 2⟩
theorem RefAt.below{w w':World}{rb:Nat}{S:ByteArray}{i:Nat}{bad:Bool}(h:RefAt w rb S i bad)(hb:Below w.heap.size w w'):RefAt w' rb S i bad:=by
 unfold RefAt at h ⊢;rw[hb.block rb (Zb h)];exact h
theorem RefAt.to{w:World}{rb:Nat}{S:ByteArray}{i:Nat}{bad:Bool}(h:RefAt w rb S i bad)(k:Nat):RefAt (w.setCell ⟨rb,1,none⟩ (.int .i64 k)) rb S k bad:=Zf h 1 _
theorem RefAt.wrong{w:World}{rb:Nat}{S:ByteArray}{i:Nat}{bad:Bool}(h:RefAt w rb S i bad):RefAt (w.setCell ⟨rb,2,none⟩ (.bool true)) rb S i true:=Zf h 2 _
theorem RefAt.drewN{w:World}{rb:Nat}{S:ByteArray}{i:Nat}{bad:Bool}(h:RefAt w rb S i bad)(n:Nat):RefAt (w.drewN n) rb S i bad:=h
theorem ZgZ(w:World)(rb:Nat)(S:ByteArray)(i:Nat)(bad:Bool)(c:Int)(h:RefAt w rb S i bad)(hi:S.size<=i) :
 Calls Tryz.prog 132 #[.pointer (some ⟨rb,0,none⟩),.int .u8 c] w λe w'=>e=.returned (.bool false)/\∃ n,w'=w.drewN n:=by
 obtain⟨h0,h1,h2,h3,h4⟩:=h.cells;have hd:decide (i<S.size)=false:=by simp;omega
 clear h
 go_enter Tryz.func132,Tryz.ntmps132
 go_wp2_with fail
 go_quiet (fail)
 go_wp2_with fail
 go_ret
 exact⟨rfl,_,rfl⟩
theorem Zi3(w:World)(rb:Nat)(S:ByteArray)(i:Nat)(bad:Bool)(c:Int)(d:UInt8)(r:List UInt8)(h:RefAt w rb S i bad)(hr:rest S i=d::r)(hc:(d.toNat:Int)≠c) :
 Calls Tryz.prog 132 #[.pointer (some ⟨rb,0,none⟩),.int .u8 c] w λe w'=>e=.returned (.bool false)/\∃ n,w'=w.drewN n:=by
 obtain⟨h0,h1,h2,h3,h4⟩:=h.cells;have hi:=(ZL hr).1;have hd:decide (i<S.size)=true:=by simp;omega
 have hx:=Xe hr;have he:((d.toNat:Int)==c)=false:=by simpa using hc
 clear h hr hc hi
 go_enter Tryz.func132,Tryz.ntmps132
 go_wp2_with fail
 go_quiet (fail)
 go_wp2_with fail
 go_ret
 exact⟨rfl,_,rfl⟩
theorem ZgY(w:World)(rb:Nat)(S:ByteArray)(i:Nat)(bad:Bool)(c:Int)(d:UInt8)(r:List UInt8)(h:RefAt w rb S i bad)(hr:rest S i=d::r)(hs:S.size<=1000)(hc:(d.toNat:Int)=c) :
 Calls Tryz.prog 132 #[.pointer (some ⟨rb,0,none⟩),.int .u8 c] w λe w'=>e=.returned (.bool true)/\RefAt w' rb S (i+1) bad/\Only (λk=>k=rb) w w':=by
 subst hc;obtain⟨h0,h1,h2,h3,h4⟩:=h.cells;have hi:=(ZL hr).1;have hd:decide (i<S.size)=true:=by simp;omega
 have hx:=Xe hr;have H:=Hd h;have hi2:i<=1000:=by omega
 clear h hr hi hs
 go_enter Tryz.func132,Tryz.ntmps132
 go_wp2_with fail
 go_quiet (fail)
 go_wp2_with fail
 go_ret
 refine⟨rfl,?_,?_⟩
 ·exact(H.out.drewN _).to (i+1)
 ·exact((Only.refl (λk=>k=rb) w).drewN _).setCell (.inl rfl) _
theorem Ei(w:World)(rb:Nat)(S:ByteArray)(i:Nat)(bad:Bool)(c:UInt8)(n:Int)(h:RefAt w rb S i bad)(hs:S.size<=1000)(hc:(c.toNat:Int)=n) :
 Calls Tryz.prog 132 #[.pointer (some ⟨rb,0,none⟩),.int .u8 n] w λe w'=>e=.returned (.bool (Zg c (rest S i)))/\RefAt w' rb S (if Zg c (rest S i) then i+1 else i) bad/\Only (λk=>k=rb) w w':=by
 cases hr:rest S i with
 |nil=>
  have b0:S.size<=i:=by have:=ZR S i;rw[hr]at this;simp at this;omega
  refine(ZgZ w rb S i bad n h b0).mono ?_;rintro e w' ⟨rfl,m,rfl⟩;exact⟨rfl,h.drewN m,(Only.refl (λk=>k=rb) w).drewN m⟩
 |cons d r=>
  by_cases hd:d=c
  ·subst hd;have e1:Zg d (d::r)=true:=by simp[Zg]
   rw[e1];exact ZgY w rb S i bad n d r h hr hs hc
  ·have e1:Zg c (d::r)=false:=by simp[Zg,hd]
   rw[e1];refine(Zi3 w rb S i bad n d r h hr (by intro he;apply hd;apply UInt8.toNat_inj.1;omega)).mono ?_;rintro e w' ⟨rfl,m,rfl⟩;exact⟨rfl,h.drewN m,(Only.refl (λk=>k=rb) w).drewN m⟩
