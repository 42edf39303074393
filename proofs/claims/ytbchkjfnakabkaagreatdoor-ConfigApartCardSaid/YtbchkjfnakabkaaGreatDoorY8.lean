import Derived.Test.YtbchkjfnakabkaaGreatDoorY47
import Derived.Deep.RegionHeld3
set_option linter.unusedSimpArgs false
set_option linter.unusedVariables false
set_option maxHeartbeats 1000000
set_option maxRecDepth 100000
namespace Go.Proofs.YtbchkjfnakabkaaGreatDoor
open Go.RowKit PX PC
theorem Zhq{n c:Int}(hn:0<=n)(hn2:n<65536)(hc:0<=c/\c<=255):Go.bits .or .i64 (n*256) c=n*256+c:=by
 unfold Go.bits;simp only
 have ha:(BitVec.ofInt IntKind.i64.bits (n*256)).toNat=n.toNat*256:=by
  rw[BitVec.toNat_ofInt];show((n*256)%(2 ^ 64:Nat)).toNat=_;omega
 have hb:(BitVec.ofInt IntKind.i64.bits c).toNat=c.toNat:=by
  rw[BitVec.toNat_ofInt];show(c%(2 ^ 64:Nat)).toNat=_;omega
 have i0:(n.toNat*256 ||| c.toNat)=n.toNat*256+c.toNat:=by
  rw[Nat.mul_comm];exact(Nat.two_pow_add_eq_or_of_lt (i:=8) (by show c.toNat<256;omega) n.toNat).symm
 rw[BitVec.toNat_or,ha,hb,i0,IntKind.wrap_i64];omega
theorem We(w:World)(t:TypeId)(s:ByteArray):Below w.heap.size w (Lib.bytesWorld w t s):=
 ⟨rfl,rfl,rfl,by rw[Lib.bytesWorld_size];omega,λk hk=>Lib.bytesWorld_at_old _ _ _ _ hk⟩
theorem ZaQ(s:ByteArray){k:Nat}(h:k<s.size):s.data.toList.take (k+1)=s.data.toList.take k++[s.data.toList.getD k 0]:=by
 have hl:k<s.data.toList.length:=by rw[UE];exact h
 rw[List.take_succ_eq_append_getElem hl,List.getD_eq_getElem?_getD,List.getElem?_eq_getElem hl];rfl
theorem ZdG(l:List UInt8)(c:UInt8):numU (l++[c]) 0=numU l 0*256+c.toNat:=by rw[Bd];rfl
theorem Gy(w:World)(s:ByteArray)(hs:s.size<=2) :
 Calls Tryz.prog 84 #[.string s] w λe w'=>e=.returned (.int .i64 (numU s.data.toList 0:Nat))/\Later w w':=by
 have c0:∀ W:World,(convert 9 145 (.string s)).run Tryz.prog W=.ok (.slice (some ⟨W.heap.size,0,none⟩) s.size (grownCap W s.size 0 5)) (Lib.bytesWorld W 5 s):=
  λW=>Lib.run_convert_string_bytes W _ _ _ s Tryz.underlying9 Tryz.underlying145 Tryz.underlying5
 go_enter Tryz.func84,Tryz.ntmps84
 go_wp2_with fail
 clear c0;have b0:=We w 5 s;have a0:=λj (hj:j<s.size)=>Lib.bytesWorld_cell w 5 s j hj
 generalize Lib.bytesWorld w 5 s=W at *;generalize grownCap w s.size 0 5=cap0;have HB:=Hd b0;have HC:=Hd a0;clear b0 a0
 go_loop [3,9] (λvr vi=>∃ (r:Int) (k:Nat),0<=r/\k<=s.size/\vi=.int .i64 k/\vr=.int .i64 r/\Hid (r=(numU (s.data.toList.take k) 0:Nat))) (λ_ vi=>s.size - (intOf vi).toNat)
 case atStart=>exact⟨0,0,by omega,by omega,rfl,rfl,Hd rfl⟩
 case round=>
  obtain⟨r,k,hr0,hk,rfl,rfl,HR⟩:=hrel;by_cases hlt:k<s.size
  ·have hc:=HC.out k hlt;have HT:=Hd (ZaQ s hlt)
   have hr1:r<256:=by
    have h1:=HR.out;have h2:=QH (s.data.toList.take k);have h3:(s.data.toList.take k).length<=1:=by rw[List.length_take];omega
    have h4:256 ^ (s.data.toList.take k).length<=256 ^ 1:=Nat.pow_le_pow_right (by omega) h3;omega
   obtain⟨u,hu⟩:∃ u,s.data.toList.getD k 0=u:=⟨_,rfl⟩
   rw[hu]at hc HT
   obtain⟨c,hce⟩:∃ c:Int,(u.toNat:Int)=c:=⟨_,rfl⟩
   have d0:0<=c/\c<=255:=by have:=UInt8.toNat_lt u;omega
   rw[hce]at hc;have j0:=Hd hce;have f0:=Zhq hr0 (by omega) d0;have hst2:Go.bits .or .i64 (256*r) c=r*256+c:=by rw[Int.mul_comm];exact f0
   obtain⟨hc1,hc2⟩:=d0;clear hce hu
   go_wp2_with fail
   refine⟨⟨r*256+c,k+1,by omega,by omega,by simp,by first|rfl|simp,Hd ?_⟩,by simp only[intOf];omega⟩;rw[HT.out,ZdG];have:=HR.out;have:=j0.out;omega
  ·go_wp2_with fail
   go_ret
   refine⟨ZT ?_,HB.out⟩;have e0:k=s.size:=by omega
   rw[HR.out,e0,List.take_of_length_le (by rw[UE];exact Nat.le_refl _)]
def RdAt(w:World)(rb:Nat)(S:ByteArray)(i:Nat)(f:Int):Prop:=w.heap[rb]?=some (.cells #[.string S,.int .i64 i,.int .i64 f] 127 (0,0))
def RIn(w:World)(rb:Nat)(S:ByteArray)(st:RSt):Prop:=
 ∃ (i:Nat) (f:Int),RdAt w rb S i f/\i<=S.size/\((f≠0/\st=none)\/(f=0/\st=some (S.data.toList.drop i)))
theorem RdAt.later{w w':World}{rb:Nat}{S:ByteArray}{i:Nat}{f:Int}(h:RdAt w rb S i f)(hl:Later w w'):RdAt w' rb S i f:=hl.block h
theorem RIn.later{w w':World}{rb:Nat}{S:ByteArray}{st:RSt}(h:RIn w rb S st)(hl:Later w w'):RIn w' rb S st:=by
 obtain⟨i,f,h1,h2,h3⟩:=h;exact⟨i,f,h1.later hl,h2,h3⟩
theorem RdAt.cells{w:World}{rb:Nat}{S:ByteArray}{i:Nat}{f:Int}(h:RdAt w rb S i f):w.cell? ⟨rb,0,none⟩=some (.string S)/\w.cell? ⟨rb,1,none⟩=some (.int .i64 i)/\w.cell? ⟨rb,2,none⟩=some (.int .i64 f)/\w.frozen? ⟨rb,1,none⟩=false/\w.frozen? ⟨rb,2,none⟩=false:=
 ⟨Za h 0,Za h 1,Za h 2,Zc h 1,Zc h 2⟩
theorem RdAt.go{w:World}{rb:Nat}{S:ByteArray}{i:Nat}{f:Int}(h:RdAt w rb S i f)(j:Nat):RdAt (w.setCell ⟨rb,1,none⟩ (.int .i64 j)) rb S j f:=Zf h 1 _
theorem RdAt.fall{w:World}{rb:Nat}{S:ByteArray}{i:Nat}{f:Int}(h:RdAt w rb S i f)(g:Int):RdAt (w.setCell ⟨rb,2,none⟩ (.int .i64 g)) rb S i g:=Zf h 2 _
theorem ZeK(w:World)(rb:Nat)(S:ByteArray)(i:Nat)(f:Int)(h:RdAt w rb S i f)(hS:S.size<=9223372036854775807)(hi:i<=S.size) :
 Calls Tryz.prog 89 #[.pointer (some ⟨rb,0,none⟩)] w λe w'=>e=.returned (.int .i64 ((S.size:Int) - i))/\∃ n,w'=w.drewN n:=by
 obtain⟨h0,h1,h2,h3,h4⟩:=h.cells;clear h;have hw:IntKind.i64.wrap ((S.size:Int) - i)=(S.size:Int) - i:=by rw[IntKind.wrap_i64];omega
 go_enter Tryz.func89,Tryz.ntmps89
 go_wp2_with fail
 go_quiet (fail)
 go_wp2_with fail
 go_ret
 exact⟨rfl,_,rfl⟩
theorem Do(w:World)(S:ByteArray):Calls Tryz.prog 87 #[.string S] w λe w'=>e=.returned (.string S)/\w'=w:=by
 go_enter Tryz.func87,Tryz.ntmps87
 go_wp2_with fail
 go_ret
 exact⟨rfl,rfl⟩
theorem BV(w:World)(b:Nat)(S:ByteArray)(k:Int)(h:w.cell? ⟨b,0,none⟩=some (.int .i64 k))(h1:1<=k)(h8:k<=8) :
 Calls Tryz.prog 83 #[.string S,.pointer (some ⟨b,0,none⟩)] w λe w'=>e=.returned (.tuple #[.int .i64 k,.int .i64 0])/\w'=w:=by
 have g0:decide (k<1)=false:=decide_eq_false (by omega);have hd1:decide (8<k)=false:=decide_eq_false (by omega)
 go_enter Tryz.func83,Tryz.ntmps83
 go_wp2_with fail
 go_ret2
 exact⟨rfl,rfl⟩
theorem WS(w:World)(b:Nat)(S:ByteArray)(k:Int)(h:w.cell? ⟨b,0,none⟩=some (.int .i64 k))(h1:0<=k) :
 Calls Tryz.prog 88 #[.string S,.pointer (some ⟨b,0,none⟩)] w λe w'=>e=.returned (.tuple #[.int .i64 k,.int .i64 0])/\w'=w:=by
 have g0:decide (k<0)=false:=decide_eq_false (by omega)
 go_enter Tryz.func88,Tryz.ntmps88
 go_wp2_with fail
 go_ret2
 exact⟨rfl,rfl⟩
theorem Gb(w:World)(b:Nat)(S:ByteArray)(hs:S.size<=2)(h:w.cell? ⟨b,0,none⟩=some (.int .i64 1024))(m:Int)(hm:(numU S.data.toList 0:Int)=m) :
 Calls Tryz.prog 86 #[.string S,.pointer (some ⟨b,0,none⟩)] w λe w'=>e=.returned (if m<=1024 then .tuple #[.int .i64 m,.int .i64 0] else .tuple #[.int .i64 0,.int .i64 11])/\Later w w':=by
 have HN:=Hd (Gy w S hs);rw[hm]at HN;have hl:=World.block_lt_of_cell? w _ h;have HC:=Hd (λ(w1:World) (h1:Later w w1)=>h1.cell h);clear h hm;by_cases hle:m<=1024
 ·rw[if_pos hle]
  go_enter Tryz.func86,Tryz.ntmps86
  go_wp2_with (first
   |(go_at_call 84;(with_reducible refine HN.out.mono ?_);rintro e w1 ⟨rfl,hl1⟩;have hc:=HC.out w1 hl1)
   |fail)
  go_ret2
  exact⟨rfl,hl1⟩
 ·rw[if_neg hle]
  go_enter Tryz.func86,Tryz.ntmps86
  go_wp2_with (first
   |(go_at_call 84;(with_reducible refine HN.out.mono ?_);rintro e w1 ⟨rfl,hl1⟩;have hc:=HC.out w1 hl1)
   |fail)
  go_ret2
  exact⟨rfl,hl1⟩
