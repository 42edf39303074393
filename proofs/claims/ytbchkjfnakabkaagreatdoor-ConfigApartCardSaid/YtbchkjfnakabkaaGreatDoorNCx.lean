import Derived.Shelf.GgClosure.StringsIndexFunc
import Derived.Test.YtbchkjfnakabkaaGreatDoorNMB
import Derived.Test.YtbchkjfnakabkaaGreatDoorShelf
set_option linter.unusedSimpArgs false
set_option linter.unusedVariables false
set_option maxRecDepth 100000
namespace Go.Proofs.YtbchkjfnakabkaaGreatDoor.PC
open PX
def oddR(x:Nat):Bool:=decide (x<33) || decide (126<x)
theorem Zca(s:ByteArray)(i:Nat)(h:(s.get! i).toNat<128):Utf8.decode s i=((s.get! i).toNat,1):=by
 unfold Utf8.decode;simp only[Nat.add_zero];rw[if_pos (by omega)]
theorem Bz(s:ByteArray)(i:Nat)(h:¬ (s.get! i).toNat<128):128<=(Utf8.decode s i).1:=by
 unfold Utf8.decode;simp only[Nat.add_zero];rw[if_neg (by omega)];have hr:128<=Utf8.runeError:=by decide
 split
 ·split
  ·rename_i h1;exact h1
  ·exact hr
 ·split
  ·split
   ·rename_i h1;simp only[ge_iff_le,Bool.and_eq_true,decide_eq_true_eq]at h1;show 128<=_*4096+_*64+_;omega
   ·exact hr
  ·split
   ·split
    ·rename_i h1;simp only[ge_iff_le,Bool.and_eq_true,decide_eq_true_eq]at h1;show 128<=_*262144+_*4096+_*64+_;omega
    ·exact hr
   ·exact hr
theorem Zgd(s:ByteArray)(i:Nat)(h:i<s.size):s.data.toList.drop i=s.get! i::s.data.toList.drop (i+1):=by
 have hl:i<s.data.toList.length:=by rw[Array.length_toList];exact h
 rw[List.drop_eq_getElem_cons hl]
 congr 1
 rw[Array.getElem_toList];show s.data[i]=s.data[i]!;rw[getElem!_pos s.data i h]
theorem Zae(s:ByteArray):∀ (f pos:Nat),s.size<=pos+f->pos<=s.size->decide (0<=Lib.idxFuncFrom oddR true s f pos)=(s.data.toList.drop pos).any λb=>decide (b.toNat<33) || decide (126<b.toNat)
 |0,pos,h,hp=>by
  have:pos=s.size:=by omega
  subst this;rw[List.drop_of_length_le (by rw[Array.length_toList];exact Nat.le_refl _)];rfl
 |f+1,pos,h,hp=>by
  unfold Lib.idxFuncFrom;by_cases hlt:pos<s.size
  ·rw[if_pos hlt,Zgd s pos hlt,List.any_cons];by_cases hb:(s.get! pos).toNat<128
   ·rw[Zca s pos hb];by_cases ho:oddR (s.get! pos).toNat=true
    ·rw[if_pos ho];have h1:(decide ((s.get! pos).toNat<33) || decide (126<(s.get! pos).toNat))=true:=ho;rw[h1];simp
    ·rw[if_neg ho];have h1:(decide ((s.get! pos).toNat<33) || decide (126<(s.get! pos).toNat))=false:=by rw[Bool.not_eq_true]at ho;exact ho
     rw[h1,Bool.false_or];exact Zae s f (pos+1) (by omega) (by omega)
   ·have h1:=Bz s pos hb;have h2:oddR (Utf8.decode s pos).1=true:=by unfold oddR;simp;omega
    rw[if_pos h2];have h3:(decide ((s.get! pos).toNat<33) || decide (126<(s.get! pos).toNat))=true:=by simp;omega
    rw[h3];simp
  ·rw[if_neg hlt,List.drop_of_length_le (by rw[Array.length_toList];show s.size<=pos;omega)];rfl
theorem ZiI(s:ByteArray):decide (0<=Lib.idxFunc oddR true s)=oddB s:=by
 unfold Lib.idxFunc oddB;have:=Zae s s.size 0 (by omega) (by omega);rw[List.drop_zero]at this;exact this
end Go.Proofs.YtbchkjfnakabkaaGreatDoor.PC
namespace Go.Proofs.YtbchkjfnakabkaaGreatDoor
open Go.RowKit PX PC
theorem ZbY(w:World)(fb:Nat)(c:Cfg)(vF vP vW vO vV vR vK lv:Value)(h:FormIn w fb c vF vP vW vO vV vR vK lv)(hL:LatOf w c lv)(hP:∀ p∈c.parts,lev c.levels p.level) :
 Calls Tryz.prog 100 #[.pointer (some ⟨fb,0,none⟩)] w λe w'=>e=.returned (.bool c.portsB)/\Later w w':=by
 obtain⟨a,cap,rfl,hl1,hl2,hl3⟩:=Zl h.rO;obtain⟨cb,w1,hcb,hw1,hlw,hblk,hcell⟩:=Vx (w:=w) (fb:=fb);have h1:=h.later hlw;have d0:=hL.later hlw;have k4:w1.cell? ⟨fb,4,none⟩=some (.slice a c.ports.length cap):=h1.cell 4;have a0:=Hd (Zij w1 _ c.ports h1.rO 115 #[.pointer (some ⟨cb,0,none⟩)] (enters_of Tryz.func115 (by kernel_rfl) rfl) (JZ c) (by omega) (λw2 h2 x hx=>Zbq w2 cb fb c x vF vP vW _ vV vR vK lv (h1.later h2) (d0.later h2) hP (h2.cell hcell)));have hp:c.portsB=(decide (c.ports.length<=16)&&c.ports.all (JZ c)):=rfl;rw[hp]
 obtain⟨n,hn⟩:∃ n,c.ports.length=n:=⟨_,rfl⟩
 obtain⟨q,hq⟩:∃ q,c.ports.all (JZ c)=q:=⟨_,rfl⟩
 rw[hq]at a0 ⊢;rw[hn]at a0 k4 hl1 hl3 ⊢;have b0:=Hd hw1;have e0:=Hd hlw;clear h h1 hp hn hq hblk hw1 hlw hL d0 hP;by_cases hi:n<=16
 ·rw[decide_eq_true hi];have hd:decide ((n:Int)<=16)=true:=decide_eq_true (by omega)
  go_enter Tryz.func100,Tryz.ntmps100
  go_upto_region 1 with fail
  rw[b0.out]
  go_wp2_with (first
   |(go_at_call 114;(with_reducible refine a0.out.mono ?_);rintro e w' ⟨rfl,hl1⟩)
   |fail)
  go_ret
  exact⟨Zw (by simp),e0.out.trans hl1⟩
 ·rw[decide_eq_false hi];have hd:decide ((n:Int)<=16)=false:=decide_eq_false (by omega)
  go_enter Tryz.func100,Tryz.ntmps100
  go_upto_region 1 with fail
  rw[b0.out]
  go_wp2_with fail
  go_ret
  exact⟨Zw (by simp),e0.out⟩
theorem Zhv(w:World)(x:Nat):Calls Tryz.prog 127 #[.int .i32 (x:Int)] w λe w'=>e=.returned (.bool (oddR x))/\w'=w:=by
 by_cases h1:x<33
 ·have hr:oddR x=true:=by unfold oddR;rw[decide_eq_true h1];rfl
  have hd:decide ((x:Int)<33)=true:=decide_eq_true (by omega);rw[hr]
  go_enter Tryz.func127,Tryz.ntmps127
  go_wp2_with fail
  go_ret
  exact⟨rfl,rfl⟩
 ·have hd:decide ((x:Int)<33)=false:=decide_eq_false (by omega);by_cases h2:126<x
  ·have hr:oddR x=true:=by unfold oddR;rw[decide_eq_true h2];simp
   have f0:decide ((126:Int)<(x:Int))=true:=decide_eq_true (by omega);rw[hr]
   go_enter Tryz.func127,Tryz.ntmps127
   go_wp2_with fail
   go_ret
   exact⟨rfl,rfl⟩
  ·have hr:oddR x=false:=by unfold oddR;rw[decide_eq_false h1,decide_eq_false h2];rfl
   have f0:decide ((126:Int)<(x:Int))=false:=decide_eq_false (by omega);rw[hr]
   go_enter Tryz.func127,Tryz.ntmps127
   go_wp2_with fail
   go_ret
   exact⟨rfl,rfl⟩
theorem ZbT(w:World)(s:ByteArray)(hs:s.size<=9223372036854775807):Calls Tryz.prog 129 #[.string s] w λe w'=>e=.returned (.bool (inB s.size 1 64))/\w'=w:=by
 have c0:=Hd (XA w (s.size:Int) 1 64)
 obtain⟨b,hb⟩:∃ b,inB (s.size:Int) 1 64=b:=⟨_,rfl⟩
 rw[hb]at c0 ⊢;clear hb
 go_enter Tryz.func129,Tryz.ntmps129
 go_wp2_with (first
  |(go_at_call 23;(with_reducible refine c0.out.mono ?_);rintro e w' ⟨rfl,rfl⟩)
  |fail)
 go_ret
 exact⟨rfl,rfl⟩
