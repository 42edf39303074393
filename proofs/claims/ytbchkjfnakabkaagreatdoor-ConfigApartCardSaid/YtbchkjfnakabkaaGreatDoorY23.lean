import Derived.Test.YtbchkjfnakabkaaGreatDoorB34
import Derived.Test.YtbchkjfnakabkaaGreatDoorYP
import Derived.Laws.OwnMore
set_option linter.unusedSimpArgs false
set_option linter.unusedVariables false
set_option maxHeartbeats 2000000
set_option maxRecDepth 100000
namespace Go.Proofs.YtbchkjfnakabkaaGreatDoor
open Go.RowKit PX PC
def RowAt(w:World)(k:Nat)(v:Value)(css:List (List Value)):Prop:=
 ∃ (a:Option Addr) (cap:Nat),v=.slice a css.length cap∧css.length≤cap∧cap≤9223372036854775807∧css.length*k≤140737488355328 ∧
  (css=[]\/∃ b o,a=some ⟨b,o,none⟩/\b<w.heap.size/\∀ i (h:i<css.length) j,j<k->w.cell? ⟨b,o+i*k+j,none⟩=css[i][j]?)
theorem RowAt.later{w w':World}{k:Nat}{v:Value}{css:List (List Value)}(h:RowAt w k v css)(hl:Later w w'):RowAt w' k v css:=by
 obtain⟨a,cap,h1,h2,h3,h4,h5⟩:=h;refine⟨a,cap,h1,h2,h3,h4,?_⟩;rcases h5 with h|⟨b,o,rfl,hb,hc⟩
 ·exact .inl h
 ·exact .inr ⟨b,o,rfl,by have:=Below.size hl;omega,λi hi j hj=>(Below.cell hl (p:=⟨b,o+i*k+j,none⟩) hb).trans (hc i hi j hj)⟩
theorem RowAt.nil(w:World)(k:Nat):RowAt w k (.slice none 0 0) []:=⟨none,0,rfl,Nat.le_refl _,by omega,by simp,.inl rfl⟩
def Xx(x:Int × Int):List Value:=[.int .i64 x.1,.int .i64 x.2]
def XQ(x:Prt):List Value:=[.int .i64 x.level,.int .i64 x.pages]
def winC(x:Win):List Value:=[.int .i64 x.kind,.int .i64 x.index,.int .i64 x.ticks]
def porC(x:Por):List Value:=[.int .i64 x.kind,.int .i64 x.fr,.int .i64 x.tu,.int .i64 x.size,.int .i64 x.depth]
def volC(x:Vol):List Value:=[.int .i64 x.level,.int .i64 x.first,.int .i64 x.count,.int .i64 x.journal]
def ruC(x:Ru):List Value:=[.int .i64 x.fr,.int .i64 x.tu,.int .i64 x.act,.string x.pat,.string x.wth]
def keyC(x:ByteArray):List Value:=[.string x]
structure CfgIn (w:World) (cs:List Value) (c:Cfg):Prop where
 rows:∃ vF vP vW vO vV vR vK:Value,cs=[.int .i64 c.levels,vF,vP,vW,vO,vV,.int .i64 c.audit.level,.int .i64 c.audit.first,.int .i64 c.audit.count,.int .i64 c.audit.journal,.int .i64 c.boot,.int .i64 c.sectors,vR,vK,.string c.login,.int .i64 c.recovery,.int .i64 c.bound] ∧
  RowAt w 2 vF (c.flows.map Xx)/\RowAt w 2 vP (c.parts.map XQ)/\RowAt w 3 vW (c.windows.map winC)/\RowAt w 5 vO (c.ports.map porC)/\RowAt w 4 vV (c.volumes.map volC)/\RowAt w 5 vR (c.rules.map ruC)/\RowAt w 1 vK (c.keys.map keyC)
theorem CfgIn.later{w w':World}{cs:List Value}{c:Cfg}(h:CfgIn w cs c)(hl:Later w w'):CfgIn w' cs c:=by
 obtain⟨vF,vP,vW,vO,vV,vR,vK,h0,h1,h2,h3,h4,h5,h6,h7⟩:=h.rows;exact⟨⟨vF,vP,vW,vO,vV,vR,vK,h0,h1.later hl,h2.later hl,h3.later hl,h4.later hl,h5.later hl,h6.later hl,h7.later hl⟩⟩
end Go.Proofs.YtbchkjfnakabkaaGreatDoor
namespace Go.Proofs.YtbchkjfnakabkaaGreatDoor
open Go.RowKit PX PC
def u8C(l:List UInt8):List Value:=l.map λc=>.int .u8 (c.toNat:Int)
theorem Ze8(l:List UInt8)(c:UInt8):u8C (l++[c])=u8C l++[.int .u8 (c.toNat:Int)]:=by simp[u8C]
theorem Zf1:(Tryz.prog.info? 5).map (λi=>(i.zero,i.size,i.bytes))=some (some (.int .u8 0),1,1):=by kernel_rfl
theorem UG(b o k:Nat):(⟨b,o,none⟩:Addr).add k=⟨b,o+k,none⟩:=by
 unfold Addr.add;split
 ·rename_i h;subst h;rfl
 ·rfl
theorem XF(w:World)(cs:List Value)(t:TypeId):∀ j u,cs[j]?=some u->(w.alloc (.cells cs.toArray t)).cell? ((⟨w.heap.size,0,none⟩:Addr).add j)=some u:=by
 intro j u h;rw[UG,Nat.zero_add,World.cell?_alloc_at _ _ _ _ rfl]
 simpa using h
theorem Zh7{w:World}{base n:Nat}{v:Value}{l:List UInt8}(h:w.ownsRow base 5 1 v n (u8C l))(hn:n=l.length):(convert 145 9 v).run Tryz.prog w=.ok (.string ⟨l.toArray⟩) w:=by
 rcases h.2 with⟨rfl,h0⟩|⟨g,cap,cur,rfl,-⟩
 ·have hl:l=[]:=List.eq_nil_of_length_eq_zero (by omega);subst hl;rw[run_convert_bytes_string w 145 9 5 none 0 0 Tryz.underlying145 Tryz.underlying5 Tryz.underlying9];simp[Conv.bytesToString];rfl
 ·subst hn;refine run_convert_bytes_back w 145 9 5 ⟨g,0,none⟩ cap l Tryz.underlying145 Tryz.underlying5 Tryz.underlying9 (λj hj=>?_);rw[UG,Nat.zero_add,h.cellAt j (by omega)];simp[u8C,hj]
theorem B8(n:Int):∀ (k j:Nat),j<k->(putI n k).take (j+1)=(putI n k).take j++[UInt8.ofNat (n/256 ^ (k - 1 - j)%256).toNat]
 |k+1,0,_=>by simp[putI]
 |k+1,j+1,h=>by
  rw[putI,List.take_succ_cons,List.take_succ_cons,B8 n k j (by omega),List.cons_append,show k+1 - 1 - (j+1)=k - 1 - j by omega]
theorem Zhm(n:Int)(i:Nat):((UInt8.ofNat (n/256 ^ i%256).toNat).toNat:Int)=n/2 ^ (8*i)%256:=by
 have e:(2:Int) ^ (8*i)=256 ^ i:=by
  rw[show(256:Int)=2 ^ 8 from rfl,<-Int.pow_mul]
 rw[e];exact Zi1 _ (Int.emod_nonneg _ (by decide)) (Int.emod_lt_of_pos _ (by decide))
theorem Zfu{a b:ByteArray}(h:a=b):Ending.returned (.string a)=.returned (.string b):=by rw[h]
theorem ZeC(w:World)(n:Int)(hn:I64 n)(k:Nat)(hk:k<=8)(hk1:1<=k) :
 Calls Tryz.prog 78 #[.int .i64 n,.int .i64 k] w λe w'=>e=.returned (.string ⟨(putI n k).toArray⟩)/\Later w w':=by
 obtain⟨iU,hiU,hz0,hz1,hz2⟩:=info_parts Zf1;have hki:(k:Int)<=8:=by omega
 have hki1:(1:Int)<=(k:Int):=by omega
 obtain⟨hn1,hn2⟩:=hn
 go_enter Tryz.func78,Tryz.ntmps78
 go_wp2_with fail
 go_loopw [5,6] (λvb vi wr=>∃ j:Nat,j<=k/\vi=.int .i64 ((k:Int) - 1 - j)/\wr.ownsRow w.heap.size 5 1 vb ((putI n k).take j).length (u8C ((putI n k).take j))/\Below w.heap.size w wr) (λ_ vi _=>(intOf vi+1).toNat)
 case atStart=>exact⟨0,by omega,by simp,⟨rfl,Or.inl ⟨rfl,rfl⟩⟩,Below.refl _ _⟩
 case round=>
  obtain⟨j,hj,rfl,hown,hbel⟩:=hrel;have HO:=Hd hown;clear hown;by_cases hlt:j<k
  ·obtain⟨i,hi⟩:∃ i:Nat,(k:Int) - 1 - j=i:=⟨k - 1 - j,by omega⟩
   rw[hi];have hi7:i<=7:=by omega
   have e0:k - 1 - j=i:=by omega
   obtain⟨u,hu⟩:∃ u,UInt8.ofNat (n/256 ^ (k - 1 - j)%256).toNat=u:=⟨_,rfl⟩
   have d0:=B8 n k j hlt;rw[hu]at d0;have g0:=Hd d0
   have hz:n/2 ^ (8*i)%256=(u.toNat:Int):=by
    rw[<-hu,e0];exact(Zhm n i).symm
   obtain⟨z,hzz⟩:∃ z:Int,(u.toNat:Int)=z:=⟨_,rfl⟩
   rw[hzz]at hz;have i0:=Hd hzz;have c0:((putI n k).take j).length<=8:=by rw[List.length_take,XK];omega
   have HI:=Hd hi;clear hi e0 hu d0 hzz
   obtain⟨L,hL⟩:∃ L,(putI n k).take j=L:=⟨_,rfl⟩
   rw[hL]at HO g0 c0;clear hL
   go_wp2_with (first
    |(at_builtin;refine wpList_append_own _ rfl (.tmp 19) (.tmp 25) 145 rfl w.heap.size 5 iU (.int .u8 0) 1 1 Tryz.underlying145 hiU hz0 hz1 hz2 rfl (by decide) _ _ _ rfl (HO.out.alloc _) ⟨wr.heap.size,0,none⟩ 1 1 [.int .u8 z] rfl rfl (XF wr [.int .u8 z] 5) (by intro u hu;rw[List.mem_singleton.1 hu];rfl) (by unfold maxLen;omega) (by omega) (by have:=hbel.size;simp;omega) ?_;intro v' w1 hown1 hgrow1 _)
    |fail)
   have b0:w1.ownsRow w.heap.size 5 1 v' (L++[u]).length (u8C (L++[u])):=by
    rw[Ze8,i0.out,List.length_append];exact hown1
   refine⟨⟨j+1,by omega,?_,?_,?_⟩,?_⟩
   ·show Value.int .i64 _=Value.int .i64 _
    congr 1
    have:=HI.out;omega
   ·rw[g0.out];exact b0
   ·exact Below.grown (hbel.alloc (by have:=hbel.size;omega) (.cells #[.int .u8 z] 5)) hgrow1 (by have:=hbel.size;simp;omega) (λq hq=>((HO.out.alloc (.cells #[.int .u8 z] 5)).lt q hq).1)
   ·simp only[intOf];omega
  ·obtain rfl:j=k:=by omega
   have a0:(j:Int) - 1 - j=-1:=by omega
   rw[a0];have ho:=HO.out;rw[List.take_of_length_le (by rw[XK];exact Nat.le_refl _)]at ho;have hcv:=Zh7 ho rfl;clear ho a0 HO
   go_wp2_with fail
   go_ret
   exact⟨rfl,hbel⟩
def putS(n:Int)(k:Nat):ByteArray:=⟨(putI n k).toArray⟩
theorem WE(n:Int)(k:Nat):(putS n k).data.toList=putI n k:=rfl
theorem WD(n:Int)(k:Nat):(putS n k).size=k:=by
 show(putI n k).toArray.size=k;rw[List.size_toArray,XK]
theorem ZaG(w:World)(n:Int)(hn:I64 n)(k:Nat)(hk:k<=8)(hk1:1<=k) :
 Calls Tryz.prog 78 #[.int .i64 n,.int .i64 k] w λe w'=>e=.returned (.string (putS n k))/\Later w w':=ZeC w n hn k hk hk1
theorem Zh2(w:World)(n:Int)(hn:I64 n)(k:Nat)(K:Int)(hK:(k:Int)=K)(hk:k<=8)(hk1:1<=k) :
 Calls Tryz.prog 78 #[.int .i64 n,.int .i64 K] w λe w'=>e=.returned (.string (putS n k))/\Later w w':=by
 subst hK;exact ZaG w n hn k hk hk1
def VC(s:ByteArray):ByteArray:=⟨(Yf s).toArray⟩
theorem GS(s:ByteArray):(VC s).data.toList=Yf s:=rfl
theorem UE(a:ByteArray):a.data.toList.length=a.size:=by rw[Array.length_toList];rfl
theorem QX{a b:ByteArray}(h:a.data.toList=b.data.toList):a=b:=by
 cases a;cases b;simp only[ByteArray.mk.injEq];exact Array.toList_inj.1 h
theorem Dx(a b:ByteArray):(a++b).data.toList=a.data.toList++b.data.toList:=by simp
theorem Zff(s:ByteArray)(h:s.size<=1024):putS s.size 2++s=VC s:=by
 refine QX ?_;rw[Dx,GS,WE,Yf,if_pos h]
theorem Vk(s:ByteArray):(VC s).size<=1026:=by
 show(Yf s).toArray.size<=1026;rw[List.size_toArray,Yf];split
 ·rw[List.length_append,XK,UE];omega
 ·simp
theorem Dp(w:World)(s:ByteArray)(hs:s.size<=9223372036854775807) :
 Calls Tryz.prog 79 #[.string s] w λe w'=>e=.returned (.tuple #[.string (VC s),.int .i64 (if s.size<=1024 then 0 else 11)])/\Later w w':=by
 by_cases h:s.size<=1024
 ·rw[if_pos h,<-Zff s h];have hp:=WD s.size 2;have HP:=Hd (show Calls Tryz.prog 78 #[.int .i64 (s.size:Int),.int .i64 2] w λe w'=>e=.returned (.string (putS s.size 2))/\Later w w' from ZaG w s.size ⟨by omega,by omega⟩ 2 (by omega) (by omega));have hcc:¬ 9223372036854775807<(putS (s.size:Int) 2).size+s.size:=by omega
  clear hp
  go_enter Tryz.func79,Tryz.ntmps79
  go_wp2_with (first
   |(go_at_call 78;(with_reducible refine HP.out.mono ?_);rintro e w1 ⟨rfl,hl1⟩)
   |fail)
  go_ret2
  exact⟨rfl,hl1⟩
 ·rw[if_neg h];have f0:VC s=⟨#[]⟩:=QX (by rw[GS,Yf,if_neg h]);rw[f0];clear f0
  go_enter Tryz.func79,Tryz.ntmps79
  go_wp2_with fail
  go_ret2
  exact⟨rfl,Later.refl _⟩
