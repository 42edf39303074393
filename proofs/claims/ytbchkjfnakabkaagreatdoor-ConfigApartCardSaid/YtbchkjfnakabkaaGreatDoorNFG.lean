import Derived.Test.YtbchkjfnakabkaaGreatDoorN4A
import Derived.Test.YtbchkjfnakabkaaGreatDoorNS
import Derived.Test.YtbchkjfnakabkaaGreatDoorYCD
set_option linter.unusedSimpArgs false
set_option linter.unusedVariables false
set_option maxHeartbeats 4000000
set_option maxRecDepth 100000
namespace Go.Proofs.YtbchkjfnakabkaaGreatDoor
open Go.RowKit PX PC Go.Shelf
def U5(c:Cfg):Prop:=1<=c.sectors/\c.sectors<=4096
theorem Dm(w:World)(cb fb:Nat)(c:Cfg)(x:Vol)(hI:volI x)(hcb:w.cell? ⟨cb,0,none⟩=some (.pointer (some ⟨fb,0,none⟩)))(hs:w.cell? ⟨fb,11,none⟩=some (.int .i64 c.sectors))(hS:U5 c) :
 Calls Tryz.prog 118 #[volV x,.pointer (some ⟨cb,0,none⟩)] w λe w'=>e=.returned (.bool (X1 c x))/\Later w w':=by
 obtain⟨l,f,n,j⟩:=x;obtain⟨hl,hfi⟩:=hI;have k0:=hfi n (by simp);have l0:=hfi f (by simp);obtain⟨hn1,hn2⟩:=k0;obtain⟨hf1,hf2⟩:=l0
 obtain⟨S,hSe⟩:∃ S,c.sectors=S:=⟨_,rfl⟩
 obtain⟨hS1,hS2⟩:=hS;have hp:X1 c ⟨l,f,n,j⟩=(decide (0<=f/\1<=n/\f<=c.sectors/\n<=c.sectors - f)&&inB j 4 (n - 1)):=rfl;rw[hp];rw[hSe]at hs hS1 hS2 ⊢
 obtain⟨w1,hw1⟩:∃ w1,w.alloc (.cells #[.int .i64 l,.int .i64 f,.int .i64 n,.int .i64 j] 28)=w1:=⟨_,rfl⟩
 have j0:Later w w1:=by rw[<-hw1];exact(Later.refl w).alloc _
 obtain⟨xb,hxb⟩:∃ xb,w.heap.size=xb:=⟨_,rfl⟩
 have b0:w1.heap[xb]?=some (.cells #[.int .i64 l,.int .i64 f,.int .i64 n,.int .i64 j] 28 (0,0)):=by rw[<-hw1];exact Zq hxb
 have c1:=Za b0 1;have c2:=Za b0 2;have c3:=Za b0 3;have cc:=j0.cell hcb;have cs:=j0.cell hs;have c0:=Hd (λw2=>XA w2 j 4 (n - 1))
 obtain⟨q,hq⟩:∃ q,inB j 4 (n - 1)=q:=⟨_,rfl⟩
 rw[hq]at c0 ⊢;show Calls Tryz.prog 118 #[.agg #[.int .i64 l,.int .i64 f,.int .i64 n,.int .i64 j],.pointer (some ⟨cb,0,none⟩)] w _;have d0:=Hd hw1;have i0:=Hd j0;clear hp hSe hfi hl b0 hw1 j0 hcb hs hq;by_cases h0:0<=f
 ·have g0:decide (0<=f)=true:=decide_eq_true h0;by_cases h1:1<=n
  ·have g1:decide (1<=n)=true:=decide_eq_true h1;by_cases h2:f<=S
   ·have g2:decide (f<=S)=true:=decide_eq_true h2;have hwr:IntKind.i64.wrap (S - f)=S - f:=by rw[IntKind.wrap_i64];omega
    have hwn:IntKind.i64.wrap (n - 1)=n - 1:=by rw[IntKind.wrap_i64];omega
    by_cases h3:n<=S - f
    ·have g3:decide (n<=S - f)=true:=decide_eq_true h3;have a0:decide (0<=f/\1<=n/\f<=S/\n<=S - f)=true:=decide_eq_true ⟨h0,h1,h2,h3⟩;rw[a0];clear a0
     go_enter Tryz.func118,Tryz.ntmps118
     go_upto_region 1 with fail
     rw[d0.out]
     go_quiet ((go_at_call 23;exact Calls.quiet_of_same (c0.out _)))
     go_wp2_with fail
     go_ret
     exact⟨Zw (by simp),Later.drewN i0.out _⟩
    ·have g3:decide (n<=S - f)=false:=decide_eq_false h3;have a0:decide (0<=f/\1<=n/\f<=S/\n<=S - f)=false:=decide_eq_false (λh=>h3 h.2.2.2);rw[a0];clear a0
     go_enter Tryz.func118,Tryz.ntmps118
     go_upto_region 1 with fail
     rw[d0.out]
     go_quiet ((go_at_call 23;exact Calls.quiet_of_same (c0.out _)))
     go_wp2_with fail
     go_ret
     exact⟨rfl,Later.drewN i0.out _⟩
   ·have g2:decide (f<=S)=false:=decide_eq_false h2;have a0:decide (0<=f/\1<=n/\f<=S/\n<=S - f)=false:=decide_eq_false (λh=>h2 h.2.2.1);rw[a0];clear a0
    go_enter Tryz.func118,Tryz.ntmps118
    go_upto_region 1 with fail
    rw[d0.out]
    go_quiet ((go_at_call 23;exact Calls.quiet_of_same (c0.out _)))
    go_wp2_with fail
    go_ret
    exact⟨rfl,Later.drewN i0.out _⟩
  ·have g1:decide (1<=n)=false:=decide_eq_false h1;have a0:decide (0<=f/\1<=n/\f<=S/\n<=S - f)=false:=decide_eq_false (λh=>h1 h.2.1);rw[a0];clear a0
   go_enter Tryz.func118,Tryz.ntmps118
   go_upto_region 1 with fail
   rw[d0.out]
   go_quiet ((go_at_call 23;exact Calls.quiet_of_same (c0.out _)))
   go_wp2_with fail
   go_ret
   exact⟨rfl,Later.drewN i0.out _⟩
 ·have g0:decide (0<=f)=false:=decide_eq_false h0;have a0:decide (0<=f/\1<=n/\f<=S/\n<=S - f)=false:=decide_eq_false (λh=>h0 h.1);rw[a0];clear a0
  go_enter Tryz.func118,Tryz.ntmps118
  go_upto_region 1 with fail
  rw[d0.out]
  go_quiet ((go_at_call 23;exact Calls.quiet_of_same (c0.out _)))
  go_wp2_with fail
  go_ret
  exact⟨rfl,Later.drewN i0.out _⟩
theorem Zeu{c:Cfg}{x:Vol}(hS:U5 c)(h:X1 c x=true):0<=x.first/\1<=x.count/\x.first+x.count<=4096/\4<=x.journal/\x.journal<=x.count - 1:=by
 unfold X1 at h;rw[Bool.and_eq_true,ZI,decide_eq_true_eq]at h;obtain⟨h1,h2⟩:=hS;omega
theorem Dl(w:World)(cb fb:Nat)(c:Cfg)(x:Vol)(hx:0<=x.count/\x.count<=4096/\0<=x.journal/\x.journal<=4096)(hcb:w.cell? ⟨cb,0,none⟩=some (.pointer (some ⟨fb,0,none⟩)))(hc0:w.cell? ⟨fb,0,none⟩=some (.int .i64 c.levels))(hL:El c) :
 Calls Tryz.prog 119 #[volV x,.pointer (some ⟨cb,0,none⟩)] w λe w'=>e=.returned (.bool (JR c x))/\Later w w':=by
 obtain⟨l,f,n,j⟩:=x;have hcl:=World.block_lt_of_cell? w _ hcb;have f0:=Hd (λ(w1:World) (h:Later w w1)=>Vt w1 fb c l (h.cell hc0) hL.1 hL.2);have hp:JR c ⟨l,f,n,j⟩=(c.lvl l&&(decide (n - j<=40)&&decide (n - j<=j - 3))):=rfl;rw[hp]
 obtain⟨q,hq⟩:∃ q,c.lvl l=q:=⟨_,rfl⟩
 rw[hq]at f0 ⊢;obtain⟨a1,a2,a3,a4⟩:=hx;simp only at a1 a2 a3 a4;clear hp hq hc0;show Calls Tryz.prog 119 #[.agg #[.int .i64 l,.int .i64 f,.int .i64 n,.int .i64 j],.pointer (some ⟨cb,0,none⟩)] w _;cases q
 ·go_enter Tryz.func119,Tryz.ntmps119
  go_wp2_with (first
   |(go_at_call 109;(with_reducible refine(f0.out _ ((Later.refl w).alloc _)).mono ?_);rintro e w' ⟨rfl,rfl⟩)
   |fail)
  go_ret
  exact⟨rfl,(Later.refl w).alloc _⟩
 ·by_cases h1:n - j<=40
  ·rw[decide_eq_true h1];by_cases h2:n - j<=j - 3
   ·rw[decide_eq_true h2]
    go_enter Tryz.func119,Tryz.ntmps119
    go_wp2_with (first
     |(go_at_call 109;(with_reducible refine(f0.out _ ((Later.refl w).alloc _)).mono ?_);rintro e w' ⟨rfl,rfl⟩)
     |fail)
    go_ret
    exact⟨Zw (by first|rfl|simp[h2]),(Later.refl w).alloc _⟩
   ·rw[decide_eq_false h2]
    go_enter Tryz.func119,Tryz.ntmps119
    go_wp2_with (first
     |(go_at_call 109;(with_reducible refine(f0.out _ ((Later.refl w).alloc _)).mono ?_);rintro e w' ⟨rfl,rfl⟩)
     |fail)
    go_ret
    exact⟨Zw (by first|rfl|simp[h2]),(Later.refl w).alloc _⟩
  ·rw[decide_eq_false h1]
   go_enter Tryz.func119,Tryz.ntmps119
   go_wp2_with (first
    |(go_at_call 109;(with_reducible refine(f0.out _ ((Later.refl w).alloc _)).mono ?_);rintro e w' ⟨rfl,rfl⟩)
    |fail)
   go_ret
   exact⟨Zw (by first|rfl|simp[h1]),(Later.refl w).alloc _⟩
end Go.Proofs.YtbchkjfnakabkaaGreatDoor
namespace Go.Proofs.YtbchkjfnakabkaaGreatDoor
open Go.RowKit PX PC Go.Shelf
abbrev VolB:={ x:Vol // 0<=x.first/\x.first<=4096 }
instance:Inhabited VolB:=⟨⟨⟨0,0,0,0⟩,by constructor<;>decide⟩⟩
def encB(x:VolB):List Value:=volC x.1
def cfB(x y:VolB):Int:=x.1.first - y.1.first
theorem Zif:Go.Sort.SWO (ltOf cfB) where
 irrefl x:=by unfold ltOf cfB;rw[decide_eq_false_iff_not];omega
 trans x y z h1 h2:=by unfold ltOf cfB at *;rw[decide_eq_true_eq]at *;omega
 ntrans x y z h1 h2:=by unfold ltOf cfB at *;rw[decide_eq_false_iff_not]at *;omega
theorem Zb9(x y:VolB)(w:World) :
 Calls Tryz.prog 122 #[.agg (encB x).toArray,.agg (encB y).toArray] w λe w'=>e=.returned (.int .i64 (cfB x y))/\∃ q os',w'=Go.Sort.grow (w.drewN q) os':=by
 obtain⟨⟨l,f,n,j⟩,a1,a2⟩:=x;obtain⟨⟨l',f',n',j'⟩,b1,b2⟩:=y;simp only at a1 a2 b1 b2;show Calls Tryz.prog 122 #[.agg #[.int .i64 l,.int .i64 f,.int .i64 n,.int .i64 j],.agg #[.int .i64 l',.int .i64 f',.int .i64 n',.int .i64 j']] w λe w'=>e=.returned (.int .i64 (f - f'))/\_
 go_enter Tryz.func122,Tryz.ntmps122
 go_wp2_with fail
 go_ret
 exact⟨rfl,0,_,by rw[Go.Sort.alloc_eq_grow,Go.Sort.alloc_eq_grow,Go.Sort.grow_grow];rfl⟩
theorem Zfj(n:Nat)(W:World)(h:n<=12):Calls Tryz.prog 147 #[.int .u64 n] W λe w'=>(∃l:Int,e=.returned (.int .i64 l))/\w'=W:=
 (Any.bits_Len Tryz.bitsLen2 n W (by omega) (by omega)).mono λ_ _ ⟨he,hw⟩=>⟨⟨_,he⟩,hw⟩
theorem ZcU(w:World)(blk off m:Nat)(d:Array VolB)(os:Array Obj)(hb:blk<w.heap.size):Only (λk=>k=blk) w (sortWorldK encB 4 w blk off m d os):=by
 refine⟨rfl,rfl,rfl,size_sortWorldK_c encB 4 w blk off m d os,λk hk hne=>?_⟩;unfold sortWorldK Go.Sort.grow Go.Sort.putRowK Go.Sort.putRow Go.Sort.mapBlock;have h1:k<(Go.Sort.ahead w m).heap.size:=hk;simp only[Array.getElem?_append,Array.size_modify,h1,if_true,Array.getElem?_modify];rw[if_neg (λe=>hne e.symm)];rfl
theorem Zd7(w:World):(isAgg 28).run Tryz.prog w=.ok true w:=by kernel_rfl
theorem Zfk(w:World):(Go.sizeOf 28).run Tryz.prog w=.ok 4 w:=by kernel_rfl
def ZaN(g:Nat)(l:List Vol)(w:World)(e:Ending)(w':World):Prop:=
 ∃ l':List Vol,e=.returned (.tuple #[])/\l'.Perm l/\Zil l' l'.length/\(∀i (h:i<l'.length) j,j<4->w'.cell? ⟨g,i*4+j,none⟩=(volC l'[i])[j]?)/\Only (λk=>k=g) w w'
theorem Zfi(w:World)(g cap:Nat)(d:Array VolB)(hH:Go.Sort.HoldsK encB 4 w g 0 d)(hg:g<w.heap.size)(hd:d.size<=12) :
 Calls Tryz.prog 121 #[.slice (some ⟨g,0,none⟩) d.size cap,.func (.func 122) #[] #[]] w (ZaN g (d.toList.map (·.1)) w):=by
 have eg:∀ args w,(callFunc 122 args).run Tryz.prog w=.ok (.enter 122 args) w:=enters_of Tryz.func122 (by kernel_rfl) rfl
 have e0:=AnyQ.slices_SortFunc_small_sorted Tryz.sortVol 4 Zd7 Zfk encB (λ_=>rfl) (λx v hv=>by
  simp only[encB,volC,List.mem_cons,List.not_mem_nil,or_false]at hv
  rcases hv with rfl|rfl|rfl|rfl<;>rfl) cfB 122 #[] Zif g 0 cap d w eg (λ_ _ _ _ x y=>Zb9 x y _) hH hg hd Zfj
 change Calls Tryz.prog 121 _ _ _ at e0
 refine e0.mono λe w' ⟨he,d',n,os,hp,hs,hw⟩=>?_
 subst hw;obtain⟨hsz,-, hpm⟩:=hp;have m0:=holdsK_sortWorldK_c encB 4 w g 0 d d' n os hH hg hsz;refine⟨d'.toList.map (·.1),he,?_,?_,λi hi j hj=>?_,ZcU w g 0 n d' os hg⟩
 ·have e1:d'.extract 0 d.size=d':=by rw[<-hsz];simp
  have e2:d.extract 0 d.size=d:=by simp
  rw[e1,e2]at hpm;exact hpm.map _
 ·rw[List.length_map,Array.length_toList];intro a b hab hb;have h:=hs a b (Nat.zero_le _) hab (by omega);have ha:a<d'.size:=by omega
  unfold fst;rw[List.getElem?_map,List.getElem?_map,Array.getElem?_toList,Array.getElem?_toList,Array.getElem?_eq_getElem ha,Array.getElem?_eq_getElem hb];rw[getElem!_pos d' a ha,getElem!_pos d' b hb]at h;unfold ltOf cfB at h;rw[decide_eq_false_iff_not]at h;have h':¬ (d'[b].1.first - d'[a].1.first<0):=h;show d'[a].1.first<=d'[b].1.first;omega
 ·rw[List.length_map,Array.length_toList]at hi;have h1:=(Go.Sort.HoldsK.cell m0 hi (c:=j) hj).1;rw[Nat.zero_add]at h1;rw[h1,getElem!_pos d' i hi,List.getElem_map,Array.getElem_toList];have hl:j<(encB d'[i]).length:=hj;rw[getElem!_pos (encB d'[i]) j hl];exact(List.getElem?_eq_getElem hl).symm
