import Derived.Test.YtbchkjfnakabkaaGreatDoorNCx
import Derived.Test.YtbchkjfnakabkaaGreatDoorNS
import Derived.Test.YtbchkjfnakabkaaGreatDoorNXx
import Derived.Deep.RegionHeld3
import Derived.Test.YtbchkjfnakabkaaGreatDoorYM
set_option linter.unusedSimpArgs false
set_option linter.unusedVariables false
set_option maxHeartbeats 2000000
set_option maxRecDepth 100000
namespace Go.Proofs.YtbchkjfnakabkaaGreatDoor
open Go.RowKit PX PC Go.Shelf
open Go.Act renaming put -> p0
open List renaming getElem_toArray -> p1, getElem_cons_succ -> p2, getElem_cons_zero -> p3, setIfInBounds_toArray -> p4, set_cons_zero -> p5, set_cons_succ -> p6
theorem ZfM(w:World):PredAt Tryz.prog 127 #[] encR oddR w:=by
 intro W x hb
 exact(Zhv W x).mono λe w' ⟨he,hw⟩=>⟨he,0,hw⟩
theorem ZfL(w:World)(s:ByteArray):Calls Tryz.prog 126 #[.string s,.func (.func 127) #[] #[]] w λe w'=>e=.returned (.bool (oddB s))/\Later w w':=by
 have h:=Tryz.strings_ContainsFunc 127 #[] (enters_of Tryz.func127 (by kernel_rfl) rfl) oddR s w (ZfM w);rw[ZiI]at h;exact h
theorem ZbV(w:World)(fb:Nat)(c:Cfg)(vF vP vW vO vV vR vK lv:Value)(h:FormIn w fb c vF vP vW vO vV vR vK lv)(hI:CfgI c) :
 Calls Tryz.prog 103 #[.pointer (some ⟨fb,0,none⟩)] w λe w'=>e=.returned (.bool c.textsB)/\Later w w':=by
 obtain⟨a,cap,rfl,hl1,hl2,hl3⟩:=Zl h.rK;have k13:w.cell? ⟨fb,13,none⟩=some (.slice a c.keys.length cap):=h.cell 13;have k14:w.cell? ⟨fb,14,none⟩=some (.string c.login):=h.cell 14;have k0:w.cell? ⟨fb,0,none⟩=some (.int .i64 c.levels):=h.cell 0;have hfl:=Zb h.blk;have HO:=Hd (ZfL w c.login);have b0:=Hd (λ(w1:World) (h1:Later w w1)=>Zik w1 _ c.keys (h.rK.later h1) 129 #[] (enters_of Tryz.func129 (by kernel_rfl) rfl) (λk=>inB k.size 1 64) (by omega) (λw2 h2 x hx=>(ZbT w2 x (hI.keys x hx)).mono λe w' ⟨he,hw⟩=>⟨he,hw▸Later.refl w2⟩));have c0:=Hd (λw1=>XA w1 (c.login.size:Int) 1 16);have d0:=hI.login;have hp:c.textsB=(decide ((c.keys.length:Int)=c.levels)&&(c.keys.all (λk=>inB k.size 1 64)&&(inB c.login.size 1 16&&!oddB c.login))):=rfl;rw[hp]
 obtain⟨q,hq⟩:∃ q,c.keys.all (λk=>inB k.size 1 64)=q:=⟨_,rfl⟩
 obtain⟨o,ho⟩:∃ o,oddB c.login=o:=⟨_,rfl⟩
 obtain⟨z,hz⟩:∃ z,inB c.login.size 1 16=z:=⟨_,rfl⟩
 rw[hq]at b0 ⊢;rw[ho]at HO ⊢;rw[hz]at c0 ⊢
 obtain⟨n,hn⟩:∃ n,c.keys.length=n:=⟨_,rfl⟩
 obtain⟨L,hL⟩:∃ L,c.levels=L:=⟨_,rfl⟩
 obtain⟨S,hS⟩:∃ S,c.login=S:=⟨_,rfl⟩
 rw[hn]at b0 k13 hl1 hl3 ⊢;rw[hL]at k0 ⊢;rw[hS]at k14 HO c0 d0;have HK:=Hd (λ(w1:World) (h1:Later w w1)=>And.intro (h1.cell k13) (And.intro (h1.cell k14) (h1.cell k0)));clear h hI hp hq ho hz hn hL hS;by_cases hnl:(n:Int)=L
 ·have hd:((n:Int)==L)=true:=by simpa using hnl
  rw[decide_eq_true hnl];clear hnl;cases q
  ·go_enter Tryz.func103,Tryz.ntmps103
   go_upto_region 2 with(first
    |(go_at_call 126;(with_reducible refine HO.out.mono ?_);rintro e w1 ⟨rfl,hl1⟩;obtain⟨j1,j2,j3⟩:=HK.out w1 hl1)
    |fail)
   refine wp_region_held_drew (S:=λw'=>w'.cell? ⟨fb,13,none⟩=some (.slice a n cap)/\w'.cell? ⟨fb,14,none⟩=some (.string S)/\w'.cell? ⟨fb,0,none⟩=some (.int .i64 L)) (by kernel_rfl) (HK.out _ La) (λa0=>?_);refine tkS 0 a0 ?_;refine tkS 1 a0 ?_;refine tkS 2 a0 ?_;refine tkS 3 a0 ?_;refine tkS 4 a0 ?_;refine tkS 5 a0 ?_;refine tkS 6 a0 ?_;refine tkS 7 a0 ?_;refine tkS 8 a0 ?_;refine tkS 9 a0 ?_;refine tkS 10 a0 ?_;refine tkS 11 a0 ?_;refine tkS 12 a0 ?_;refine tkS 13 a0 ?_;refine tkS 14 a0 ?_;refine tkS 15 a0 ?_;refine tkS 16 a0 ?_;refine tkS 17 a0 ?_;refine rd1 18 (λK hK=>?_)
   go_simp
   refine(b0.out _ La).mono ?_;rintro e w2 ⟨rfl,hl2⟩;refine hK.out _ _ ?_ (λa0=>?_)
   ·exact HK.out _ La
   clear hK K
   (try simp only[p0,p1,p2,p3,p4,p5,p6])
   refine tkS 19 a0 ?_;refine tkS 20 a0 ?_;refine tkV 21 a0 ?_;refine tkV 22 a0 ?_;refine tkV 23 a0 ?_;refine tkV 24 a0 ?_;refine tkV 25 a0 ?_;refine tkV 26 a0 ?_;refine tkV 27 a0 ?_;refine tkS 28 a0 ?_;refine tkS 29 a0 ?_;refine tkV 30 a0 ?_;refine tkV 31 a0 ?_;refine tkS 32 a0 ?_;refine tkS 33 a0 ?_;refine wpAnyH_done (by kernel_rfl) ?_ _
   go_wp2_with fail
   go_ret
   exact⟨Zw (by simp),La⟩
  ·cases z
   ·go_enter Tryz.func103,Tryz.ntmps103
    go_upto_region 2 with(first
     |(go_at_call 126;(with_reducible refine HO.out.mono ?_);rintro e w1 ⟨rfl,hl1⟩;obtain⟨j1,j2,j3⟩:=HK.out w1 hl1)
     |fail)
    refine wp_region_held_drew (S:=λw'=>w'.cell? ⟨fb,13,none⟩=some (.slice a n cap)/\w'.cell? ⟨fb,14,none⟩=some (.string S)/\w'.cell? ⟨fb,0,none⟩=some (.int .i64 L)) (by kernel_rfl) (HK.out _ La) (λa0=>?_);refine tkS 0 a0 ?_;refine tkS 1 a0 ?_;refine tkS 2 a0 ?_;refine tkS 3 a0 ?_;refine tkS 4 a0 ?_;refine tkS 5 a0 ?_;refine tkS 6 a0 ?_;refine tkS 7 a0 ?_;refine tkS 8 a0 ?_;refine tkS 9 a0 ?_;refine tkS 10 a0 ?_;refine tkS 11 a0 ?_;refine tkS 12 a0 ?_;refine tkS 13 a0 ?_;refine tkS 14 a0 ?_;refine tkS 15 a0 ?_;refine tkS 16 a0 ?_;refine tkS 17 a0 ?_;refine rd1 18 (λK hK=>?_)
    go_simp
    refine(b0.out _ La).mono ?_;rintro e w2 ⟨rfl,hl2⟩;refine hK.out _ _ ?_ (λa0=>?_)
    ·exact HK.out _ La
    clear hK K
    (try simp only[p0,p1,p2,p3,p4,p5,p6])
    refine tkS 19 a0 ?_;refine tkS 20 a0 ?_;refine tkS 21 a0 ?_;refine tkS 22 a0 ?_;refine tkS 23 a0 ?_;refine tkS 24 a0 ?_;refine tkS 25 a0 ?_;refine tkS 26 a0 ?_;refine rd1 27 (λK hK=>?_)
    go_simp
    refine(c0.out _).mono ?_;rintro e w' ⟨rfl,rfl⟩;refine hK.out _ _ ?_ (λa0=>?_)
    ·exact HK.out _ La
    clear hK K
    (try simp only[p0,p1,p2,p3,p4,p5,p6])
    refine tkS 28 a0 ?_;refine tkS 29 a0 ?_;refine tkV 30 a0 ?_;refine tkV 31 a0 ?_;refine tkS 32 a0 ?_;refine tkS 33 a0 ?_;refine wpAnyH_done (by kernel_rfl) ?_ _
    go_wp2_with fail
    go_ret
    exact⟨Zw (by simp),La⟩
   ·go_enter Tryz.func103,Tryz.ntmps103
    go_upto_region 2 with(first
     |(go_at_call 126;(with_reducible refine HO.out.mono ?_);rintro e w1 ⟨rfl,hl1⟩;obtain⟨j1,j2,j3⟩:=HK.out w1 hl1)
     |fail)
    refine wp_region_held_drew (S:=λw'=>w'.cell? ⟨fb,13,none⟩=some (.slice a n cap)/\w'.cell? ⟨fb,14,none⟩=some (.string S)/\w'.cell? ⟨fb,0,none⟩=some (.int .i64 L)) (by kernel_rfl) (HK.out _ La) (λa0=>?_);refine tkS 0 a0 ?_;refine tkS 1 a0 ?_;refine tkS 2 a0 ?_;refine tkS 3 a0 ?_;refine tkS 4 a0 ?_;refine tkS 5 a0 ?_;refine tkS 6 a0 ?_;refine tkS 7 a0 ?_;refine tkS 8 a0 ?_;refine tkS 9 a0 ?_;refine tkS 10 a0 ?_;refine tkS 11 a0 ?_;refine tkS 12 a0 ?_;refine tkS 13 a0 ?_;refine tkS 14 a0 ?_;refine tkS 15 a0 ?_;refine tkS 16 a0 ?_;refine tkS 17 a0 ?_;refine rd1 18 (λK hK=>?_)
    go_simp
    refine(b0.out _ La).mono ?_;rintro e w2 ⟨rfl,hl2⟩;refine hK.out _ _ ?_ (λa0=>?_)
    ·exact HK.out _ La
    clear hK K
    (try simp only[p0,p1,p2,p3,p4,p5,p6])
    refine tkS 19 a0 ?_;refine tkS 20 a0 ?_;refine tkS 21 a0 ?_;refine tkS 22 a0 ?_;refine tkS 23 a0 ?_;refine tkS 24 a0 ?_;refine tkS 25 a0 ?_;refine tkS 26 a0 ?_;refine rd1 27 (λK hK=>?_)
    go_simp
    refine(c0.out _).mono ?_;rintro e w' ⟨rfl,rfl⟩;refine hK.out _ _ ?_ (λa0=>?_)
    ·exact HK.out _ La
    clear hK K
    (try simp only[p0,p1,p2,p3,p4,p5,p6])
    refine tkS 28 a0 ?_;refine tkS 29 a0 ?_;refine tkS 30 a0 ?_;refine tkS 31 a0 ?_;refine tkS 32 a0 ?_;refine tkS 33 a0 ?_;refine wpAnyH_done (by kernel_rfl) ?_ _
    go_wp2_with fail
    go_ret
    exact⟨Zw (by simp),La⟩
 ·have hd:((n:Int)==L)=false:=by simpa using hnl
  rw[decide_eq_false hnl];clear hnl
  go_enter Tryz.func103,Tryz.ntmps103
  go_upto_region 2 with(first
   |(go_at_call 126;(with_reducible refine HO.out.mono ?_);rintro e w1 ⟨rfl,hl1⟩;obtain⟨j1,j2,j3⟩:=HK.out w1 hl1)
   |fail)
  refine wp_region_held_drew (S:=λw'=>w'.cell? ⟨fb,13,none⟩=some (.slice a n cap)/\w'.cell? ⟨fb,14,none⟩=some (.string S)/\w'.cell? ⟨fb,0,none⟩=some (.int .i64 L)) (by kernel_rfl) (HK.out _ La) (λa0=>?_);refine tkS 0 a0 ?_;refine tkS 1 a0 ?_;refine tkS 2 a0 ?_;refine tkS 3 a0 ?_;refine tkS 4 a0 ?_;refine tkS 5 a0 ?_;refine tkS 6 a0 ?_;refine tkS 7 a0 ?_;refine tkS 8 a0 ?_;refine tkS 9 a0 ?_;refine tkS 10 a0 ?_;refine tkS 11 a0 ?_;refine tkS 12 a0 ?_;refine tkV 13 a0 ?_;refine tkV 14 a0 ?_;refine tkV 15 a0 ?_;refine tkV 16 a0 ?_;refine tkV 17 a0 ?_;refine tkV 18 a0 ?_;refine tkS 19 a0 ?_;refine tkS 20 a0 ?_;refine tkV 21 a0 ?_;refine tkV 22 a0 ?_;refine tkV 23 a0 ?_;refine tkV 24 a0 ?_;refine tkV 25 a0 ?_;refine tkV 26 a0 ?_;refine tkV 27 a0 ?_;refine tkS 28 a0 ?_;refine tkS 29 a0 ?_;refine tkV 30 a0 ?_;refine tkV 31 a0 ?_;refine tkS 32 a0 ?_;refine tkS 33 a0 ?_;refine wpAnyH_done (by kernel_rfl) ?_ _
  go_wp2_with fail
  go_ret
  exact⟨Zw (by simp),La⟩
