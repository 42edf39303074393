/- The walk of the form's texts. -/
import Derived.Test.YtbchkjfnakabkaaGreatDoorNCx
import Derived.Test.YtbchkjfnakabkaaGreatDoorY7
import Derived.Test.YtbchkjfnakabkaaGreatDoorNS
import Derived.Test.YtbchkjfnakabkaaGreatDoorNX
import Derived.Deep.RegionHeld3
set_option linter.unusedSimpArgs false
set_option linter.unusedVariables false
namespace Go.Proofs.YtbchkjfnakabkaaGreatDoor
open Go.RowKit PX PC Go.Shelf
open Go.Act renaming put → p0
open List renaming getElem_toArray → p1, getElem_cons_succ → p2, getElem_cons_zero → p3, setIfInBounds_toArray → p4, set_cons_zero → p5, set_cons_succ → p6
theorem odd_pred (w:World):PredAt Tryz.prog 127 #[] encR oddR w:=by
 intro W x hb
 exact (odd_any W x).mono fun e w' ⟨he,hw⟩=>⟨he,0,hw⟩
theorem odd_text (w:World) (s:ByteArray):Calls Tryz.prog 126 #[.string s,.func (.func 127) #[] #[]] w fun e w'=>e=.returned (.bool (oddB s))∧Later w w':=by
 have h:=Tryz.strings_ContainsFunc 127 #[] (enters_of Tryz.func127 (by kernel_rfl) rfl) oddR s w (odd_pred w)
 rw [odd_eq] at h
 exact h
set_option maxRecDepth 100000 in
set_option maxHeartbeats 2000000 in
theorem ftexts_any (w:World) (fb:Nat) (c:Cfg) (vF vP vW vO vV vR vK lv:Value) (h:FormIn w fb c vF vP vW vO vV vR vK lv) (hI:CfgI c) :
 Calls Tryz.prog 103 #[.pointer (some ⟨fb,0,none⟩)] w fun e w'=>e=.returned (.bool c.textsB)∧Later w w':=by
 obtain ⟨a,cap,rfl,hl1,hl2,hl3⟩:=row_val h.rK
 have k13:w.cell? ⟨fb,13,none⟩=some (.slice a c.keys.length cap):=h.cell 13
 have k14:w.cell? ⟨fb,14,none⟩=some (.string c.login):=h.cell 14
 have k0:w.cell? ⟨fb,0,none⟩=some (.int .i64 c.levels):=h.cell 0
 have hfl:=lt_of_block h.blk
 have HO:=Lib.hid (odd_text w c.login)
 have HALL:=Lib.hid (fun (w1:World) (h1:Later w w1)=>all_key w1 _ c.keys (h.rK.later h1) 129 #[] (enters_of Tryz.func129 (by kernel_rfl) rfl) (fun k=>inB k.size 1 64) (by omega) (fun w2 h2 x hx=>(keyOne_any w2 x (hI.keys x hx)).mono fun e w' ⟨he,hw⟩=>⟨he,hw▸Later.refl w2⟩))
 have HIN:=Lib.hid (fun w1=>cin_any w1 (c.login.size:Int) 1 16)
 have hls:=hI.login
 have hp:c.textsB=(decide ((c.keys.length:Int)=c.levels)&&(c.keys.all (fun k=>inB k.size 1 64)&&(inB c.login.size 1 16&&!oddB c.login))):=rfl
 rw [hp]
 obtain ⟨q,hq⟩:∃ q,c.keys.all (fun k=>inB k.size 1 64)=q:=⟨_,rfl⟩
 obtain ⟨o,ho⟩:∃ o,oddB c.login=o:=⟨_,rfl⟩
 obtain ⟨z,hz⟩:∃ z,inB c.login.size 1 16=z:=⟨_,rfl⟩
 rw [hq] at HALL ⊢
 rw [ho] at HO ⊢
 rw [hz] at HIN ⊢
 obtain ⟨n,hn⟩:∃ n,c.keys.length=n:=⟨_,rfl⟩
 obtain ⟨L,hL⟩:∃ L,c.levels=L:=⟨_,rfl⟩
 obtain ⟨S,hS⟩:∃ S,c.login=S:=⟨_,rfl⟩
 rw [hn] at HALL k13 hl1 hl3 ⊢
 rw [hL] at k0 ⊢
 rw [hS] at k14 HO HIN hls
 have HK:=Lib.hid (fun (w1:World) (h1:Later w w1)=>And.intro (h1.cell k13) (And.intro (h1.cell k14) (h1.cell k0)))
 clear h hI hp hq ho hz hn hL hS
 by_cases hnl:(n:Int)=L
 ·have hd:((n:Int)==L)=true:=by simpa using hnl
  rw [decide_eq_true hnl]
  clear hnl
  cases q
  ·go_enter Tryz.func103,Tryz.ntmps103
   go_upto_region 2 with (first
    | (go_at_call 126;(with_reducible refine HO.out.mono ?_);rintro e w1 ⟨rfl,hl1⟩;obtain ⟨j1,j2,j3⟩:=HK.out w1 hl1)
    | fail)
   refine wp_region_held_drew (S:=fun w'=>w'.cell? ⟨fb,13,none⟩=some (.slice a n cap)∧w'.cell? ⟨fb,14,none⟩=some (.string S)∧w'.cell? ⟨fb,0,none⟩=some (.int .i64 L)) (by kernel_rfl) (HK.out _ (by repeat (first | assumption | exact Later.refl _ | refine Later.drew ?_ | refine Later.drewN ?_ _ | refine Later.alloc ?_ _ | refine Later.trans ?_ (by assumption)))) (fun hHeld=>?_)
   refine tkT (i:=0) (v:=?_) ?_ hHeld ?_
   rotate_left
   ·intro w hSw;(try dsimp only at hSw);go_simp;(try with_reducible rfl)
   (try simp only [p0,p1,p2,p3,p4,p5,p6])
   refine tkT (i:=1) (v:=?_) ?_ hHeld ?_
   rotate_left
   ·intro w hSw;(try dsimp only at hSw);go_simp;(try with_reducible rfl)
   (try simp only [p0,p1,p2,p3,p4,p5,p6])
   refine tkT (i:=2) (v:=?_) ?_ hHeld ?_
   rotate_left
   ·intro w hSw;(try dsimp only at hSw);go_simp;(try with_reducible rfl)
   (try simp only [p0,p1,p2,p3,p4,p5,p6])
   refine tkT (i:=3) (v:=?_) ?_ hHeld ?_
   rotate_left
   ·intro w hSw;(try dsimp only at hSw);go_simp;(try with_reducible rfl)
   (try simp only [p0,p1,p2,p3,p4,p5,p6])
   refine tkT (i:=4) (v:=?_) ?_ hHeld ?_
   rotate_left
   ·intro w hSw;(try dsimp only at hSw);go_simp;(try with_reducible rfl)
   (try simp only [p0,p1,p2,p3,p4,p5,p6])
   refine tkT (i:=5) (v:=?_) ?_ hHeld ?_
   rotate_left
   ·intro w hSw;(try dsimp only at hSw);go_simp;(try with_reducible rfl)
   (try simp only [p0,p1,p2,p3,p4,p5,p6])
   refine tkT (i:=6) (v:=?_) ?_ hHeld ?_
   rotate_left
   ·intro w hSw;(try dsimp only at hSw);go_simp;(try with_reducible rfl)
   (try simp only [p0,p1,p2,p3,p4,p5,p6])
   refine tkT (i:=7) (v:=?_) ?_ hHeld ?_
   rotate_left
   ·intro w hSw;(try dsimp only at hSw);go_simp;(try with_reducible rfl)
   (try simp only [p0,p1,p2,p3,p4,p5,p6])
   refine tkT (i:=8) (v:=?_) ?_ hHeld ?_
   rotate_left
   ·intro w hSw;(try dsimp only at hSw);go_simp;(try with_reducible rfl)
   (try simp only [p0,p1,p2,p3,p4,p5,p6])
   refine tkT (i:=9) (v:=?_) ?_ hHeld ?_
   rotate_left
   ·intro w hSw;(try dsimp only at hSw);go_simp;(try with_reducible rfl)
   (try simp only [p0,p1,p2,p3,p4,p5,p6])
   refine tkT (i:=10) (v:=?_) ?_ hHeld ?_
   rotate_left
   ·intro w hSw;(try dsimp only at hSw);go_simp;(try with_reducible rfl)
   (try simp only [p0,p1,p2,p3,p4,p5,p6])
   refine tkT (i:=11) (v:=?_) ?_ hHeld ?_
   rotate_left
   ·intro w hSw;(try dsimp only at hSw);go_simp;(try with_reducible rfl)
   (try simp only [p0,p1,p2,p3,p4,p5,p6])
   refine tkT (i:=12) (v:=?_) ?_ hHeld ?_
   rotate_left
   ·intro w hSw;(try dsimp only at hSw);go_simp;(try with_reducible rfl)
   (try simp only [p0,p1,p2,p3,p4,p5,p6])
   refine tkT (i:=13) (v:=?_) ?_ hHeld ?_
   rotate_left
   ·intro w hSw;(try dsimp only at hSw);go_simp;(try with_reducible rfl)
   (try simp only [p0,p1,p2,p3,p4,p5,p6])
   refine tkT (i:=14) (v:=?_) ?_ hHeld ?_
   rotate_left
   ·intro w hSw;(try dsimp only at hSw);go_simp;(try with_reducible rfl)
   (try simp only [p0,p1,p2,p3,p4,p5,p6])
   refine tkT (i:=15) (v:=?_) ?_ hHeld ?_
   rotate_left
   ·intro w hSw;(try dsimp only at hSw);go_simp;(try with_reducible rfl)
   (try simp only [p0,p1,p2,p3,p4,p5,p6])
   refine tkT (i:=16) (v:=?_) ?_ hHeld ?_
   rotate_left
   ·intro w hSw;(try dsimp only at hSw);go_simp;(try with_reducible rfl)
   (try simp only [p0,p1,p2,p3,p4,p5,p6])
   refine tkT (i:=17) (v:=?_) ?_ hHeld ?_
   rotate_left
   ·intro w hSw;(try dsimp only at hSw);go_simp;(try with_reducible rfl)
   (try simp only [p0,p1,p2,p3,p4,p5,p6])
   refine wpAnyH_ready (rs:=[18]) (by kernel_rfl) (by simp) ?_
   refine AllReadyH.cons rfl (fun K hK=>?_) AllReadyH.nil
   go_simp
   refine (HALL.out _ (by repeat (first | assumption | exact Later.refl _ | refine Later.drew ?_ | refine Later.drewN ?_ _ | refine Later.alloc ?_ _ | refine Later.trans ?_ (by assumption)))).mono ?_;rintro e w2 ⟨rfl,hl2⟩
   refine hK.out _ _ ?_ (fun hHeld=>?_)
   ·exact HK.out _ (by repeat (first | assumption | exact Later.refl _ | refine Later.drew ?_ | refine Later.drewN ?_ _ | refine Later.alloc ?_ _ | refine Later.trans ?_ (by assumption)))
   clear hK K
   (try simp only [p0,p1,p2,p3,p4,p5,p6])
   refine tkT (i:=19) (v:=?_) ?_ hHeld ?_
   rotate_left
   ·intro w hSw;(try dsimp only at hSw);go_simp;(try with_reducible rfl)
   (try simp only [p0,p1,p2,p3,p4,p5,p6])
   refine tkT (i:=20) (v:=?_) ?_ hHeld ?_
   rotate_left
   ·intro w hSw;(try dsimp only at hSw);go_simp;(try with_reducible rfl)
   (try simp only [p0,p1,p2,p3,p4,p5,p6])
   refine tkU (i:=21) hHeld ?_
   (try simp only [p0,p1,p2,p3,p4,p5,p6])
   refine tkU (i:=22) hHeld ?_
   (try simp only [p0,p1,p2,p3,p4,p5,p6])
   refine tkU (i:=23) hHeld ?_
   (try simp only [p0,p1,p2,p3,p4,p5,p6])
   refine tkU (i:=24) hHeld ?_
   (try simp only [p0,p1,p2,p3,p4,p5,p6])
   refine tkU (i:=25) hHeld ?_
   (try simp only [p0,p1,p2,p3,p4,p5,p6])
   refine tkU (i:=26) hHeld ?_
   (try simp only [p0,p1,p2,p3,p4,p5,p6])
   refine tkU (i:=27) hHeld ?_
   (try simp only [p0,p1,p2,p3,p4,p5,p6])
   refine tkT (i:=28) (v:=?_) ?_ hHeld ?_
   rotate_left
   ·intro w hSw;(try dsimp only at hSw);go_simp;(try with_reducible rfl)
   (try simp only [p0,p1,p2,p3,p4,p5,p6])
   refine tkT (i:=29) (v:=?_) ?_ hHeld ?_
   rotate_left
   ·intro w hSw;(try dsimp only at hSw);go_simp;(try with_reducible rfl)
   (try simp only [p0,p1,p2,p3,p4,p5,p6])
   refine tkU (i:=30) hHeld ?_
   (try simp only [p0,p1,p2,p3,p4,p5,p6])
   refine tkU (i:=31) hHeld ?_
   (try simp only [p0,p1,p2,p3,p4,p5,p6])
   refine tkT (i:=32) (v:=?_) ?_ hHeld ?_
   rotate_left
   ·intro w hSw;(try dsimp only at hSw);go_simp;(try with_reducible rfl)
   (try simp only [p0,p1,p2,p3,p4,p5,p6])
   refine tkT (i:=33) (v:=?_) ?_ hHeld ?_
   rotate_left
   ·intro w hSw;(try dsimp only at hSw);go_simp;(try with_reducible rfl)
   (try simp only [p0,p1,p2,p3,p4,p5,p6])
   refine wpAnyH_done (by kernel_rfl) ?_ _
   go_wp2_with fail
   go_ret
   exact⟨ret_bool (by simp),(by repeat (first | assumption | exact Later.refl _ | refine Later.drew ?_ | refine Later.drewN ?_ _ | refine Later.alloc ?_ _ | refine Later.trans ?_ (by assumption)))⟩
  ·cases z
   ·go_enter Tryz.func103,Tryz.ntmps103
    go_upto_region 2 with (first
     | (go_at_call 126;(with_reducible refine HO.out.mono ?_);rintro e w1 ⟨rfl,hl1⟩;obtain ⟨j1,j2,j3⟩:=HK.out w1 hl1)
     | fail)
    refine wp_region_held_drew (S:=fun w'=>w'.cell? ⟨fb,13,none⟩=some (.slice a n cap)∧w'.cell? ⟨fb,14,none⟩=some (.string S)∧w'.cell? ⟨fb,0,none⟩=some (.int .i64 L)) (by kernel_rfl) (HK.out _ (by repeat (first | assumption | exact Later.refl _ | refine Later.drew ?_ | refine Later.drewN ?_ _ | refine Later.alloc ?_ _ | refine Later.trans ?_ (by assumption)))) (fun hHeld=>?_)
    refine tkT (i:=0) (v:=?_) ?_ hHeld ?_
    rotate_left
    ·intro w hSw;(try dsimp only at hSw);go_simp;(try with_reducible rfl)
    (try simp only [p0,p1,p2,p3,p4,p5,p6])
    refine tkT (i:=1) (v:=?_) ?_ hHeld ?_
    rotate_left
    ·intro w hSw;(try dsimp only at hSw);go_simp;(try with_reducible rfl)
    (try simp only [p0,p1,p2,p3,p4,p5,p6])
    refine tkT (i:=2) (v:=?_) ?_ hHeld ?_
    rotate_left
    ·intro w hSw;(try dsimp only at hSw);go_simp;(try with_reducible rfl)
    (try simp only [p0,p1,p2,p3,p4,p5,p6])
    refine tkT (i:=3) (v:=?_) ?_ hHeld ?_
    rotate_left
    ·intro w hSw;(try dsimp only at hSw);go_simp;(try with_reducible rfl)
    (try simp only [p0,p1,p2,p3,p4,p5,p6])
    refine tkT (i:=4) (v:=?_) ?_ hHeld ?_
    rotate_left
    ·intro w hSw;(try dsimp only at hSw);go_simp;(try with_reducible rfl)
    (try simp only [p0,p1,p2,p3,p4,p5,p6])
    refine tkT (i:=5) (v:=?_) ?_ hHeld ?_
    rotate_left
    ·intro w hSw;(try dsimp only at hSw);go_simp;(try with_reducible rfl)
    (try simp only [p0,p1,p2,p3,p4,p5,p6])
    refine tkT (i:=6) (v:=?_) ?_ hHeld ?_
    rotate_left
    ·intro w hSw;(try dsimp only at hSw);go_simp;(try with_reducible rfl)
    (try simp only [p0,p1,p2,p3,p4,p5,p6])
    refine tkT (i:=7) (v:=?_) ?_ hHeld ?_
    rotate_left
    ·intro w hSw;(try dsimp only at hSw);go_simp;(try with_reducible rfl)
    (try simp only [p0,p1,p2,p3,p4,p5,p6])
    refine tkT (i:=8) (v:=?_) ?_ hHeld ?_
    rotate_left
    ·intro w hSw;(try dsimp only at hSw);go_simp;(try with_reducible rfl)
    (try simp only [p0,p1,p2,p3,p4,p5,p6])
    refine tkT (i:=9) (v:=?_) ?_ hHeld ?_
    rotate_left
    ·intro w hSw;(try dsimp only at hSw);go_simp;(try with_reducible rfl)
    (try simp only [p0,p1,p2,p3,p4,p5,p6])
    refine tkT (i:=10) (v:=?_) ?_ hHeld ?_
    rotate_left
    ·intro w hSw;(try dsimp only at hSw);go_simp;(try with_reducible rfl)
    (try simp only [p0,p1,p2,p3,p4,p5,p6])
    refine tkT (i:=11) (v:=?_) ?_ hHeld ?_
    rotate_left
    ·intro w hSw;(try dsimp only at hSw);go_simp;(try with_reducible rfl)
    (try simp only [p0,p1,p2,p3,p4,p5,p6])
    refine tkT (i:=12) (v:=?_) ?_ hHeld ?_
    rotate_left
    ·intro w hSw;(try dsimp only at hSw);go_simp;(try with_reducible rfl)
    (try simp only [p0,p1,p2,p3,p4,p5,p6])
    refine tkT (i:=13) (v:=?_) ?_ hHeld ?_
    rotate_left
    ·intro w hSw;(try dsimp only at hSw);go_simp;(try with_reducible rfl)
    (try simp only [p0,p1,p2,p3,p4,p5,p6])
    refine tkT (i:=14) (v:=?_) ?_ hHeld ?_
    rotate_left
    ·intro w hSw;(try dsimp only at hSw);go_simp;(try with_reducible rfl)
    (try simp only [p0,p1,p2,p3,p4,p5,p6])
    refine tkT (i:=15) (v:=?_) ?_ hHeld ?_
    rotate_left
    ·intro w hSw;(try dsimp only at hSw);go_simp;(try with_reducible rfl)
    (try simp only [p0,p1,p2,p3,p4,p5,p6])
    refine tkT (i:=16) (v:=?_) ?_ hHeld ?_
    rotate_left
    ·intro w hSw;(try dsimp only at hSw);go_simp;(try with_reducible rfl)
    (try simp only [p0,p1,p2,p3,p4,p5,p6])
    refine tkT (i:=17) (v:=?_) ?_ hHeld ?_
    rotate_left
    ·intro w hSw;(try dsimp only at hSw);go_simp;(try with_reducible rfl)
    (try simp only [p0,p1,p2,p3,p4,p5,p6])
    refine wpAnyH_ready (rs:=[18]) (by kernel_rfl) (by simp) ?_
    refine AllReadyH.cons rfl (fun K hK=>?_) AllReadyH.nil
    go_simp
    refine (HALL.out _ (by repeat (first | assumption | exact Later.refl _ | refine Later.drew ?_ | refine Later.drewN ?_ _ | refine Later.alloc ?_ _ | refine Later.trans ?_ (by assumption)))).mono ?_;rintro e w2 ⟨rfl,hl2⟩
    refine hK.out _ _ ?_ (fun hHeld=>?_)
    ·exact HK.out _ (by repeat (first | assumption | exact Later.refl _ | refine Later.drew ?_ | refine Later.drewN ?_ _ | refine Later.alloc ?_ _ | refine Later.trans ?_ (by assumption)))
    clear hK K
    (try simp only [p0,p1,p2,p3,p4,p5,p6])
    refine tkT (i:=19) (v:=?_) ?_ hHeld ?_
    rotate_left
    ·intro w hSw;(try dsimp only at hSw);go_simp;(try with_reducible rfl)
    (try simp only [p0,p1,p2,p3,p4,p5,p6])
    refine tkT (i:=20) (v:=?_) ?_ hHeld ?_
    rotate_left
    ·intro w hSw;(try dsimp only at hSw);go_simp;(try with_reducible rfl)
    (try simp only [p0,p1,p2,p3,p4,p5,p6])
    refine tkT (i:=21) (v:=?_) ?_ hHeld ?_
    rotate_left
    ·intro w hSw;(try dsimp only at hSw);go_simp;(try with_reducible rfl)
    (try simp only [p0,p1,p2,p3,p4,p5,p6])
    refine tkT (i:=22) (v:=?_) ?_ hHeld ?_
    rotate_left
    ·intro w hSw;(try dsimp only at hSw);go_simp;(try with_reducible rfl)
    (try simp only [p0,p1,p2,p3,p4,p5,p6])
    refine tkT (i:=23) (v:=?_) ?_ hHeld ?_
    rotate_left
    ·intro w hSw;(try dsimp only at hSw);go_simp;(try with_reducible rfl)
    (try simp only [p0,p1,p2,p3,p4,p5,p6])
    refine tkT (i:=24) (v:=?_) ?_ hHeld ?_
    rotate_left
    ·intro w hSw;(try dsimp only at hSw);go_simp;(try with_reducible rfl)
    (try simp only [p0,p1,p2,p3,p4,p5,p6])
    refine tkT (i:=25) (v:=?_) ?_ hHeld ?_
    rotate_left
    ·intro w hSw;(try dsimp only at hSw);go_simp;(try with_reducible rfl)
    (try simp only [p0,p1,p2,p3,p4,p5,p6])
    refine tkT (i:=26) (v:=?_) ?_ hHeld ?_
    rotate_left
    ·intro w hSw;(try dsimp only at hSw);go_simp;(try with_reducible rfl)
    (try simp only [p0,p1,p2,p3,p4,p5,p6])
    refine wpAnyH_ready (rs:=[27]) (by kernel_rfl) (by simp) ?_
    refine AllReadyH.cons rfl (fun K hK=>?_) AllReadyH.nil
    go_simp
    refine (HIN.out _).mono ?_;rintro e w' ⟨rfl,rfl⟩
    refine hK.out _ _ ?_ (fun hHeld=>?_)
    ·exact HK.out _ (by repeat (first | assumption | exact Later.refl _ | refine Later.drew ?_ | refine Later.drewN ?_ _ | refine Later.alloc ?_ _ | refine Later.trans ?_ (by assumption)))
    clear hK K
    (try simp only [p0,p1,p2,p3,p4,p5,p6])
    refine tkT (i:=28) (v:=?_) ?_ hHeld ?_
    rotate_left
    ·intro w hSw;(try dsimp only at hSw);go_simp;(try with_reducible rfl)
    (try simp only [p0,p1,p2,p3,p4,p5,p6])
    refine tkT (i:=29) (v:=?_) ?_ hHeld ?_
    rotate_left
    ·intro w hSw;(try dsimp only at hSw);go_simp;(try with_reducible rfl)
    (try simp only [p0,p1,p2,p3,p4,p5,p6])
    refine tkU (i:=30) hHeld ?_
    (try simp only [p0,p1,p2,p3,p4,p5,p6])
    refine tkU (i:=31) hHeld ?_
    (try simp only [p0,p1,p2,p3,p4,p5,p6])
    refine tkT (i:=32) (v:=?_) ?_ hHeld ?_
    rotate_left
    ·intro w hSw;(try dsimp only at hSw);go_simp;(try with_reducible rfl)
    (try simp only [p0,p1,p2,p3,p4,p5,p6])
    refine tkT (i:=33) (v:=?_) ?_ hHeld ?_
    rotate_left
    ·intro w hSw;(try dsimp only at hSw);go_simp;(try with_reducible rfl)
    (try simp only [p0,p1,p2,p3,p4,p5,p6])
    refine wpAnyH_done (by kernel_rfl) ?_ _
    go_wp2_with fail
    go_ret
    exact⟨ret_bool (by simp),(by repeat (first | assumption | exact Later.refl _ | refine Later.drew ?_ | refine Later.drewN ?_ _ | refine Later.alloc ?_ _ | refine Later.trans ?_ (by assumption)))⟩
   ·go_enter Tryz.func103,Tryz.ntmps103
    go_upto_region 2 with (first
     | (go_at_call 126;(with_reducible refine HO.out.mono ?_);rintro e w1 ⟨rfl,hl1⟩;obtain ⟨j1,j2,j3⟩:=HK.out w1 hl1)
     | fail)
    refine wp_region_held_drew (S:=fun w'=>w'.cell? ⟨fb,13,none⟩=some (.slice a n cap)∧w'.cell? ⟨fb,14,none⟩=some (.string S)∧w'.cell? ⟨fb,0,none⟩=some (.int .i64 L)) (by kernel_rfl) (HK.out _ (by repeat (first | assumption | exact Later.refl _ | refine Later.drew ?_ | refine Later.drewN ?_ _ | refine Later.alloc ?_ _ | refine Later.trans ?_ (by assumption)))) (fun hHeld=>?_)
    refine tkT (i:=0) (v:=?_) ?_ hHeld ?_
    rotate_left
    ·intro w hSw;(try dsimp only at hSw);go_simp;(try with_reducible rfl)
    (try simp only [p0,p1,p2,p3,p4,p5,p6])
    refine tkT (i:=1) (v:=?_) ?_ hHeld ?_
    rotate_left
    ·intro w hSw;(try dsimp only at hSw);go_simp;(try with_reducible rfl)
    (try simp only [p0,p1,p2,p3,p4,p5,p6])
    refine tkT (i:=2) (v:=?_) ?_ hHeld ?_
    rotate_left
    ·intro w hSw;(try dsimp only at hSw);go_simp;(try with_reducible rfl)
    (try simp only [p0,p1,p2,p3,p4,p5,p6])
    refine tkT (i:=3) (v:=?_) ?_ hHeld ?_
    rotate_left
    ·intro w hSw;(try dsimp only at hSw);go_simp;(try with_reducible rfl)
    (try simp only [p0,p1,p2,p3,p4,p5,p6])
    refine tkT (i:=4) (v:=?_) ?_ hHeld ?_
    rotate_left
    ·intro w hSw;(try dsimp only at hSw);go_simp;(try with_reducible rfl)
    (try simp only [p0,p1,p2,p3,p4,p5,p6])
    refine tkT (i:=5) (v:=?_) ?_ hHeld ?_
    rotate_left
    ·intro w hSw;(try dsimp only at hSw);go_simp;(try with_reducible rfl)
    (try simp only [p0,p1,p2,p3,p4,p5,p6])
    refine tkT (i:=6) (v:=?_) ?_ hHeld ?_
    rotate_left
    ·intro w hSw;(try dsimp only at hSw);go_simp;(try with_reducible rfl)
    (try simp only [p0,p1,p2,p3,p4,p5,p6])
    refine tkT (i:=7) (v:=?_) ?_ hHeld ?_
    rotate_left
    ·intro w hSw;(try dsimp only at hSw);go_simp;(try with_reducible rfl)
    (try simp only [p0,p1,p2,p3,p4,p5,p6])
    refine tkT (i:=8) (v:=?_) ?_ hHeld ?_
    rotate_left
    ·intro w hSw;(try dsimp only at hSw);go_simp;(try with_reducible rfl)
    (try simp only [p0,p1,p2,p3,p4,p5,p6])
    refine tkT (i:=9) (v:=?_) ?_ hHeld ?_
    rotate_left
    ·intro w hSw;(try dsimp only at hSw);go_simp;(try with_reducible rfl)
    (try simp only [p0,p1,p2,p3,p4,p5,p6])
    refine tkT (i:=10) (v:=?_) ?_ hHeld ?_
    rotate_left
    ·intro w hSw;(try dsimp only at hSw);go_simp;(try with_reducible rfl)
    (try simp only [p0,p1,p2,p3,p4,p5,p6])
    refine tkT (i:=11) (v:=?_) ?_ hHeld ?_
    rotate_left
    ·intro w hSw;(try dsimp only at hSw);go_simp;(try with_reducible rfl)
    (try simp only [p0,p1,p2,p3,p4,p5,p6])
    refine tkT (i:=12) (v:=?_) ?_ hHeld ?_
    rotate_left
    ·intro w hSw;(try dsimp only at hSw);go_simp;(try with_reducible rfl)
    (try simp only [p0,p1,p2,p3,p4,p5,p6])
    refine tkT (i:=13) (v:=?_) ?_ hHeld ?_
    rotate_left
    ·intro w hSw;(try dsimp only at hSw);go_simp;(try with_reducible rfl)
    (try simp only [p0,p1,p2,p3,p4,p5,p6])
    refine tkT (i:=14) (v:=?_) ?_ hHeld ?_
    rotate_left
    ·intro w hSw;(try dsimp only at hSw);go_simp;(try with_reducible rfl)
    (try simp only [p0,p1,p2,p3,p4,p5,p6])
    refine tkT (i:=15) (v:=?_) ?_ hHeld ?_
    rotate_left
    ·intro w hSw;(try dsimp only at hSw);go_simp;(try with_reducible rfl)
    (try simp only [p0,p1,p2,p3,p4,p5,p6])
    refine tkT (i:=16) (v:=?_) ?_ hHeld ?_
    rotate_left
    ·intro w hSw;(try dsimp only at hSw);go_simp;(try with_reducible rfl)
    (try simp only [p0,p1,p2,p3,p4,p5,p6])
    refine tkT (i:=17) (v:=?_) ?_ hHeld ?_
    rotate_left
    ·intro w hSw;(try dsimp only at hSw);go_simp;(try with_reducible rfl)
    (try simp only [p0,p1,p2,p3,p4,p5,p6])
    refine wpAnyH_ready (rs:=[18]) (by kernel_rfl) (by simp) ?_
    refine AllReadyH.cons rfl (fun K hK=>?_) AllReadyH.nil
    go_simp
    refine (HALL.out _ (by repeat (first | assumption | exact Later.refl _ | refine Later.drew ?_ | refine Later.drewN ?_ _ | refine Later.alloc ?_ _ | refine Later.trans ?_ (by assumption)))).mono ?_;rintro e w2 ⟨rfl,hl2⟩
    refine hK.out _ _ ?_ (fun hHeld=>?_)
    ·exact HK.out _ (by repeat (first | assumption | exact Later.refl _ | refine Later.drew ?_ | refine Later.drewN ?_ _ | refine Later.alloc ?_ _ | refine Later.trans ?_ (by assumption)))
    clear hK K
    (try simp only [p0,p1,p2,p3,p4,p5,p6])
    refine tkT (i:=19) (v:=?_) ?_ hHeld ?_
    rotate_left
    ·intro w hSw;(try dsimp only at hSw);go_simp;(try with_reducible rfl)
    (try simp only [p0,p1,p2,p3,p4,p5,p6])
    refine tkT (i:=20) (v:=?_) ?_ hHeld ?_
    rotate_left
    ·intro w hSw;(try dsimp only at hSw);go_simp;(try with_reducible rfl)
    (try simp only [p0,p1,p2,p3,p4,p5,p6])
    refine tkT (i:=21) (v:=?_) ?_ hHeld ?_
    rotate_left
    ·intro w hSw;(try dsimp only at hSw);go_simp;(try with_reducible rfl)
    (try simp only [p0,p1,p2,p3,p4,p5,p6])
    refine tkT (i:=22) (v:=?_) ?_ hHeld ?_
    rotate_left
    ·intro w hSw;(try dsimp only at hSw);go_simp;(try with_reducible rfl)
    (try simp only [p0,p1,p2,p3,p4,p5,p6])
    refine tkT (i:=23) (v:=?_) ?_ hHeld ?_
    rotate_left
    ·intro w hSw;(try dsimp only at hSw);go_simp;(try with_reducible rfl)
    (try simp only [p0,p1,p2,p3,p4,p5,p6])
    refine tkT (i:=24) (v:=?_) ?_ hHeld ?_
    rotate_left
    ·intro w hSw;(try dsimp only at hSw);go_simp;(try with_reducible rfl)
    (try simp only [p0,p1,p2,p3,p4,p5,p6])
    refine tkT (i:=25) (v:=?_) ?_ hHeld ?_
    rotate_left
    ·intro w hSw;(try dsimp only at hSw);go_simp;(try with_reducible rfl)
    (try simp only [p0,p1,p2,p3,p4,p5,p6])
    refine tkT (i:=26) (v:=?_) ?_ hHeld ?_
    rotate_left
    ·intro w hSw;(try dsimp only at hSw);go_simp;(try with_reducible rfl)
    (try simp only [p0,p1,p2,p3,p4,p5,p6])
    refine wpAnyH_ready (rs:=[27]) (by kernel_rfl) (by simp) ?_
    refine AllReadyH.cons rfl (fun K hK=>?_) AllReadyH.nil
    go_simp
    refine (HIN.out _).mono ?_;rintro e w' ⟨rfl,rfl⟩
    refine hK.out _ _ ?_ (fun hHeld=>?_)
    ·exact HK.out _ (by repeat (first | assumption | exact Later.refl _ | refine Later.drew ?_ | refine Later.drewN ?_ _ | refine Later.alloc ?_ _ | refine Later.trans ?_ (by assumption)))
    clear hK K
    (try simp only [p0,p1,p2,p3,p4,p5,p6])
    refine tkT (i:=28) (v:=?_) ?_ hHeld ?_
    rotate_left
    ·intro w hSw;(try dsimp only at hSw);go_simp;(try with_reducible rfl)
    (try simp only [p0,p1,p2,p3,p4,p5,p6])
    refine tkT (i:=29) (v:=?_) ?_ hHeld ?_
    rotate_left
    ·intro w hSw;(try dsimp only at hSw);go_simp;(try with_reducible rfl)
    (try simp only [p0,p1,p2,p3,p4,p5,p6])
    refine tkT (i:=30) (v:=?_) ?_ hHeld ?_
    rotate_left
    ·intro w hSw;(try dsimp only at hSw);go_simp;(try with_reducible rfl)
    (try simp only [p0,p1,p2,p3,p4,p5,p6])
    refine tkT (i:=31) (v:=?_) ?_ hHeld ?_
    rotate_left
    ·intro w hSw;(try dsimp only at hSw);go_simp;(try with_reducible rfl)
    (try simp only [p0,p1,p2,p3,p4,p5,p6])
    refine tkT (i:=32) (v:=?_) ?_ hHeld ?_
    rotate_left
    ·intro w hSw;(try dsimp only at hSw);go_simp;(try with_reducible rfl)
    (try simp only [p0,p1,p2,p3,p4,p5,p6])
    refine tkT (i:=33) (v:=?_) ?_ hHeld ?_
    rotate_left
    ·intro w hSw;(try dsimp only at hSw);go_simp;(try with_reducible rfl)
    (try simp only [p0,p1,p2,p3,p4,p5,p6])
    refine wpAnyH_done (by kernel_rfl) ?_ _
    go_wp2_with fail
    go_ret
    exact⟨ret_bool (by simp),(by repeat (first | assumption | exact Later.refl _ | refine Later.drew ?_ | refine Later.drewN ?_ _ | refine Later.alloc ?_ _ | refine Later.trans ?_ (by assumption)))⟩
 ·have hd:((n:Int)==L)=false:=by simpa using hnl
  rw [decide_eq_false hnl]
  clear hnl
  go_enter Tryz.func103,Tryz.ntmps103
  go_upto_region 2 with (first
   | (go_at_call 126;(with_reducible refine HO.out.mono ?_);rintro e w1 ⟨rfl,hl1⟩;obtain ⟨j1,j2,j3⟩:=HK.out w1 hl1)
   | fail)
  refine wp_region_held_drew (S:=fun w'=>w'.cell? ⟨fb,13,none⟩=some (.slice a n cap)∧w'.cell? ⟨fb,14,none⟩=some (.string S)∧w'.cell? ⟨fb,0,none⟩=some (.int .i64 L)) (by kernel_rfl) (HK.out _ (by repeat (first | assumption | exact Later.refl _ | refine Later.drew ?_ | refine Later.drewN ?_ _ | refine Later.alloc ?_ _ | refine Later.trans ?_ (by assumption)))) (fun hHeld=>?_)
  refine tkT (i:=0) (v:=?_) ?_ hHeld ?_
  rotate_left
  ·intro w hSw;(try dsimp only at hSw);go_simp;(try with_reducible rfl)
  (try simp only [p0,p1,p2,p3,p4,p5,p6])
  refine tkT (i:=1) (v:=?_) ?_ hHeld ?_
  rotate_left
  ·intro w hSw;(try dsimp only at hSw);go_simp;(try with_reducible rfl)
  (try simp only [p0,p1,p2,p3,p4,p5,p6])
  refine tkT (i:=2) (v:=?_) ?_ hHeld ?_
  rotate_left
  ·intro w hSw;(try dsimp only at hSw);go_simp;(try with_reducible rfl)
  (try simp only [p0,p1,p2,p3,p4,p5,p6])
  refine tkT (i:=3) (v:=?_) ?_ hHeld ?_
  rotate_left
  ·intro w hSw;(try dsimp only at hSw);go_simp;(try with_reducible rfl)
  (try simp only [p0,p1,p2,p3,p4,p5,p6])
  refine tkT (i:=4) (v:=?_) ?_ hHeld ?_
  rotate_left
  ·intro w hSw;(try dsimp only at hSw);go_simp;(try with_reducible rfl)
  (try simp only [p0,p1,p2,p3,p4,p5,p6])
  refine tkT (i:=5) (v:=?_) ?_ hHeld ?_
  rotate_left
  ·intro w hSw;(try dsimp only at hSw);go_simp;(try with_reducible rfl)
  (try simp only [p0,p1,p2,p3,p4,p5,p6])
  refine tkT (i:=6) (v:=?_) ?_ hHeld ?_
  rotate_left
  ·intro w hSw;(try dsimp only at hSw);go_simp;(try with_reducible rfl)
  (try simp only [p0,p1,p2,p3,p4,p5,p6])
  refine tkT (i:=7) (v:=?_) ?_ hHeld ?_
  rotate_left
  ·intro w hSw;(try dsimp only at hSw);go_simp;(try with_reducible rfl)
  (try simp only [p0,p1,p2,p3,p4,p5,p6])
  refine tkT (i:=8) (v:=?_) ?_ hHeld ?_
  rotate_left
  ·intro w hSw;(try dsimp only at hSw);go_simp;(try with_reducible rfl)
  (try simp only [p0,p1,p2,p3,p4,p5,p6])
  refine tkT (i:=9) (v:=?_) ?_ hHeld ?_
  rotate_left
  ·intro w hSw;(try dsimp only at hSw);go_simp;(try with_reducible rfl)
  (try simp only [p0,p1,p2,p3,p4,p5,p6])
  refine tkT (i:=10) (v:=?_) ?_ hHeld ?_
  rotate_left
  ·intro w hSw;(try dsimp only at hSw);go_simp;(try with_reducible rfl)
  (try simp only [p0,p1,p2,p3,p4,p5,p6])
  refine tkT (i:=11) (v:=?_) ?_ hHeld ?_
  rotate_left
  ·intro w hSw;(try dsimp only at hSw);go_simp;(try with_reducible rfl)
  (try simp only [p0,p1,p2,p3,p4,p5,p6])
  refine tkT (i:=12) (v:=?_) ?_ hHeld ?_
  rotate_left
  ·intro w hSw;(try dsimp only at hSw);go_simp;(try with_reducible rfl)
  (try simp only [p0,p1,p2,p3,p4,p5,p6])
  refine tkU (i:=13) hHeld ?_
  (try simp only [p0,p1,p2,p3,p4,p5,p6])
  refine tkU (i:=14) hHeld ?_
  (try simp only [p0,p1,p2,p3,p4,p5,p6])
  refine tkU (i:=15) hHeld ?_
  (try simp only [p0,p1,p2,p3,p4,p5,p6])
  refine tkU (i:=16) hHeld ?_
  (try simp only [p0,p1,p2,p3,p4,p5,p6])
  refine tkU (i:=17) hHeld ?_
  (try simp only [p0,p1,p2,p3,p4,p5,p6])
  refine tkU (i:=18) hHeld ?_
  (try simp only [p0,p1,p2,p3,p4,p5,p6])
  refine tkT (i:=19) (v:=?_) ?_ hHeld ?_
  rotate_left
  ·intro w hSw;(try dsimp only at hSw);go_simp;(try with_reducible rfl)
  (try simp only [p0,p1,p2,p3,p4,p5,p6])
  refine tkT (i:=20) (v:=?_) ?_ hHeld ?_
  rotate_left
  ·intro w hSw;(try dsimp only at hSw);go_simp;(try with_reducible rfl)
  (try simp only [p0,p1,p2,p3,p4,p5,p6])
  refine tkU (i:=21) hHeld ?_
  (try simp only [p0,p1,p2,p3,p4,p5,p6])
  refine tkU (i:=22) hHeld ?_
  (try simp only [p0,p1,p2,p3,p4,p5,p6])
  refine tkU (i:=23) hHeld ?_
  (try simp only [p0,p1,p2,p3,p4,p5,p6])
  refine tkU (i:=24) hHeld ?_
  (try simp only [p0,p1,p2,p3,p4,p5,p6])
  refine tkU (i:=25) hHeld ?_
  (try simp only [p0,p1,p2,p3,p4,p5,p6])
  refine tkU (i:=26) hHeld ?_
  (try simp only [p0,p1,p2,p3,p4,p5,p6])
  refine tkU (i:=27) hHeld ?_
  (try simp only [p0,p1,p2,p3,p4,p5,p6])
  refine tkT (i:=28) (v:=?_) ?_ hHeld ?_
  rotate_left
  ·intro w hSw;(try dsimp only at hSw);go_simp;(try with_reducible rfl)
  (try simp only [p0,p1,p2,p3,p4,p5,p6])
  refine tkT (i:=29) (v:=?_) ?_ hHeld ?_
  rotate_left
  ·intro w hSw;(try dsimp only at hSw);go_simp;(try with_reducible rfl)
  (try simp only [p0,p1,p2,p3,p4,p5,p6])
  refine tkU (i:=30) hHeld ?_
  (try simp only [p0,p1,p2,p3,p4,p5,p6])
  refine tkU (i:=31) hHeld ?_
  (try simp only [p0,p1,p2,p3,p4,p5,p6])
  refine tkT (i:=32) (v:=?_) ?_ hHeld ?_
  rotate_left
  ·intro w hSw;(try dsimp only at hSw);go_simp;(try with_reducible rfl)
  (try simp only [p0,p1,p2,p3,p4,p5,p6])
  refine tkT (i:=33) (v:=?_) ?_ hHeld ?_
  rotate_left
  ·intro w hSw;(try dsimp only at hSw);go_simp;(try with_reducible rfl)
  (try simp only [p0,p1,p2,p3,p4,p5,p6])
  refine wpAnyH_done (by kernel_rfl) ?_ _
  go_wp2_with fail
  go_ret
  exact⟨ret_bool (by simp),(by repeat (first | assumption | exact Later.refl _ | refine Later.drew ?_ | refine Later.drewN ?_ _ | refine Later.alloc ?_ _ | refine Later.trans ?_ (by assumption)))⟩
end Go.Proofs.YtbchkjfnakabkaaGreatDoor
