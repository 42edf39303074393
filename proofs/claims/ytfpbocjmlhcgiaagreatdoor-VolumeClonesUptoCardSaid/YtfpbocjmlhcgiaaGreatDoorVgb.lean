/- Vgb, merged: VM28 VM29 VM30. -/
import Derived.Test.YtfpbocjmlhcgiaaGreatDoorVg8
import Derived.Test.YtfpbocjmlhcgiaaGreatDoorVg4
import Derived.RangeFuncNested
import Derived.RangeFuncBound
import Derived.RangeFuncCalls
import Derived.RangeFuncLeaves
import Derived.Shelf.Abstract
import Derived.Shelf.RegionOpen
import Derived.WalkKit
import Derived.OwnWalkIn
import Derived.TacticsInMore
import Derived.LoopNIn
import Derived.LoopIn
import Derived.Stop.RegionWithIn
import Derived.Test.YtfpbocjmlhcgiaaGreatDoorVg9
import Derived.Test.YtfpbocjmlhcgiaaGreatDoorVgj
set_option linter.unusedSimpArgs false
set_option linter.unusedVariables false
/- The volume's iterator over what is in a directory. -/
namespace Go.Proofs.YtfpbocjmlhcgiaaGreatDoor
open Go.RowKit PJ Go.Maps Go.WideMaps Go.Shelf
attribute [local go_sem] Oper.semAt_some

/-- What a round keeps: the iterator's box, and all entries. -/
def KpS (q2 : Nat) (W W' : World) : Prop := (∀ (cs : Array Value) (T : TypeId) (fr : Nat × Nat), W.heap[q2]? = some (Obj.cells cs T fr) → W'.heap[q2]? = some (Obj.cells cs T fr)) ∧ (∀ (q : Nat) (cs : Array Value) (fr : Nat × Nat), W.heap[q]? = some (Obj.cells cs 74 fr) → W'.heap[q]? = some (Obj.cells cs 74 fr)) ∧ W.heap.size ≤ W'.heap.size
theorem KpS.trans {q2 : Nat} {A B C : World} (h : KpS q2 A B) (k : KpS q2 B C) : KpS q2 A C := ⟨fun cs T fr e => k.1 cs T fr (h.1 cs T fr e), fun q cs fr e => k.2.1 q cs fr (h.2.1 q cs fr e), Nat.le_trans h.2.2 k.2.2⟩
theorem KpS.of {q2 : Nat} {A B : World} (h : LJ A B) : KpS q2 A B := ⟨fun cs T fr e => h.block e, fun q cs fr e => h.block e, Below.size h⟩
theorem KpS.put {q2 : Nat} (W : World) (l : Nat) (o o' : Obj) (h : W.heap[l]? = some o) (hc : o.isCells = false) : KpS q2 W (W.putObj l o') := by
  have key : ∀ (q : Nat) (cs : Array Value) (T : TypeId) (fr : Nat × Nat), W.heap[q]? = some (Obj.cells cs T fr) → (W.putObj l o').heap[q]? = some (Obj.cells cs T fr) := by
    intro q cs T fr e
    by_cases hq : q = l
    · subst hq
      rw [h] at e
      cases e
      cases hc
    · exact (World.putObj_heap_other hq).trans e
  exact ⟨key q2, fun q cs fr => key q cs _ fr, by simp⟩
theorem KpS.row {q2 : Nat} {W W' : World} (h : KpS q2 W W') {B s n : Nat} {v : Value} {xs : List Value} (ho : W.ownsRow B 74 s v n xs) : W'.ownsRow B 74 s v n xs := by
  rcases ho with ⟨h0, ho | ⟨g, cap, cur, e, hb, hg, hr⟩⟩
  · exact ⟨h0, .inl ho⟩
  · exact ⟨h0, .inr ⟨g, cap, cur, e, hb, h.2.1 _ _ _ hg, hr⟩⟩
theorem kids_succ {l : List Ent} {i : Nat} {x : Ent} (hx : l[i]? = some x) (p : List UInt8) : kidsE (l.take (i + 1)) p = kidsE (l.take i) p ++ if upP x.p = p then [x] else [] := by
  unfold kidsE
  rw [List.take_add_one, hx, List.filter_append]
  congr 1
  by_cases h : upP x.p = p
  · rw [if_pos h]; simp [h]
  · rw [if_neg h]; simp [h]
theorem kids_len (l : List Ent) (i : Nat) (p : List UInt8) : (kidsE (l.take i) p).length ≤ i := by
  have h := List.length_filter_le (fun y : Ent => upP y.p == p) (l.take i)
  rw [List.length_take] at h
  unfold kidsE
  omega
theorem kids_pre (l : List Ent) (i : Nat) (p : List UInt8) : kidsE (l.take i) p <+: kidsE l p := by
  unfold kidsE
  have h : l = l.take i ++ l.drop i := (List.take_append_drop i l).symm
  conv => rhs; rw [h, List.filter_append]
  exact List.prefix_append _ _
set_option maxRecDepth 100000 in
set_option maxHeartbeats 8000000 in
theorem vin1_in (n : Nat) (hn3 : 3 ≤ n) (L q1 q2 vb jb mb : Nat) (l : List Ent) (S : ByteArray) (hi : VInv l) (hl : l.length ≤ 800) (J Jx : List Ent → World → Prop)
    (hJa : ∀ s A B, J s A → LJ A B → J s B)
    (W : World)
    (hY : ∀ pre x W1, J pre W1 → pre.length < l.length → x ∈ l → YieldAt Fence.wide (n - 1) Tryz.prog L #[x.val] W1 fun e W' => (e = .returned (.bool true) ∧ J (pre ++ [x]) W' ∧ KpS q2 W1 W') ∨ (e = .returned (.bool false) ∧ Jx (pre ++ [x]) W'))
    (h1 : W.cell? ⟨q1, 0, none⟩ = some (.pointer (some ⟨vb, 0, none⟩))) (h2 : W.heap[q2]? = some (.cells #[.string S] 9 (0, 0))) (hv : VC W vb jb mb l) (h0 : J [] W) :
    CallsIn Fence.wide n Tryz.prog 159 #[.func (.yield L) #[] #[], .pointer (some ⟨q1, 0, none⟩), .pointer (some ⟨q2, 0, none⟩)] W fun e W' => (∃ v, e = .returned v) ∧
      ((∃ ys, ys = kidsE l S.data.toList ∧ J ys W') ∨ (∃ pre, pre <+: kidsE l S.data.toList ∧ Jx pre W')) := by
  have c1 : W.cell? ⟨vb, 1, none⟩ = some (.map (some mb)) := cell_blk hv.blk 1
  have HHI := Lib.hid hi
  have HJA := Lib.hid hJa
  have HY := Lib.hid hY
  have HB2 := Lib.hid h2
  obtain ⟨m, hm⟩ : ∃ m, l.length = m := ⟨_, rfl⟩
  have hm800 : m ≤ 800 := by omega
  have HM := Lib.hid hm
  have HSR := Lib.hid (show Calls Tryz.prog 88 #[.map (some mb)] W fun e w' => ∃ a cap, e = .returned (.slice a m cap) ∧ w'.ownsRow W.heap.size 74 3 (.slice a m cap) m (entsC l) ∧ LJ W w' from by
    refine (vsorted_any W mb l hv.map (by omega) (fun x hx => by have := (hi.two x hx).2; omega)).mono ?_
    rintro e w' ⟨v, rfl, h2, h3⟩
    rw [hm] at h2
    rcases h2.2 with ⟨e1, e2⟩ | ⟨g, cap, cur, e1, _⟩
    · exact ⟨none, 0, by rw [e1, e2], by rw [e1] at h2; rw [e2] at h2 ⊢; exact h2, h3⟩
    · exact ⟨some ⟨g, 0, none⟩, cap, by rw [e1], by rw [e1] at h2; exact h2, h3⟩)
  have HJ0 := Lib.hid h0
  obtain ⟨sp, hsp⟩ : ∃ x, S.data.toList = x := ⟨_, rfl⟩
  rw [hsp]
  have HSP := Lib.hid hsp
  clear hi hl hJa hY hv hm h0 hsp
  refine callsIn_of_wp Tryz.func159 rfl trivial ?_ rfl
  simp only [Tryz.ntmps159, List.size_toArray, List.length_cons, List.length_nil, Nat.reduceAdd, Nat.reduceSub, Array.replicate_succ, Array.replicate_zero, List.push_toArray, List.append_toArray, List.nil_append, List.cons_append]
  gi_wp2_with (first
    | (refine ⟨trivial, fun _ => by omega, ?_⟩; gi_at_call 88; refine (callsIn_wide.2 HSR.out).mono ?_; rintro e w2 ⟨ak, ck, rfl, hown2, hl2⟩; have HO2 := Lib.hid hown2; have HL2 := Lib.hid hl2; clear hown2 hl2)
    | fail)
  have HJ2 := Lib.hid (HJA.out _ _ _ HJ0.out HL2.out)
  have HB22 := Lib.hid (HL2.out.block HB2.out)
  gi_loopw [12] (fun v12 wr => ∃ i : Nat, i ≤ m ∧ v12 = .int .i64 (i : Int) ∧ Hid (J (kidsE (l.take i) sp) wr) ∧ Hid (wr.ownsRow W.heap.size 74 3 (.slice ak m ck) m (entsC l)) ∧ Hid (wr.heap[q2]? = some (.cells #[.string S] 9 (0, 0)))) (fun v12 _ => m - (intOf v12).toNat)
  case atStart => exact ⟨0, by omega, rfl, Lib.hid (by rw [List.take_zero]; exact HJ2.out), HO2, HB22⟩
  case round =>
    obtain ⟨i, him, rfl, HJ, HR, HQ2⟩ := hrel
    by_cases hlt : i < m
    · have hii : (i : Int) < (m : Int) := by omega
      obtain ⟨gk, ck', hf, hgk, hgl⟩ := HR.out.form (by omega)
      have hf1 : ak = some ⟨gk, 0, none⟩ := by injection hf
      subst hf1
      obtain ⟨x, hx⟩ : ∃ x, l[i]? = some x := ⟨_, List.getElem?_eq_getElem (by have := HM.out; omega)⟩
      have hxm := List.mem_of_getElem? hx
      obtain ⟨hx1, hx2⟩ := HHI.out.two x hxm
      obtain ⟨P, hP⟩ : ∃ P : ByteArray, (⟨x.p.toArray⟩ : ByteArray) = P := ⟨_, rfl⟩
      obtain ⟨D, hD⟩ : ∃ S : ByteArray, (⟨x.s.toArray⟩ : ByteArray) = S := ⟨_, rfl⟩
      have hPd : P.data.toList = x.p := by rw [← hP]
      have hPs : P.size = x.p.length := by rw [← hP]; show x.p.toArray.size = _; rw [List.size_toArray]
      have hval : x.val = .agg #[.string P, .bool x.d, .string D] := by rw [← hP, ← hD]; rfl
      obtain ⟨e0, e1, e2⟩ := entsC_get hx
      rw [hP] at e0
      rw [hD] at e2
      have c0 : wr.cell? ⟨gk, i * 3, none⟩ = some (.string P) := by
        have h1 := HR.out.cells (g := gk) rfl (i * 3) _ e0
        rw [addr_none, Nat.zero_add] at h1
        exact h1
      have c1 : wr.cell? ⟨gk, i * 3 + 1, none⟩ = some (.bool x.d) := by
        have h1 := HR.out.cells (g := gk) rfl (i * 3 + 1) _ e1
        rw [addr_none, Nat.zero_add] at h1
        exact h1
      have c2 : wr.cell? ⟨gk, i * 3 + 2, none⟩ = some (.string D) := by
        have h1 := HR.out.cells (g := gk) rfl (i * 3 + 2) _ e2
        rw [addr_none, Nat.zero_add] at h1
        exact h1
      obtain ⟨b, hb⟩ : ∃ b, x.d = b := ⟨_, rfl⟩
      rw [hb] at c1 hval
      obtain ⟨UP, hUP⟩ : ∃ B : ByteArray, (⟨(upP x.p).toArray⟩ : ByteArray) = B := ⟨_, rfl⟩
      have hUl : UP.toList = upP x.p := by rw [ByteArray.toList_eq, ← hUP]
      have hSl : S.toList = sp := by rw [ByteArray.toList_eq, HSP.out]
      have HUP := Lib.hid (fun W => show Calls Tryz.prog 89 #[.string P] W fun e w' => e = .returned (.string UP) ∧ w' = W from by
        have h1 := vparent_any W P (by omega) (by omega)
        rw [hPd, hUP] at h1
        exact h1)
      obtain ⟨w5, hw5⟩ : ∃ w5, wr.alloc (.cells #[.string P, .bool b, .string D] 74) = w5 := ⟨_, rfl⟩
      obtain ⟨q, hq⟩ : ∃ q, wr.heap.size = q := ⟨_, rfl⟩
      have HB5 := Lib.hid (show w5.heap[q]? = some (.cells #[.string P, .bool b, .string D] 74 (0, 0)) from by rw [← hw5, ← hq]; exact alloc_blk wr _)
      have HL5 := Lib.hid (show LJ wr w5 from by rw [← hw5]; exact (LJ.refl wr).alloc _)
      have hll : (kidsE (l.take i) sp).length < l.length := by have h1 := kids_len l i sp; have h2 := HM.out; omega
      have HY5 := Lib.hid (HY.out _ x w5.drew (HJA.out _ _ _ HJ.out HL5.out.drew) hll (List.mem_of_getElem? hx))
      rw [hval] at HY5
      have HSC := Lib.hid (kids_succ hx sp)
      have HRL := Lib.hid (own_below HR.out HL5.out.drew)
      have HQ5 := Lib.hid (HL5.out.block HQ2.out)
      have HJ5 := Lib.hid (HJA.out _ _ _ HJ.out HL5.out.drew)
      obtain ⟨up, hup⟩ : ∃ u, upP x.p = u := ⟨_, rfl⟩
      rw [hup] at hUl HSC
      have hq2q : q2 < q := by rw [← hq]; exact lt_blk HQ2.out
      have l0 : w5.drew.cell? ⟨q, 0, none⟩ = some (.string P) := cell_blk HB5.out 0
      have l1 : w5.drew.cell? ⟨q, 1, none⟩ = some (.bool b) := cell_blk HB5.out 1
      have l2 : w5.drew.cell? ⟨q, 2, none⟩ = some (.string D) := cell_blk HB5.out 2
      have s0 : w5.drew.cell? ⟨q2, 0, none⟩ = some (.string S) := cell_blk HQ5.out 0
      have HW5 := Lib.hid hw5
      clear hx hxm hx1 hx2 hP hD hPd hPs hval e0 e1 e2 hb hUP hf hgk hgl hll hup hw5
      by_cases hu : up = sp
      · have HSC := Lib.hid (show kidsE (l.take (i + 1)) sp = kidsE (l.take i) sp ++ [x] from by rw [HSC.out, if_pos hu])
        have HPRE := show Hid (∀ z, z = kidsE (l.take i) sp ++ [x] → z <+: kidsE l sp) from Lib.hid (fun z hz => by rw [hz, ← HSC.out]; exact kids_pre l (i + 1) sp)
        subst hu
        obtain ⟨fn, tmps, assign, body, hy, hR⟩ := HY5.out
        gi_wp2_with fail
        rw [HW5.out]
        refine wpIn_region_any (by kernel_rfl) ?_
        change wpAnyIn _ _ _ _ _ _ _ _ _ w5.drew
        obtain ⟨wd, hwd⟩ : ∃ wd, w5.drew = wd := ⟨_, rfl⟩
        rw [hwd] at l0 l1 l2 s0 hy hR HRL ⊢
        have HQ5 := Lib.hid (show wd.heap[q2]? = some (.cells #[.string S] 9 (0, 0)) from by rw [← hwd]; exact HQ5.out)
        refine wpAnyIn_take (i := 0) (v := ?_) rfl rfl (by kernel_rfl) (by kernel_rfl) (by kernel_rfl) (fun _ _ _ h => h) ⟨Or.inl ⟨by rfl, by intro w; go_simp; (try with_reducible rfl)⟩, fun _ => rfl⟩ ?_
        refine wpAnyIn_ready (rs := [1, 3]) (by kernel_rfl) (by simp) ?_
        refine AllReadyIn.cons rfl (fun K hK => ?_) (AllReadyIn.cons rfl (fun K hK => ?_) AllReadyIn.nil)
        · go_simp
          refine hK _ _ ?_
          clear hK K
          refine wpAnyIn_ready (rs := [2, 3]) (by kernel_rfl) (by simp) ?_
          refine AllReadyIn.cons rfl (fun K hK => ?_) (AllReadyIn.cons rfl (fun K hK => ?_) AllReadyIn.nil)
          · go_simp
            refine ⟨trivial, fun _ => by omega, ?_⟩
            refine (callsIn_wide.2 (HUP.out _)).mono ?_
            rintro e w6 ⟨rfl, hw6⟩
            subst hw6
            dsimp only
            refine hK _ _ ?_
            clear hK K
            refine wpAnyIn_ready (rs := [3]) (by kernel_rfl) (by simp) ?_
            refine AllReadyIn.cons rfl (fun K hK => ?_) AllReadyIn.nil
            go_simp
            refine hK _ _ ?_
            clear hK K
            refine wpAnyIn_ready (rs := [4]) (by kernel_rfl) (by simp) ?_
            refine AllReadyIn.cons rfl (fun K hK => ?_) AllReadyIn.nil
            go_simp
            refine hK _ _ ?_
            clear hK K
            refine wpAnyIn_ready (rs := [5]) (by kernel_rfl) (by simp) ?_
            refine AllReadyIn.cons rfl (fun K hK => ?_) AllReadyIn.nil
            go_simp
            refine hK _ _ ?_
            clear hK K
            refine wpAnyIn_take (i := 6) (v := ?_) rfl rfl (by kernel_rfl) (by kernel_rfl) (by kernel_rfl) (fun _ _ _ h => h) ⟨Or.inl ⟨by rfl, by intro w; go_simp; (try with_reducible rfl)⟩, fun _ => rfl⟩ ?_
            refine wpAnyIn_ready (rs := [7]) (by kernel_rfl) (by simp) ?_
            refine AllReadyIn.cons rfl (fun K hK => ?_) AllReadyIn.nil
            go_simp
            refine hK _ _ ?_
            clear hK K
            refine wpAnyIn_ready (rs := [8]) (by kernel_rfl) (by simp) ?_
            refine AllReadyIn.cons rfl (fun K hK => ?_) AllReadyIn.nil
            go_simp
            refine ⟨fun _ => by omega, hR.mono ?_⟩
            rintro e W3 (⟨rfl, hJ3, hk3⟩ | ⟨rfl, hJx3⟩)
            · dsimp only
              refine hK _ _ ?_
              clear hK K
              refine wpAnyIn_ready (rs := [9]) (by kernel_rfl) (by simp) ?_
              refine AllReadyIn.cons rfl (fun K hK => ?_) AllReadyIn.nil
              go_simp
              refine hK _ _ ?_
              clear hK K
              refine wpAnyIn_ready (rs := [10]) (by kernel_rfl) (by simp) ?_
              refine AllReadyIn.cons rfl (fun K hK => ?_) AllReadyIn.nil
              go_simp
              refine hK _ _ ?_
              clear hK K
              refine wpAnyIn_done (by kernel_rfl) ?_ _
              gi_wp2_with fail
              go_roundw
              case rel => exact ⟨i + 1, by omega, by simp, Lib.hid (by rw [HSC.out]; exact hJ3), Lib.hid (hk3.row HRL.out), Lib.hid (hk3.1 _ _ _ HQ5.out)⟩
              case measure => simp [intOf]; omega
            · dsimp only
              refine hK _ _ ?_
              clear hK K
              refine wpAnyIn_ready (rs := [9]) (by kernel_rfl) (by simp) ?_
              refine AllReadyIn.cons rfl (fun K hK => ?_) AllReadyIn.nil
              go_simp
              refine hK _ _ ?_
              clear hK K
              refine wpAnyIn_ready (rs := [10]) (by kernel_rfl) (by simp) ?_
              refine AllReadyIn.cons rfl (fun K hK => ?_) AllReadyIn.nil
              go_simp
              refine hK _ _ ?_
              clear hK K
              refine wpAnyIn_done (by kernel_rfl) ?_ _
              gi_wp2_with fail
              refine bodyPost_ret (results_none rfl _ _ _) rfl ?_
              exact ⟨⟨_, rfl⟩, .inr ⟨_, HPRE.out _ rfl, hJx3⟩⟩
          · go_simp
            refine hK _ _ ?_
            clear hK K
            refine wpAnyIn_ready (rs := [2]) (by kernel_rfl) (by simp) ?_
            refine AllReadyIn.cons rfl (fun K hK => ?_) AllReadyIn.nil
            go_simp
            refine ⟨trivial, fun _ => by omega, ?_⟩
            refine (callsIn_wide.2 (HUP.out _)).mono ?_
            rintro e w6 ⟨rfl, hw6⟩
            subst hw6
            dsimp only
            refine hK _ _ ?_
            clear hK K
            refine wpAnyIn_ready (rs := [4]) (by kernel_rfl) (by simp) ?_
            refine AllReadyIn.cons rfl (fun K hK => ?_) AllReadyIn.nil
            go_simp
            refine hK _ _ ?_
            clear hK K
            refine wpAnyIn_ready (rs := [5]) (by kernel_rfl) (by simp) ?_
            refine AllReadyIn.cons rfl (fun K hK => ?_) AllReadyIn.nil
            go_simp
            refine hK _ _ ?_
            clear hK K
            refine wpAnyIn_take (i := 6) (v := ?_) rfl rfl (by kernel_rfl) (by kernel_rfl) (by kernel_rfl) (fun _ _ _ h => h) ⟨Or.inl ⟨by rfl, by intro w; go_simp; (try with_reducible rfl)⟩, fun _ => rfl⟩ ?_
            refine wpAnyIn_ready (rs := [7]) (by kernel_rfl) (by simp) ?_
            refine AllReadyIn.cons rfl (fun K hK => ?_) AllReadyIn.nil
            go_simp
            refine hK _ _ ?_
            clear hK K
            refine wpAnyIn_ready (rs := [8]) (by kernel_rfl) (by simp) ?_
            refine AllReadyIn.cons rfl (fun K hK => ?_) AllReadyIn.nil
            go_simp
            refine ⟨fun _ => by omega, hR.mono ?_⟩
            rintro e W3 (⟨rfl, hJ3, hk3⟩ | ⟨rfl, hJx3⟩)
            · dsimp only
              refine hK _ _ ?_
              clear hK K
              refine wpAnyIn_ready (rs := [9]) (by kernel_rfl) (by simp) ?_
              refine AllReadyIn.cons rfl (fun K hK => ?_) AllReadyIn.nil
              go_simp
              refine hK _ _ ?_
              clear hK K
              refine wpAnyIn_ready (rs := [10]) (by kernel_rfl) (by simp) ?_
              refine AllReadyIn.cons rfl (fun K hK => ?_) AllReadyIn.nil
              go_simp
              refine hK _ _ ?_
              clear hK K
              refine wpAnyIn_done (by kernel_rfl) ?_ _
              gi_wp2_with fail
              go_roundw
              case rel => exact ⟨i + 1, by omega, by simp, Lib.hid (by rw [HSC.out]; exact hJ3), Lib.hid (hk3.row HRL.out), Lib.hid (hk3.1 _ _ _ HQ5.out)⟩
              case measure => simp [intOf]; omega
            · dsimp only
              refine hK _ _ ?_
              clear hK K
              refine wpAnyIn_ready (rs := [9]) (by kernel_rfl) (by simp) ?_
              refine AllReadyIn.cons rfl (fun K hK => ?_) AllReadyIn.nil
              go_simp
              refine hK _ _ ?_
              clear hK K
              refine wpAnyIn_ready (rs := [10]) (by kernel_rfl) (by simp) ?_
              refine AllReadyIn.cons rfl (fun K hK => ?_) AllReadyIn.nil
              go_simp
              refine hK _ _ ?_
              clear hK K
              refine wpAnyIn_done (by kernel_rfl) ?_ _
              gi_wp2_with fail
              refine bodyPost_ret (results_none rfl _ _ _) rfl ?_
              exact ⟨⟨_, rfl⟩, .inr ⟨_, HPRE.out _ rfl, hJx3⟩⟩
        · go_simp
          refine hK _ _ ?_
          clear hK K
          refine wpAnyIn_ready (rs := [1]) (by kernel_rfl) (by simp) ?_
          refine AllReadyIn.cons rfl (fun K hK => ?_) AllReadyIn.nil
          go_simp
          refine hK _ _ ?_
          clear hK K
          refine wpAnyIn_ready (rs := [2]) (by kernel_rfl) (by simp) ?_
          refine AllReadyIn.cons rfl (fun K hK => ?_) AllReadyIn.nil
          go_simp
          refine ⟨trivial, fun _ => by omega, ?_⟩
          refine (callsIn_wide.2 (HUP.out _)).mono ?_
          rintro e w6 ⟨rfl, hw6⟩
          subst hw6
          dsimp only
          refine hK _ _ ?_
          clear hK K
          refine wpAnyIn_ready (rs := [4]) (by kernel_rfl) (by simp) ?_
          refine AllReadyIn.cons rfl (fun K hK => ?_) AllReadyIn.nil
          go_simp
          refine hK _ _ ?_
          clear hK K
          refine wpAnyIn_ready (rs := [5]) (by kernel_rfl) (by simp) ?_
          refine AllReadyIn.cons rfl (fun K hK => ?_) AllReadyIn.nil
          go_simp
          refine hK _ _ ?_
          clear hK K
          refine wpAnyIn_take (i := 6) (v := ?_) rfl rfl (by kernel_rfl) (by kernel_rfl) (by kernel_rfl) (fun _ _ _ h => h) ⟨Or.inl ⟨by rfl, by intro w; go_simp; (try with_reducible rfl)⟩, fun _ => rfl⟩ ?_
          refine wpAnyIn_ready (rs := [7]) (by kernel_rfl) (by simp) ?_
          refine AllReadyIn.cons rfl (fun K hK => ?_) AllReadyIn.nil
          go_simp
          refine hK _ _ ?_
          clear hK K
          refine wpAnyIn_ready (rs := [8]) (by kernel_rfl) (by simp) ?_
          refine AllReadyIn.cons rfl (fun K hK => ?_) AllReadyIn.nil
          go_simp
          refine ⟨fun _ => by omega, hR.mono ?_⟩
          rintro e W3 (⟨rfl, hJ3, hk3⟩ | ⟨rfl, hJx3⟩)
          · dsimp only
            refine hK _ _ ?_
            clear hK K
            refine wpAnyIn_ready (rs := [9]) (by kernel_rfl) (by simp) ?_
            refine AllReadyIn.cons rfl (fun K hK => ?_) AllReadyIn.nil
            go_simp
            refine hK _ _ ?_
            clear hK K
            refine wpAnyIn_ready (rs := [10]) (by kernel_rfl) (by simp) ?_
            refine AllReadyIn.cons rfl (fun K hK => ?_) AllReadyIn.nil
            go_simp
            refine hK _ _ ?_
            clear hK K
            refine wpAnyIn_done (by kernel_rfl) ?_ _
            gi_wp2_with fail
            go_roundw
            case rel => exact ⟨i + 1, by omega, by simp, Lib.hid (by rw [HSC.out]; exact hJ3), Lib.hid (hk3.row HRL.out), Lib.hid (hk3.1 _ _ _ HQ5.out)⟩
            case measure => simp [intOf]; omega
          · dsimp only
            refine hK _ _ ?_
            clear hK K
            refine wpAnyIn_ready (rs := [9]) (by kernel_rfl) (by simp) ?_
            refine AllReadyIn.cons rfl (fun K hK => ?_) AllReadyIn.nil
            go_simp
            refine hK _ _ ?_
            clear hK K
            refine wpAnyIn_ready (rs := [10]) (by kernel_rfl) (by simp) ?_
            refine AllReadyIn.cons rfl (fun K hK => ?_) AllReadyIn.nil
            go_simp
            refine hK _ _ ?_
            clear hK K
            refine wpAnyIn_done (by kernel_rfl) ?_ _
            gi_wp2_with fail
            refine bodyPost_ret (results_none rfl _ _ _) rfl ?_
            exact ⟨⟨_, rfl⟩, .inr ⟨_, HPRE.out _ rfl, hJx3⟩⟩
      · have hub : (up == sp) = false := by simpa using hu
        have HSC := Lib.hid (show kidsE (l.take (i + 1)) sp = kidsE (l.take i) sp from by rw [HSC.out, if_neg hu, List.append_nil])
        gi_wp2_with fail
        rw [HW5.out]
        refine wpIn_region_any (by kernel_rfl) ?_
        change wpAnyIn _ _ _ _ _ _ _ _ _ w5.drew
        obtain ⟨wd, hwd⟩ : ∃ wd, w5.drew = wd := ⟨_, rfl⟩
        rw [hwd] at l0 l1 l2 s0 HJ5 HRL ⊢
        have HJD := HJ5
        have HRD := HRL
        have HQD := Lib.hid (show wd.heap[q2]? = some (.cells #[.string S] 9 (0, 0)) from by rw [← hwd]; exact HQ5.out)
        refine wpAnyIn_take (i := 0) (v := ?_) rfl rfl (by kernel_rfl) (by kernel_rfl) (by kernel_rfl) (fun _ _ _ h => h) ⟨Or.inl ⟨by rfl, by intro w; go_simp; (try with_reducible rfl)⟩, fun _ => rfl⟩ ?_
        refine wpAnyIn_ready (rs := [1, 3]) (by kernel_rfl) (by simp) ?_
        refine AllReadyIn.cons rfl (fun K hK => ?_) (AllReadyIn.cons rfl (fun K hK => ?_) AllReadyIn.nil)
        · go_simp
          refine hK _ _ ?_
          clear hK K
          refine wpAnyIn_ready (rs := [2, 3]) (by kernel_rfl) (by simp) ?_
          refine AllReadyIn.cons rfl (fun K hK => ?_) (AllReadyIn.cons rfl (fun K hK => ?_) AllReadyIn.nil)
          · go_simp
            refine ⟨trivial, fun _ => by omega, ?_⟩
            refine (callsIn_wide.2 (HUP.out _)).mono ?_
            rintro e w6 ⟨rfl, hw6⟩
            subst hw6
            dsimp only
            refine hK _ _ ?_
            clear hK K
            refine wpAnyIn_ready (rs := [3]) (by kernel_rfl) (by simp) ?_
            refine AllReadyIn.cons rfl (fun K hK => ?_) AllReadyIn.nil
            go_simp
            refine hK _ _ ?_
            clear hK K
            refine wpAnyIn_ready (rs := [4]) (by kernel_rfl) (by simp) ?_
            refine AllReadyIn.cons rfl (fun K hK => ?_) AllReadyIn.nil
            go_simp
            refine hK _ _ ?_
            clear hK K
            refine wpAnyIn_ready (rs := [5]) (by kernel_rfl) (by simp) ?_
            refine AllReadyIn.cons rfl (fun K hK => ?_) AllReadyIn.nil
            go_simp
            refine hK _ _ ?_
            clear hK K
            refine wpAnyIn_take (i := 6) (v := undef) rfl rfl (by kernel_rfl) (by kernel_rfl) (by kernel_rfl) (fun _ _ _ h => h) ⟨Or.inr ⟨by rfl, rfl⟩, fun _ => rfl⟩ ?_
            refine wpAnyIn_take (i := 7) (v := undef) rfl rfl (by kernel_rfl) (by kernel_rfl) (by kernel_rfl) (fun _ _ _ h => h) ⟨Or.inr ⟨by rfl, rfl⟩, fun _ => rfl⟩ ?_
            refine wpAnyIn_take (i := 8) (v := undef) rfl rfl (by kernel_rfl) (by kernel_rfl) (by kernel_rfl) (fun _ _ _ h => h) ⟨Or.inr ⟨by rfl, rfl⟩, fun _ => rfl⟩ ?_
            refine wpAnyIn_take (i := 9) (v := undef) rfl rfl (by kernel_rfl) (by kernel_rfl) (by kernel_rfl) (fun _ _ _ h => h) ⟨Or.inr ⟨by rfl, rfl⟩, fun _ => rfl⟩ ?_
            refine wpAnyIn_ready (rs := [10]) (by kernel_rfl) (by simp) ?_
            refine AllReadyIn.cons rfl (fun K hK => ?_) AllReadyIn.nil
            go_simp
            refine hK _ _ ?_
            clear hK K
            refine wpAnyIn_done (by kernel_rfl) ?_ _
            gi_wp2_with fail
            go_roundw
            case rel => exact ⟨i + 1, by omega, by simp, Lib.hid (by rw [HSC.out]; exact HJD.out), HRD, HQD⟩
            case measure => simp [intOf]; omega
          · go_simp
            refine hK _ _ ?_
            clear hK K
            refine wpAnyIn_ready (rs := [2]) (by kernel_rfl) (by simp) ?_
            refine AllReadyIn.cons rfl (fun K hK => ?_) AllReadyIn.nil
            go_simp
            refine ⟨trivial, fun _ => by omega, ?_⟩
            refine (callsIn_wide.2 (HUP.out _)).mono ?_
            rintro e w6 ⟨rfl, hw6⟩
            subst hw6
            dsimp only
            refine hK _ _ ?_
            clear hK K
            refine wpAnyIn_ready (rs := [4]) (by kernel_rfl) (by simp) ?_
            refine AllReadyIn.cons rfl (fun K hK => ?_) AllReadyIn.nil
            go_simp
            refine hK _ _ ?_
            clear hK K
            refine wpAnyIn_ready (rs := [5]) (by kernel_rfl) (by simp) ?_
            refine AllReadyIn.cons rfl (fun K hK => ?_) AllReadyIn.nil
            go_simp
            refine hK _ _ ?_
            clear hK K
            refine wpAnyIn_take (i := 6) (v := undef) rfl rfl (by kernel_rfl) (by kernel_rfl) (by kernel_rfl) (fun _ _ _ h => h) ⟨Or.inr ⟨by rfl, rfl⟩, fun _ => rfl⟩ ?_
            refine wpAnyIn_take (i := 7) (v := undef) rfl rfl (by kernel_rfl) (by kernel_rfl) (by kernel_rfl) (fun _ _ _ h => h) ⟨Or.inr ⟨by rfl, rfl⟩, fun _ => rfl⟩ ?_
            refine wpAnyIn_take (i := 8) (v := undef) rfl rfl (by kernel_rfl) (by kernel_rfl) (by kernel_rfl) (fun _ _ _ h => h) ⟨Or.inr ⟨by rfl, rfl⟩, fun _ => rfl⟩ ?_
            refine wpAnyIn_take (i := 9) (v := undef) rfl rfl (by kernel_rfl) (by kernel_rfl) (by kernel_rfl) (fun _ _ _ h => h) ⟨Or.inr ⟨by rfl, rfl⟩, fun _ => rfl⟩ ?_
            refine wpAnyIn_ready (rs := [10]) (by kernel_rfl) (by simp) ?_
            refine AllReadyIn.cons rfl (fun K hK => ?_) AllReadyIn.nil
            go_simp
            refine hK _ _ ?_
            clear hK K
            refine wpAnyIn_done (by kernel_rfl) ?_ _
            gi_wp2_with fail
            go_roundw
            case rel => exact ⟨i + 1, by omega, by simp, Lib.hid (by rw [HSC.out]; exact HJD.out), HRD, HQD⟩
            case measure => simp [intOf]; omega
        · go_simp
          refine hK _ _ ?_
          clear hK K
          refine wpAnyIn_ready (rs := [1]) (by kernel_rfl) (by simp) ?_
          refine AllReadyIn.cons rfl (fun K hK => ?_) AllReadyIn.nil
          go_simp
          refine hK _ _ ?_
          clear hK K
          refine wpAnyIn_ready (rs := [2]) (by kernel_rfl) (by simp) ?_
          refine AllReadyIn.cons rfl (fun K hK => ?_) AllReadyIn.nil
          go_simp
          refine ⟨trivial, fun _ => by omega, ?_⟩
          refine (callsIn_wide.2 (HUP.out _)).mono ?_
          rintro e w6 ⟨rfl, hw6⟩
          subst hw6
          dsimp only
          refine hK _ _ ?_
          clear hK K
          refine wpAnyIn_ready (rs := [4]) (by kernel_rfl) (by simp) ?_
          refine AllReadyIn.cons rfl (fun K hK => ?_) AllReadyIn.nil
          go_simp
          refine hK _ _ ?_
          clear hK K
          refine wpAnyIn_ready (rs := [5]) (by kernel_rfl) (by simp) ?_
          refine AllReadyIn.cons rfl (fun K hK => ?_) AllReadyIn.nil
          go_simp
          refine hK _ _ ?_
          clear hK K
          refine wpAnyIn_take (i := 6) (v := undef) rfl rfl (by kernel_rfl) (by kernel_rfl) (by kernel_rfl) (fun _ _ _ h => h) ⟨Or.inr ⟨by rfl, rfl⟩, fun _ => rfl⟩ ?_
          refine wpAnyIn_take (i := 7) (v := undef) rfl rfl (by kernel_rfl) (by kernel_rfl) (by kernel_rfl) (fun _ _ _ h => h) ⟨Or.inr ⟨by rfl, rfl⟩, fun _ => rfl⟩ ?_
          refine wpAnyIn_take (i := 8) (v := undef) rfl rfl (by kernel_rfl) (by kernel_rfl) (by kernel_rfl) (fun _ _ _ h => h) ⟨Or.inr ⟨by rfl, rfl⟩, fun _ => rfl⟩ ?_
          refine wpAnyIn_take (i := 9) (v := undef) rfl rfl (by kernel_rfl) (by kernel_rfl) (by kernel_rfl) (fun _ _ _ h => h) ⟨Or.inr ⟨by rfl, rfl⟩, fun _ => rfl⟩ ?_
          refine wpAnyIn_ready (rs := [10]) (by kernel_rfl) (by simp) ?_
          refine AllReadyIn.cons rfl (fun K hK => ?_) AllReadyIn.nil
          go_simp
          refine hK _ _ ?_
          clear hK K
          refine wpAnyIn_done (by kernel_rfl) ?_ _
          gi_wp2_with fail
          go_roundw
          case rel => exact ⟨i + 1, by omega, by simp, Lib.hid (by rw [HSC.out]; exact HJD.out), HRD, HQD⟩
          case measure => simp [intOf]; omega
    · have hie : i = m := by omega
      have hii : ¬ (i : Int) < (m : Int) := by omega
      have HF := Lib.hid (show J (kidsE l sp) wr from by
        have h1 := HJ.out
        rw [hie, ← HM.out, List.take_length] at h1
        exact h1)
      clear hie
      gi_wp2_with fail
      go_end0
      first
        | exact ⟨⟨_, rfl⟩, .inl HF.out⟩
        | exact ⟨⟨_, rfl⟩, .inl ⟨_, rfl, HF.out⟩⟩
end Go.Proofs.YtfpbocjmlhcgiaaGreatDoor
/- The volume's in; Remove's range over it. -/
namespace Go.Proofs.YtfpbocjmlhcgiaaGreatDoor
open Go.RowKit PJ Go.Maps Go.WideMaps Go.Shelf
attribute [local go_sem] Oper.semAt_some

set_option maxRecDepth 100000 in
theorem vin_any (w : World) (vb : Nat) (S : ByteArray) :
    Calls Tryz.prog 105 #[.pointer (some ⟨vb, 0, none⟩), .string S] w fun e w' => ∃ q1 q2, e = .returned (.func (.func 159) #[] #[.pointer (some ⟨q1, 0, none⟩), .pointer (some ⟨q2, 0, none⟩)]) ∧ w'.heap[q1]? = some (.cells #[.pointer (some ⟨vb, 0, none⟩)] 60 (0, 0)) ∧ w'.heap[q2]? = some (.cells #[.string S] 9 (0, 0)) ∧ LJ w w' := by
  have hmf : ∀ (fn : Fn) (first cap : Array Value) (w : World), (Instr.makeFunc fn first cap).run Tryz.prog w = .ok (.func fn first cap) w := fun _ _ _ _ => rfl
  obtain ⟨w1, hw1⟩ : ∃ w1, w.alloc (.cells #[.pointer (some ⟨vb, 0, none⟩)] 60) = w1 := ⟨_, rfl⟩
  obtain ⟨q1, hq1⟩ : ∃ q, w.heap.size = q := ⟨_, rfl⟩
  have hb1 : w1.heap[q1]? = some (.cells #[.pointer (some ⟨vb, 0, none⟩)] 60 (0, 0)) := by rw [← hw1, ← hq1]; exact alloc_blk w _
  have hl1 : LJ w w1 := by rw [← hw1]; exact (LJ.refl w).alloc _
  obtain ⟨w2, hw2⟩ : ∃ w2, w1.alloc (.cells #[.string S] 9) = w2 := ⟨_, rfl⟩
  have hs1 : w1.heap.size = q1 + 1 := by rw [← hw1, World.size_alloc, hq1]
  have hb2 : w2.heap[q1 + 1]? = some (.cells #[.string S] 9 (0, 0)) := by rw [← hw2, ← hs1]; exact alloc_blk w1 _
  have hl2 : LJ w1 w2 := by rw [← hw2]; exact (LJ.refl w1).alloc _
  have HF := Lib.hid (And.intro (hl2.block hb1) (And.intro hb2 (hl1.trans hl2)))
  have HW1 := Lib.hid hw1
  have HW2 := Lib.hid hw2
  clear hw1 hw2 hb1 hb2 hl1 hl2 hs1
  go_enter Tryz.func105, Tryz.ntmps105
  go_upto_region 1 with fail
  rw [HW1.out, HW2.out]
  go_wp2_with fail
  go_ret
  exact ⟨q1, q1 + 1, rfl, HF.out.1, HF.out.2.1, HF.out.2.2⟩
theorem vin_stops (n : Nat) (hn3 : 3 ≤ n) (q1 q2 vb jb mb : Nat) (l : List Ent) (S : ByteArray) (hi : VInv l) (hl : l.length ≤ 800) (w : World)
    (h1 : w.heap[q1]? = some (.cells #[.pointer (some ⟨vb, 0, none⟩)] 60 (0, 0))) (h2 : w.heap[q2]? = some (.cells #[.string S] 9 (0, 0))) (hv : VC w vb jb mb l) :
    SeqStopsK Fence.wide n Tryz.prog 159 #[.pointer (some ⟨q1, 0, none⟩), .pointer (some ⟨q2, 0, none⟩)] (fun x : Ent => #[x.val]) (KpS q2) (fun ys => ys = kidsE l S.data.toList) (fun pre => pre <+: kidsE l S.data.toList) l.length w := fun L J Jx W hW hJ hJx hY h0 =>
  vin1_in n hn3 L q1 q2 vb jb mb l S hi hl J Jx (fun s A B hs hAB => hJ s A B none hs ⟨hAB.os, hAB.tape, hAB.output, Below.size hAB, fun k hk _ => Below.block hAB k hk⟩ (fun r e => by cases e)) W (fun pre x W1 h1 h2 _ => hY pre x W1 h1 h2) (cell_blk ((show LJ w W from hW).block h1) 0) ((show LJ w W from hW).block h2) (hv.later hW) h0
/-- A directory's entries, as entries of the volume's. -/
theorem vin_stopsM (n : Nat) (hn3 : 3 ≤ n) (q1 q2 vb jb mb : Nat) (l : List Ent) (S : ByteArray) (hi : VInv l) (hl : l.length ≤ 800) (w : World)
    (h1 : w.heap[q1]? = some (.cells #[.pointer (some ⟨vb, 0, none⟩)] 60 (0, 0))) (h2 : w.heap[q2]? = some (.cells #[.string S] 9 (0, 0))) (hv : VC w vb jb mb l) :
    SeqStopsK Fence.wide n Tryz.prog 159 #[.pointer (some ⟨q1, 0, none⟩), .pointer (some ⟨q2, 0, none⟩)] (fun x : {x : Ent // x ∈ l} => #[x.1.val]) (KpS q2) (fun ys => ys.map (·.1) = kidsE l S.data.toList) (fun pre => pre.map (·.1) <+: kidsE l S.data.toList) l.length w := fun L J Jx W hW hJ hJx hY h0 => by
  refine (vin1_in n hn3 L q1 q2 vb jb mb l S hi hl (fun ys W => ∃ zs : List {x : Ent // x ∈ l}, zs.map (·.1) = ys ∧ J zs W) (fun ys W => ∃ zs : List {x : Ent // x ∈ l}, zs.map (·.1) = ys ∧ Jx zs W) (fun s A B hs hAB => ?_) W (fun pre x W1 h1 h2 hx => ?_) (cell_blk ((show LJ w W from hW).block h1) 0) ((show LJ w W from hW).block h2) (hv.later hW) ⟨[], rfl, h0⟩).mono ?_
  · obtain ⟨zs, e, hj⟩ := hs
    exact ⟨zs, e, hJ zs A B none hj ⟨hAB.os, hAB.tape, hAB.output, Below.size hAB, fun k hk _ => Below.block hAB k hk⟩ (fun r e => by cases e)⟩
  · obtain ⟨zs, e, hj⟩ := h1
    refine (hY zs ⟨x, hx⟩ W1 hj (by rw [← e] at h2; simpa using h2)).mono ?_
    rintro e' W' (⟨a1, a2, a3⟩ | ⟨a1, a2⟩)
    · exact .inl ⟨a1, ⟨_, by rw [List.map_append, e]; rfl, a2⟩, a3⟩
    · exact .inr ⟨a1, ⟨_, by rw [List.map_append, e]; rfl, a2⟩⟩
  · rintro e W' ⟨a1, ⟨ys, a2, zs, a3, a4⟩ | ⟨pre, a2, zs, a3, a4⟩⟩
    · exact ⟨a1, .inl ⟨zs, a3.trans a2, a4⟩⟩
    · exact ⟨a1, .inr ⟨zs, (show zs.map (·.1) <+: _ from by rw [a3]; exact a2), a4⟩⟩
set_option maxRecDepth 100000 in
set_option maxHeartbeats 4000000 in
theorem vempty_any (w : World) (p1 p2 vb jb mb : Nat) (l : List Ent) (S : ByteArray) (hi : VInv l) (hl : l.length ≤ 800) (hv : VC w vb jb mb l) (h1 : w.cell? ⟨p1, 0, none⟩ = some (.pointer (some ⟨vb, 0, none⟩))) (h2 : w.cell? ⟨p2, 0, none⟩ = some (.string S)) :
    Calls Tryz.prog 147 #[.pointer (some ⟨p1, 0, none⟩), .pointer (some ⟨p2, 0, none⟩)] w fun e w' => e = .returned (.bool (kidsE l S.data.toList).isEmpty) ∧ LJ w w' := by
  refine (callsIn_wide (n := 9)).1 ?_
  have hl1 : LJ w (w.alloc (.cells #[.bool false] 4)) := (LJ.refl w).alloc _
  have HB1 := Lib.hid (alloc_blk w (.cells #[.bool false] 4))
  have c1 := LJ.cell hl1 h1
  have c2 := LJ.cell hl1 h2
  have HIN := Lib.hid (vin_any (w.alloc (.cells #[.bool false] 4)) vb S)
  have HL1 := Lib.hid hl1
  have HV1 := Lib.hid (hv.later hl1)
  have HI := Lib.hid (And.intro hi hl)
  clear hl1 hv hi hl h1 h2
  refine callsIn_of_wp_marks Tryz.func147 rfl trivial ?_ rfl
  simp only [Tryz.ntmps147, List.size_toArray, List.length_cons, List.length_nil, Nat.reduceAdd, Nat.reduceSub, Array.replicate_succ, Array.replicate_zero, List.push_toArray, List.append_toArray, List.nil_append, List.cons_append]
  gi_wp2_with (refine ⟨trivial, (callsIn_wide.2 HIN.out).mono ?_⟩; rintro e w2 ⟨q1, q2, rfl, hb1, hb2, hl2⟩; have HQ := Lib.hid (And.intro hb1 (And.intro hb2 hl2)); clear hb1 hb2 hl2)
  obtain ⟨hb1, hb2, hl2⟩ := HQ.out
  have hbr := LJ.block hl2 HB1.out
  have cr : w2.cell? ⟨w.heap.size, 0, none⟩ = some (.bool false) := cell_blk hbr 0
  have fr : w2.frozen? ⟨w.heap.size, 0, none⟩ = false := by simp [World.frozen?, hbr]
  have hB0 : Below w.heap.size w w2 := HL1.out.trans hl2
  have hsz : w.heap.size < w2.heap.size := lt_blk hbr
  have hszl : w.heap.size ≤ w2.heap.size := Nat.le_of_lt hsz
  refine wpIn_rangeFunc_ownF rfl (by omega) (gf := 159) (lb := #[.pointer (some ⟨q1, 0, none⟩), .pointer (some ⟨q2, 0, none⟩)]) rfl trivial (enters_of Tryz.func159 (by kernel_rfl) rfl)
    (vin_stops 8 (by omega) q1 q2 vb jb mb l S HI.out.1 HI.out.2 w2 hb1 hb2 (HV1.out.later hl2)) KpS.trans (fun W l' o o' _ h hc _ => KpS.put W l' o o' h hc) (Below.refl _ _) (fun _ => rfl)
    (fun pre W => (pre = [] ∧ W.cell? ⟨w.heap.size, 0, none⟩ = some (.bool false) ∧ W.frozen? ⟨w.heap.size, 0, none⟩ = false) ∧ Below w.heap.size w W)
    (fun c pre W => (c = .ret ∧ pre ≠ [] ∧ W.cell? ⟨w.heap.size, 0, none⟩ = some (.bool false)) ∧ Below w.heap.size w W)
    (OwnFrom.and (Own.from (fun s A B row hs hg hr => ⟨hs.1, cell_kept hs.2.1 hg hr, (frozen_kept hs.2.1 hg hr).trans hs.2.2⟩) _) (ownFrom_below (Nat.le_refl _) hszl))
    (fun c => OwnFrom.and (Own.from (fun s A B row hs hg hr => ⟨hs.1, hs.2.1, cell_kept hs.2.2 hg hr⟩) _) (ownFrom_below (Nat.le_refl _) hszl))
    ⟨⟨rfl, cr, fr⟩, hB0⟩
    (fun x => { tmps := #[.pointer (some ⟨p1, 0, none⟩), .pointer (some ⟨p2, 0, none⟩), .pointer (some ⟨w.heap.size, 0, none⟩), .pointer (some ⟨vb, 0, none⟩), .string S, .func (.func 159) #[] #[.pointer (some ⟨q1, 0, none⟩), .pointer (some ⟨q2, 0, none⟩)], x.val], defers := [] }) ?assign ?body ?done ?stop
  case assign =>
    intro l x W K hK
    gi_wp2
    simpa using hK
  case body =>
    rintro l pre x W ⟨⟨rfl, hcr, hfr⟩, hB⟩ _
    gi_wp2
    exact ⟨KeepsOthers.setCell _ _ _, ⟨rfl, by simp, World.cell?_setCell_same' _ _ _ (by rw [hcr]; rfl)⟩, hB.setCell (p := ⟨w.heap.size, 0, none⟩) (Nat.le_refl _) _⟩
  case done =>
    rintro D ys W hD rfl ⟨⟨hne, hcr, hfr⟩, hB⟩ hK
    gi_wp2
    have hK' := (KeepsOthers.setCell W ⟨w.heap.size, 0, none⟩ (.bool true)).same D _ hK rfl
    refine ⟨by simp, .inl ⟨_, _, rfl, run_takeDeferred hK', ?_⟩⟩
    have hc5 := cell_kept (World.cell?_setCell_same' W ⟨w.heap.size, 0, none⟩ (.bool true) (by rw [hcr]; rfl)) (grownBy_putObj' _ D (.deferred none)) (fun r e => by cases e; exact ⟨_, hK', rfl⟩)
    refine ⟨.bool true, ?_, by rw [hne]; rfl, (hB.setCell (p := ⟨w.heap.size, 0, none⟩) (Nat.le_refl _) _).trans (belowK_b (w := w) (Nat.le_refl _) _ D _ _ (by omega) hK' rfl rfl)⟩
    simp [results, Tryz.f147, go_sem, hc5]
  case stop =>
    rintro D c pre W hD hpre ⟨⟨rfl, hin, hcr⟩, hB⟩ hK
    gi_wp2
    refine ⟨by simp, .inl ⟨_, _, rfl, run_takeDeferred hK, ?_⟩⟩
    have hc5 := cell_kept hcr (grownBy_putObj' _ D (.deferred none)) (fun r e => by cases e; exact ⟨_, hK, rfl⟩)
    have hk : (kidsE l S.data.toList).isEmpty = false := by
      cases hx : kidsE l S.data.toList with
      | nil => rw [hx] at hpre; exact absurd (List.prefix_nil.1 hpre) hin
      | cons y ys => rfl
    refine ⟨.bool false, ?_, by rw [hk], hB.trans (belowK_b (w := w) (Nat.le_refl _) W D _ _ (by omega) hK rfl rfl)⟩
    simp [results, Tryz.f147, go_sem, hc5]
end Go.Proofs.YtfpbocjmlhcgiaaGreatDoor
/- The volume's Remove. -/
namespace Go.Proofs.YtfpbocjmlhcgiaaGreatDoor
open Go.RowKit PJ Go.Maps Go.WideMaps Go.Shelf

theorem kids_empty (l : List Ent) (p : List UInt8) : (kidsE l p).isEmpty = !(l.any (fun x => upP x.p == p)) := by
  unfold kidsE
  induction l with
  | nil => rfl
  | cons x xs ih =>
    simp only [List.filter_cons, List.any_cons, decide_eq_true_eq]
    by_cases h : upP x.p = p
    · simp [h]
    · rw [if_neg (by simpa using h), ih]
      simp [h]
theorem rm_ask (l : List Ent) (hi : VInv l) (p : List UInt8) (cs : List Chk) (K1 K2 K3 K4 K5 : FuncId) (c1 c2 c3 c4 c5 : Array Value) (hcs : cs = [⟨K1, c1, true, 2⟩, ⟨K2, c2, pathB p, 171⟩, ⟨K3, c3, (atE l p).isSome, 172⟩, ⟨K4, c4, !(p == [47]), 174⟩, ⟨K5, c5, (kidsE l p).isEmpty, 177⟩]) :
    (askE cs ≠ 0 ∧ ∀ room, rmE room l p = (askE cs, l)) ∨ (askE cs = 0 ∧ (∀ room, rmE room l p = becE room l (delE l p)) ∧ VInv (delE l p)) := by
  have hok := fun room => rmE_ok (room := room) hi p
  subst hcs
  rw [kids_empty]
  unfold askE
  unfold rmE at hok ⊢
  simp only [if_true]
  unfold askE
  cases hp : pathB p with
  | false => left; simp
  | true =>
    simp only [hp] at hok
    simp only [if_true]
    unfold askE
    cases hn : atE l p with
    | none => left; simp
    | some x =>
      simp only [hn] at hok
      simp only [Option.isSome_some, if_true]
      unfold askE
      by_cases hr : p = [47]
      · left; simp [hr]
      · simp only [hr, if_false] at hok
        have hrb : (p == [47]) = false := by simpa using hr
        simp only [hrb, Bool.not_false, if_true]
        unfold askE
        cases hk : l.any (fun x => upP x.p == p) with
        | true => left; simp [hr]
        | false =>
          simp only [hk] at hok
          right
          exact ⟨by simp [askE], fun room => by simp [hr], ans_inv (fun room => hok room) (fun room => by simp)⟩
theorem vremove1_any (w : World) (p3 : Nat) (S : ByteArray) (h : w.cell? ⟨p3, 0, none⟩ = some (.string S)) :
    Calls Tryz.prog 146 #[.pointer (some ⟨p3, 0, none⟩)] w fun e w' => e = .returned (.bool (!(S.data.toList == [47]))) ∧ w' = w := by
  go_enter Tryz.func146, Tryz.ntmps146
  go_wp2_with fail
  go_ret
  refine ⟨?_, rfl⟩
  rw [ByteArray.toList_eq]
  rfl
set_option maxRecDepth 100000 in
set_option maxHeartbeats 8000000 in
theorem vremove_any (w : World) (p b jb vb : Nat) (F : Nat → Prop) (J : Jn) (l : List Ent) (h : VAt w p b jb vb F J l) (hh : J.head < 4611686018427387904) (hn : J.next < 4611686018427387904) (P : ByteArray) (hP : P.size < 4294967280) :
    Calls Tryz.prog 85 #[.pointer (some ⟨vb, 0, none⟩), .string P] w fun e w' => e = .returned (.int .i64 (rmE J.room' l P.data.toList).1) ∧ VOut w p b jb vb F (J.ans l (rmE J.room' l P.data.toList)) (rmE J.room' l P.data.toList).2 w' := by
  have hmf : ∀ (fn : Fn) (first cap : Array Value) (w : World), (Instr.makeFunc fn first cap).run Tryz.prog w = .ok (.func fn first cap) w := fun _ _ _ _ => rfl
  obtain ⟨mb, hvc⟩ := h.vc
  have HV := Lib.hid h
  have HVJ := Lib.hid h.vj
  have HF := Lib.hid h.lt
  obtain ⟨pl, hpl⟩ : ∃ x, P.data.toList = x := ⟨_, rfl⟩
  obtain ⟨w1, hw1⟩ : ∃ w1, w.alloc (.cells #[.pointer (some ⟨vb, 0, none⟩)] 60) = w1 := ⟨_, rfl⟩
  obtain ⟨q2, hq2⟩ : ∃ q, w.heap.size = q := ⟨_, rfl⟩
  have hb2 : w1.heap[q2]? = some (.cells #[.pointer (some ⟨vb, 0, none⟩)] 60 (0, 0)) := by rw [← hw1, ← hq2]; exact alloc_blk w _
  have hl1 : LJ w w1 := by rw [← hw1]; exact (LJ.refl w).alloc _
  obtain ⟨w2, hw2⟩ : ∃ w2, w1.alloc (.cells #[.string P] 9) = w2 := ⟨_, rfl⟩
  have hs1 : w1.heap.size = q2 + 1 := by rw [← hw1, World.size_alloc, hq2]
  obtain ⟨q3, hq3⟩ : ∃ q3, q2 + 1 = q3 := ⟨_, rfl⟩
  have HB3 := Lib.hid (show w2.heap[q3]? = some (.cells #[.string P] 9 (0, 0)) from by rw [← hw2, ← hq3, ← hs1]; exact alloc_blk w1 _)
  have hl2 : LJ w1 w2 := by rw [← hw2]; exact (LJ.refl w1).alloc _
  have HB2 := Lib.hid (hl2.block hb2)
  have HL2 := Lib.hid (hl1.trans hl2)
  have HVC := Lib.hid (hvc.later HL2.out)
  have HLV := Lib.hid (fun W (hW : LJ w2 W) => vlives_any W vb jb mb l (HVC.out.later hW))
  have HMY := Lib.hid (fun W (q : Nat) (hW : LJ w2 W) (hb : W.heap[q]? = some (.cells #[.string P] 9 (0, 0))) => show Calls Tryz.prog 92 #[.pointer (some ⟨vb, 0, none⟩), .slice (some ⟨q, 0, none⟩) 1 1] W (MadeC W (pathB pl) 171) from by
    have h1 := vmay_any W vb q 1 1 [P] rfl (by simp) (by intro x hx; rw [List.mem_singleton.1 hx]; omega) (fun j x hj => by
      match j, hj with
      | 0, hj =>
        obtain rfl : P = x := by simpa using hj
        exact cell_blk hb 0)
    rw [show ([P].all fun x => pathB x.data.toList) = pathB pl from by simp [hpl]] at h1
    exact h1)
  have HIS := Lib.hid (fun W (hW : LJ w2 W) => vis_any W vb jb mb l P pl hpl (by omega) (HVC.out.later hW))
  have HMK := Lib.hid (fun cs K1 K2 K3 K4 K5 c1 c2 c3 c4 c5 hcs => rm_ask l HVJ.out.inv pl cs K1 K2 K3 K4 K5 c1 c2 c3 c4 c5 hcs)
  obtain ⟨B2, hB2⟩ : ∃ b, pathB pl = b := ⟨_, rfl⟩
  obtain ⟨B3, hB3⟩ : ∃ b, (atE l pl).isSome = b := ⟨_, rfl⟩
  obtain ⟨B4, hB4⟩ : ∃ b, (!(pl == [47])) = b := ⟨_, rfl⟩
  obtain ⟨B5, hB5⟩ : ∃ b, (kidsE l pl).isEmpty = b := ⟨_, rfl⟩
  rw [hB2, hB3, hB4, hB5] at HMK
  rw [hB2] at HMY
  rw [hB3] at HIS
  have HKI := Lib.hid (fun W (h2 : W.cell? ⟨q3, 0, none⟩ = some (.string P)) => show Calls Tryz.prog 146 #[.pointer (some ⟨q3, 0, none⟩)] W fun e w' => e = .returned (.bool B4) ∧ LJ W w' from by
    have h3 := vremove1_any W q3 P h2
    rw [hpl, hB4] at h3
    refine h3.mono ?_
    rintro e w' ⟨h5, rfl⟩
    exact ⟨h5, LJ.refl _⟩)
  have HEM := Lib.hid (fun W (hW : LJ w2 W) (h1 : W.cell? ⟨q2, 0, none⟩ = some (.pointer (some ⟨vb, 0, none⟩))) (h2 : W.cell? ⟨q3, 0, none⟩ = some (.string P)) => show Calls Tryz.prog 147 #[.pointer (some ⟨q2, 0, none⟩), .pointer (some ⟨q3, 0, none⟩)] W fun e w' => e = .returned (.bool B5) ∧ LJ W w' from by
    have h3 := vempty_any W q2 q3 vb jb mb l P HVJ.out.inv (by have := HVJ.out.count; omega) (HVC.out.later hW) h1 h2
    rw [hpl, hB5] at h3
    exact h3)
  have HBEC := Lib.hid (fun W (hW : LJ w W) (m : Nat) (now : List Ent) (hm : EMap W m now) (hge : w.heap.size ≤ m) (hi : VInv now) (hlen : now.length ≤ 800) =>
    vbecomes_any W p b jb vb F J l now (HV.out.later hW) hh hn m hm (fun e => by have := HF.out m e; omega) hi hlen)
  have HWO := Lib.hid (fun W (hW : LJ w2 W) => show Calls Tryz.prog 98 #[.pointer (some ⟨vb, 0, none⟩), .string P] W fun e w' => ∃ m, e = .returned (.map (some m)) ∧ EMap w' m (delE l pl) ∧ W.heap.size ≤ m ∧ LJ W w' from by
    have h3 := vwithout_any W vb mb jb l P (by omega) (HVC.out.later hW).blk (HVC.out.later hW).map
    rw [hpl] at h3
    exact h3)
  have HDL := Lib.hid (show (delE l pl).length ≤ 800 from by
    have h1 : (delE l pl).length ≤ l.length := List.length_filter_le _ _
    have := HVJ.out.count
    omega)
  have HW1 := Lib.hid hw1
  have HW2 := Lib.hid hw2
  have HQ3 := Lib.hid (And.intro hq3 hs1)
  have HQ2 := Lib.hid (show w.heap.size ≤ q2 ∧ w.heap.size ≤ q3 from by omega)
  obtain ⟨room, hroom⟩ : ∃ r, J.room' = r := ⟨_, rfl⟩
  rw [hroom] at HBEC ⊢
  rw [hpl]
  clear h hvc hw1 hw2 hl1 hl2 hb2 hB2 hB3 hB4 hB5 hroom hs1 hpl
  go_enter Tryz.func85, Tryz.ntmps85
  go_upto_region 1 with fail
  rw [HW1.out, HW2.out]
  clear hq2
  obtain ⟨w5, hw5⟩ : ∃ w5, w2.alloc (.cells #[Value.nilFunc, .int .i64 0] 146) = w5 := ⟨_, rfl⟩
  obtain ⟨q5, hq5⟩ : ∃ q, w2.heap.size = q := ⟨_, rfl⟩
  have HB5 := Lib.hid (show w5.heap[q5]? = some (.cells #[Value.nilFunc, .int .i64 0] 146 (0, 0)) from by rw [← hw5, ← hq5]; exact alloc_blk w2 _)
  obtain ⟨w6, hw6⟩ : ∃ w6, w5.setRow q5 #[.func (.func 146) #[] #[.pointer (some ⟨q3, 0, none⟩)], .int .i64 174] = w6 := ⟨_, rfl⟩
  have HB5a := Lib.hid (show w6.heap[q5]? = some (.cells #[.func (.func 146) #[] #[.pointer (some ⟨q3, 0, none⟩)], .int .i64 174] 146 (0, 0)) from by rw [← hw6]; exact vrow_heap w5 q5 _ _ _ HB5.out)
  have HL6 := Lib.hid (show LJ w2 w6 from by rw [← hw6]; exact lj_onlyV (show LJ w2 w5 from by rw [← hw5]; exact (LJ.refl w2).alloc _) (vrow_only _ _ _) (fun k hk => by rw [show k = q5 from hk]; omega))
  have HW5 := Lib.hid hw5
  have HW6 := Lib.hid hw6
  clear hw6
  go_upto_region 2 with (first
    | (refine wpList_store_row rfl 146 (.tmp 5) (.tmp 9) rfl q5 #[.func (.func 146) #[] #[.pointer (some ⟨q3, 0, none⟩)], .int .i64 174] rfl rfl 146 _ HB5.out info_chk rfl (chk_all _ _ _) ?_; rw [HW6.out])
    | fail)
  clear hq5 hw5
  obtain ⟨w7, hw7⟩ : ∃ w7, w6.alloc (.cells #[Value.nilFunc, .int .i64 0] 146) = w7 := ⟨_, rfl⟩
  obtain ⟨q6, hq6⟩ : ∃ q, w6.heap.size = q := ⟨_, rfl⟩
  have HB7a := Lib.hid (show w7.heap[q6]? = some (.cells #[Value.nilFunc, .int .i64 0] 146 (0, 0)) from by rw [← hw7, ← hq6]; exact alloc_blk w6 _)
  obtain ⟨w8, hw8⟩ : ∃ w8, w7.setRow q6 #[.func (.func 147) #[] #[.pointer (some ⟨q2, 0, none⟩), .pointer (some ⟨q3, 0, none⟩)], .int .i64 177] = w8 := ⟨_, rfl⟩
  have HB68 := Lib.hid (show w8.heap[q6]? = some (.cells #[.func (.func 147) #[] #[.pointer (some ⟨q2, 0, none⟩), .pointer (some ⟨q3, 0, none⟩)], .int .i64 177] 146 (0, 0)) from by rw [← hw8]; exact vrow_heap w7 q6 _ _ _ HB7a.out)
  have HL8a := Lib.hid (show LJ w6 w8 from by rw [← hw8]; exact lj_onlyV (show LJ w6 w7 from by rw [← hw7]; exact (LJ.refl w6).alloc _) (vrow_only _ _ _) (fun k hk => by rw [show k = q6 from hk]; omega))
  have HW7 := Lib.hid hw7
  have HW8 := Lib.hid hw8
  clear hw8
  go_upto_region 3 with (first
    | (refine wpList_store_row rfl 146 (.tmp 6) (.tmp 11) rfl q6 #[.func (.func 147) #[] #[.pointer (some ⟨q2, 0, none⟩), .pointer (some ⟨q3, 0, none⟩)], .int .i64 177] rfl rfl 146 _ HB7a.out info_chk rfl (chk_all _ _ _) ?_; rw [HW8.out])
    | fail)
  clear hq6 hmf hw7
  have HB58 := Lib.hid (HL8a.out.block HB5a.out)
  have HL28 := Lib.hid (HL6.out.trans HL8a.out)
  have HB28 := Lib.hid (HL28.out.block HB2.out)
  have HB38 := Lib.hid (HL28.out.block HB3.out)
  have HK1 := Lib.hid (show ChkOK w8 ⟨146, #[.pointer (some ⟨q3, 0, none⟩)], B4, 174⟩ from ⟨enters_of Tryz.func146 (by kernel_rfl) rfl, fun W hW => HKI.out W (cell_blk (hW.block HB38.out) 0)⟩)
  have HK2 := Lib.hid (show ChkOK w8 ⟨147, #[.pointer (some ⟨q2, 0, none⟩), .pointer (some ⟨q3, 0, none⟩)], B5, 177⟩ from ⟨enters_of Tryz.func147 (by kernel_rfl) rfl, fun W hW => HEM.out W (HL28.out.trans hW) (cell_blk (hW.block HB28.out) 0) (cell_blk (hW.block HB38.out) 0)⟩)
  have HLV := Lib.hid (fun W (hW : LJ w8 W) => HLV.out W (HL28.out.trans hW))
  have HMY := Lib.hid (fun W q (hW : LJ w8 W) hb => HMY.out W q (HL28.out.trans hW) hb)
  have HIS := Lib.hid (fun W (hW : LJ w8 W) => HIS.out W (HL28.out.trans hW))
  clear hq3
  simp only [Go.Act.put]
  go_cut [7] from 12 to 24 (fun v7 wx => ∃ cs K1 K2 K3 K4 K5 c1 c2 c3 c4 c5, cs = [⟨K1, c1, true, 2⟩, ⟨K2, c2, B2, 171⟩, ⟨K3, c3, B3, 172⟩, ⟨K4, c4, B4, 174⟩, ⟨K5, c5, B5, 177⟩] ∧ v7 = .int .i64 (askE cs) ∧ LJ w8 wx)
  case first =>
    refine wp_region_held_drew (S := fun w' => w'.heap[q2]? = some (.cells #[.pointer (some ⟨vb, 0, none⟩)] 60 (0, 0)) ∧ w'.heap[q3]? = some (.cells #[.string P] 9 (0, 0)) ∧ w'.heap[q5]? = some (.cells #[.func (.func 146) #[] #[.pointer (some ⟨q3, 0, none⟩)], .int .i64 174] 146 (0, 0)) ∧ w'.heap[q6]? = some (.cells #[.func (.func 147) #[] #[.pointer (some ⟨q2, 0, none⟩), .pointer (some ⟨q3, 0, none⟩)], .int .i64 177] 146 (0, 0))) (by kernel_rfl) ⟨HB28.out, HB38.out, HB58.out, HB68.out⟩ (fun hHeld => ?_)
    have hL := Lib.hid (LJ.refl w8).drew
    refine tkS 0 hHeld ?_ (hy := by intro w hSw; have l0 := cell_blk hSw.1 0; have l1 := cell_blk hSw.2.1 0; have m0 := cell_blk hSw.2.2.1 0; have m1 := cell_blk hSw.2.2.1 1; have n0 := cell_blk hSw.2.2.2 0; have n1 := cell_blk hSw.2.2.2 1; go_simp; (try with_reducible rfl))
    refine tkS 2 hHeld ?_ (hy := by intro w hSw; have l0 := cell_blk hSw.1 0; have l1 := cell_blk hSw.2.1 0; have m0 := cell_blk hSw.2.2.1 0; have m1 := cell_blk hSw.2.2.1 1; have n0 := cell_blk hSw.2.2.2 0; have n1 := cell_blk hSw.2.2.2 1; go_simp; (try with_reducible rfl))
    refine tkS 3 hHeld ?_ (hy := by intro w hSw; have l0 := cell_blk hSw.1 0; have l1 := cell_blk hSw.2.1 0; have m0 := cell_blk hSw.2.2.1 0; have m1 := cell_blk hSw.2.2.1 1; have n0 := cell_blk hSw.2.2.2 0; have n1 := cell_blk hSw.2.2.2 1; go_simp; (try with_reducible rfl))
    refine tkS 6 hHeld ?_ (hy := by intro w hSw; have l0 := cell_blk hSw.1 0; have l1 := cell_blk hSw.2.1 0; have m0 := cell_blk hSw.2.2.1 0; have m1 := cell_blk hSw.2.2.1 1; have n0 := cell_blk hSw.2.2.2 0; have n1 := cell_blk hSw.2.2.2 1; go_simp; (try with_reducible rfl))
    refine tkS 7 hHeld ?_ (hy := by intro w hSw; have l0 := cell_blk hSw.1 0; have l1 := cell_blk hSw.2.1 0; have m0 := cell_blk hSw.2.2.1 0; have m1 := cell_blk hSw.2.2.1 1; have n0 := cell_blk hSw.2.2.2 0; have n1 := cell_blk hSw.2.2.2 1; go_simp; (try with_reducible rfl))
    refine tkS 9 hHeld ?_ (hy := by intro w hSw; have l0 := cell_blk hSw.1 0; have l1 := cell_blk hSw.2.1 0; have m0 := cell_blk hSw.2.2.1 0; have m1 := cell_blk hSw.2.2.1 1; have n0 := cell_blk hSw.2.2.2 0; have n1 := cell_blk hSw.2.2.2 1; go_simp; (try with_reducible rfl))
    refine tkS 10 hHeld ?_ (hy := by intro w hSw; have l0 := cell_blk hSw.1 0; have l1 := cell_blk hSw.2.1 0; have m0 := cell_blk hSw.2.2.1 0; have m1 := cell_blk hSw.2.2.1 1; have n0 := cell_blk hSw.2.2.2 0; have n1 := cell_blk hSw.2.2.2 1; go_simp; (try with_reducible rfl))
    refine wpAnyH_ready (rs := [1, 4]) (by kernel_rfl) (by simp) ?_
    refine AllReadyH.cons rfl (fun K hK => ?_) (AllReadyH.cons rfl (fun K hK => ?_) AllReadyH.nil)
    · go_simp
      (with_reducible refine (HLV.out _ hL.out).mono ?_); rintro e wx ⟨Kl, cl, rfl, hk, hx⟩
      have hL := Lib.hid (hL.out.trans hx)
      have HKl := Lib.hid hk
      have hS2 := And.intro (hx.block hHeld.1) (And.intro (hx.block hHeld.2.1) (And.intro (hx.block hHeld.2.2.1) (hx.block hHeld.2.2.2)))
      clear hx hk
      refine hK.out _ _ hS2 (fun hHeld => ?_)
      clear hK K hS2
      refine wpAnyH_ready (rs := [4]) (by kernel_rfl) (by simp) ?_
      refine AllReadyH.cons rfl (fun K hK => ?_) AllReadyH.nil
      go_simp
      obtain ⟨q, hq⟩ : ∃ q, wx.heap.size = q := ⟨_, rfl⟩
      obtain ⟨wq, hwq⟩ : ∃ wq, (wx.alloc (.cells #[.string P] 9)) = wq := ⟨_, rfl⟩
      have hx : LJ wx wq := by rw [← hwq]; exact ((LJ.refl _).alloc _)
      have HQB := Lib.hid (show wq.heap[q]? = some (.cells #[.string P] 9 (0, 0)) from by rw [← hwq, ← hq]; exact alloc_blk _ _)
      have hL := Lib.hid (hL.out.trans hx)
      have HKl := Lib.hid (HKl.out.later hx)
      have hS2 := And.intro (hx.block hHeld.1) (And.intro (hx.block hHeld.2.1) (And.intro (hx.block hHeld.2.2.1) (hx.block hHeld.2.2.2)))
      rw [hq, hwq]
      clear hq hwq hx
      refine hK.out _ _ hS2 (fun hHeld => ?_)
      clear hK K hS2
      refine wpAnyH_ready (rs := [5]) (by kernel_rfl) (by simp) ?_
      refine AllReadyH.cons rfl (fun K hK => ?_) AllReadyH.nil
      have HMYW := Lib.hid (fun W (hW : LJ _ W) (hb : W.heap[q]? = _) => HMY.out W q hW hb)
      go_simp
      (with_reducible refine (HMYW.out _ hL.out HQB.out).mono ?_); rintro e wx ⟨Km, cm, rfl, hk, hx⟩
      have hL := Lib.hid (hL.out.trans hx)
      have HKl := Lib.hid (HKl.out.later hx)
      have HKm := Lib.hid hk
      have hS2 := And.intro (hx.block hHeld.1) (And.intro (hx.block hHeld.2.1) (And.intro (hx.block hHeld.2.2.1) (hx.block hHeld.2.2.2)))
      clear hx hk HMYW
      refine hK.out _ _ hS2 (fun hHeld => ?_)
      clear hK K hS2
      refine wpAnyH_ready (rs := [8]) (by kernel_rfl) (by simp) ?_
      refine AllReadyH.cons rfl (fun K hK => ?_) AllReadyH.nil
      go_simp
      (with_reducible refine (HIS.out _ hL.out).mono ?_); rintro e wx ⟨Ki, ci, rfl, hk, hx⟩
      have hL := Lib.hid (hL.out.trans hx)
      have HKl := Lib.hid (HKl.out.later hx)
      have HKm := Lib.hid (HKm.out.later hx)
      have HKi := Lib.hid hk
      have hS2 := And.intro (hx.block hHeld.1) (And.intro (hx.block hHeld.2.1) (And.intro (hx.block hHeld.2.2.1) (hx.block hHeld.2.2.2)))
      clear hx hk
      refine hK.out _ _ hS2 (fun hHeld => ?_)
      clear hK K hS2
      refine wpAnyH_ready (rs := [11]) (by kernel_rfl) (by simp) ?_
      refine AllReadyH.cons rfl (fun K hK => ?_) AllReadyH.nil
      go_simp
      obtain ⟨r, hr⟩ : ∃ r, wx.heap.size = r := ⟨_, rfl⟩
      obtain ⟨wr, hwr⟩ : ∃ wr, wx.alloc (.cells #[.func (.func Kl) #[] cl, .int .i64 2, .func (.func Km) #[] cm, .int .i64 171, .func (.func Ki) #[] ci, .int .i64 172, .func (.func 146) #[] #[.pointer (some ⟨q3, 0, none⟩)], .int .i64 174, .func (.func 147) #[] #[.pointer (some ⟨q2, 0, none⟩), .pointer (some ⟨q3, 0, none⟩)], .int .i64 177] 146) = wr := ⟨_, rfl⟩
      have hx : LJ wx wr := by rw [← hwr]; exact (LJ.refl _).alloc _
      have HRB := Lib.hid (show wr.heap[r]? = some (.cells (chkRow [⟨Kl, cl, true, 2⟩, ⟨Km, cm, B2, 171⟩, ⟨Ki, ci, B3, 172⟩, ⟨146, #[.pointer (some ⟨q3, 0, none⟩)], B4, 174⟩, ⟨147, #[.pointer (some ⟨q2, 0, none⟩), .pointer (some ⟨q3, 0, none⟩)], B5, 177⟩]).toArray 146 (0, 0)) from by rw [← hwr, ← hr]; exact alloc_blk _ _)
      have hL := Lib.hid (hL.out.trans hx)
      have HKl := Lib.hid (HKl.out.later hx)
      have HKm := Lib.hid (HKm.out.later hx)
      have HKi := Lib.hid (HKi.out.later hx)
      have hS2 := And.intro (hx.block hHeld.1) (And.intro (hx.block hHeld.2.1) (And.intro (hx.block hHeld.2.2.1) (hx.block hHeld.2.2.2)))
      rw [hr, hwr]
      clear hr hwr hx
      refine hK.out _ _ hS2 (fun hHeld => ?_)
      clear hK K hS2
      have HASK := Lib.hid (asked_any wr [⟨Kl, cl, true, 2⟩, ⟨Km, cm, B2, 171⟩, ⟨Ki, ci, B3, 172⟩, ⟨146, #[.pointer (some ⟨q3, 0, none⟩)], B4, 174⟩, ⟨147, #[.pointer (some ⟨q2, 0, none⟩), .pointer (some ⟨q3, 0, none⟩)], B5, 177⟩] r 5 5 rfl (by omega) (fun j c hj => chk_at HRB.out j c hj) (by intro c hc; simp only [List.mem_cons, List.not_mem_nil, or_false] at hc; rcases hc with rfl | rfl | rfl | rfl | rfl; exact HKl.out; exact HKm.out; exact HKi.out; exact HK1.out.later hL.out; exact HK2.out.later hL.out))
      refine wpAnyH_ready (rs := [12]) (by kernel_rfl) (by simp) ?_
      refine AllReadyH.cons rfl (fun K hK => ?_) AllReadyH.nil
      go_simp
      (with_reducible refine HASK.out.mono ?_); rintro e wz ⟨rfl, hx⟩
      have hL := Lib.hid (hL.out.trans hx)
      have hS2 := And.intro (hx.block hHeld.1) (And.intro (hx.block hHeld.2.1) (And.intro (hx.block hHeld.2.2.1) (hx.block hHeld.2.2.2)))
      clear hx
      refine hK.out _ _ hS2 (fun hHeld => ?_)
      clear hK K hS2
      refine tkS 13 hHeld ?_
      refine wpAnyH_done (by kernel_rfl) ?_ _
      go_wp2_with fail
      go_meet
      case rel => exact ⟨_, Kl, Km, Ki, _, _, cl, cm, ci, _, _, rfl, rfl, hL.out⟩
    · go_simp
      obtain ⟨q, hq⟩ : ∃ q, w8.heap.size = q := ⟨_, rfl⟩
      obtain ⟨wq, hwq⟩ : ∃ wq, (w8.alloc (.cells #[.string P] 9)).drew = wq := ⟨_, rfl⟩
      have hx : LJ w8 wq := by rw [← hwq]; exact ((LJ.refl _).alloc _).drew
      have HQB := Lib.hid (show wq.heap[q]? = some (.cells #[.string P] 9 (0, 0)) from by rw [← hwq, ← hq]; exact alloc_blk _ _)
      have hL := Lib.hid (hx)
      have hS2 := And.intro (hx.block hHeld.1) (And.intro (hx.block hHeld.2.1) (And.intro (hx.block hHeld.2.2.1) (hx.block hHeld.2.2.2)))
      rw [hq, hwq]
      clear hq hwq hx
      refine hK.out _ _ hS2 (fun hHeld => ?_)
      clear hK K hS2
      refine wpAnyH_ready (rs := [1]) (by kernel_rfl) (by simp) ?_
      refine AllReadyH.cons rfl (fun K hK => ?_) AllReadyH.nil
      go_simp
      (with_reducible refine (HLV.out _ hL.out).mono ?_); rintro e wx ⟨Kl, cl, rfl, hk, hx⟩
      have hL := Lib.hid (hL.out.trans hx)
      have HQB := Lib.hid (hx.block HQB.out)
      have HKl := Lib.hid hk
      have hS2 := And.intro (hx.block hHeld.1) (And.intro (hx.block hHeld.2.1) (And.intro (hx.block hHeld.2.2.1) (hx.block hHeld.2.2.2)))
      clear hx hk
      refine hK.out _ _ hS2 (fun hHeld => ?_)
      clear hK K hS2
      refine wpAnyH_ready (rs := [5]) (by kernel_rfl) (by simp) ?_
      refine AllReadyH.cons rfl (fun K hK => ?_) AllReadyH.nil
      have HMYW := Lib.hid (fun W (hW : LJ _ W) (hb : W.heap[q]? = _) => HMY.out W q hW hb)
      go_simp
      (with_reducible refine (HMYW.out _ hL.out HQB.out).mono ?_); rintro e wx ⟨Km, cm, rfl, hk, hx⟩
      have hL := Lib.hid (hL.out.trans hx)
      have HKl := Lib.hid (HKl.out.later hx)
      have HKm := Lib.hid hk
      have hS2 := And.intro (hx.block hHeld.1) (And.intro (hx.block hHeld.2.1) (And.intro (hx.block hHeld.2.2.1) (hx.block hHeld.2.2.2)))
      clear hx hk HMYW
      refine hK.out _ _ hS2 (fun hHeld => ?_)
      clear hK K hS2
      refine wpAnyH_ready (rs := [8]) (by kernel_rfl) (by simp) ?_
      refine AllReadyH.cons rfl (fun K hK => ?_) AllReadyH.nil
      go_simp
      (with_reducible refine (HIS.out _ hL.out).mono ?_); rintro e wx ⟨Ki, ci, rfl, hk, hx⟩
      have hL := Lib.hid (hL.out.trans hx)
      have HKl := Lib.hid (HKl.out.later hx)
      have HKm := Lib.hid (HKm.out.later hx)
      have HKi := Lib.hid hk
      have hS2 := And.intro (hx.block hHeld.1) (And.intro (hx.block hHeld.2.1) (And.intro (hx.block hHeld.2.2.1) (hx.block hHeld.2.2.2)))
      clear hx hk
      refine hK.out _ _ hS2 (fun hHeld => ?_)
      clear hK K hS2
      refine wpAnyH_ready (rs := [11]) (by kernel_rfl) (by simp) ?_
      refine AllReadyH.cons rfl (fun K hK => ?_) AllReadyH.nil
      go_simp
      obtain ⟨r, hr⟩ : ∃ r, wx.heap.size = r := ⟨_, rfl⟩
      obtain ⟨wr, hwr⟩ : ∃ wr, wx.alloc (.cells #[.func (.func Kl) #[] cl, .int .i64 2, .func (.func Km) #[] cm, .int .i64 171, .func (.func Ki) #[] ci, .int .i64 172, .func (.func 146) #[] #[.pointer (some ⟨q3, 0, none⟩)], .int .i64 174, .func (.func 147) #[] #[.pointer (some ⟨q2, 0, none⟩), .pointer (some ⟨q3, 0, none⟩)], .int .i64 177] 146) = wr := ⟨_, rfl⟩
      have hx : LJ wx wr := by rw [← hwr]; exact (LJ.refl _).alloc _
      have HRB := Lib.hid (show wr.heap[r]? = some (.cells (chkRow [⟨Kl, cl, true, 2⟩, ⟨Km, cm, B2, 171⟩, ⟨Ki, ci, B3, 172⟩, ⟨146, #[.pointer (some ⟨q3, 0, none⟩)], B4, 174⟩, ⟨147, #[.pointer (some ⟨q2, 0, none⟩), .pointer (some ⟨q3, 0, none⟩)], B5, 177⟩]).toArray 146 (0, 0)) from by rw [← hwr, ← hr]; exact alloc_blk _ _)
      have hL := Lib.hid (hL.out.trans hx)
      have HKl := Lib.hid (HKl.out.later hx)
      have HKm := Lib.hid (HKm.out.later hx)
      have HKi := Lib.hid (HKi.out.later hx)
      have hS2 := And.intro (hx.block hHeld.1) (And.intro (hx.block hHeld.2.1) (And.intro (hx.block hHeld.2.2.1) (hx.block hHeld.2.2.2)))
      rw [hr, hwr]
      clear hr hwr hx
      refine hK.out _ _ hS2 (fun hHeld => ?_)
      clear hK K hS2
      have HASK := Lib.hid (asked_any wr [⟨Kl, cl, true, 2⟩, ⟨Km, cm, B2, 171⟩, ⟨Ki, ci, B3, 172⟩, ⟨146, #[.pointer (some ⟨q3, 0, none⟩)], B4, 174⟩, ⟨147, #[.pointer (some ⟨q2, 0, none⟩), .pointer (some ⟨q3, 0, none⟩)], B5, 177⟩] r 5 5 rfl (by omega) (fun j c hj => chk_at HRB.out j c hj) (by intro c hc; simp only [List.mem_cons, List.not_mem_nil, or_false] at hc; rcases hc with rfl | rfl | rfl | rfl | rfl; exact HKl.out; exact HKm.out; exact HKi.out; exact HK1.out.later hL.out; exact HK2.out.later hL.out))
      refine wpAnyH_ready (rs := [12]) (by kernel_rfl) (by simp) ?_
      refine AllReadyH.cons rfl (fun K hK => ?_) AllReadyH.nil
      go_simp
      (with_reducible refine HASK.out.mono ?_); rintro e wz ⟨rfl, hx⟩
      have hL := Lib.hid (hL.out.trans hx)
      have hS2 := And.intro (hx.block hHeld.1) (And.intro (hx.block hHeld.2.1) (And.intro (hx.block hHeld.2.2.1) (hx.block hHeld.2.2.2)))
      clear hx
      refine hK.out _ _ hS2 (fun hHeld => ?_)
      clear hK K hS2
      refine tkS 13 hHeld ?_
      refine wpAnyH_done (by kernel_rfl) ?_ _
      go_wp2_with fail
      go_meet
      case rel => exact ⟨_, Kl, Km, Ki, _, _, cl, cm, ci, _, _, rfl, rfl, hL.out⟩
  case rest =>
    obtain ⟨cs, K1, K2, K3, K4, K5, c1, c2, c3, c4, c5, hcs, rfl, hlc⟩ := hcut
    have HLC := Lib.hid hlc
    have HWX := Lib.hid (HL2.out.trans (HL28.out.trans hlc))
    have hmk := HMK.out cs K1 K2 K3 K4 K5 c1 c2 c3 c4 c5 hcs
    obtain ⟨E, hE⟩ : ∃ E, askE cs = E := ⟨_, rfl⟩
    rw [hE] at hmk ⊢
    clear hcs hE hlc
    rcases hmk with ⟨hne, hm⟩ | ⟨h0, hm, hvi⟩
    · have HM := Lib.hid (hm room)
      have hneb : (E != 0) = true := by simpa using hne
      have HNE := Lib.hid hne
      clear hm
      go_wp2_with fail
      go_ret
      rw [HM.out]
      have hja : J.ans l (E, l) = J := if_neg HNE.out
      rw [hja]
      exact ⟨rfl, VOut.same HV.out HWX.out⟩
    · subst h0
      have HM := Lib.hid (hm room)
      have HVI := Lib.hid hvi
      have HBC2 := Lib.hid (HLC.out.block HB28.out)
      have HBC3 := Lib.hid (HLC.out.block HB38.out)
      have HWO2 := Lib.hid (HWO.out wc.drew (HL28.out.trans HLC.out).drew)
      clear hm hvi
      go_upto_region 6 with fail
      have HBEC2 := Lib.hid (fun W (hW : LJ wc.drew W) (m : Nat) (hm : EMap W m (delE l pl)) (hge : wc.drew.heap.size ≤ m) => HBEC.out W (HWX.out.drew.trans hW) m (delE l pl) hm (Nat.le_trans (Below.size HWX.out) hge) HVI.out HDL.out)
      refine wp_region_held_drew (S := fun w' => w'.heap[q2]? = some (.cells #[.pointer (some ⟨vb, 0, none⟩)] 60 (0, 0)) ∧ w'.heap[q3]? = some (.cells #[.string P] 9 (0, 0))) (by kernel_rfl) ⟨HBC2.out, HBC3.out⟩ (fun hHeld => ?_)
      refine tkS 0 hHeld ?_ (hy := by intro w hSw; have l0 := cell_blk hSw.1 0; have l1 := cell_blk hSw.2 0; go_simp; (try with_reducible rfl))
      refine tkS 1 hHeld ?_ (hy := by intro w hSw; have l0 := cell_blk hSw.1 0; have l1 := cell_blk hSw.2 0; go_simp; (try with_reducible rfl))
      refine tkS 2 hHeld ?_ (hy := by intro w hSw; have l0 := cell_blk hSw.1 0; have l1 := cell_blk hSw.2 0; go_simp; (try with_reducible rfl))
      refine wpAnyH_ready (rs := [3]) (by kernel_rfl) (by simp) ?_
      refine AllReadyH.cons rfl (fun K hK => ?_) AllReadyH.nil
      go_simp
      (with_reducible refine HWO2.out.mono ?_); rintro e wy ⟨m, rfl, hm1, hm2, hly⟩
      have HB9 := Lib.hid (HBEC2.out wy hly m hm1 hm2)
      have HLY := Lib.hid (HWX.out.drew.trans hly)
      have HGE := Lib.hid (show w.heap.size ≤ m from Nat.le_trans (Below.size HWX.out.drew) hm2)
      have HM7 := Lib.hid hm1
      have hS2 := And.intro (hly.block hHeld.1) (hly.block hHeld.2)
      refine hK.out _ _ hS2 (fun hHeld => ?_)
      clear hK K hS2 hm1 hm2 hly
      refine wpAnyH_ready (rs := [4]) (by kernel_rfl) (by simp) ?_
      refine AllReadyH.cons rfl (fun K hK => ?_) AllReadyH.nil
      go_simp
      (with_reducible refine HB9.out.mono ?_); rintro e wz ⟨rfl, hv9, ho9⟩
      have HV9 := Lib.hid hv9
      have HO9 := Lib.hid ho9
      clear hv9 ho9
      refine hK.out _ _ ?_ (fun hHeld => ?_)
      case refine_1 =>
        have h1 := HQ2.out
        have h2 := Below.size HLY.out
        have b2 := lt_blk hHeld.1
        have b3 := lt_blk hHeld.2
        exact ⟨(HO9.out.block q2 b2 (fun e => by have := HF.out q2 e; omega)).trans hHeld.1, (HO9.out.block q3 b3 (fun e => by have := HF.out q3 e; omega)).trans hHeld.2⟩
      case refine_2 =>
        clear hK K
        refine tkS 5 hHeld ?_
        refine wpAnyH_done (by kernel_rfl) ?_ _
        go_wp2_with fail
        go_ret
        rw [HM.out]
        exact ⟨rfl, VOut.bec HF.out HLY.out HGE.out HM7.out.lt HV9.out HO9.out⟩
end Go.Proofs.YtfpbocjmlhcgiaaGreatDoor
