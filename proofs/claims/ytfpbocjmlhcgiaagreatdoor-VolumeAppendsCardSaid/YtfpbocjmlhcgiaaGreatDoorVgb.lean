/- Vgb, merged: VM28 VM29. -/
import Derived.Test.YtfpbocjmlhcgiaaGreatDoorVg8
import Derived.Test.YtfpbocjmlhcgiaaGreatDoorVg4
import Derived.RangeFuncNested
import Derived.RangeFuncBound
import Derived.RangeFuncCalls
import Derived.RangeFuncLeaves
import Derived.Shelf.Abstract
import Derived.Shelf.RegionOpen
import Derived.WalkKit
import Derived.OwnWalkIn
import Derived.TacticsInMore
import Derived.LoopNIn
import Derived.LoopIn
import Derived.Stop.RegionWithIn
import Derived.Test.YtfpbocjmlhcgiaaGreatDoorVg9
set_option linter.unusedSimpArgs false
set_option linter.unusedVariables false
/- The volume's iterator over what is in a directory. -/
namespace Go.Proofs.YtfpbocjmlhcgiaaGreatDoor
open Go.RowKit PJ Go.Maps Go.WideMaps Go.Shelf
attribute [local go_sem] Oper.semAt_some

/-- What a round keeps: the iterator's box, and all entries. -/
def KpS (q2 : Nat) (W W' : World) : Prop := (∀ (cs : Array Value) (T : TypeId) (fr : Nat × Nat), W.heap[q2]? = some (Obj.cells cs T fr) → W'.heap[q2]? = some (Obj.cells cs T fr)) ∧ (∀ (q : Nat) (cs : Array Value) (fr : Nat × Nat), W.heap[q]? = some (Obj.cells cs 74 fr) → W'.heap[q]? = some (Obj.cells cs 74 fr)) ∧ W.heap.size ≤ W'.heap.size
theorem KpS.trans {q2 : Nat} {A B C : World} (h : KpS q2 A B) (k : KpS q2 B C) : KpS q2 A C := ⟨fun cs T fr e => k.1 cs T fr (h.1 cs T fr e), fun q cs fr e => k.2.1 q cs fr (h.2.1 q cs fr e), Nat.le_trans h.2.2 k.2.2⟩
theorem KpS.of {q2 : Nat} {A B : World} (h : LJ A B) : KpS q2 A B := ⟨fun cs T fr e => h.block e, fun q cs fr e => h.block e, Below.size h⟩
theorem KpS.put {q2 : Nat} (W : World) (l : Nat) (o o' : Obj) (h : W.heap[l]? = some o) (hc : o.isCells = false) : KpS q2 W (W.putObj l o') := by
  have key : ∀ (q : Nat) (cs : Array Value) (T : TypeId) (fr : Nat × Nat), W.heap[q]? = some (Obj.cells cs T fr) → (W.putObj l o').heap[q]? = some (Obj.cells cs T fr) := by
    intro q cs T fr e
    by_cases hq : q = l
    · subst hq
      rw [h] at e
      cases e
      cases hc
    · exact (World.putObj_heap_other hq).trans e
  exact ⟨key q2, fun q cs fr => key q cs _ fr, by simp⟩
theorem KpS.row {q2 : Nat} {W W' : World} (h : KpS q2 W W') {B s n : Nat} {v : Value} {xs : List Value} (ho : W.ownsRow B 74 s v n xs) : W'.ownsRow B 74 s v n xs := by
  rcases ho with ⟨h0, ho | ⟨g, cap, cur, e, hb, hg, hr⟩⟩
  · exact ⟨h0, .inl ho⟩
  · exact ⟨h0, .inr ⟨g, cap, cur, e, hb, h.2.1 _ _ _ hg, hr⟩⟩
theorem kids_succ {l : List Ent} {i : Nat} {x : Ent} (hx : l[i]? = some x) (p : List UInt8) : kidsE (l.take (i + 1)) p = kidsE (l.take i) p ++ if upP x.p = p then [x] else [] := by
  unfold kidsE
  rw [List.take_add_one, hx, List.filter_append]
  congr 1
  by_cases h : upP x.p = p
  · rw [if_pos h]; simp [h]
  · rw [if_neg h]; simp [h]
theorem kids_len (l : List Ent) (i : Nat) (p : List UInt8) : (kidsE (l.take i) p).length ≤ i := by
  have h := List.length_filter_le (fun y : Ent => upP y.p == p) (l.take i)
  rw [List.length_take] at h
  unfold kidsE
  omega
theorem kids_pre (l : List Ent) (i : Nat) (p : List UInt8) : kidsE (l.take i) p <+: kidsE l p := by
  unfold kidsE
  have h : l = l.take i ++ l.drop i := (List.take_append_drop i l).symm
  conv => rhs; rw [h, List.filter_append]
  exact List.prefix_append _ _
set_option maxRecDepth 100000 in
set_option maxHeartbeats 8000000 in
theorem vin1_in (n : Nat) (hn3 : 3 ≤ n) (L q1 q2 vb jb mb : Nat) (l : List Ent) (S : ByteArray) (hi : VInv l) (hl : l.length ≤ 800) (J Jx : List Ent → World → Prop)
    (hJa : ∀ s A B, J s A → LJ A B → J s B)
    (W : World)
    (hY : ∀ pre x W1, J pre W1 → pre.length < l.length → x ∈ l → YieldAt Fence.wide (n - 1) Tryz.prog L #[x.val] W1 fun e W' => (e = .returned (.bool true) ∧ J (pre ++ [x]) W' ∧ KpS q2 W1 W') ∨ (e = .returned (.bool false) ∧ Jx (pre ++ [x]) W'))
    (h1 : W.cell? ⟨q1, 0, none⟩ = some (.pointer (some ⟨vb, 0, none⟩))) (h2 : W.heap[q2]? = some (.cells #[.string S] 9 (0, 0))) (hv : VC W vb jb mb l) (h0 : J [] W) :
    CallsIn Fence.wide n Tryz.prog 159 #[.func (.yield L) #[] #[], .pointer (some ⟨q1, 0, none⟩), .pointer (some ⟨q2, 0, none⟩)] W fun e W' => (∃ v, e = .returned v) ∧
      ((∃ ys, ys = kidsE l S.data.toList ∧ J ys W') ∨ (∃ pre, pre <+: kidsE l S.data.toList ∧ Jx pre W')) := by
  have c1 : W.cell? ⟨vb, 1, none⟩ = some (.map (some mb)) := cell_blk hv.blk 1
  have HHI := Lib.hid hi
  have HJA := Lib.hid hJa
  have HY := Lib.hid hY
  have HB2 := Lib.hid h2
  obtain ⟨m, hm⟩ : ∃ m, l.length = m := ⟨_, rfl⟩
  have hm800 : m ≤ 800 := by omega
  have HM := Lib.hid hm
  have HSR := Lib.hid (show Calls Tryz.prog 88 #[.map (some mb)] W fun e w' => ∃ a cap, e = .returned (.slice a m cap) ∧ w'.ownsRow W.heap.size 74 3 (.slice a m cap) m (entsC l) ∧ LJ W w' from by
    refine (vsorted_any W mb l hv.map (by omega) (fun x hx => by have := (hi.two x hx).2; omega)).mono ?_
    rintro e w' ⟨v, rfl, h2, h3⟩
    rw [hm] at h2
    rcases h2.2 with ⟨e1, e2⟩ | ⟨g, cap, cur, e1, _⟩
    · exact ⟨none, 0, by rw [e1, e2], by rw [e1] at h2; rw [e2] at h2 ⊢; exact h2, h3⟩
    · exact ⟨some ⟨g, 0, none⟩, cap, by rw [e1], by rw [e1] at h2; exact h2, h3⟩)
  have HJ0 := Lib.hid h0
  obtain ⟨sp, hsp⟩ : ∃ x, S.data.toList = x := ⟨_, rfl⟩
  rw [hsp]
  have HSP := Lib.hid hsp
  clear hi hl hJa hY hv hm h0 hsp
  refine callsIn_of_wp Tryz.func159 rfl trivial ?_ rfl
  simp only [Tryz.ntmps159, List.size_toArray, List.length_cons, List.length_nil, Nat.reduceAdd, Nat.reduceSub, Array.replicate_succ, Array.replicate_zero, List.push_toArray, List.append_toArray, List.nil_append, List.cons_append]
  gi_wp2_with (first
    | (refine ⟨trivial, fun _ => by omega, ?_⟩; gi_at_call 88; refine (callsIn_wide.2 HSR.out).mono ?_; rintro e w2 ⟨ak, ck, rfl, hown2, hl2⟩; have HO2 := Lib.hid hown2; have HL2 := Lib.hid hl2; clear hown2 hl2)
    | fail)
  have HJ2 := Lib.hid (HJA.out _ _ _ HJ0.out HL2.out)
  have HB22 := Lib.hid (HL2.out.block HB2.out)
  gi_loopw [12] (fun v12 wr => ∃ i : Nat, i ≤ m ∧ v12 = .int .i64 (i : Int) ∧ Hid (J (kidsE (l.take i) sp) wr) ∧ Hid (wr.ownsRow W.heap.size 74 3 (.slice ak m ck) m (entsC l)) ∧ Hid (wr.heap[q2]? = some (.cells #[.string S] 9 (0, 0)))) (fun v12 _ => m - (intOf v12).toNat)
  case atStart => exact ⟨0, by omega, rfl, Lib.hid (by rw [List.take_zero]; exact HJ2.out), HO2, HB22⟩
  case round =>
    obtain ⟨i, him, rfl, HJ, HR, HQ2⟩ := hrel
    by_cases hlt : i < m
    · have hii : (i : Int) < (m : Int) := by omega
      obtain ⟨gk, ck', hf, hgk, hgl⟩ := HR.out.form (by omega)
      have hf1 : ak = some ⟨gk, 0, none⟩ := by injection hf
      subst hf1
      obtain ⟨x, hx⟩ : ∃ x, l[i]? = some x := ⟨_, List.getElem?_eq_getElem (by have := HM.out; omega)⟩
      have hxm := List.mem_of_getElem? hx
      obtain ⟨hx1, hx2⟩ := HHI.out.two x hxm
      obtain ⟨P, hP⟩ : ∃ P : ByteArray, (⟨x.p.toArray⟩ : ByteArray) = P := ⟨_, rfl⟩
      obtain ⟨D, hD⟩ : ∃ S : ByteArray, (⟨x.s.toArray⟩ : ByteArray) = S := ⟨_, rfl⟩
      have hPd : P.data.toList = x.p := by rw [← hP]
      have hPs : P.size = x.p.length := by rw [← hP]; show x.p.toArray.size = _; rw [List.size_toArray]
      have hval : x.val = .agg #[.string P, .bool x.d, .string D] := by rw [← hP, ← hD]; rfl
      obtain ⟨e0, e1, e2⟩ := entsC_get hx
      rw [hP] at e0
      rw [hD] at e2
      have c0 : wr.cell? ⟨gk, i * 3, none⟩ = some (.string P) := by
        have h1 := HR.out.cells (g := gk) rfl (i * 3) _ e0
        rw [addr_none, Nat.zero_add] at h1
        exact h1
      have c1 : wr.cell? ⟨gk, i * 3 + 1, none⟩ = some (.bool x.d) := by
        have h1 := HR.out.cells (g := gk) rfl (i * 3 + 1) _ e1
        rw [addr_none, Nat.zero_add] at h1
        exact h1
      have c2 : wr.cell? ⟨gk, i * 3 + 2, none⟩ = some (.string D) := by
        have h1 := HR.out.cells (g := gk) rfl (i * 3 + 2) _ e2
        rw [addr_none, Nat.zero_add] at h1
        exact h1
      obtain ⟨b, hb⟩ : ∃ b, x.d = b := ⟨_, rfl⟩
      rw [hb] at c1 hval
      obtain ⟨UP, hUP⟩ : ∃ B : ByteArray, (⟨(upP x.p).toArray⟩ : ByteArray) = B := ⟨_, rfl⟩
      have hUl : UP.toList = upP x.p := by rw [ByteArray.toList_eq, ← hUP]
      have hSl : S.toList = sp := by rw [ByteArray.toList_eq, HSP.out]
      have HUP := Lib.hid (fun W => show Calls Tryz.prog 89 #[.string P] W fun e w' => e = .returned (.string UP) ∧ w' = W from by
        have h1 := vparent_any W P (by omega) (by omega)
        rw [hPd, hUP] at h1
        exact h1)
      obtain ⟨w5, hw5⟩ : ∃ w5, wr.alloc (.cells #[.string P, .bool b, .string D] 74) = w5 := ⟨_, rfl⟩
      obtain ⟨q, hq⟩ : ∃ q, wr.heap.size = q := ⟨_, rfl⟩
      have HB5 := Lib.hid (show w5.heap[q]? = some (.cells #[.string P, .bool b, .string D] 74 (0, 0)) from by rw [← hw5, ← hq]; exact alloc_blk wr _)
      have HL5 := Lib.hid (show LJ wr w5 from by rw [← hw5]; exact (LJ.refl wr).alloc _)
      have hll : (kidsE (l.take i) sp).length < l.length := by have h1 := kids_len l i sp; have h2 := HM.out; omega
      have HY5 := Lib.hid (HY.out _ x w5.drew (HJA.out _ _ _ HJ.out HL5.out.drew) hll (List.mem_of_getElem? hx))
      rw [hval] at HY5
      have HSC := Lib.hid (kids_succ hx sp)
      have HRL := Lib.hid (own_below HR.out HL5.out.drew)
      have HQ5 := Lib.hid (HL5.out.block HQ2.out)
      have HJ5 := Lib.hid (HJA.out _ _ _ HJ.out HL5.out.drew)
      obtain ⟨up, hup⟩ : ∃ u, upP x.p = u := ⟨_, rfl⟩
      rw [hup] at hUl HSC
      have hq2q : q2 < q := by rw [← hq]; exact lt_blk HQ2.out
      have l0 : w5.drew.cell? ⟨q, 0, none⟩ = some (.string P) := cell_blk HB5.out 0
      have l1 : w5.drew.cell? ⟨q, 1, none⟩ = some (.bool b) := cell_blk HB5.out 1
      have l2 : w5.drew.cell? ⟨q, 2, none⟩ = some (.string D) := cell_blk HB5.out 2
      have s0 : w5.drew.cell? ⟨q2, 0, none⟩ = some (.string S) := cell_blk HQ5.out 0
      have HW5 := Lib.hid hw5
      clear hx hxm hx1 hx2 hP hD hPd hPs hval e0 e1 e2 hb hUP hf hgk hgl hll hup hw5
      by_cases hu : up = sp
      · have HSC := Lib.hid (show kidsE (l.take (i + 1)) sp = kidsE (l.take i) sp ++ [x] from by rw [HSC.out, if_pos hu])
        have HPRE := show Hid (∀ z, z = kidsE (l.take i) sp ++ [x] → z <+: kidsE l sp) from Lib.hid (fun z hz => by rw [hz, ← HSC.out]; exact kids_pre l (i + 1) sp)
        subst hu
        obtain ⟨fn, tmps, assign, body, hy, hR⟩ := HY5.out
        gi_wp2_with fail
        rw [HW5.out]
        refine wpIn_region_any (by kernel_rfl) ?_
        change wpAnyIn _ _ _ _ _ _ _ _ _ w5.drew
        obtain ⟨wd, hwd⟩ : ∃ wd, w5.drew = wd := ⟨_, rfl⟩
        rw [hwd] at l0 l1 l2 s0 hy hR HRL ⊢
        have HQ5 := Lib.hid (show wd.heap[q2]? = some (.cells #[.string S] 9 (0, 0)) from by rw [← hwd]; exact HQ5.out)
        refine wpAnyIn_take (i := 0) (v := ?_) rfl rfl (by kernel_rfl) (by kernel_rfl) (by kernel_rfl) (fun _ _ _ h => h) ⟨Or.inl ⟨by rfl, by intro w; go_simp; (try with_reducible rfl)⟩, fun _ => rfl⟩ ?_
        refine wpAnyIn_ready (rs := [1, 3]) (by kernel_rfl) (by simp) ?_
        refine AllReadyIn.cons rfl (fun K hK => ?_) (AllReadyIn.cons rfl (fun K hK => ?_) AllReadyIn.nil)
        · go_simp
          refine hK _ _ ?_
          clear hK K
          refine wpAnyIn_ready (rs := [2, 3]) (by kernel_rfl) (by simp) ?_
          refine AllReadyIn.cons rfl (fun K hK => ?_) (AllReadyIn.cons rfl (fun K hK => ?_) AllReadyIn.nil)
          · go_simp
            refine ⟨trivial, fun _ => by omega, ?_⟩
            refine (callsIn_wide.2 (HUP.out _)).mono ?_
            rintro e w6 ⟨rfl, hw6⟩
            subst hw6
            dsimp only
            refine hK _ _ ?_
            clear hK K
            refine wpAnyIn_ready (rs := [3]) (by kernel_rfl) (by simp) ?_
            refine AllReadyIn.cons rfl (fun K hK => ?_) AllReadyIn.nil
            go_simp
            refine hK _ _ ?_
            clear hK K
            refine wpAnyIn_ready (rs := [4]) (by kernel_rfl) (by simp) ?_
            refine AllReadyIn.cons rfl (fun K hK => ?_) AllReadyIn.nil
            go_simp
            refine hK _ _ ?_
            clear hK K
            refine wpAnyIn_ready (rs := [5]) (by kernel_rfl) (by simp) ?_
            refine AllReadyIn.cons rfl (fun K hK => ?_) AllReadyIn.nil
            go_simp
            refine hK _ _ ?_
            clear hK K
            refine wpAnyIn_take (i := 6) (v := ?_) rfl rfl (by kernel_rfl) (by kernel_rfl) (by kernel_rfl) (fun _ _ _ h => h) ⟨Or.inl ⟨by rfl, by intro w; go_simp; (try with_reducible rfl)⟩, fun _ => rfl⟩ ?_
            refine wpAnyIn_ready (rs := [7]) (by kernel_rfl) (by simp) ?_
            refine AllReadyIn.cons rfl (fun K hK => ?_) AllReadyIn.nil
            go_simp
            refine hK _ _ ?_
            clear hK K
            refine wpAnyIn_ready (rs := [8]) (by kernel_rfl) (by simp) ?_
            refine AllReadyIn.cons rfl (fun K hK => ?_) AllReadyIn.nil
            go_simp
            refine ⟨fun _ => by omega, hR.mono ?_⟩
            rintro e W3 (⟨rfl, hJ3, hk3⟩ | ⟨rfl, hJx3⟩)
            · dsimp only
              refine hK _ _ ?_
              clear hK K
              refine wpAnyIn_ready (rs := [9]) (by kernel_rfl) (by simp) ?_
              refine AllReadyIn.cons rfl (fun K hK => ?_) AllReadyIn.nil
              go_simp
              refine hK _ _ ?_
              clear hK K
              refine wpAnyIn_ready (rs := [10]) (by kernel_rfl) (by simp) ?_
              refine AllReadyIn.cons rfl (fun K hK => ?_) AllReadyIn.nil
              go_simp
              refine hK _ _ ?_
              clear hK K
              refine wpAnyIn_done (by kernel_rfl) ?_ _
              gi_wp2_with fail
              go_roundw
              case rel => exact ⟨i + 1, by omega, by simp, Lib.hid (by rw [HSC.out]; exact hJ3), Lib.hid (hk3.row HRL.out), Lib.hid (hk3.1 _ _ _ HQ5.out)⟩
              case measure => simp [intOf]; omega
            · dsimp only
              refine hK _ _ ?_
              clear hK K
              refine wpAnyIn_ready (rs := [9]) (by kernel_rfl) (by simp) ?_
              refine AllReadyIn.cons rfl (fun K hK => ?_) AllReadyIn.nil
              go_simp
              refine hK _ _ ?_
              clear hK K
              refine wpAnyIn_ready (rs := [10]) (by kernel_rfl) (by simp) ?_
              refine AllReadyIn.cons rfl (fun K hK => ?_) AllReadyIn.nil
              go_simp
              refine hK _ _ ?_
              clear hK K
              refine wpAnyIn_done (by kernel_rfl) ?_ _
              gi_wp2_with fail
              refine bodyPost_ret (results_none rfl _ _ _) rfl ?_
              exact ⟨⟨_, rfl⟩, .inr ⟨_, HPRE.out _ rfl, hJx3⟩⟩
          · go_simp
            refine hK _ _ ?_
            clear hK K
            refine wpAnyIn_ready (rs := [2]) (by kernel_rfl) (by simp) ?_
            refine AllReadyIn.cons rfl (fun K hK => ?_) AllReadyIn.nil
            go_simp
            refine ⟨trivial, fun _ => by omega, ?_⟩
            refine (callsIn_wide.2 (HUP.out _)).mono ?_
            rintro e w6 ⟨rfl, hw6⟩
            subst hw6
            dsimp only
            refine hK _ _ ?_
            clear hK K
            refine wpAnyIn_ready (rs := [4]) (by kernel_rfl) (by simp) ?_
            refine AllReadyIn.cons rfl (fun K hK => ?_) AllReadyIn.nil
            go_simp
            refine hK _ _ ?_
            clear hK K
            refine wpAnyIn_ready (rs := [5]) (by kernel_rfl) (by simp) ?_
            refine AllReadyIn.cons rfl (fun K hK => ?_) AllReadyIn.nil
            go_simp
            refine hK _ _ ?_
            clear hK K
            refine wpAnyIn_take (i := 6) (v := ?_) rfl rfl (by kernel_rfl) (by kernel_rfl) (by kernel_rfl) (fun _ _ _ h => h) ⟨Or.inl ⟨by rfl, by intro w; go_simp; (try with_reducible rfl)⟩, fun _ => rfl⟩ ?_
            refine wpAnyIn_ready (rs := [7]) (by kernel_rfl) (by simp) ?_
            refine AllReadyIn.cons rfl (fun K hK => ?_) AllReadyIn.nil
            go_simp
            refine hK _ _ ?_
            clear hK K
            refine wpAnyIn_ready (rs := [8]) (by kernel_rfl) (by simp) ?_
            refine AllReadyIn.cons rfl (fun K hK => ?_) AllReadyIn.nil
            go_simp
            refine ⟨fun _ => by omega, hR.mono ?_⟩
            rintro e W3 (⟨rfl, hJ3, hk3⟩ | ⟨rfl, hJx3⟩)
            · dsimp only
              refine hK _ _ ?_
              clear hK K
              refine wpAnyIn_ready (rs := [9]) (by kernel_rfl) (by simp) ?_
              refine AllReadyIn.cons rfl (fun K hK => ?_) AllReadyIn.nil
              go_simp
              refine hK _ _ ?_
              clear hK K
              refine wpAnyIn_ready (rs := [10]) (by kernel_rfl) (by simp) ?_
              refine AllReadyIn.cons rfl (fun K hK => ?_) AllReadyIn.nil
              go_simp
              refine hK _ _ ?_
              clear hK K
              refine wpAnyIn_done (by kernel_rfl) ?_ _
              gi_wp2_with fail
              go_roundw
              case rel => exact ⟨i + 1, by omega, by simp, Lib.hid (by rw [HSC.out]; exact hJ3), Lib.hid (hk3.row HRL.out), Lib.hid (hk3.1 _ _ _ HQ5.out)⟩
              case measure => simp [intOf]; omega
            · dsimp only
              refine hK _ _ ?_
              clear hK K
              refine wpAnyIn_ready (rs := [9]) (by kernel_rfl) (by simp) ?_
              refine AllReadyIn.cons rfl (fun K hK => ?_) AllReadyIn.nil
              go_simp
              refine hK _ _ ?_
              clear hK K
              refine wpAnyIn_ready (rs := [10]) (by kernel_rfl) (by simp) ?_
              refine AllReadyIn.cons rfl (fun K hK => ?_) AllReadyIn.nil
              go_simp
              refine hK _ _ ?_
              clear hK K
              refine wpAnyIn_done (by kernel_rfl) ?_ _
              gi_wp2_with fail
              refine bodyPost_ret (results_none rfl _ _ _) rfl ?_
              exact ⟨⟨_, rfl⟩, .inr ⟨_, HPRE.out _ rfl, hJx3⟩⟩
        · go_simp
          refine hK _ _ ?_
          clear hK K
          refine wpAnyIn_ready (rs := [1]) (by kernel_rfl) (by simp) ?_
          refine AllReadyIn.cons rfl (fun K hK => ?_) AllReadyIn.nil
          go_simp
          refine hK _ _ ?_
          clear hK K
          refine wpAnyIn_ready (rs := [2]) (by kernel_rfl) (by simp) ?_
          refine AllReadyIn.cons rfl (fun K hK => ?_) AllReadyIn.nil
          go_simp
          refine ⟨trivial, fun _ => by omega, ?_⟩
          refine (callsIn_wide.2 (HUP.out _)).mono ?_
          rintro e w6 ⟨rfl, hw6⟩
          subst hw6
          dsimp only
          refine hK _ _ ?_
          clear hK K
          refine wpAnyIn_ready (rs := [4]) (by kernel_rfl) (by simp) ?_
          refine AllReadyIn.cons rfl (fun K hK => ?_) AllReadyIn.nil
          go_simp
          refine hK _ _ ?_
          clear hK K
          refine wpAnyIn_ready (rs := [5]) (by kernel_rfl) (by simp) ?_
          refine AllReadyIn.cons rfl (fun K hK => ?_) AllReadyIn.nil
          go_simp
          refine hK _ _ ?_
          clear hK K
          refine wpAnyIn_take (i := 6) (v := ?_) rfl rfl (by kernel_rfl) (by kernel_rfl) (by kernel_rfl) (fun _ _ _ h => h) ⟨Or.inl ⟨by rfl, by intro w; go_simp; (try with_reducible rfl)⟩, fun _ => rfl⟩ ?_
          refine wpAnyIn_ready (rs := [7]) (by kernel_rfl) (by simp) ?_
          refine AllReadyIn.cons rfl (fun K hK => ?_) AllReadyIn.nil
          go_simp
          refine hK _ _ ?_
          clear hK K
          refine wpAnyIn_ready (rs := [8]) (by kernel_rfl) (by simp) ?_
          refine AllReadyIn.cons rfl (fun K hK => ?_) AllReadyIn.nil
          go_simp
          refine ⟨fun _ => by omega, hR.mono ?_⟩
          rintro e W3 (⟨rfl, hJ3, hk3⟩ | ⟨rfl, hJx3⟩)
          · dsimp only
            refine hK _ _ ?_
            clear hK K
            refine wpAnyIn_ready (rs := [9]) (by kernel_rfl) (by simp) ?_
            refine AllReadyIn.cons rfl (fun K hK => ?_) AllReadyIn.nil
            go_simp
            refine hK _ _ ?_
            clear hK K
            refine wpAnyIn_ready (rs := [10]) (by kernel_rfl) (by simp) ?_
            refine AllReadyIn.cons rfl (fun K hK => ?_) AllReadyIn.nil
            go_simp
            refine hK _ _ ?_
            clear hK K
            refine wpAnyIn_done (by kernel_rfl) ?_ _
            gi_wp2_with fail
            go_roundw
            case rel => exact ⟨i + 1, by omega, by simp, Lib.hid (by rw [HSC.out]; exact hJ3), Lib.hid (hk3.row HRL.out), Lib.hid (hk3.1 _ _ _ HQ5.out)⟩
            case measure => simp [intOf]; omega
          · dsimp only
            refine hK _ _ ?_
            clear hK K
            refine wpAnyIn_ready (rs := [9]) (by kernel_rfl) (by simp) ?_
            refine AllReadyIn.cons rfl (fun K hK => ?_) AllReadyIn.nil
            go_simp
            refine hK _ _ ?_
            clear hK K
            refine wpAnyIn_ready (rs := [10]) (by kernel_rfl) (by simp) ?_
            refine AllReadyIn.cons rfl (fun K hK => ?_) AllReadyIn.nil
            go_simp
            refine hK _ _ ?_
            clear hK K
            refine wpAnyIn_done (by kernel_rfl) ?_ _
            gi_wp2_with fail
            refine bodyPost_ret (results_none rfl _ _ _) rfl ?_
            exact ⟨⟨_, rfl⟩, .inr ⟨_, HPRE.out _ rfl, hJx3⟩⟩
      · have hub : (up == sp) = false := by simpa using hu
        have HSC := Lib.hid (show kidsE (l.take (i + 1)) sp = kidsE (l.take i) sp from by rw [HSC.out, if_neg hu, List.append_nil])
        gi_wp2_with fail
        rw [HW5.out]
        refine wpIn_region_any (by kernel_rfl) ?_
        change wpAnyIn _ _ _ _ _ _ _ _ _ w5.drew
        obtain ⟨wd, hwd⟩ : ∃ wd, w5.drew = wd := ⟨_, rfl⟩
        rw [hwd] at l0 l1 l2 s0 HJ5 HRL ⊢
        have HJD := HJ5
        have HRD := HRL
        have HQD := Lib.hid (show wd.heap[q2]? = some (.cells #[.string S] 9 (0, 0)) from by rw [← hwd]; exact HQ5.out)
        refine wpAnyIn_take (i := 0) (v := ?_) rfl rfl (by kernel_rfl) (by kernel_rfl) (by kernel_rfl) (fun _ _ _ h => h) ⟨Or.inl ⟨by rfl, by intro w; go_simp; (try with_reducible rfl)⟩, fun _ => rfl⟩ ?_
        refine wpAnyIn_ready (rs := [1, 3]) (by kernel_rfl) (by simp) ?_
        refine AllReadyIn.cons rfl (fun K hK => ?_) (AllReadyIn.cons rfl (fun K hK => ?_) AllReadyIn.nil)
        · go_simp
          refine hK _ _ ?_
          clear hK K
          refine wpAnyIn_ready (rs := [2, 3]) (by kernel_rfl) (by simp) ?_
          refine AllReadyIn.cons rfl (fun K hK => ?_) (AllReadyIn.cons rfl (fun K hK => ?_) AllReadyIn.nil)
          · go_simp
            refine ⟨trivial, fun _ => by omega, ?_⟩
            refine (callsIn_wide.2 (HUP.out _)).mono ?_
            rintro e w6 ⟨rfl, hw6⟩
            subst hw6
            dsimp only
            refine hK _ _ ?_
            clear hK K
            refine wpAnyIn_ready (rs := [3]) (by kernel_rfl) (by simp) ?_
            refine AllReadyIn.cons rfl (fun K hK => ?_) AllReadyIn.nil
            go_simp
            refine hK _ _ ?_
            clear hK K
            refine wpAnyIn_ready (rs := [4]) (by kernel_rfl) (by simp) ?_
            refine AllReadyIn.cons rfl (fun K hK => ?_) AllReadyIn.nil
            go_simp
            refine hK _ _ ?_
            clear hK K
            refine wpAnyIn_ready (rs := [5]) (by kernel_rfl) (by simp) ?_
            refine AllReadyIn.cons rfl (fun K hK => ?_) AllReadyIn.nil
            go_simp
            refine hK _ _ ?_
            clear hK K
            refine wpAnyIn_take (i := 6) (v := undef) rfl rfl (by kernel_rfl) (by kernel_rfl) (by kernel_rfl) (fun _ _ _ h => h) ⟨Or.inr ⟨by rfl, rfl⟩, fun _ => rfl⟩ ?_
            refine wpAnyIn_take (i := 7) (v := undef) rfl rfl (by kernel_rfl) (by kernel_rfl) (by kernel_rfl) (fun _ _ _ h => h) ⟨Or.inr ⟨by rfl, rfl⟩, fun _ => rfl⟩ ?_
            refine wpAnyIn_take (i := 8) (v := undef) rfl rfl (by kernel_rfl) (by kernel_rfl) (by kernel_rfl) (fun _ _ _ h => h) ⟨Or.inr ⟨by rfl, rfl⟩, fun _ => rfl⟩ ?_
            refine wpAnyIn_take (i := 9) (v := undef) rfl rfl (by kernel_rfl) (by kernel_rfl) (by kernel_rfl) (fun _ _ _ h => h) ⟨Or.inr ⟨by rfl, rfl⟩, fun _ => rfl⟩ ?_
            refine wpAnyIn_ready (rs := [10]) (by kernel_rfl) (by simp) ?_
            refine AllReadyIn.cons rfl (fun K hK => ?_) AllReadyIn.nil
            go_simp
            refine hK _ _ ?_
            clear hK K
            refine wpAnyIn_done (by kernel_rfl) ?_ _
            gi_wp2_with fail
            go_roundw
            case rel => exact ⟨i + 1, by omega, by simp, Lib.hid (by rw [HSC.out]; exact HJD.out), HRD, HQD⟩
            case measure => simp [intOf]; omega
          · go_simp
            refine hK _ _ ?_
            clear hK K
            refine wpAnyIn_ready (rs := [2]) (by kernel_rfl) (by simp) ?_
            refine AllReadyIn.cons rfl (fun K hK => ?_) AllReadyIn.nil
            go_simp
            refine ⟨trivial, fun _ => by omega, ?_⟩
            refine (callsIn_wide.2 (HUP.out _)).mono ?_
            rintro e w6 ⟨rfl, hw6⟩
            subst hw6
            dsimp only
            refine hK _ _ ?_
            clear hK K
            refine wpAnyIn_ready (rs := [4]) (by kernel_rfl) (by simp) ?_
            refine AllReadyIn.cons rfl (fun K hK => ?_) AllReadyIn.nil
            go_simp
            refine hK _ _ ?_
            clear hK K
            refine wpAnyIn_ready (rs := [5]) (by kernel_rfl) (by simp) ?_
            refine AllReadyIn.cons rfl (fun K hK => ?_) AllReadyIn.nil
            go_simp
            refine hK _ _ ?_
            clear hK K
            refine wpAnyIn_take (i := 6) (v := undef) rfl rfl (by kernel_rfl) (by kernel_rfl) (by kernel_rfl) (fun _ _ _ h => h) ⟨Or.inr ⟨by rfl, rfl⟩, fun _ => rfl⟩ ?_
            refine wpAnyIn_take (i := 7) (v := undef) rfl rfl (by kernel_rfl) (by kernel_rfl) (by kernel_rfl) (fun _ _ _ h => h) ⟨Or.inr ⟨by rfl, rfl⟩, fun _ => rfl⟩ ?_
            refine wpAnyIn_take (i := 8) (v := undef) rfl rfl (by kernel_rfl) (by kernel_rfl) (by kernel_rfl) (fun _ _ _ h => h) ⟨Or.inr ⟨by rfl, rfl⟩, fun _ => rfl⟩ ?_
            refine wpAnyIn_take (i := 9) (v := undef) rfl rfl (by kernel_rfl) (by kernel_rfl) (by kernel_rfl) (fun _ _ _ h => h) ⟨Or.inr ⟨by rfl, rfl⟩, fun _ => rfl⟩ ?_
            refine wpAnyIn_ready (rs := [10]) (by kernel_rfl) (by simp) ?_
            refine AllReadyIn.cons rfl (fun K hK => ?_) AllReadyIn.nil
            go_simp
            refine hK _ _ ?_
            clear hK K
            refine wpAnyIn_done (by kernel_rfl) ?_ _
            gi_wp2_with fail
            go_roundw
            case rel => exact ⟨i + 1, by omega, by simp, Lib.hid (by rw [HSC.out]; exact HJD.out), HRD, HQD⟩
            case measure => simp [intOf]; omega
        · go_simp
          refine hK _ _ ?_
          clear hK K
          refine wpAnyIn_ready (rs := [1]) (by kernel_rfl) (by simp) ?_
          refine AllReadyIn.cons rfl (fun K hK => ?_) AllReadyIn.nil
          go_simp
          refine hK _ _ ?_
          clear hK K
          refine wpAnyIn_ready (rs := [2]) (by kernel_rfl) (by simp) ?_
          refine AllReadyIn.cons rfl (fun K hK => ?_) AllReadyIn.nil
          go_simp
          refine ⟨trivial, fun _ => by omega, ?_⟩
          refine (callsIn_wide.2 (HUP.out _)).mono ?_
          rintro e w6 ⟨rfl, hw6⟩
          subst hw6
          dsimp only
          refine hK _ _ ?_
          clear hK K
          refine wpAnyIn_ready (rs := [4]) (by kernel_rfl) (by simp) ?_
          refine AllReadyIn.cons rfl (fun K hK => ?_) AllReadyIn.nil
          go_simp
          refine hK _ _ ?_
          clear hK K
          refine wpAnyIn_ready (rs := [5]) (by kernel_rfl) (by simp) ?_
          refine AllReadyIn.cons rfl (fun K hK => ?_) AllReadyIn.nil
          go_simp
          refine hK _ _ ?_
          clear hK K
          refine wpAnyIn_take (i := 6) (v := undef) rfl rfl (by kernel_rfl) (by kernel_rfl) (by kernel_rfl) (fun _ _ _ h => h) ⟨Or.inr ⟨by rfl, rfl⟩, fun _ => rfl⟩ ?_
          refine wpAnyIn_take (i := 7) (v := undef) rfl rfl (by kernel_rfl) (by kernel_rfl) (by kernel_rfl) (fun _ _ _ h => h) ⟨Or.inr ⟨by rfl, rfl⟩, fun _ => rfl⟩ ?_
          refine wpAnyIn_take (i := 8) (v := undef) rfl rfl (by kernel_rfl) (by kernel_rfl) (by kernel_rfl) (fun _ _ _ h => h) ⟨Or.inr ⟨by rfl, rfl⟩, fun _ => rfl⟩ ?_
          refine wpAnyIn_take (i := 9) (v := undef) rfl rfl (by kernel_rfl) (by kernel_rfl) (by kernel_rfl) (fun _ _ _ h => h) ⟨Or.inr ⟨by rfl, rfl⟩, fun _ => rfl⟩ ?_
          refine wpAnyIn_ready (rs := [10]) (by kernel_rfl) (by simp) ?_
          refine AllReadyIn.cons rfl (fun K hK => ?_) AllReadyIn.nil
          go_simp
          refine hK _ _ ?_
          clear hK K
          refine wpAnyIn_done (by kernel_rfl) ?_ _
          gi_wp2_with fail
          go_roundw
          case rel => exact ⟨i + 1, by omega, by simp, Lib.hid (by rw [HSC.out]; exact HJD.out), HRD, HQD⟩
          case measure => simp [intOf]; omega
    · have hie : i = m := by omega
      have hii : ¬ (i : Int) < (m : Int) := by omega
      have HF := Lib.hid (show J (kidsE l sp) wr from by
        have h1 := HJ.out
        rw [hie, ← HM.out, List.take_length] at h1
        exact h1)
      clear hie
      gi_wp2_with fail
      go_end0
      first
        | exact ⟨⟨_, rfl⟩, .inl HF.out⟩
        | exact ⟨⟨_, rfl⟩, .inl ⟨_, rfl, HF.out⟩⟩
end Go.Proofs.YtfpbocjmlhcgiaaGreatDoor
/- The volume's in; Remove's range over it. -/
namespace Go.Proofs.YtfpbocjmlhcgiaaGreatDoor
open Go.RowKit PJ Go.Maps Go.WideMaps Go.Shelf
attribute [local go_sem] Oper.semAt_some

set_option maxRecDepth 100000 in
theorem vin_any (w : World) (vb : Nat) (S : ByteArray) :
    Calls Tryz.prog 105 #[.pointer (some ⟨vb, 0, none⟩), .string S] w fun e w' => ∃ q1 q2, e = .returned (.func (.func 159) #[] #[.pointer (some ⟨q1, 0, none⟩), .pointer (some ⟨q2, 0, none⟩)]) ∧ w'.heap[q1]? = some (.cells #[.pointer (some ⟨vb, 0, none⟩)] 60 (0, 0)) ∧ w'.heap[q2]? = some (.cells #[.string S] 9 (0, 0)) ∧ LJ w w' := by
  have hmf : ∀ (fn : Fn) (first cap : Array Value) (w : World), (Instr.makeFunc fn first cap).run Tryz.prog w = .ok (.func fn first cap) w := fun _ _ _ _ => rfl
  obtain ⟨w1, hw1⟩ : ∃ w1, w.alloc (.cells #[.pointer (some ⟨vb, 0, none⟩)] 60) = w1 := ⟨_, rfl⟩
  obtain ⟨q1, hq1⟩ : ∃ q, w.heap.size = q := ⟨_, rfl⟩
  have hb1 : w1.heap[q1]? = some (.cells #[.pointer (some ⟨vb, 0, none⟩)] 60 (0, 0)) := by rw [← hw1, ← hq1]; exact alloc_blk w _
  have hl1 : LJ w w1 := by rw [← hw1]; exact (LJ.refl w).alloc _
  obtain ⟨w2, hw2⟩ : ∃ w2, w1.alloc (.cells #[.string S] 9) = w2 := ⟨_, rfl⟩
  have hs1 : w1.heap.size = q1 + 1 := by rw [← hw1, World.size_alloc, hq1]
  have hb2 : w2.heap[q1 + 1]? = some (.cells #[.string S] 9 (0, 0)) := by rw [← hw2, ← hs1]; exact alloc_blk w1 _
  have hl2 : LJ w1 w2 := by rw [← hw2]; exact (LJ.refl w1).alloc _
  have HF := Lib.hid (And.intro (hl2.block hb1) (And.intro hb2 (hl1.trans hl2)))
  have HW1 := Lib.hid hw1
  have HW2 := Lib.hid hw2
  clear hw1 hw2 hb1 hb2 hl1 hl2 hs1
  go_enter Tryz.func105, Tryz.ntmps105
  go_upto_region 1 with fail
  rw [HW1.out, HW2.out]
  go_wp2_with fail
  go_ret
  exact ⟨q1, q1 + 1, rfl, HF.out.1, HF.out.2.1, HF.out.2.2⟩
theorem vin_stops (n : Nat) (hn3 : 3 ≤ n) (q1 q2 vb jb mb : Nat) (l : List Ent) (S : ByteArray) (hi : VInv l) (hl : l.length ≤ 800) (w : World)
    (h1 : w.heap[q1]? = some (.cells #[.pointer (some ⟨vb, 0, none⟩)] 60 (0, 0))) (h2 : w.heap[q2]? = some (.cells #[.string S] 9 (0, 0))) (hv : VC w vb jb mb l) :
    SeqStopsK Fence.wide n Tryz.prog 159 #[.pointer (some ⟨q1, 0, none⟩), .pointer (some ⟨q2, 0, none⟩)] (fun x : Ent => #[x.val]) (KpS q2) (fun ys => ys = kidsE l S.data.toList) (fun pre => pre <+: kidsE l S.data.toList) l.length w := fun L J Jx W hW hJ hJx hY h0 =>
  vin1_in n hn3 L q1 q2 vb jb mb l S hi hl J Jx (fun s A B hs hAB => hJ s A B none hs ⟨hAB.os, hAB.tape, hAB.output, Below.size hAB, fun k hk _ => Below.block hAB k hk⟩ (fun r e => by cases e)) W (fun pre x W1 h1 h2 _ => hY pre x W1 h1 h2) (cell_blk ((show LJ w W from hW).block h1) 0) ((show LJ w W from hW).block h2) (hv.later hW) h0
/-- A directory's entries, as entries of the volume's. -/
theorem vin_stopsM (n : Nat) (hn3 : 3 ≤ n) (q1 q2 vb jb mb : Nat) (l : List Ent) (S : ByteArray) (hi : VInv l) (hl : l.length ≤ 800) (w : World)
    (h1 : w.heap[q1]? = some (.cells #[.pointer (some ⟨vb, 0, none⟩)] 60 (0, 0))) (h2 : w.heap[q2]? = some (.cells #[.string S] 9 (0, 0))) (hv : VC w vb jb mb l) :
    SeqStopsK Fence.wide n Tryz.prog 159 #[.pointer (some ⟨q1, 0, none⟩), .pointer (some ⟨q2, 0, none⟩)] (fun x : {x : Ent // x ∈ l} => #[x.1.val]) (KpS q2) (fun ys => ys.map (·.1) = kidsE l S.data.toList) (fun pre => pre.map (·.1) <+: kidsE l S.data.toList) l.length w := fun L J Jx W hW hJ hJx hY h0 => by
  refine (vin1_in n hn3 L q1 q2 vb jb mb l S hi hl (fun ys W => ∃ zs : List {x : Ent // x ∈ l}, zs.map (·.1) = ys ∧ J zs W) (fun ys W => ∃ zs : List {x : Ent // x ∈ l}, zs.map (·.1) = ys ∧ Jx zs W) (fun s A B hs hAB => ?_) W (fun pre x W1 h1 h2 hx => ?_) (cell_blk ((show LJ w W from hW).block h1) 0) ((show LJ w W from hW).block h2) (hv.later hW) ⟨[], rfl, h0⟩).mono ?_
  · obtain ⟨zs, e, hj⟩ := hs
    exact ⟨zs, e, hJ zs A B none hj ⟨hAB.os, hAB.tape, hAB.output, Below.size hAB, fun k hk _ => Below.block hAB k hk⟩ (fun r e => by cases e)⟩
  · obtain ⟨zs, e, hj⟩ := h1
    refine (hY zs ⟨x, hx⟩ W1 hj (by rw [← e] at h2; simpa using h2)).mono ?_
    rintro e' W' (⟨a1, a2, a3⟩ | ⟨a1, a2⟩)
    · exact .inl ⟨a1, ⟨_, by rw [List.map_append, e]; rfl, a2⟩, a3⟩
    · exact .inr ⟨a1, ⟨_, by rw [List.map_append, e]; rfl, a2⟩⟩
  · rintro e W' ⟨a1, ⟨ys, a2, zs, a3, a4⟩ | ⟨pre, a2, zs, a3, a4⟩⟩
    · exact ⟨a1, .inl ⟨zs, a3.trans a2, a4⟩⟩
    · exact ⟨a1, .inr ⟨zs, (show zs.map (·.1) <+: _ from by rw [a3]; exact a2), a4⟩⟩
set_option maxRecDepth 100000 in
set_option maxHeartbeats 4000000 in
theorem vempty_any (w : World) (p1 p2 vb jb mb : Nat) (l : List Ent) (S : ByteArray) (hi : VInv l) (hl : l.length ≤ 800) (hv : VC w vb jb mb l) (h1 : w.cell? ⟨p1, 0, none⟩ = some (.pointer (some ⟨vb, 0, none⟩))) (h2 : w.cell? ⟨p2, 0, none⟩ = some (.string S)) :
    Calls Tryz.prog 147 #[.pointer (some ⟨p1, 0, none⟩), .pointer (some ⟨p2, 0, none⟩)] w fun e w' => e = .returned (.bool (kidsE l S.data.toList).isEmpty) ∧ LJ w w' := by
  refine (callsIn_wide (n := 9)).1 ?_
  have hl1 : LJ w (w.alloc (.cells #[.bool false] 4)) := (LJ.refl w).alloc _
  have HB1 := Lib.hid (alloc_blk w (.cells #[.bool false] 4))
  have c1 := LJ.cell hl1 h1
  have c2 := LJ.cell hl1 h2
  have HIN := Lib.hid (vin_any (w.alloc (.cells #[.bool false] 4)) vb S)
  have HL1 := Lib.hid hl1
  have HV1 := Lib.hid (hv.later hl1)
  have HI := Lib.hid (And.intro hi hl)
  clear hl1 hv hi hl h1 h2
  refine callsIn_of_wp_marks Tryz.func147 rfl trivial ?_ rfl
  simp only [Tryz.ntmps147, List.size_toArray, List.length_cons, List.length_nil, Nat.reduceAdd, Nat.reduceSub, Array.replicate_succ, Array.replicate_zero, List.push_toArray, List.append_toArray, List.nil_append, List.cons_append]
  gi_wp2_with (refine ⟨trivial, (callsIn_wide.2 HIN.out).mono ?_⟩; rintro e w2 ⟨q1, q2, rfl, hb1, hb2, hl2⟩; have HQ := Lib.hid (And.intro hb1 (And.intro hb2 hl2)); clear hb1 hb2 hl2)
  obtain ⟨hb1, hb2, hl2⟩ := HQ.out
  have hbr := LJ.block hl2 HB1.out
  have cr : w2.cell? ⟨w.heap.size, 0, none⟩ = some (.bool false) := cell_blk hbr 0
  have fr : w2.frozen? ⟨w.heap.size, 0, none⟩ = false := by simp [World.frozen?, hbr]
  have hB0 : Below w.heap.size w w2 := HL1.out.trans hl2
  have hsz : w.heap.size < w2.heap.size := lt_blk hbr
  have hszl : w.heap.size ≤ w2.heap.size := Nat.le_of_lt hsz
  refine wpIn_rangeFunc_ownF rfl (by omega) (gf := 159) (lb := #[.pointer (some ⟨q1, 0, none⟩), .pointer (some ⟨q2, 0, none⟩)]) rfl trivial (enters_of Tryz.func159 (by kernel_rfl) rfl)
    (vin_stops 8 (by omega) q1 q2 vb jb mb l S HI.out.1 HI.out.2 w2 hb1 hb2 (HV1.out.later hl2)) KpS.trans (fun W l' o o' _ h hc _ => KpS.put W l' o o' h hc) (Below.refl _ _) (fun _ => rfl)
    (fun pre W => (pre = [] ∧ W.cell? ⟨w.heap.size, 0, none⟩ = some (.bool false) ∧ W.frozen? ⟨w.heap.size, 0, none⟩ = false) ∧ Below w.heap.size w W)
    (fun c pre W => (c = .ret ∧ pre ≠ [] ∧ W.cell? ⟨w.heap.size, 0, none⟩ = some (.bool false)) ∧ Below w.heap.size w W)
    (OwnFrom.and (Own.from (fun s A B row hs hg hr => ⟨hs.1, cell_kept hs.2.1 hg hr, (frozen_kept hs.2.1 hg hr).trans hs.2.2⟩) _) (ownFrom_below (Nat.le_refl _) hszl))
    (fun c => OwnFrom.and (Own.from (fun s A B row hs hg hr => ⟨hs.1, hs.2.1, cell_kept hs.2.2 hg hr⟩) _) (ownFrom_below (Nat.le_refl _) hszl))
    ⟨⟨rfl, cr, fr⟩, hB0⟩
    (fun x => { tmps := #[.pointer (some ⟨p1, 0, none⟩), .pointer (some ⟨p2, 0, none⟩), .pointer (some ⟨w.heap.size, 0, none⟩), .pointer (some ⟨vb, 0, none⟩), .string S, .func (.func 159) #[] #[.pointer (some ⟨q1, 0, none⟩), .pointer (some ⟨q2, 0, none⟩)], x.val], defers := [] }) ?assign ?body ?done ?stop
  case assign =>
    intro l x W K hK
    gi_wp2
    simpa using hK
  case body =>
    rintro l pre x W ⟨⟨rfl, hcr, hfr⟩, hB⟩ _
    gi_wp2
    exact ⟨KeepsOthers.setCell _ _ _, ⟨rfl, by simp, World.cell?_setCell_same' _ _ _ (by rw [hcr]; rfl)⟩, hB.setCell (p := ⟨w.heap.size, 0, none⟩) (Nat.le_refl _) _⟩
  case done =>
    rintro D ys W hD rfl ⟨⟨hne, hcr, hfr⟩, hB⟩ hK
    gi_wp2
    have hK' := (KeepsOthers.setCell W ⟨w.heap.size, 0, none⟩ (.bool true)).same D _ hK rfl
    refine ⟨by simp, .inl ⟨_, _, rfl, run_takeDeferred hK', ?_⟩⟩
    have hc5 := cell_kept (World.cell?_setCell_same' W ⟨w.heap.size, 0, none⟩ (.bool true) (by rw [hcr]; rfl)) (grownBy_putObj' _ D (.deferred none)) (fun r e => by cases e; exact ⟨_, hK', rfl⟩)
    refine ⟨.bool true, ?_, by rw [hne]; rfl, (hB.setCell (p := ⟨w.heap.size, 0, none⟩) (Nat.le_refl _) _).trans (belowK_b (w := w) (Nat.le_refl _) _ D _ _ (by omega) hK' rfl rfl)⟩
    simp [results, Tryz.f147, go_sem, hc5]
  case stop =>
    rintro D c pre W hD hpre ⟨⟨rfl, hin, hcr⟩, hB⟩ hK
    gi_wp2
    refine ⟨by simp, .inl ⟨_, _, rfl, run_takeDeferred hK, ?_⟩⟩
    have hc5 := cell_kept hcr (grownBy_putObj' _ D (.deferred none)) (fun r e => by cases e; exact ⟨_, hK, rfl⟩)
    have hk : (kidsE l S.data.toList).isEmpty = false := by
      cases hx : kidsE l S.data.toList with
      | nil => rw [hx] at hpre; exact absurd (List.prefix_nil.1 hpre) hin
      | cons y ys => rfl
    refine ⟨.bool false, ?_, by rw [hk], hB.trans (belowK_b (w := w) (Nat.le_refl _) W D _ _ (by omega) hK rfl rfl)⟩
    simp [results, Tryz.f147, go_sem, hc5]
end Go.Proofs.YtfpbocjmlhcgiaaGreatDoor
