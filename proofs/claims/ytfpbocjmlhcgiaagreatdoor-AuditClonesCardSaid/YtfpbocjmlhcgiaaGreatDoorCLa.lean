/- CLa, merged: CL6 CL7 CL5 CL8. -/
import Derived.Test.YtfpbocjmlhcgiaaGreatDoorCL4
import Derived.Test.YtfpbocjmlhcgiaaGreatDoorAg1
import Derived.BigQuiet
import Derived.Test.YtfpbocjmlhcgiaaGreatDoorCL3
import Derived.Test.YtfpbocjmlhcgiaaGreatDoorAg3
set_option linter.unusedSimpArgs false
set_option linter.unusedVariables false
/- Clones: the audit's. -/
namespace Go.Proofs.YtfpbocjmlhcgiaaGreatDoor
open Go.RowKit PJ Go.Maps Go.Shelf

set_option maxRecDepth 100000 in
set_option maxHeartbeats 4000000 in
theorem aclone_any (w : World) (A jb : Nat) (xs : List Rec) (V : Value) (hA : AudB w A jb xs V) (hx : xs.length ≤ 4096) (k : Nat) :
    Calls Tryz.prog 19 #[.pointer (some ⟨A, 0, none⟩), .pointer (some ⟨k, 0, none⟩)] w fun e w' => ∃ A' V', e = .returned (.pointer (some ⟨A', 0, none⟩)) ∧ AudB w' A' k xs V' ∧ w.heap.size ≤ A' ∧ A' < w'.heap.size ∧ (∀ q, V'.ownBlock = some q → w.heap.size ≤ q) ∧ LJ w w' := by
  have hrow := hA.row
  obtain ⟨ao, cap, rfl⟩ := own_slice hrow
  have HCL := Lib.hid (fun W (hW : LJ w W) => (rclone_any W (.slice ao xs.length cap) xs hx (own_recs (own_below hrow hW))).mono (show ∀ e w', _ → ∃ a c, e = .returned (.slice a xs.length c) ∧ w'.ownsRow W.heap.size 49 5 (.slice a xs.length c) xs.length (recsC xs) ∧ LJ W w' from by
    rintro e w' ⟨v, rfl, h1, h2⟩
    obtain ⟨a, c, rfl⟩ := own_slice h1
    exact ⟨a, c, rfl, h1, h2⟩))
  have hblk := hA.blk
  obtain ⟨LO, hLO⟩ : ∃ LO : ByteArray, (⟨(lastL xs).toArray⟩ : ByteArray) = LO := ⟨_, rfl⟩
  rw [hLO] at hblk
  obtain ⟨m, hm⟩ : ∃ m, xs.length = m := ⟨_, rfl⟩
  rw [hm] at HCL hblk
  have HP := Lib.hid hblk
  have HM := Lib.hid hm
  have HLO := Lib.hid hLO
  clear hA hx hrow hblk hLO hm
  go_enter Tryz.func19, Tryz.ntmps19
  go_upto_region 1 with fail
  refine wp_region_held_drew (S := fun w' => w'.heap[A]? = some (.cells #[.pointer (some ⟨jb, 0, none⟩), .slice ao m cap, .string LO, .bool false] 116 (0, 0))) (by kernel_rfl) HP.out (fun hHeld => ?_)
  have hL := Lib.hid (LJ.refl w).drew
  refine tkS 0 hHeld ?_
  refine tkS 1 hHeld ?_
  refine tkS 2 hHeld ?_
  refine tkS 3 hHeld ?_
  refine tkS 4 hHeld ?_ (hy := by intro w hSw; have l1 := cell_blk hSw 1; have l2 := cell_blk hSw 2; have l3 := cell_blk hSw 3; go_simp; (try with_reducible rfl))
  refine tkS 6 hHeld ?_
  refine tkS 7 hHeld ?_
  refine tkS 8 hHeld ?_
  refine tkS 9 hHeld ?_ (hy := by intro w hSw; have l1 := cell_blk hSw 1; have l2 := cell_blk hSw 2; have l3 := cell_blk hSw 3; go_simp; (try with_reducible rfl))
  refine tkS 10 hHeld ?_
  refine tkS 11 hHeld ?_
  refine tkS 12 hHeld ?_
  refine tkS 13 hHeld ?_ (hy := by intro w hSw; have l1 := cell_blk hSw 1; have l2 := cell_blk hSw 2; have l3 := cell_blk hSw 3; go_simp; (try with_reducible rfl))
  refine wpAnyH_ready (rs := [5]) (by kernel_rfl) (by simp) ?_
  refine AllReadyH.cons rfl (fun K hK => ?_) AllReadyH.nil
  go_simp
  (with_reducible refine (HCL.out _ hL.out).mono ?_); rintro e w1 ⟨ga, gc, rfl, hown1, hx⟩
  have HO1 := Lib.hid hown1
  have hS2 := hx.block hHeld
  have hL1 := Lib.hid (hL.out.trans hx)
  clear hx hown1
  refine hK.out _ _ hS2 (fun hHeld => ?_)
  clear hK K hS2
  refine tkS 14 hHeld ?_
  refine wpAnyH_ready (rs := [15]) (by kernel_rfl) (by simp) ?_
  refine AllReadyH.cons rfl (fun K hK => ?_) AllReadyH.nil
  go_simp
  refine hK.out _ _ (((LJ.refl w1).alloc _).block hHeld) (fun hHeld => ?_)
  clear hK K
  refine tkS 16 hHeld ?_
  refine wpAnyH_done (by kernel_rfl) ?_ _
  go_simp
  go_wp2_with fail
  go_ret
  have hmm := HM.out
  subst hmm
  have s1 := Below.size hL1.out
  have hblk := alloc_blk w1 (.cells #[.pointer (some ⟨k, 0, none⟩), .slice ga xs.length gc, .string LO, .bool false] 116)
  have hz : (w1.alloc (.cells #[.pointer (some ⟨k, 0, none⟩), .slice ga xs.length gc, .string LO, .bool false] 116)).heap.size = w1.heap.size + 1 := World.size_alloc _ _
  refine ⟨w1.heap.size, .slice ga xs.length gc, rfl, ⟨by rw [HLO.out]; exact hblk, own_base0 (own_below HO1.out ((LJ.refl w1).alloc _)), fun e => ?_⟩, s1, by omega, fun q e => ?_, hL1.out.alloc _⟩
  · have := (HO1.out.lt _ e).2
    omega
  · have h1 := (HO1.out.lt _ e).1
    exact h1
end Go.Proofs.YtfpbocjmlhcgiaaGreatDoor
/- Clones: castellanref21's Same at equal rows. -/
namespace Go.Proofs.YtfpbocjmlhcgiaaGreatDoor
open Go.RowKit PJ Go.Maps Go.Shelf

theorem recsC_get {xs : List Rec} {i : Nat} {x : Rec} (h : xs[i]? = some x) {t : Nat} (ht : t < 5) : (recsC xs)[i * 5 + t]? = (recC x)[t]? := by
  obtain ⟨hi, hx⟩ := List.getElem?_eq_some_iff.1 h
  have e : xs = xs.take (i + 1) ++ xs.drop (i + 1) := (List.take_append_drop _ _).symm
  have e2 : xs.take (i + 1) = xs.take i ++ [x] := by rw [List.take_add_one, h]; rfl
  have h1 : recsC xs = recsC (xs.take i ++ [x]) ++ recsC (xs.drop (i + 1)) := by
    conv => lhs; rw [e, e2]
    simp [recsC]
  have hl : (xs.take i).length = i := by rw [List.length_take]; omega
  rw [h1, List.getElem?_append_left (by rw [recsC_len, List.length_append, hl]; simp; omega), recsC_snoc, List.getElem?_append_right (by rw [recsC_len, hl]; omega), recsC_len, hl]
  congr 1
  omega
/-- The same, said otherwise. -/
theorem RecSl.forms {w : World} {v : Value} {xs : List Rec} (h : RecSl w v xs) : ∃ ao cap, v = .slice ao xs.length cap ∧ (xs.length = 0 ∨ ∃ g, ao = some ⟨g, 0, none⟩ ∧ xs.length ≤ cap ∧ ∀ i x, xs[i]? = some x → w.cell? ⟨g, i * 5, none⟩ = some (.int .i64 x.n) ∧ w.cell? ⟨g, i * 5 + 1, none⟩ = some (.int .i64 x.f) ∧ w.cell? ⟨g, i * 5 + 2, none⟩ = some (.int .i64 x.t) ∧ w.cell? ⟨g, i * 5 + 3, none⟩ = some (.int .i64 x.r) ∧ w.cell? ⟨g, i * 5 + 4, none⟩ = some (.string x.h)) := by
  rcases h with ⟨rfl, rfl⟩ | ⟨g, cap, rfl, h1, h2, h3⟩
  · exact ⟨none, 0, rfl, .inl rfl⟩
  · refine ⟨_, cap, rfl, .inr ⟨g, rfl, h1, fun i x hx => ⟨h3 _ _ (recsC_get hx (t := 0) (by omega)), h3 _ _ (recsC_get hx (t := 1) (by omega)), h3 _ _ (recsC_get hx (t := 2) (by omega)), h3 _ _ (recsC_get hx (t := 3) (by omega)), h3 _ _ (recsC_get hx (t := 4) (by omega))⟩⟩⟩
set_option maxRecDepth 100000 in
set_option maxHeartbeats 4000000 in
theorem asame_any (w : World) (v1 v2 : Value) (xs : List Rec) (hx : xs.length ≤ 4096) (h1 : RecSl w v1 xs) (h2 : RecSl w v2 xs) :
    Calls Tryz.prog 20 #[v1, v2] w fun e w' => e = .returned (.bool true) ∧ LJ w w' := by
  obtain ⟨a1, c1, rfl, f1⟩ := h1.forms
  obtain ⟨a2, c2, rfl, f2⟩ := h2.forms
  obtain ⟨m, hm⟩ : ∃ m, xs.length = m := ⟨_, rfl⟩
  have HF1 := Lib.hid f1
  have HF2 := Lib.hid f2
  rw [hm] at HF1 HF2 hx ⊢
  have HM := Lib.hid hm
  have hne : ((m : Int) != (m : Int)) = false := bne_self_eq_false _
  have HJ0 := Lib.hid (LJ.refl w)
  clear h1 h2 f1 f2 hm
  go_enter Tryz.func20, Tryz.ntmps20
  go_wp2_with fail
  go_loopw [5] (fun v5 wr => ∃ i : Nat, i ≤ m ∧ v5 = .int .i64 (i : Int) ∧ Hid (LJ w wr)) (fun v5 _ => m - (intOf v5).toNat)
  case atStart => exact ⟨0, by omega, rfl, HJ0⟩
  case round =>
    obtain ⟨i, hi, rfl, HL⟩ := hrel
    by_cases hlt : i < m
    · have hli : (i : Int) < (m : Int) := by omega
      have hwi : IntKind.i64.wrap ((i : Int) + 1) = (i : Int) + 1 := by rw [IntKind.wrap_i64]; omega
      obtain ⟨x, hxx⟩ : ∃ x, xs[i]? = some x := ⟨_, List.getElem?_eq_getElem (by rw [HM.out]; exact hlt)⟩
      rcases HF1.out with h0 | ⟨g1, rfl, hc1, k1⟩
      · omega
      rcases HF2.out with h0 | ⟨g2, rfl, hc2, k2⟩
      · omega
      obtain ⟨k10, k11, k12, k13, k14⟩ := k1 i x hxx
      obtain ⟨k20, k21, k22, k23, k24⟩ := k2 i x hxx
      obtain ⟨xn, xf, xt, xr, xh⟩ := x
      have e0 : wr.cell? ⟨g1, i * 5, none⟩ = some (.int .i64 xn) := HL.out.cell k10
      have e1 : wr.cell? ⟨g1, i * 5 + 1, none⟩ = some (.int .i64 xf) := HL.out.cell k11
      have e2 : wr.cell? ⟨g1, i * 5 + 2, none⟩ = some (.int .i64 xt) := HL.out.cell k12
      have e3 : wr.cell? ⟨g1, i * 5 + 3, none⟩ = some (.int .i64 xr) := HL.out.cell k13
      have e4 : wr.cell? ⟨g1, i * 5 + 4, none⟩ = some (.string xh) := HL.out.cell k14
      have d0 : wr.cell? ⟨g2, i * 5, none⟩ = some (.int .i64 xn) := HL.out.cell k20
      have d1 : wr.cell? ⟨g2, i * 5 + 1, none⟩ = some (.int .i64 xf) := HL.out.cell k21
      have d2 : wr.cell? ⟨g2, i * 5 + 2, none⟩ = some (.int .i64 xt) := HL.out.cell k22
      have d3 : wr.cell? ⟨g2, i * 5 + 3, none⟩ = some (.int .i64 xr) := HL.out.cell k23
      have d4 : wr.cell? ⟨g2, i * 5 + 4, none⟩ = some (.string xh) := HL.out.cell k24
      have hdd : (xh.toList == xh.toList) = true := beq_self_eq_true _
      have hn0 : (xn == xn) = true := beq_self_eq_true _
      have hn1 : (xf == xf) = true := beq_self_eq_true _
      have hn2 : (xt == xt) = true := beq_self_eq_true _
      have hn3 : (xr == xr) = true := beq_self_eq_true _
      clear k1 k2 k10 k11 k12 k13 k14 k20 k21 k22 k23 k24 hxx
      go_upto_region 6 with fail
      go_quiet (fail)
      have HL2 := Lib.hid (LJ.drewN HL.out nq)
      go_wp2_with fail
      go_roundw
      case rel => exact ⟨i + 1, by omega, by simp, HL2⟩
      case measure => simp [intOf]; omega
    · have hie : i = m := by omega
      subst hie
      go_wp2_with fail
      go_ret
      exact ⟨rfl, HL.out⟩
end Go.Proofs.YtfpbocjmlhcgiaaGreatDoor
/- The disk's Image. -/
namespace Go.Proofs.YtfpbocjmlhcgiaaGreatDoor
open Go.RowKit PJ Go.Maps

/-- All sectors, one behind the other. -/
def imgV (n : Nat) (V : View) : List UInt8 := (List.range n).flatMap V
theorem imgV_of {L : List UInt8} {n : Nat} {V : View} (hl : L.length = 128 * n) (hV : ∀ i, i < n → safT L i = V i) : L = imgV n V := by
  have key : ∀ k, k ≤ n → L.take (128 * k) = (List.range k).flatMap V := by
    intro k
    induction k with
    | zero => intro _; simp
    | succ k ih =>
      intro hk
      rw [List.range_succ, List.flatMap_append, ← ih (by omega), List.flatMap_cons, List.flatMap_nil, List.append_nil, ← hV k (by omega), show 128 * (k + 1) = 128 * k + 128 from by omega, List.take_add]
      rfl
  have := key n (Nat.le_refl _)
  rw [List.take_of_length_le (by omega)] at this
  exact this
theorem imgV_sec {n : Nat} {V : View} (hV : ∀ i, i < n → (V i).length = 128) : ∀ i, i < n → safT (imgV n V) i = V i := by
  intro i hi
  have hlen : ∀ k, k ≤ n → ((List.range k).flatMap V).length = 128 * k := by
    intro k
    induction k with
    | zero => intro _; simp
    | succ k ih =>
      intro hk
      rw [List.range_succ, List.flatMap_append, List.length_append, ih (by omega)]
      simp [hV k (by omega)]
      omega
  have hsplit : ∀ k, i < k → k ≤ n → safT ((List.range k).flatMap V) i = V i := by
    intro k
    induction k with
    | zero => intro h; omega
    | succ k ih =>
      intro h1 h2
      rw [List.range_succ, List.flatMap_append]
      simp only [List.flatMap_cons, List.flatMap_nil, List.append_nil]
      have hk := hlen k (by omega)
      unfold safT at ih ⊢
      by_cases e : i = k
      · subst e
        rw [List.drop_append_of_le_length (by omega), List.drop_eq_nil_of_le (by omega), List.nil_append, List.take_of_length_le (by rw [hV i hi]; omega)]
      · rw [List.drop_append_of_le_length (by omega), List.take_append_of_le_length (by rw [List.length_drop]; omega)]
        exact ih (by omega) (by omega)
  exact hsplit n hi (Nat.le_refl _)
theorem imgV_inj {n : Nat} {V V' : View} (hV : ∀ i, i < n → (V i).length = 128) (hV' : ∀ i, i < n → (V' i).length = 128) (h : imgV n V = imgV n V') : ∀ i, i < n → V i = V' i := fun i hi => by
  rw [← imgV_sec hV i hi, h, imgV_sec hV' i hi]
theorem imgV_congr {n : Nat} {V V' : View} (h : ∀ i, i < n → V i = V' i) : imgV n V = imgV n V' := by
  unfold imgV
  have : ∀ l : List Nat, (∀ i ∈ l, i < n) → l.flatMap V = l.flatMap V' := by
    intro l
    induction l with
    | nil => intro _; rfl
    | cons x r ih =>
      intro hl
      rw [List.flatMap_cons, List.flatMap_cons, h x (hl x (List.mem_cons_self ..)), ih fun i hi => hl i (List.mem_cons_of_mem _ hi)]
  exact this _ fun i hi => List.mem_range.1 hi
set_option maxRecDepth 100000 in
theorem image1_any (w : World) (i : Int) : Calls Tryz.prog 77 #[.int .i64 i] w fun e w' => e = .returned (.int .i64 128) ∧ w = w' := by
  go_enter Tryz.func77, Tryz.ntmps77
  go_wp2_with fail
  go_ret
  exact ⟨rfl, rfl⟩
set_option maxRecDepth 100000 in
theorem dimage_any (w : World) (p g mb n : Nat) (safe : List UInt8) (U : Int → Option (List UInt8)) (h : DiskAt w p g mb n safe U) (hkeys : ∀ i s, U i = some s → 0 ≤ i ∧ i < n ∧ s.length = 128) :
    Calls Tryz.prog 26 #[.pointer (some ⟨p, 0, none⟩)] w fun e w' => e = .returned (.string ⟨(imgV n (secT safe U)).toArray⟩) ∧ LJ w w' := by
  have hl1 := h.1
  have HLF := Lib.hid (left_gen w p g mb n safe U h hkeys 77 (enters_of Tryz.func77 (by kernel_rfl) rfl) #[] (fun _ => 128) (fun _ => by omega) (fun W _ i _ => image1_any W i))
  have HIM := Lib.hid (fun (L : List UInt8) (hl : L.length = 128 * n) (hs : ∀ i, i < n → safT L i = mixT 128 (secT safe U i) (safT safe i)) => show (⟨L.toArray⟩ : ByteArray) = ⟨(imgV n (secT safe U)).toArray⟩ from by
    rw [imgV_of hl (V := secT safe U) fun i hi => ?_]
    have h1 : (secT safe U i).length = 128 := by
      unfold secT
      cases hu : U (i : Int) with
      | none => exact safT_len hl1 hi
      | some s => exact (hkeys _ _ hu).2.2
    rw [hs i hi, mixT_all (by omega) h1 (safT_len hl1 hi)])
  clear h hkeys
  go_enter Tryz.func26, Tryz.ntmps26
  go_wp2_with (first
    | (go_at_call 76; (with_reducible refine HLF.out.mono ?_); rintro e w2 ⟨L, rfl, h1, h2, h3⟩)
    | fail)
  go_ret
  exact ⟨ret_str (HIM.out L h1 h2), h3⟩
end Go.Proofs.YtfpbocjmlhcgiaaGreatDoor
/- Clones: an audit over clones, among other things in memory. -/
namespace Go.Proofs.YtfpbocjmlhcgiaaGreatDoor
open Go.RowKit PJ Go.Maps Go.Shelf

theorem cache_later {w w' : World} {R F : Nat → Prop} {cv : Value} {xs : List Kept} (h : CacheAt w R F cv xs) (hl : LJ w w') : CacheAt w' R F cv xs := by
  rcases h with h | ⟨g, off, cap, rfl, hg, h1, h2, h3⟩
  · exact .inl h
  · exact .inr ⟨g, off, cap, rfl, Nat.lt_of_lt_of_le hg (Below.size hl), h1, h2, fun j k hk => ⟨hl.cell (h3 j k hk).1, hl.cell (h3 j k hk).2.1, hl.cell (h3 j k hk).2.2⟩⟩
/-- What the three Clones leave. -/
theorem ak_clones {w W : World} {K : Nat → Prop} {p b jb : Nat} {J : Jn} {A : Nat} {xs : List Rec} {B : Nat} (h : AK w W K p b jb J A xs B) :
    Calls Tryz.prog 16 #[.pointer (some ⟨p, 0, none⟩)] W fun e w1 => ∃ p', e = .returned (.pointer (some ⟨p', 0, none⟩)) ∧ LJ W w1 ∧
      ∀ W2, LJ w1 W2 → Calls Tryz.prog 17 #[.pointer (some ⟨b, 0, none⟩), .pointer (some ⟨p', 0, none⟩)] W2 fun e w3 => ∃ b', e = .returned (.pointer (some ⟨b', 0, none⟩)) ∧ LJ W2 w3 ∧
        ∀ W3, LJ w3 W3 → Calls Tryz.prog 18 #[.pointer (some ⟨jb, 0, none⟩), .pointer (some ⟨b', 0, none⟩)] W3 fun e w4 => ∃ jb', e = .returned (.pointer (some ⟨jb', 0, none⟩)) ∧ LJ W3 w4 ∧ JAt w4 p' b' jb' (since W w4) J := by
  obtain ⟨V, F, h1, h2, h3, h4, h5, h6⟩ := h.ex
  obtain ⟨a, rfl, rfl, rfl, e4, e5, dt, hc, hok, hdt⟩ := h1
  obtain ⟨safe, U, cv, misses, ks, hd⟩ := hc.dev
  refine (dclone_any W a.p a.g a.mb a.n safe U hd.disk).mono ?_
  rintro e w1 ⟨p', g', mb', rfl, hdk, hge, hlt, hl1⟩
  refine ⟨p', rfl, hl1, fun W2 hl2 => ?_⟩
  have hl12 := hl1.trans hl2
  obtain ⟨ao, cap, rfl⟩ : ∃ ao cap, cv = .slice ao ks.length cap := by
    rcases hd.cache with ⟨e, e2⟩ | ⟨g, off, cap, e, _⟩
    · exact ⟨none, 0, by rw [e, e2]; rfl⟩
    · exact ⟨_, cap, e⟩
  refine (vclone_any W2 a.p a.b a.n a.cached ao ks.length cap misses ks p' (hl12.block hd.cells) (fun W' hW => kclone_all W' a.R F _ ks (cache_later hd.cache (hl12.trans hW)) hd.len)).mono ?_
  rintro e w3 ⟨v, rfl, hb, hown, hl3⟩
  refine ⟨W2.heap.size, rfl, hl3, fun W3 hl4 => ?_⟩
  obtain ⟨cnt, D, ⟨es, clock, m4, m5⟩, hm, hcn⟩ := hc.map
  have hl24 := hl12.trans (hl3.trans hl4)
  refine (jclone_any W3 a.b a.area J.head J.first J.next J.at' a.cm a.jb false cnt D (hl24.block hc.cells) ⟨es, clock, hl24.block m4, m5⟩ W2.heap.size).mono ?_
  rintro e w4 ⟨cm', rfl, hj, ho', c1, c2, hl5⟩
  have s2 := Below.size hl2
  exact ⟨W3.heap.size, rfl, hl5, JAt.cloned (w1 := W2) (w2 := W3) hc hd hok hdt e4 e5 hl12 (hl3.trans hl4) hl5 (hdk.later hl2) hge ⟨by omega, by omega, by omega⟩ (hl4.block hb) (own_below hown hl4) hj ⟨cnt, D, ho', hm, hcn⟩ ⟨c1, c2⟩⟩
/-- An audit over clones; its blocks have come since w0; the blocks K are others'. -/
structure CK (w0 W : World) (K : Nat → Prop) (p b jb : Nat) (J : Jn) (A : Nat) (xs : List Rec) : Prop where
  ex : ∃ V F, JAt W p b jb F J ∧ AudB W A jb xs V ∧ ¬ F A ∧ (∀ q, V.ownBlock = some q → ¬ F q) ∧ (∀ q, F q → w0.heap.size ≤ q) ∧ (∀ q, V.ownBlock = some q → w0.heap.size ≤ q) ∧ (∀ q, K q → ¬ F q ∧ q ≠ A ∧ q < W.heap.size)
  wA : w0.heap.size ≤ A
  len : xs.length ≤ J.n - J.area
theorem CK.ok {w0 W : World} {K : Nat → Prop} {p b jb : Nat} {J : Jn} {A : Nat} {xs : List Rec} (h : CK w0 W K p b jb J A xs) : J.OK := by
  obtain ⟨V, F, h1, _⟩ := h.ex
  exact h1.ok
theorem CK.l4096 {w0 W : World} {K : Nat → Prop} {p b jb : Nat} {J : Jn} {A : Nat} {xs : List Rec} (h : CK w0 W K p b jb J A xs) : xs.length ≤ 4096 := by
  have h1 := h.ok.n12
  have h2 := h.len
  omega
theorem CK.more {w0 W W' : World} {K K' : Nat → Prop} {p b jb : Nat} {J : Jn} {A : Nat} {xs : List Rec} (h : CK w0 W K p b jb J A xs) (hl : LJ W W') (hK : ∀ q, K' q → K q ∨ (W.heap.size ≤ q ∧ q < W'.heap.size)) : CK w0 W' K' p b jb J A xs := by
  obtain ⟨V, F, h1, h2, h3, h4, h5, h6, h7⟩ := h.ex
  have hs := Below.size hl
  have hA := lt_blk h2.blk
  refine ⟨⟨V, F, h1.later hl, h2.later hl, h3, h4, h5, h6, fun q hq => ?_⟩, h.wA, h.len⟩
  rcases hK q hq with hq | hq
  · exact ⟨(h7 q hq).1, (h7 q hq).2.1, by have := (h7 q hq).2.2; omega⟩
  · exact ⟨fun e => by have := h1.lt q e; omega, by omega, hq.2⟩
theorem CK.later {w0 W W' : World} {K : Nat → Prop} {p b jb : Nat} {J : Jn} {A : Nat} {xs : List Rec} (h : CK w0 W K p b jb J A xs) (hl : LJ W W') : CK w0 W' K p b jb J A xs := h.more hl (fun q hq => .inl hq)
/-- .. while others are written. -/
theorem CK.kept {w0 W W' : World} {K : Nat → Prop} {p b jb : Nat} {J : Jn} {A : Nat} {xs : List Rec} (h : CK w0 W K p b jb J A xs) (hs : W.heap.size ≤ W'.heap.size) (hk : ∀ q, w0.heap.size ≤ q → q < W.heap.size → W'.heap[q]? = W.heap[q]?) : CK w0 W' K p b jb J A xs := by
  obtain ⟨V, F, h1, h2, h3, h4, h5, h6, h7⟩ := h.ex
  have hA := lt_blk h2.blk
  refine ⟨⟨V, F, h1.kept hs (fun k e => hk k (h5 k e) (h1.lt k e)) (fun _ h => h) (fun q hq => by have := h1.lt q hq; omega), ⟨(hk A h.wA hA).trans h2.blk, ?_, h2.va⟩, h3, h4, h5, h6, fun q hq => ⟨(h7 q hq).1, (h7 q hq).2.1, by have := (h7 q hq).2.2; omega⟩⟩, h.wA, h.len⟩
  rcases h2.row with ⟨h0, h | ⟨g, cap, cur, e1, e2, e3, e4⟩⟩
  · exact ⟨h0, .inl h⟩
  · exact ⟨h0, .inr ⟨g, cap, cur, e1, e2, (hk g (h6 g (by rw [e1]; rfl)) (lt_blk e3)).trans e3, e4⟩⟩
/-- The audit's Clone over the others'. -/
theorem ak_aclone {w W w4 : World} {K : Nat → Prop} {p b jb : Nat} {J : Jn} {A : Nat} {xs : List Rec} {B : Nat} (h : AK w W K p b jb J A xs B) {p' b' jb' : Nat} (hl : LJ W w4) (hj : JAt w4 p' b' jb' (since W w4) J) (W4 : World) (hl4 : LJ w4 W4) :
    Calls Tryz.prog 19 #[.pointer (some ⟨A, 0, none⟩), .pointer (some ⟨jb', 0, none⟩)] W4 fun e w' => ∃ A', e = .returned (.pointer (some ⟨A', 0, none⟩)) ∧ LJ W4 w' ∧ CK W w' (fun _ => False) p' b' jb' J A' xs := by
  obtain ⟨V, F, h1, h2, h3, h4, h5, h6⟩ := h.ex
  have hlen := h.auc.len
  have h12 := h1.ok.n12
  refine (aclone_any W4 A jb xs V (h2.later (hl.trans hl4)) (by omega) jb').mono ?_
  rintro e w' ⟨A', V', rfl, ha, g1, g2, g3, hl5⟩
  have s1 := Below.size hl
  have s2 := Below.size hl4
  have s3 := Below.size hl5
  refine ⟨A', rfl, hl5, ⟨⟨V', since W w4, hj.later (hl4.trans hl5), ha, fun e => by have := e.2; omega, fun q hq e => ?_, fun q hq => hq.1, fun q hq => by have := g3 q hq; omega, fun q hq => hq.elim⟩, by omega, hlen⟩⟩
  have h8 := g3 q hq
  have h9 := e.2
  omega
theorem ck_yes {w0 W : World} {K : Nat → Prop} {p b jb : Nat} {J : Jn} {A : Nat} {xs : List Rec} (h : CK w0 W K p b jb J A xs) (hw : w0.heap.size ≤ W.heap.size) (hh : J.head < 4611686018427387904) (hnx : J.next < 4611686018427387904)
    (n f t r : Int) (hb : ByteArray) (hm : Rec.may ⟨n, f, t, r, hb⟩ = true) (hn : n = ((xs.length + 1 : Nat) : Int)) (hl : xs.length < J.n - J.area) :
    Calls Tryz.prog 24 #[.pointer (some ⟨A, 0, none⟩), .agg #[.int .i64 n, .int .i64 f, .int .i64 t, .int .i64 r, .string hb]] W fun e w' => e = .returned (.int .i64 0) ∧ CK w0 w' K p b jb (J.app xs ⟨n, f, t, r, hb⟩) A (xs ++ [⟨n, f, t, r, hb⟩]) ∧ KeptK K W w' ∧ OnlyJ (fun q => w0.heap.size ≤ q) W w' := by
  obtain ⟨V, F, h1, h2, h3, h4, h5, h6, h7⟩ := h.ex
  refine (aappend_yes W p b jb F J h1 hh hnx A xs V h2 h3 h4 n f t r hb hm hn hl).mono ?_
  rintro e w' ⟨rfl, V', F', hj, ha, hnr, hFA, hV1, hV2, ho⟩
  have hs := ho.size
  have hdim := commit_dim J [wrA xs ⟨n, f, t, r, hb⟩]
  have hA := h.wA
  refine ⟨rfl, ⟨⟨V', F', hj, ha, hFA, hV1, near_ge hnr h5 hw, fun q hq => by have := hV2 q hq; omega, fun q hq => ?_⟩, h.wA, ?_⟩, fun q hq => ?_, ho.mono (fun q _ hq => ?_)⟩
  · obtain ⟨k1, k2, k3⟩ := h7 q hq
    exact ⟨fun e => k1 (hnr q e k3), k2, by omega⟩
  · show (xs ++ [_]).length ≤ (J.commit [wrA xs _]).n - (J.commit [wrA xs _]).area
    rw [hdim.1, hdim.2.1, List.length_append]
    exact hl
  · obtain ⟨k1, k2, k3⟩ := h7 q hq
    exact ho.block q k3 (by rintro (e | e); exact k1 e; exact k2 e)
  · rcases hq with e | e
    · exact h5 q e
    · show w0.heap.size ≤ q
      omega
theorem ck_full {w0 W : World} {K : Nat → Prop} {p b jb : Nat} {J : Jn} {A : Nat} {xs : List Rec} (h : CK w0 W K p b jb J A xs)
    (n f t r : Int) (hb : ByteArray) (hm : Rec.may ⟨n, f, t, r, hb⟩ = true) (hn : n = ((xs.length + 1 : Nat) : Int)) (hl : xs.length = J.n - J.area) :
    Calls Tryz.prog 24 #[.pointer (some ⟨A, 0, none⟩), .agg #[.int .i64 n, .int .i64 f, .int .i64 t, .int .i64 r, .string hb]] W fun e w' => e = .returned (.int .i64 211) ∧ LJ W w' := by
  obtain ⟨V, F, h1, h2, h3, h4, h5, h6, h7⟩ := h.ex
  exact aappend_full W p b jb F J h1 A xs V h2 hl n f t r hb hm hn
theorem ck_link {w0 W : World} {K : Nat → Prop} {p b jb : Nat} {J : Jn} {A : Nat} {xs : List Rec} (h : CK w0 W K p b jb J A xs) :
    Calls Tryz.prog 22 #[.pointer (some ⟨A, 0, none⟩)] W fun e w' => e = .returned (.string ⟨(lastL xs).toArray⟩) ∧ W = w' := by
  obtain ⟨V, F, h1, h2, _⟩ := h.ex
  exact alink_any W A jb xs V h2
theorem ck_records {w0 W : World} {K : Nat → Prop} {p b jb : Nat} {J : Jn} {A : Nat} {xs : List Rec} (h : CK w0 W K p b jb J A xs) :
    Calls Tryz.prog 21 #[.pointer (some ⟨A, 0, none⟩)] W fun e w' => (∃ v', e = .returned v' ∧ RecSl w' v' xs ∧ ∀ q, v'.ownBlock = some q → W.heap.size ≤ q) ∧ LJ W w' := by
  obtain ⟨V, F, h1, h2, _⟩ := h.ex
  exact arecords_any W A jb xs V h.l4096 h2
theorem jat_image {W : World} {p b jb : Nat} {F : Nat → Prop} {J : Jn} (h : JAt W p b jb F J) :
    Calls Tryz.prog 26 #[.pointer (some ⟨p, 0, none⟩)] W fun e w' => e = .returned (.string ⟨(imgV J.n J.V).toArray⟩) ∧ LJ W w' := by
  obtain ⟨a, rfl, rfl, rfl, e4, e5, dt, hc, hok, hdt⟩ := h
  obtain ⟨safe, U, cv, misses, ks, hd⟩ := hc.dev
  refine (dimage_any W a.p a.g a.mb a.n safe U hd.disk hd.keys).mono ?_
  rintro e w' ⟨rfl, hl⟩
  rw [imgV_congr (V' := J.V) (fun i hi => (hd.views i hi).1), e4]
  exact ⟨rfl, hl⟩
theorem ak_image {w W : World} {K : Nat → Prop} {p b jb : Nat} {J : Jn} {A : Nat} {xs : List Rec} {B : Nat} (h : AK w W K p b jb J A xs B) :
    Calls Tryz.prog 26 #[.pointer (some ⟨p, 0, none⟩)] W fun e w' => e = .returned (.string ⟨(imgV J.n J.V).toArray⟩) ∧ LJ W w' := by
  obtain ⟨V, F, h1, _⟩ := h.ex
  exact jat_image h1
theorem ck_image {w0 W : World} {K : Nat → Prop} {p b jb : Nat} {J : Jn} {A : Nat} {xs : List Rec} (h : CK w0 W K p b jb J A xs) :
    Calls Tryz.prog 26 #[.pointer (some ⟨p, 0, none⟩)] W fun e w' => e = .returned (.string ⟨(imgV J.n J.V).toArray⟩) ∧ LJ W w' := by
  obtain ⟨V, F, h1, _⟩ := h.ex
  exact jat_image h1
theorem good_len {J : Jn} (h : J.OK) : ∀ i, i < J.n → (J.V i).length = 128 := fun i hi => by
  obtain ⟨d, st, e, h1, -⟩ := h.good i hi
  rw [e]
  exact block_len sumN h1 st
/-- A block of a record more. -/
theorem commit_other {J : Jn} (h : J.OK) (l : List Wr) (h40 : l.length ≤ 1) (hnx : J.next < 4611686018427387904) (ha : 2 + 1 + l.length ≤ J.area) : ∃ k, k < J.n ∧ (J.commit l).V k ≠ J.V k := by
  have h4 := h.area4
  have han := h.arean
  have hat2 := h.at2
  have hrl := recD_len l
  have key : ∀ k V', 2 ≤ k → k < J.area → wrV J.next (setS V' k (blk (recD l) J.next)) (k + 1) l k ≠ J.V k := by
    intro k V' h1 h2 e
    rw [wrV_out _ _ _ _ (.inl (by omega)), setS_same] at e
    obtain ⟨d, st, e2, h3, h5, h6⟩ := h.stamps k h1 h2
    rw [e2] at e
    have h7 := congrArg stampOf e
    rw [stampOf_blk (by omega) (by omega), stampOf_blk h3 h6] at h7
    omega
  unfold Jn.commit
  split
  · exact ⟨2, by omega, key 2 J.homeW (by omega) (by omega)⟩
  · exact ⟨J.at', by omega, key J.at' J.V hat2 (by omega)⟩
theorem app_image {J : Jn} (h : J.OK) (xs : List Rec) (x : Rec) (h2 : (J.app xs x).OK) (hnx : J.next < 4611686018427387904) : imgV J.n J.V ≠ imgV (J.app xs x).n (J.app xs x).V := by
  have hn : (J.app xs x).n = J.n := (commit_dim J [wrA xs x]).1
  rw [hn]
  intro e
  have h4 := h.area4
  obtain ⟨k, hk, hne⟩ := commit_other h [wrA xs x] (Nat.le_refl _) hnx (by show 2 + 1 + 1 ≤ J.area; omega)
  refine hne ?_
  have g2 := good_len h2
  rw [hn] at g2
  exact (imgV_inj (good_len h) g2 e k hk).symm
theorem RecSl.later {w w' : World} {v : Value} {xs : List Rec} (h : RecSl w v xs) (hl : LJ w w') : RecSl w' v xs := by
  rcases h with h | ⟨g, cap, h1, h2, h3, h4⟩
  · exact .inl h
  · exact .inr ⟨g, cap, h1, h2, Nat.lt_of_lt_of_le h3 (Below.size hl), fun j u hu => hl.cell (h4 j u hu)⟩
end Go.Proofs.YtfpbocjmlhcgiaaGreatDoor
