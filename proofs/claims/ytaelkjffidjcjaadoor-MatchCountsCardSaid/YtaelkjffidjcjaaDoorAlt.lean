/- The walk of alternative. (Printed by wip/gen_alt.py.) -/
import Derived.Test.YtaelkjffidjcjaaDoorAltI
import Derived.Test.YtaelkjffidjcjaaDoorPiece
set_option linter.unusedSimpArgs false
set_option linter.unusedVariables false
namespace Go.Proofs.YtaelkjffidjcjaaDoor
open Go.RowKit PX

/-- Where alternative stands at its label. -/
def AltJ (rb nb F : Nat) (w : World) (O : Option (Rx × List UInt8)) (a : Act) (w' : World) : Prop :=
  ∃ (vl vr : Value), (∃ (u1 u5 u6 u7 u8 u9 u10 u11 u12 u13 u14 u15 u16 u17 u18 u19 u20 u21 u22 u23 u24 u25 u26 u27 u28 u29 u30 u31 u32 u33 u34 u35 u36 u37 u38 u39 : Value), a = { tmps := #[.pointer (some ⟨rb, 0, none⟩), u1, .pointer (some ⟨nb, 0, none⟩), vl, vr, u5, u6, u7, u8, u9, u10, u11, u12, u13, u14, u15, u16, u17, u18, u19, u20, u21, u22, u23, u24, u25, u26, u27, u28, u29, u30, u31, u32, u33, u34, u35, u36, u37, u38, u39], defers := [] }) ∧
  ∃ (lA rowA : List RxA) (s : List UInt8) (f : Nat), ReadAt w' rb s ∧ w'.heap[nb]? = some (.cells (cellsA (setA Q4.none)) 26 (0, 0)) ∧ Only (fun k => k = rb) w w' ∧ AltInv (nb + 1) w' vl vr lA rowA ∧
    lA.length + rowA.length + s.length ≤ 128 ∧ 3 * s.length + 1 ≤ f ∧ f ≤ F ∧ altR f (lA.map RxA.bare) (rowA.map RxA.bare) s = O

theorem rx_node {rb : Nat} {w : World} {x : Rx} {r : List UInt8} {e : Ending} {w' : World} (h : ∃ X : RxA, x = X.bare ∧ e = .returned (.agg (cellsA X)) ∧ ReadAt w' rb r ∧ Only (fun k => k = rb) w w' ∧ X.In w' w'.heap.size ∧ ∀ b ∈ X.blocks, w.heap.size ≤ b ∧ b < w'.heap.size) :
    ∃ k mn mx s0 s1 s2 s3 a cap l, x = (RxA.node k mn mx s0 s1 s2 s3 a cap l).bare ∧ e = .returned (.agg #[.int .i64 k, .int .i64 mn, .int .i64 mx, .int .u64 s0, .int .u64 s1, .int .u64 s2, .int .u64 s3, .slice a l.length cap]) ∧ ReadAt w' rb r ∧ Only (fun k => k = rb) w w' ∧ (RxA.node k mn mx s0 s1 s2 s3 a cap l).In w' w'.heap.size ∧ ∀ b ∈ (RxA.node k mn mx s0 s1 s2 s3 a cap l).blocks, w.heap.size ≤ b ∧ b < w'.heap.size := by
  obtain ⟨X, hX, he, h2, h3, h4, h5⟩ := h
  obtain ⟨k, mn, mx, s0, s1, s2, s3, a, cap, l⟩ := X
  exact ⟨k, mn, mx, s0, s1, s2, s3, a, cap, l, hX, he, h2, h3, h4, h5⟩
theorem altR_stop {f : Nat} {l row : List Rx} {s : List UInt8} (h : (s.isEmpty || starts 124 s || starts 41 s) = true) (h124 : starts 124 s = false) : altR (f + 1) l row s = some (Rx.joined 2 (l ++ [Rx.joined 1 row]), s) := by
  simp only [altR]
  rw [if_pos h]
  simp [h124]
theorem altR_bar {f : Nat} {l row : List Rx} {s : List UInt8} (h124 : starts 124 s = true) : altR (f + 1) l row s = altR f (l ++ [Rx.joined 1 row]) [] s.tail := by
  simp [altR, h124]
theorem altR_go {f : Nat} {l row : List Rx} {s : List UInt8} (h : (s.isEmpty || starts 124 s || starts 41 s) = false) : altR (f + 1) l row s = match pieceR f s with | none => none | some (x, r) => altR f l (row ++ [x]) r := by
  simp only [altR, h]
  rfl
def PieceOk (F : Nat) : Prop := ∀ f', f' < F → ∀ w rb s, ReadAt w rb s → s.length ≤ 128 → 3 * s.length ≤ f' → Calls Tryd.prog 60 #[.pointer (some ⟨rb, 0, none⟩)] w fun e w' => ReadsRx rb w (pieceR f' s) e w'

set_option maxRecDepth 100000 in
set_option maxHeartbeats 2000000 in
theorem alt_any (F : Nat) (hp : PieceOk F) (w : World) (rb : Nat) (s : List UInt8) (h : ReadAt w rb s) (hl : s.length ≤ 128) (hF : 3 * s.length + 1 ≤ F) :
    Calls Tryd.prog 48 #[.pointer (some ⟨rb, 0, none⟩)] w fun e w' => ReadsRx rb w (altR F [] [] s) e w' := by
  have hlt := lt_of_block h
  obtain ⟨O, hO⟩ : ∃ O, altR F [] [] s = O := ⟨_, rfl⟩
  rw [hO]
  obtain ⟨nb, hnb⟩ : ∃ nb, w.heap.size = nb := ⟨_, rfl⟩
  have HP := Lib.hid hp; clear hp
  have HOO := Lib.hid hO; clear hO
  have HW := Lib.hid h; clear h
  obtain ⟨i0, hi, hz0, hz1, hz2⟩ := info_parts info_rx3
  go_enter Tryd.func48, Tryd.ntmps48
  go_wp2_with fail
  refine wp_scope_back 0 (AltJ rb nb F w O) (fun _ w' => leftOf rb w') rfl ?_ ?_
  · rintro aa w' ⟨vl, vr, ⟨u1, u5, u6, u7, u8, u9, u10, u11, u12, u13, u14, u15, u16, u17, u18, u19, u20, u21, u22, u23, u24, u25, u26, u27, u28, u29, u30, u31, u32, u33, u34, u35, u36, u37, u38, u39, rfl⟩, lA, rowA, s', f, hr, hn, hon, hinv, hlen, hfu, hfF, hcl⟩
    clear HOO HW hl hF
    have HN := Lib.hid hn; clear hn
    have HON := Lib.hid hon; clear hon
    have HINV := Lib.hid hinv; clear hinv
    have HCL := Lib.hid hcl; clear hcl
    have hnlt := lt_of_block HN.out
    obtain ⟨f1, rfl⟩ : ∃ f1, f = f1 + 1 := ⟨f - 1, by omega⟩
    cases hst : (s'.isEmpty || starts 124 s' || starts 41 s') with
    | false =>
      obtain ⟨c, u, rfl⟩ : ∃ c u, s' = c :: u := by
        cases s' with
        | nil => simp at hst
        | cons c u => exact ⟨c, u, rfl⟩
      have hgo := altR_go (f := f1) (l := lA.map RxA.bare) (row := rowA.map RxA.bare) hst
      have HGO := Lib.hid (hgo.symm.trans HCL.out); clear hgo
      simp only [List.isEmpty_cons, Bool.false_or, Bool.or_eq_false_iff, starts, beq_eq_false_iff_ne, ne_eq] at hst
      have h124 : ((c.toNat : Int) != 124) = true := by
        rw [bne_iff_ne]; intro h; exact hst.1 (UInt8.toNat_inj.1 (by show c.toNat = 124; omega))
      have h41 : ((c.toNat : Int) != 41) = true := by
        rw [bne_iff_ne]; intro h; exact hst.2 (UInt8.toNat_inj.1 (by show c.toNat = 41; omega))
      clear hst
      obtain ⟨S, HSS⟩ : ∃ S : ByteArray, Hid ((⟨(c :: u).toArray⟩ : ByteArray) = S) := ⟨_, Lib.hid rfl⟩
      obtain ⟨hne, hem, hsz, hat, -⟩ := full c u HSS.out
      have hleft := leftOf_read hr
      have HLEFT := Lib.hid hleft; clear hleft
      have HPC := HP.out f1 (by omega) w' rb (c :: u) hr (by omega) (by omega)
      have hrS := hr
      unfold ReadAt at hrS
      rw [HSS.out] at hrS
      have hc0 := read_cell hrS
      clear hrS hr
      cases hpr : pieceR f1 (c :: u) with
      | none =>
        rw [hpr] at HPC
        have HPC2 := Lib.hid HPC; clear HPC
        have hO : O = none := by rw [← HGO.out, hpr]
        clear hpr
        go_wp2_with (go_at_call 60; refine HPC2.out.mono ?_; rintro e w1 hR; obtain ⟨rfl, o1⟩ := readsRx_none hR)
        exact ⟨rfl, HON.out.then o1, .inl ⟨hO, rfl⟩⟩
      | some p =>
        obtain ⟨x, r⟩ := p
        rw [hpr] at HPC
        have hO := HGO.out
        rw [hpr] at hO
        have hrl := (read_le f1).2.1 _ _ _ hpr
        have HPC2 := Lib.hid (HPC.mono fun e w2 hR => rx_node (readsRx_some hR)); clear HPC hpr HGO
        have HO2 := Lib.hid hO; clear hO
        go_wp2_with (first
          | (go_at_call 60
             refine HPC2.out.mono ?_
             rintro e w1 ⟨k, mn, mx, s0, s1, s2, s3, a, cap, l, hX, rfl, h1, o1, hXin, hXb⟩
             have hs1 := o1.size
             have hinv1 := HINV.out.only o1 (by intro j hj; omega)
             have hK : Kept w1 (nb + 1) vl vr (RxA.node k mn mx s0 s1 s2 s3 a cap l) := ⟨hXin, fun b hb => by
               have h3 := hXb b hb
               exact ⟨by omega, h3.2, fun he => by have := (HINV.out.own1.lt b he).2; omega, fun he => by have := (HINV.out.own2.lt b he).2; omega⟩⟩
             have hinv2 := hinv1.only (Only.alloc (r := fun k => k = rb) (Only.refl _ w1) (.cells [.int .i64 k, .int .i64 mn, .int .i64 mx, .int .u64 s0, .int .u64 s1, .int .u64 s2, .int .u64 s3, .slice a l.length cap].toArray 26)) (by intro j hj; omega)
             have hK2 := hK.only (Only.alloc (r := fun k => k = rb) (Only.refl _ w1) (.cells [.int .i64 k, .int .i64 mn, .int .i64 mx, .int .u64 s0, .int .u64 s1, .int .u64 s2, .int .u64 s3, .slice a l.length cap].toArray 26)) (by intro j hj; omega)
             have HI2 := Lib.hid hinv2
             have HK2 := Lib.hid hK2
             have HXX := Lib.hid hX
             clear hinv1 hK hinv2 hK2 hXin hXb hX
             have hrl2 : rowA.length + 1 ≤ 1000 := (by simp only [List.length_cons] at hlen; omega))
          | (refine wpList_append_lies _ rfl (.tmp 26) (.tmp 29) 24 rfl (nb + 1) 26 i0 _ 8 80 Tryd.underlying24 hi hz0 hz1 hz2 rfl (by decide) vr rowA.length (rxCells rowA) rfl HI2.out.own2 ⟨w1.heap.size, 0, none⟩ 1 1 [.int .i64 k, .int .i64 mn, .int .i64 mx, .int .u64 s0, .int .u64 s1, .int .u64 s2, .int .u64 s3, .slice a l.length cap] rfl rfl (cells_new w1 [.int .i64 k, .int .i64 mn, .int .i64 mx, .int .u64 s0, .int .u64 s1, .int .u64 s2, .int .u64 s3, .slice a l.length cap] 26) (by intro v hv; exact rx_one (RxA.node k mn mx s0 s1 s2 s3 a cap l) v hv) (by decide) (by unfold maxLen; omega) (by omega) (by simp; omega) _ rfl ?_
             intro g cap' w3 hown3 hgrow hgat hglt))
        go_step3
        have hpush := HI2.out.push HK2.out hown3 hgrow hgat
        have hO3 : Only (fun k => k = rb) w w3 := ((HON.out.then o1).alloc _).grown hgrow (fun b hb => .inr (by have := (HINV.out.own2.lt b hb).1; omega))
        have hvr : ∀ b, b < nb + 1 → some b ≠ vr.ownBlock := fun b hb he => by have := (HINV.out.own2.lt b he.symm).1; omega
        have h3 : ReadAt w3 rb r := (hgrow.block rb (by simp; omega) (hvr rb (by omega))).trans (alloc_old h1 _)
        have hn3 : w3.heap[nb]? = some (.cells (cellsA (setA Q4.none)) 26 (0, 0)) := (hgrow.block nb (by simp; omega) (hvr nb (by omega))).trans (alloc_old ((o1.block nb hnlt (by omega)).trans HN.out) _)
        refine ⟨rfl, ⟨_, _, ⟨_, _, _, _, _, _, _, _, _, _, _, _, _, _, _, _, _, _, _, _, _, _, _, _, _, _, _, _, _, _, _, _, _, _, _, _, rfl⟩, lA, rowA ++ [(RxA.node k mn mx s0 s1 s2 s3 a cap l)], r, f1, h3, hn3, hO3, hpush, ?_, ?_, by omega, ?_⟩, ?_⟩
        · simp only [List.length_append, List.length_cons, List.length_nil] at hlen hrl ⊢; omega
        · simp only [List.length_cons] at hfu hrl; omega
        · rw [List.map_append, List.map_singleton, ← HXX.out]; exact HO2.out
        · rw [leftOf_read h3, HLEFT.out]; exact hrl
    | true =>
      have hcase : s' = [] ∨ (∃ u, s' = 124 :: u) ∨ ∃ u, s' = 41 :: u := by
        cases s' with
        | nil => exact .inl rfl
        | cons c u =>
          simp only [List.isEmpty_cons, Bool.false_or, Bool.or_eq_true, starts, beq_iff_eq] at hst
          rcases hst with rfl | rfl
          · exact .inr (.inl ⟨u, rfl⟩)
          · exact .inr (.inr ⟨u, rfl⟩)
      obtain ⟨ar, cr, rfl, hcr1, hcr2, -⟩ := row_value HINV.out.own2
      have hKJ := HINV.out.join 1 ⟨by omega, by omega⟩ (by omega)
      have hJB := joinedA_bare 1 ar cr rowA
      have hJC := joined_any w' 1 (.slice ar rowA.length cr) (nb + 1) rowA HINV.out.own2 (by omega)
      obtain ⟨k, mn, mx, s0, s1, s2, s3, a, cap, l, hXJ⟩ : ∃ k mn mx s0 s1 s2 s3 a cap l, joinedA 1 ar cr rowA = (RxA.node k mn mx s0 s1 s2 s3 a cap l) := by
        obtain ⟨k, mn, mx, s0, s1, s2, s3, a, cap, l⟩ := joinedA 1 ar cr rowA
        exact ⟨k, mn, mx, s0, s1, s2, s3, a, cap, l, rfl⟩
      have hJC2 : Calls Tryd.prog 61 #[.int .i64 1, .slice ar rowA.length cr] w' fun e w1 => e = .returned (.agg #[.int .i64 k, .int .i64 mn, .int .i64 mx, .int .u64 s0, .int .u64 s1, .int .u64 s2, .int .u64 s3, .slice a l.length cap]) ∧ Below w'.heap.size w' w1 := by
        refine hJC.mono ?_
        rintro e w1 ⟨a', c', he, hee, hb⟩
        simp only [Value.slice.injEq, true_and] at he
        obtain ⟨rfl, rfl⟩ := he
        rw [hXJ] at hee
        exact ⟨hee, hb⟩
      rw [hXJ] at hKJ hJB
      have hinv0 := HINV.out.drop
      have hclp := HCL.out
      clear hJC hXJ
      have HKJ := Lib.hid hKJ; clear hKJ
      have HJB := Lib.hid hJB; clear hJB
      have HJC := Lib.hid hJC2; clear hJC2
      have HI0 := Lib.hid hinv0; clear hinv0
      have hwn : nb < w'.heap.size := hnlt
      have hleft := leftOf_read hr
      have HLEFT := Lib.hid hleft; clear hleft
      have hlA : lA.length + 1 ≤ 1000 := by omega
      have hrb : rb < w'.heap.size := lt_of_block hr
      rcases hcase with rfl | ⟨u, rfl⟩ | ⟨u, rfl⟩
      · have hcl2 := (altR_stop (f := f1) (l := lA.map RxA.bare) (row := rowA.map RxA.bare) (s := []) rfl rfl).symm.trans hclp
        have hc0 : w'.cell? ⟨rb, 0, none⟩ = some (.string ⟨#[]⟩) := read_cell hr
        have HTK := Lib.hid (fun w1 (h1 : ReadAt w1 rb []) => take_no w1 rb 124 [] h1 rfl)
        have HC2 := Lib.hid hcl2; clear hcl2 hclp hst
        have HRD := Lib.hid hr; clear hr
        go_wp2_with (first
          | (go_at_call 61
             (with_reducible refine HJC.out.mono ?_)
             rintro e w1 ⟨rfl, hb1⟩
             have hs1 := hb1.size
             have hO1 : Only (fun k => k = rb) w' w1 := Only.of_below hb1
             have hO2 := hO1.alloc (.cells [.int .i64 k, .int .i64 mn, .int .i64 mx, .int .u64 s0, .int .u64 s1, .int .u64 s2, .int .u64 s3, .slice a l.length cap].toArray 26)
             have hinv2 := HI0.out.only hO2 (by intro j hj; omega)
             have hK2 := HKJ.out.only hO2 (by intro j hj; omega)
             have HI2 := Lib.hid hinv2
             have HK2 := Lib.hid hK2
             clear hinv2 hK2
             have hr2 : ReadAt (w1.alloc (.cells [.int .i64 k, .int .i64 mn, .int .i64 mx, .int .u64 s0, .int .u64 s1, .int .u64 s2, .int .u64 s3, .slice a l.length cap].toArray 26)) rb [] := alloc_old ((hb1.block rb hrb).trans HRD.out) _
             have hn2 : (w1.alloc (.cells [.int .i64 k, .int .i64 mn, .int .i64 mx, .int .u64 s0, .int .u64 s1, .int .u64 s2, .int .u64 s3, .slice a l.length cap].toArray 26)).heap[nb]? = _ := alloc_old ((hb1.block nb hwn).trans HN.out) _
             have HR2 := Lib.hid hr2
             have HN2 := Lib.hid hn2
             clear hr2 hn2)
          | (refine wpList_append_lies _ rfl (.tmp 31) (.tmp 34) 24 rfl (nb + 1) 26 i0 _ 8 80 Tryd.underlying24 hi hz0 hz1 hz2 rfl (by decide) vl lA.length (rxCells lA) rfl HI2.out.own1 ⟨w1.heap.size, 0, none⟩ 1 1 [.int .i64 k, .int .i64 mn, .int .i64 mx, .int .u64 s0, .int .u64 s1, .int .u64 s2, .int .u64 s3, .slice a l.length cap] rfl rfl (cells_new w1 [.int .i64 k, .int .i64 mn, .int .i64 mx, .int .u64 s0, .int .u64 s1, .int .u64 s2, .int .u64 s3, .slice a l.length cap] 26) (by intro v hv; exact rx_one (RxA.node k mn mx s0 s1 s2 s3 a cap l) v hv) (by decide) (by unfold maxLen; omega) (by omega) (by simp; omega) _ rfl ?_
             intro g cap' w3 hown3 hgrow hgat hglt
             have hpush := (HI2.out.swap.push HK2.out.swap hown3 hgrow hgat).swap
             have hvl : ∀ b, b < nb + 1 → some b ≠ vl.ownBlock := fun b hb he => by
               have := (HINV.out.own1.lt b he.symm).1
               omega
             have h3 : ReadAt w3 rb [] := (hgrow.block rb (by simp; omega) (hvl rb (by omega))).trans HR2.out
             have hn3 := (hgrow.block nb (by simp; omega) (hvl nb (by omega))).trans HN2.out
             have hO3 : Only (fun k => k = rb) w w3 := (HON.out.then hO2).grown hgrow (fun b hb => .inr (by have := (HINV.out.own1.lt b hb).1; omega))
             have HPU := Lib.hid hpush
             have HN3 := Lib.hid hn3
             have HO3 := Lib.hid hO3
             have hnl3 := lt_of_block hn3
             clear hpush hn3 hO3 hown3 hgrow hgat)
          | (go_at_call 62
             (with_reducible refine (HTK.out _ h3).mono ?_)
             rintro e w4 ⟨rfl, h4, o4⟩
             have hn4 := (o4.block nb hnl3 (by omega)).trans HN3.out
             have hpu4 := HPU.out.only o4 (by intro j hj; omega)
             have HN4 := Lib.hid hn4
             have HP4 := Lib.hid hpu4
             have HO4 := Lib.hid (HO3.out.then o4)
             clear hn4 hpu4)
          | (go_at_call 61
             refine (joined_any w4 2 _ (nb + 1) (lA ++ [(RxA.node k mn mx s0 s1 s2 s3 a cap l)]) HP4.out.own1 (by simp; omega)).mono ?_
             rintro e w5 ⟨a5, c5, hv5, rfl, hb5⟩
             have hn5 := (hb5.block nb (lt_of_block HN4.out)).trans HN4.out
             have HN5 := Lib.hid hn5
             clear hn5
             have HV5 := Lib.hid hv5
             clear hv5)
          | (refine wpList_store_row rfl 26 (.tmp 2) (.tmp 39) ?_ nb (cellsA (joinedA 2 a5 c5 (lA ++ [(RxA.node k mn mx s0 s1 s2 s3 a cap l)]))) ?_ ?_ 26 (cellsA (setA Q4.none)) ?_ (info_rxA _) (by rw [cellsA_size, cellsA_size]) (cellsA_one _) ?_; (with_reducible rfl); rfl; rfl; exact HN5.out))
        refine bodyPost_ret (results_cell_row rfl _ _ nb 26 (cellsA (joinedA 2 a5 c5 (lA ++ [(RxA.node k mn mx s0 s1 s2 s3 a cap l)]))) (0, 0) _ rfl (setRow_heap _ _ _ _ _ _ HN5.out) Tryd.underlying26 rfl (info_rxA _)) rfl ?_
        have hinv5 := HP4.out
        rw [HV5.out] at hinv5
        have hK4 := hinv5.swap.join 2 ⟨by omega, by omega⟩ (by simp; omega)
        have hK6 := (hK4.only (r := fun _ => False) (Only.of_below hb5) (fun j hj => hj.elim)).only ((Only.refl (fun k => k = nb) w5).setRow (.inl rfl) (cellsA (joinedA 2 a5 c5 (lA ++ [(RxA.node k mn mx s0 s1 s2 s3 a cap l)])))) (by intro j hj; omega)
        refine ⟨(HO4.out.then (Only.of_below hb5)).setRow (q := nb) (.inr (by omega)) _, .inr ⟨joinedA 2 a5 c5 (lA ++ [(RxA.node k mn mx s0 s1 s2 s3 a cap l)]), [], ?_, rfl, ?_, hK6.lies, fun b hb => ⟨by have := (hK6.far b hb).1; omega, (hK6.far b hb).2.1⟩⟩⟩
        · rw [← HC2.out, joinedA_bare, List.map_append, List.map_singleton, HJB.out]
        · exact (setRow_other _ _ _ _ (by omega)).trans ((hb5.block rb (lt_of_block h4)).trans h4)
      · have hcl2 := (altR_bar (f := f1) (l := lA.map RxA.bare) (row := rowA.map RxA.bare) (s := 124 :: u) rfl).symm.trans hclp
        obtain ⟨S, HSS⟩ : ∃ S : ByteArray, Hid ((⟨(124 :: u).toArray⟩ : ByteArray) = S) := ⟨_, Lib.hid rfl⟩
        obtain ⟨hne, hem, hsz, hat, -⟩ := full 124 u HSS.out
        have hrS := hr
        unfold ReadAt at hrS
        rw [HSS.out] at hrS
        have hc0 := read_cell hrS
        clear hrS
        have HTK := Lib.hid (fun w1 (h1 : ReadAt w1 rb (124 :: u)) => take_yes w1 rb 124 u h1)
        have HC2 := Lib.hid hcl2; clear hcl2 hclp hst
        have HRD := Lib.hid hr; clear hr
        go_wp2_with (first
          | (go_at_call 61
             (with_reducible refine HJC.out.mono ?_)
             rintro e w1 ⟨rfl, hb1⟩
             have hs1 := hb1.size
             have hO1 : Only (fun k => k = rb) w' w1 := Only.of_below hb1
             have hO2 := hO1.alloc (.cells [.int .i64 k, .int .i64 mn, .int .i64 mx, .int .u64 s0, .int .u64 s1, .int .u64 s2, .int .u64 s3, .slice a l.length cap].toArray 26)
             have hinv2 := HI0.out.only hO2 (by intro j hj; omega)
             have hK2 := HKJ.out.only hO2 (by intro j hj; omega)
             have HI2 := Lib.hid hinv2
             have HK2 := Lib.hid hK2
             clear hinv2 hK2
             have hr2 : ReadAt (w1.alloc (.cells [.int .i64 k, .int .i64 mn, .int .i64 mx, .int .u64 s0, .int .u64 s1, .int .u64 s2, .int .u64 s3, .slice a l.length cap].toArray 26)) rb (124 :: u) := alloc_old ((hb1.block rb hrb).trans HRD.out) _
             have hn2 : (w1.alloc (.cells [.int .i64 k, .int .i64 mn, .int .i64 mx, .int .u64 s0, .int .u64 s1, .int .u64 s2, .int .u64 s3, .slice a l.length cap].toArray 26)).heap[nb]? = _ := alloc_old ((hb1.block nb hwn).trans HN.out) _
             have HR2 := Lib.hid hr2
             have HN2 := Lib.hid hn2
             clear hr2 hn2)
          | (refine wpList_append_lies _ rfl (.tmp 31) (.tmp 34) 24 rfl (nb + 1) 26 i0 _ 8 80 Tryd.underlying24 hi hz0 hz1 hz2 rfl (by decide) vl lA.length (rxCells lA) rfl HI2.out.own1 ⟨w1.heap.size, 0, none⟩ 1 1 [.int .i64 k, .int .i64 mn, .int .i64 mx, .int .u64 s0, .int .u64 s1, .int .u64 s2, .int .u64 s3, .slice a l.length cap] rfl rfl (cells_new w1 [.int .i64 k, .int .i64 mn, .int .i64 mx, .int .u64 s0, .int .u64 s1, .int .u64 s2, .int .u64 s3, .slice a l.length cap] 26) (by intro v hv; exact rx_one (RxA.node k mn mx s0 s1 s2 s3 a cap l) v hv) (by decide) (by unfold maxLen; omega) (by omega) (by simp; omega) _ rfl ?_
             intro g cap' w3 hown3 hgrow hgat hglt
             have hpush := (HI2.out.swap.push HK2.out.swap hown3 hgrow hgat).swap
             have hvl : ∀ b, b < nb + 1 → some b ≠ vl.ownBlock := fun b hb he => by
               have := (HINV.out.own1.lt b he.symm).1
               omega
             have h3 : ReadAt w3 rb (124 :: u) := (hgrow.block rb (by simp; omega) (hvl rb (by omega))).trans HR2.out
             have hn3 := (hgrow.block nb (by simp; omega) (hvl nb (by omega))).trans HN2.out
             have hO3 : Only (fun k => k = rb) w w3 := (HON.out.then hO2).grown hgrow (fun b hb => .inr (by have := (HINV.out.own1.lt b hb).1; omega))
             have HPU := Lib.hid hpush
             have HN3 := Lib.hid hn3
             have HO3 := Lib.hid hO3
             have hnl3 := lt_of_block hn3
             clear hpush hn3 hO3 hown3 hgrow hgat)
          | (go_at_call 62
             (with_reducible refine (HTK.out _ h3).mono ?_)
             rintro e w4 ⟨rfl, h4, o4⟩
             have hn4 := (o4.block nb hnl3 (by omega)).trans HN3.out
             have hpu4 := HPU.out.only o4 (by intro j hj; omega)
             have HN4 := Lib.hid hn4
             have HP4 := Lib.hid hpu4
             have HO4 := Lib.hid (HO3.out.then o4)
             clear hn4 hpu4))
        go_step3
        refine ⟨rfl, ⟨_, _, ⟨_, _, _, _, _, _, _, _, _, _, _, _, _, _, _, _, _, _, _, _, _, _, _, _, _, _, _, _, _, _, _, _, _, _, _, _, rfl⟩, lA ++ [(RxA.node k mn mx s0 s1 s2 s3 a cap l)], [], u, f1, h4, HN4.out, HO4.out, HP4.out, ?_, ?_, by omega, ?_⟩, ?_⟩
        · simp only [List.length_append, List.length_cons, List.length_nil] at hlen ⊢; omega
        · simp only [List.length_cons] at hfu; omega
        · rw [List.map_append, List.map_singleton, HJB.out]; exact HC2.out
        · rw [leftOf_read h4, HLEFT.out]; simp
      · have hcl2 := (altR_stop (f := f1) (l := lA.map RxA.bare) (row := rowA.map RxA.bare) (s := 41 :: u) rfl rfl).symm.trans hclp
        obtain ⟨S, HSS⟩ : ∃ S : ByteArray, Hid ((⟨(41 :: u).toArray⟩ : ByteArray) = S) := ⟨_, Lib.hid rfl⟩
        obtain ⟨hne, hem, hsz, hat, -⟩ := full 41 u HSS.out
        have hrS := hr
        unfold ReadAt at hrS
        rw [HSS.out] at hrS
        have hc0 := read_cell hrS
        clear hrS
        have HTK := Lib.hid (fun w1 (h1 : ReadAt w1 rb (41 :: u)) => take_no w1 rb 124 (41 :: u) h1 rfl)
        have HC2 := Lib.hid hcl2; clear hcl2 hclp hst
        have HRD := Lib.hid hr; clear hr
        go_wp2_with (first
          | (go_at_call 61
             (with_reducible refine HJC.out.mono ?_)
             rintro e w1 ⟨rfl, hb1⟩
             have hs1 := hb1.size
             have hO1 : Only (fun k => k = rb) w' w1 := Only.of_below hb1
             have hO2 := hO1.alloc (.cells [.int .i64 k, .int .i64 mn, .int .i64 mx, .int .u64 s0, .int .u64 s1, .int .u64 s2, .int .u64 s3, .slice a l.length cap].toArray 26)
             have hinv2 := HI0.out.only hO2 (by intro j hj; omega)
             have hK2 := HKJ.out.only hO2 (by intro j hj; omega)
             have HI2 := Lib.hid hinv2
             have HK2 := Lib.hid hK2
             clear hinv2 hK2
             have hr2 : ReadAt (w1.alloc (.cells [.int .i64 k, .int .i64 mn, .int .i64 mx, .int .u64 s0, .int .u64 s1, .int .u64 s2, .int .u64 s3, .slice a l.length cap].toArray 26)) rb (41 :: u) := alloc_old ((hb1.block rb hrb).trans HRD.out) _
             have hn2 : (w1.alloc (.cells [.int .i64 k, .int .i64 mn, .int .i64 mx, .int .u64 s0, .int .u64 s1, .int .u64 s2, .int .u64 s3, .slice a l.length cap].toArray 26)).heap[nb]? = _ := alloc_old ((hb1.block nb hwn).trans HN.out) _
             have HR2 := Lib.hid hr2
             have HN2 := Lib.hid hn2
             clear hr2 hn2)
          | (refine wpList_append_lies _ rfl (.tmp 31) (.tmp 34) 24 rfl (nb + 1) 26 i0 _ 8 80 Tryd.underlying24 hi hz0 hz1 hz2 rfl (by decide) vl lA.length (rxCells lA) rfl HI2.out.own1 ⟨w1.heap.size, 0, none⟩ 1 1 [.int .i64 k, .int .i64 mn, .int .i64 mx, .int .u64 s0, .int .u64 s1, .int .u64 s2, .int .u64 s3, .slice a l.length cap] rfl rfl (cells_new w1 [.int .i64 k, .int .i64 mn, .int .i64 mx, .int .u64 s0, .int .u64 s1, .int .u64 s2, .int .u64 s3, .slice a l.length cap] 26) (by intro v hv; exact rx_one (RxA.node k mn mx s0 s1 s2 s3 a cap l) v hv) (by decide) (by unfold maxLen; omega) (by omega) (by simp; omega) _ rfl ?_
             intro g cap' w3 hown3 hgrow hgat hglt
             have hpush := (HI2.out.swap.push HK2.out.swap hown3 hgrow hgat).swap
             have hvl : ∀ b, b < nb + 1 → some b ≠ vl.ownBlock := fun b hb he => by
               have := (HINV.out.own1.lt b he.symm).1
               omega
             have h3 : ReadAt w3 rb (41 :: u) := (hgrow.block rb (by simp; omega) (hvl rb (by omega))).trans HR2.out
             have hn3 := (hgrow.block nb (by simp; omega) (hvl nb (by omega))).trans HN2.out
             have hO3 : Only (fun k => k = rb) w w3 := (HON.out.then hO2).grown hgrow (fun b hb => .inr (by have := (HINV.out.own1.lt b hb).1; omega))
             have HPU := Lib.hid hpush
             have HN3 := Lib.hid hn3
             have HO3 := Lib.hid hO3
             have hnl3 := lt_of_block hn3
             clear hpush hn3 hO3 hown3 hgrow hgat)
          | (go_at_call 62
             (with_reducible refine (HTK.out _ h3).mono ?_)
             rintro e w4 ⟨rfl, h4, o4⟩
             have hn4 := (o4.block nb hnl3 (by omega)).trans HN3.out
             have hpu4 := HPU.out.only o4 (by intro j hj; omega)
             have HN4 := Lib.hid hn4
             have HP4 := Lib.hid hpu4
             have HO4 := Lib.hid (HO3.out.then o4)
             clear hn4 hpu4)
          | (go_at_call 61
             refine (joined_any w4 2 _ (nb + 1) (lA ++ [(RxA.node k mn mx s0 s1 s2 s3 a cap l)]) HP4.out.own1 (by simp; omega)).mono ?_
             rintro e w5 ⟨a5, c5, hv5, rfl, hb5⟩
             have hn5 := (hb5.block nb (lt_of_block HN4.out)).trans HN4.out
             have HN5 := Lib.hid hn5
             clear hn5
             have HV5 := Lib.hid hv5
             clear hv5)
          | (refine wpList_store_row rfl 26 (.tmp 2) (.tmp 39) ?_ nb (cellsA (joinedA 2 a5 c5 (lA ++ [(RxA.node k mn mx s0 s1 s2 s3 a cap l)]))) ?_ ?_ 26 (cellsA (setA Q4.none)) ?_ (info_rxA _) (by rw [cellsA_size, cellsA_size]) (cellsA_one _) ?_; (with_reducible rfl); rfl; rfl; exact HN5.out))
        refine bodyPost_ret (results_cell_row rfl _ _ nb 26 (cellsA (joinedA 2 a5 c5 (lA ++ [(RxA.node k mn mx s0 s1 s2 s3 a cap l)]))) (0, 0) _ rfl (setRow_heap _ _ _ _ _ _ HN5.out) Tryd.underlying26 rfl (info_rxA _)) rfl ?_
        have hinv5 := HP4.out
        rw [HV5.out] at hinv5
        have hK4 := hinv5.swap.join 2 ⟨by omega, by omega⟩ (by simp; omega)
        have hK6 := (hK4.only (r := fun _ => False) (Only.of_below hb5) (fun j hj => hj.elim)).only ((Only.refl (fun k => k = nb) w5).setRow (.inl rfl) (cellsA (joinedA 2 a5 c5 (lA ++ [(RxA.node k mn mx s0 s1 s2 s3 a cap l)])))) (by intro j hj; omega)
        refine ⟨(HO4.out.then (Only.of_below hb5)).setRow (q := nb) (.inr (by omega)) _, .inr ⟨joinedA 2 a5 c5 (lA ++ [(RxA.node k mn mx s0 s1 s2 s3 a cap l)]), 41 :: u, ?_, rfl, ?_, hK6.lies, fun b hb => ⟨by have := (hK6.far b hb).1; omega, (hK6.far b hb).2.1⟩⟩⟩
        · rw [← HC2.out, joinedA_bare, List.map_append, List.map_singleton, HJB.out]
        · exact (setRow_other _ _ _ _ (by omega)).trans ((hb5.block rb (lt_of_block h4)).trans h4)
  · intro hX
    have HX := Lib.hid hX; clear hX
    have hr0 : ReadAt (w.alloc (.cells (cellsA (setA Q4.none)) 26)) rb s := alloc_old HW.out _
    have hn0 : (w.alloc (.cells (cellsA (setA Q4.none)) 26)).heap[nb]? = some (.cells (cellsA (setA Q4.none)) 26 (0, 0)) := by rw [← hnb]; exact alloc_block _ _
    go_wp2_with fail
    go_step3
    rename (∀ (a : Act) (w : World), _ → _) => hk
    exact hk _ _ (HX.out _ _ ⟨_, _, ⟨_, _, _, _, _, _, _, _, _, _, _, _, _, _, _, _, _, _, _, _, _, _, _, _, _, _, _, _, _, _, _, _, _, _, _, _, rfl⟩, [], [], s, F, hr0, hn0, (Only.refl _ w).alloc _, AltInv.start _ _, by simpa using hl, hF, Nat.le_refl _, HOO.out⟩)
end Go.Proofs.YtaelkjffidjcjaaDoor

