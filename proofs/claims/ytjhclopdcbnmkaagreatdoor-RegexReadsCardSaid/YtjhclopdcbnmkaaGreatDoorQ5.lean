/- The walks of the document's reader's one, and of With. -/
import Derived.Test.YtjhclopdcbnmkaaGreatDoorQ4
import Derived.Test.YtjhclopdcbnmkaaGreatDoorR2
set_option linter.unusedSimpArgs false
set_option linter.unusedVariables false
namespace Go.Proofs.YtjhclopdcbnmkaaGreatDoor
open Go.RowKit PX

theorem one_told' {but : List UInt8} {s : List UInt8} : one but (92 :: s) = toldX s := by
  unfold toldX
  simp only [one, if_true]
theorem one_plain_bad {but : List UInt8} {c : UInt8} {s : List UInt8} (h : c ≠ 92) (hb : c ∈ but) : one but (c :: s) = none := by simp [one, h, hb]
theorem one_plain_ok {but : List UInt8} {c : UInt8} {s : List UInt8} (h : c ≠ 92) (hb : c ∉ but) : one but (c :: s) = some (c.toNat, s) := by simp [one, h, hb]

set_option maxRecDepth 100000 in
set_option maxHeartbeats 1000000 in
theorem rone_any (w : World) (rb : Nat) (S : ByteArray) (i : Nat) (but : ByteArray) (h : RefAt w rb S i false) (hs : S.size ≤ 1000) (hi : i ≤ S.size) (hbs : but.size ≤ 1000) :
    Calls Tryz.prog 98 #[.pointer (some ⟨rb, 0, none⟩), .string but] w fun e w' => Says rb S i w (one but.data.toList (rest S i)) (fun n => .int .i64 (n : Nat)) (fun v => v = .int .i64 0) e w' := by
  cases hr : rest S i with
  | nil =>
    have hsi : S.size ≤ i := by have := rest_length S i; rw [hr] at this; simp at this; omega
    have HAT := Lib.hid (at_end w rb S i false 92 h hsi)
    obtain ⟨h0, h1, h2, h3, h4⟩ := h.cells
    have hd : decide (S.size ≤ i) = true := by simp; omega
    have H := Lib.hid h
    have HI := Lib.hid hi
    clear h hr hsi hi hs
    go_enter Tryz.func98, Tryz.ntmps98
    go_wp2_with (go_at_call 56; (with_reducible refine HAT.out.mono ?_); rintro e w1 ⟨rfl, n, rfl⟩)
    go_quiet (fail)
    go_wp2_with fail
    go_ret
    exact ⟨((Only.refl (fun k => k = rb) w).drewN _).setCell (.inl rfl) _, _, i, rfl, Nat.le_refl _, HI.out, .inr ⟨rfl, rfl, (H.out.drewN _).wrong⟩⟩
  | cons c r =>
    have hi0 := (rest_cons hr).1
    by_cases hc : c = 92
    · subst hc
      have HAT := Lib.hid (at_yes w rb S i false 92 92 r h hr hs rfl)
      have HTO := Lib.hid (fun w1 (h1 : RefAt w1 rb S (i + 1) false) => told_any w1 rb S (i + 1) h1 hs (by omega))
      have HR := Lib.hid hr
      clear h hr hi hs hi0
      go_enter Tryz.func98, Tryz.ntmps98
      go_wp2_with (first
        | (go_at_call 56; (with_reducible refine HAT.out.mono ?_); rintro e w1 ⟨rfl, h1, o1⟩)
        | (go_at_call 116; refine (HTO.out _ h1).mono ?_; rintro e w2 ⟨o2, v, j, rfl, hij, hj, hor⟩; have HOR := Lib.hid hor; clear hor)
        | fail)
      go_ret
      refine ⟨o1.then o2, v, j, rfl, by omega, hj, ?_⟩
      rw [one_told', ← (rest_cons HR.out).2]
      exact HOR.out
    · have hne : ((c.toNat : Int)) ≠ 92 := fun he => hc (UInt8.toNat_inj.1 (by show c.toNat = 92; omega))
      have HAT := Lib.hid (at_no w rb S i false 92 c r h hr hne)
      obtain ⟨h0, h1, h2, h3, h4⟩ := h.cells
      have hd : decide (S.size ≤ i) = false := by simp; omega
      have hx := rest_byte hr
      have hi2 : i ≤ 1000 := by omega
      have H := Lib.hid h
      have HR := Lib.hid hr
      have HI0 := Lib.hid hi0
      have HI := Lib.hid hi
      have HIN := Lib.hid (fun w => rin_any but c w hbs)
      cases hb : inS but c with
      | true =>
        have hbm : c ∈ but.data.toList := by unfold inS at hb; exact of_decide_eq_true hb
        have hone := one_plain_bad (s := r) hc hbm
        rw [hb] at HIN
        have HONE := Lib.hid hone
        clear h hr hi hs hi0 hc hne hb hbm hone
        go_enter Tryz.func98, Tryz.ntmps98
        go_wp2_with (go_at_call 56; (with_reducible refine HAT.out.mono ?_); rintro e w1 ⟨rfl, n, rfl⟩)
        go_quiet ((go_at_call 90; exact quiet2 HIN.out))
        go_wp2_with fail
        go_ret
        exact ⟨((Only.refl (fun k => k = rb) w).drewN _).setCell (.inl rfl) _, _, i, rfl, Nat.le_refl _, HI.out, .inr ⟨HONE.out, rfl, (H.out.drewN _).wrong⟩⟩
      | false =>
        have hbm : c ∉ but.data.toList := by unfold inS at hb; exact of_decide_eq_false hb
        have hone := one_plain_ok (s := r) hc hbm
        rw [hb] at HIN
        have HONE := Lib.hid hone
        have hd256 : (c.toNat : Int) < 256 := by have := UInt8.toNat_lt c; omega
        clear h hr hi hs hi0 hc hne hb hbm hone
        go_enter Tryz.func98, Tryz.ntmps98
        go_wp2_with (go_at_call 56; (with_reducible refine HAT.out.mono ?_); rintro e w1 ⟨rfl, n, rfl⟩)
        go_quiet ((go_at_call 90; exact quiet2 HIN.out))
        go_wp2_with fail
        go_quiet (fail)
        go_wp2_with fail
        go_ret
        refine ⟨(((Only.refl (fun k => k = rb) w).drewN _).setCell (p := ⟨rb, 1, none⟩) (.inl rfl) _).drewN _, _, i + 1, rfl, by omega, HI0.out, .inl ⟨c.toNat, ?_, rfl, ((H.out.drewN _).to (i + 1)).drewN _⟩⟩
        rw [HONE.out, (rest_cons HR.out).2]

/-- A set and a byte. -/
theorem with_any (q : Q4) (hq : q.Ok) (n : Nat) (hn : n < 256) (w : World) :
    Calls Tryz.prog 97 #[.agg (Q4.cells q), .int .i64 n] w fun e w' => e = .returned (.agg (Q4.cells (q.with n))) ∧ Below w.heap.size w w' := by
  obtain ⟨k, hk⟩ : ∃ k, n % 64 = k := ⟨_, rfl⟩
  have hk64 : k < 64 := by omega
  have hm : (n : Int) % 64 = k := by omega
  have hnn : n ≤ 255 := by omega
  have hw4 : n < 64 ∨ (64 ≤ n ∧ n < 128) ∨ (128 ≤ n ∧ n < 192) ∨ 192 ≤ n := by omega
  unfold Q4.cells
  rcases hw4 with h4 | h4 | h4 | h4
  · have hd : (n : Int) / 64 = 0 := by omega
    have hob := or_bit' q.a k hq.1 hk64
    have HW : Hid (q.with n = { q with a := orBit q.a k }) := by
      apply Lib.hid; simp only [Q4.with]; rw [if_pos (by omega)]; rw [show n = k by omega]
    clear hk hn h4
    go_enter Tryz.func97, Tryz.ntmps97
    go_wp2_with fail
    go_region
    go_wp2_with fail
    refine bodyPost_ret (results_cell_row rfl _ _ (w.heap.size + 1) 23 #[.int .u64 (orBit q.a k), .int .u64 (q.b), .int .u64 (q.c), .int .u64 (q.d)] (0, 0) _ rfl (alloc_block' _ _ _ (by simp)) Tryz.underlying23 rfl info4) rfl ?_
    refine ⟨?_, (((Below.refl _ w).alloc (Nat.le_refl _) _).alloc (by simp) _).drew⟩
    rw [HW.out]
  · have hd : (n : Int) / 64 = 1 := by omega
    have hob := or_bit' q.b k hq.2.1 hk64
    have HW : Hid (q.with n = { q with b := orBit q.b k }) := by
      apply Lib.hid; simp only [Q4.with]; rw [if_neg (by omega), if_pos (by omega)]; rw [show n - 64 = k by omega]
    clear hk hn h4
    go_enter Tryz.func97, Tryz.ntmps97
    go_wp2_with fail
    go_region
    go_wp2_with fail
    refine bodyPost_ret (results_cell_row rfl _ _ (w.heap.size + 1) 23 #[.int .u64 (q.a), .int .u64 (orBit q.b k), .int .u64 (q.c), .int .u64 (q.d)] (0, 0) _ rfl (alloc_block' _ _ _ (by simp)) Tryz.underlying23 rfl info4) rfl ?_
    refine ⟨?_, (((Below.refl _ w).alloc (Nat.le_refl _) _).alloc (by simp) _).drew⟩
    rw [HW.out]
  · have hd : (n : Int) / 64 = 2 := by omega
    have hob := or_bit' q.c k hq.2.2.1 hk64
    have HW : Hid (q.with n = { q with c := orBit q.c k }) := by
      apply Lib.hid; simp only [Q4.with]; rw [if_neg (by omega), if_neg (by omega), if_pos (by omega)]; rw [show n - 128 = k by omega]
    clear hk hn h4
    go_enter Tryz.func97, Tryz.ntmps97
    go_wp2_with fail
    go_region
    go_wp2_with fail
    refine bodyPost_ret (results_cell_row rfl _ _ (w.heap.size + 1) 23 #[.int .u64 (q.a), .int .u64 (q.b), .int .u64 (orBit q.c k), .int .u64 (q.d)] (0, 0) _ rfl (alloc_block' _ _ _ (by simp)) Tryz.underlying23 rfl info4) rfl ?_
    refine ⟨?_, (((Below.refl _ w).alloc (Nat.le_refl _) _).alloc (by simp) _).drew⟩
    rw [HW.out]
  · have hd : (n : Int) / 64 = 3 := by omega
    have hob := or_bit' q.d k hq.2.2.2 hk64
    have HW : Hid (q.with n = { q with d := orBit q.d k }) := by
      apply Lib.hid; simp only [Q4.with]; rw [if_neg (by omega), if_neg (by omega), if_neg (by omega)]; rw [show n - 192 = k by omega]
    clear hk hn h4
    go_enter Tryz.func97, Tryz.ntmps97
    go_wp2_with fail
    go_region
    go_wp2_with fail
    refine bodyPost_ret (results_cell_row rfl _ _ (w.heap.size + 1) 23 #[.int .u64 (q.a), .int .u64 (q.b), .int .u64 (q.c), .int .u64 (orBit q.d k)] (0, 0) _ rfl (alloc_block' _ _ _ (by simp)) Tryz.underlying23 rfl info4) rfl ?_
    refine ⟨?_, (((Below.refl _ w).alloc (Nat.le_refl _) _).alloc (by simp) _).drew⟩
    rw [HW.out]
end Go.Proofs.YtjhclopdcbnmkaaGreatDoor
