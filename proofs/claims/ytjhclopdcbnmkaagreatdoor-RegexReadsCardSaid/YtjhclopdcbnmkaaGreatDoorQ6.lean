/- The walk of the document's reader's number. -/
import Derived.Test.YtjhclopdcbnmkaaGreatDoorQ5
set_option linter.unusedSimpArgs false
set_option linter.unusedVariables false
namespace Go.Proofs.YtjhclopdcbnmkaaGreatDoor.PX
/-- The number that the first k digits of s say. -/
def NumTo (s : List UInt8) (k n : Nat) : Prop :=
  (k = 0 ∧ n = 0) ∨ (∃ a t, s = a :: t ∧ digitB a = true ∧ k = 1 ∧ n = a.toNat - 48) ∨ (∃ a b r, s = a :: b :: r ∧ digitB a = true ∧ digitB b = true ∧ k = 2 ∧ n = 10 * (a.toNat - 48) + (b.toNat - 48))
theorem NumTo.bd {s : List UInt8} {k n : Nat} (h : NumTo s k n) : k ≤ 2 ∧ n ≤ 99 ∧ (k < 2 → n ≤ 9) ∧ (k = 0 → n = 0) := by
  rcases h with ⟨rfl, rfl⟩ | ⟨a, t, rfl, ha, rfl, rfl⟩ | ⟨a, b, r, rfl, ha, hb, rfl, rfl⟩
  · omega
  · rw [digit_iff] at ha; omega
  · rw [digit_iff] at ha hb; omega
theorem NumTo.step {s : List UInt8} {k n : Nat} (h : NumTo s k n) (hk : k < 2) {d : UInt8} {r : List UInt8} (hd : s.drop k = d :: r) (hg : 48 ≤ d.toNat ∧ d.toNat ≤ 57) : NumTo s (k + 1) (10 * n + (d.toNat - 48)) := by
  rcases h with ⟨rfl, rfl⟩ | ⟨a, t, rfl, ha, rfl, rfl⟩ | ⟨a, b, r', rfl, ha, hb, rfl, rfl⟩
  · right; left
    exact ⟨d, r, by simpa using hd, (digit_iff d).2 hg, rfl, by omega⟩
  · right; right
    rw [List.drop_succ_cons, List.drop_zero] at hd
    subst hd
    exact ⟨a, d, r, rfl, ha, (digit_iff d).2 hg, rfl, rfl⟩
  · omega
/-- Where no digit more is read. -/
def NumEnd (s : List UInt8) (k : Nat) : Prop := k = 2 ∨ s.drop k = [] ∨ ∃ d r, s.drop k = d :: r ∧ ¬ (48 ≤ d.toNat ∧ d.toNat ≤ 57)
theorem NumTo.none {s : List UInt8} {k n : Nat} (h : NumTo s k n) (he : NumEnd s k) (hb : k = 0 ∨ 15 < n ∨ (k = 2 ∧ n < 10)) : numX s = none := by
  rcases h with ⟨rfl, rfl⟩ | ⟨a, t, rfl, ha, rfl, rfl⟩ | ⟨a, b, r', rfl, ha, hb', rfl, rfl⟩
  · rcases he with h | h | ⟨d, r, h, hn⟩
    · omega
    · rw [List.drop_zero] at h; subst h; rfl
    · rw [List.drop_zero] at h; subst h
      rw [← digit_iff] at hn
      simp [numX, hn]
  · rw [digit_iff] at ha; omega
  · simp only [numX]
    rw [if_pos ha, if_pos hb', if_pos (by omega)]
theorem NumTo.some {s : List UInt8} {k n : Nat} (h : NumTo s k n) (he : NumEnd s k) (h0 : 0 < k) (h15 : n ≤ 15) (h2 : k = 2 → 10 ≤ n) : numX s = some (n, s.drop k) := by
  rcases h with ⟨rfl, rfl⟩ | ⟨a, t, rfl, ha, rfl, rfl⟩ | ⟨a, b, r', rfl, ha, hb', rfl, rfl⟩
  · omega
  · simp only [numX]
    rw [if_pos ha]
    rcases he with h | h | ⟨d, r, h, hn⟩
    · omega
    · rw [List.drop_succ_cons, List.drop_zero] at h ⊢; subst h; rfl
    · rw [List.drop_succ_cons, List.drop_zero] at h ⊢; subst h
      rw [← digit_iff] at hn
      simp [hn]
  · simp only [numX]
    rw [if_pos ha, if_pos hb', if_neg (by have := h2 rfl; omega)]
    rfl
end Go.Proofs.YtjhclopdcbnmkaaGreatDoor.PX

namespace Go.Proofs.YtjhclopdcbnmkaaGreatDoor
open Go.RowKit PX

/-- How far a reader is. -/
def posOf (rb : Nat) (w : World) : Nat := match w.cell? ⟨rb, 1, none⟩ with | some (.int _ j) => j.toNat | _ => 0
theorem posOf_eq {w : World} {rb : Nat} {S : ByteArray} {i : Nat} {b : Bool} (h : RefAt w rb S i b) : posOf rb w = i := by
  unfold posOf
  rw [h.cells.2.1]; simp
/-- What number tells. -/
def NumSays (rb : Nat) (S : ByteArray) (i0 : Nat) (b : Bool) (w : World) (e : Ending) (w' : World) : Prop :=
  Only (fun k => k = rb) w w' ∧ ∃ n i : Nat, e = .returned (.int .i64 n) ∧ n ≤ 99 ∧ i0 ≤ i ∧ i ≤ S.size ∧ ((numX (rest S i0) = some (n, rest S i) ∧ RefAt w' rb S i b) ∨ (numX (rest S i0) = none ∧ RefAt w' rb S i true))
theorem rest_add (S : ByteArray) (i k : Nat) : rest S (i + k) = (rest S i).drop k := by unfold rest; rw [List.drop_drop]

set_option maxRecDepth 100000 in
set_option maxHeartbeats 4000000 in
theorem rnumber_any (w : World) (rb : Nat) (S : ByteArray) (i0 : Nat) (b : Bool) (h : RefAt w rb S i0 b) (hs : S.size ≤ 1000) (hi : i0 ≤ S.size) :
    Calls Tryz.prog 82 #[.pointer (some ⟨rb, 0, none⟩)] w fun e w' => NumSays rb S i0 b w e w' := by
  obtain ⟨h0, h1, h2, h3, h4⟩ := h.cells
  have H := Lib.hid h; clear h
  go_enter Tryz.func82, Tryz.ntmps82
  go_wp2_with fail
  go_loopw [4] (fun v wr => ∃ i k n : Nat, Hid (i = i0 + k) ∧ v = .int .i64 n ∧ RefAt wr rb S i b ∧ Only (fun k => k = rb) w wr ∧ i ≤ S.size ∧ NumTo (rest S i0) k n) (fun _ wr => 2 + i0 - posOf rb wr)
  case atStart => exact ⟨i0, 0, 0, Lib.hid rfl, rfl, H.out, Only.refl _ _, hi, .inl ⟨rfl, rfl⟩⟩
  case round =>
    obtain ⟨i, k, n, hik, rfl, hra, hon, hle, hnum⟩ := hrel
    clear h0 h1 h2 h3 h4
    obtain ⟨h0, h1, h2, h3, h4⟩ := hra.cells
    have hbd := hnum.bd
    have HRA := Lib.hid hra; clear hra
    have HON := Lib.hid hon; clear hon
    have HNUM := Lib.hid hnum; clear hnum
    have hi1 : i ≤ 1000 := by omega
    have hn99 : n ≤ 99 := hbd.2.1
    have HBD := Lib.hid hbd; clear hbd
    have hcase : (k < 2 ∧ ∃ d r, rest S i = d :: r ∧ (48 ≤ d.toNat ∧ d.toNat ≤ 57)) ∨ NumEnd (rest S i0) k := by
      unfold NumEnd
      rw [← rest_add, ← hik.out]
      by_cases hk2 : k = 2
      · exact .inr (.inl hk2)
      · cases hr : rest S i with
        | nil => exact .inr (.inr (.inl rfl))
        | cons d r =>
          by_cases hd : 48 ≤ d.toNat ∧ d.toNat ≤ 57
          · exact .inl ⟨by have := HBD.out.1; omega, d, r, rfl, hd⟩
          · exact .inr (.inr (.inr ⟨d, r, rfl, hd⟩))
    rcases hcase with ⟨hk2, d, r, hr, hg⟩ | hend
    · have hx := rest_byte hr
      have hlt := (rest_cons hr).1
      have hd : decide (i < S.size) = true := by simp; omega
      have hstep := HNUM.out.step hk2 (by rw [← rest_add, ← hik.out]; exact hr) hg
      have hn9 : n ≤ 9 := HBD.out.2.2.1 hk2
      have hz2 : decide ((i : Int) < (i0 : Int) + 2) = true := by have := hik.out; simp; omega
      obtain ⟨z, hz⟩ : ∃ z : Int, Hid ((d.toNat : Int) = z) := ⟨_, Lib.hid rfl⟩
      have hz48 : (48 : Int) ≤ z := by have := hz.out; omega
      have hz57 : z ≤ (57 : Int) := by have := hz.out; omega
      rw [hz.out] at hx
      have HSTEP := Lib.hid hstep
      clear hstep hr hlt hg
      go_wp2_with fail
      go_quiet (fail)
      go_wp2_with fail
      go_quiet (fail)
      go_wp2_with fail
      refine ⟨⟨i + 1, k + 1, 10 * n + (d.toNat - 48), Lib.hid (by have := hik.out; omega), ?_, (HRA.out.drewN _).to (i + 1), (HON.out.drewN _).setCell (.inl rfl) _, by have := of_decide_eq_true hd; omega, HSTEP.out⟩, ?_⟩
      · have := hz.out
        rw [show 10 * (n : Int) + (z - 48) = ((10 * n + (d.toNat - 48) : Nat) : Int) by omega]
      · have hm := posOf_eq HRA.out
        rw [hm]
        refine Nat.lt_of_le_of_lt (Nat.le_of_eq (congrArg (2 + i0 - ·) (posOf_eq ((HRA.out.drewN _).to (i + 1))))) ?_
        have := hik.out; have := HBD.out.1
        show 2 + i0 - (i + 1) < 2 + i0 - i
        omega
    · have hwhy : (S.size ≤ i) ∨ (∃ d r, rest S i = d :: r ∧ i < S.size ∧ ((d.toNat : Int) < 48)) ∨ (∃ d r, rest S i = d :: r ∧ i < S.size ∧ (48 : Int) ≤ d.toNat ∧ (57 : Int) < (d.toNat : Int)) ∨ (∃ d r, rest S i = d :: r ∧ i < S.size ∧ (48 : Int) ≤ d.toNat ∧ (d.toNat : Int) ≤ 57 ∧ k = 2) := by
        by_cases hsi : S.size ≤ i
        · exact .inl hsi
        · obtain ⟨d, r, hr⟩ := rest_ex (S := S) (i := i) (by omega)
          by_cases h48 : (d.toNat : Int) < 48
          · exact .inr (.inl ⟨d, r, hr, by omega, h48⟩)
          · by_cases h57 : (57 : Int) < (d.toNat : Int)
            · exact .inr (.inr (.inl ⟨d, r, hr, by omega, by omega, h57⟩))
            · refine .inr (.inr (.inr ⟨d, r, hr, by omega, by omega, by omega, ?_⟩))
              rcases hend with h | h | ⟨d', r', h, hn⟩
              · exact h
              · rw [← rest_add, ← hik.out, hr] at h; cases h
              · rw [← rest_add, ← hik.out, hr] at h
                cases h
                omega
      have HEND := Lib.hid hend; clear hend
      have hii0 : i0 ≤ i := by have := hik.out; omega
      rcases hwhy with hsi | ⟨d, r, hr, hlt, h48⟩ | ⟨d, r, hr, hlt, h48, h57⟩ | ⟨d, r, hr, hlt, h48, h57, hk2⟩
      · have hd : decide (i < S.size) = false := by simp; omega
        have HSI := Lib.hid hsi; clear hsi
        go_wp2_with fail
        go_quiet (fail)
        go_wp2_with fail
        all_goals
          go_ret
          have hik' := hik.out
          have hk2 := HBD.out.1
          first
            | exact ⟨(HON.out.drewN _).setCell (.inl rfl) _, n, i, rfl, hn99, hii0, hle, .inr ⟨HNUM.out.none HEND.out (by omega), (HRA.out.drewN _).wrong⟩⟩
            | exact ⟨HON.out.drewN _, n, i, rfl, hn99, hii0, hle, .inl ⟨(HNUM.out.some HEND.out (by omega) (by omega) (by omega)).trans (by rw [← rest_add, ← hik']), HRA.out.drewN _⟩⟩
      · have hd : decide (i < S.size) = true := by simp; omega
        have hx := rest_byte hr
        obtain ⟨z, hz⟩ : ∃ z : Int, Hid ((d.toNat : Int) = z) := ⟨_, Lib.hid rfl⟩
        rw [hz.out] at hx h48
        have hb48 : decide ((48 : Int) ≤ z) = false := by simp; omega
        clear hr hlt
        go_wp2_with fail
        go_quiet (fail)
        go_wp2_with fail
        all_goals
          go_ret
          have hik' := hik.out
          have hk2 := HBD.out.1
          first
            | exact ⟨(HON.out.drewN _).setCell (.inl rfl) _, n, i, rfl, hn99, hii0, hle, .inr ⟨HNUM.out.none HEND.out (by omega), (HRA.out.drewN _).wrong⟩⟩
            | exact ⟨HON.out.drewN _, n, i, rfl, hn99, hii0, hle, .inl ⟨(HNUM.out.some HEND.out (by omega) (by omega) (by omega)).trans (by rw [← rest_add, ← hik']), HRA.out.drewN _⟩⟩
      · have hd : decide (i < S.size) = true := by simp; omega
        have hx := rest_byte hr
        obtain ⟨z, hz⟩ : ∃ z : Int, Hid ((d.toNat : Int) = z) := ⟨_, Lib.hid rfl⟩
        rw [hz.out] at hx h48 h57
        have hb57 : decide (z ≤ (57 : Int)) = false := by simp; omega
        clear hr hlt
        go_wp2_with fail
        go_quiet (fail)
        go_wp2_with fail
        all_goals
          go_ret
          have hik' := hik.out
          have hk2 := HBD.out.1
          first
            | exact ⟨(HON.out.drewN _).setCell (.inl rfl) _, n, i, rfl, hn99, hii0, hle, .inr ⟨HNUM.out.none HEND.out (by omega), (HRA.out.drewN _).wrong⟩⟩
            | exact ⟨HON.out.drewN _, n, i, rfl, hn99, hii0, hle, .inl ⟨(HNUM.out.some HEND.out (by omega) (by omega) (by omega)).trans (by rw [← rest_add, ← hik']), HRA.out.drewN _⟩⟩
      · have hd : decide (i < S.size) = true := by simp; omega
        have hz2 : decide ((i : Int) < (i0 : Int) + 2) = false := by have := hik.out; simp; omega
        have hx := rest_byte hr
        obtain ⟨z, hz⟩ : ∃ z : Int, Hid ((d.toNat : Int) = z) := ⟨_, Lib.hid rfl⟩
        rw [hz.out] at hx h48 h57
        have HK := Lib.hid hk2
        clear hr hlt hk2
        go_wp2_with fail
        go_quiet (fail)
        go_wp2_with fail
        all_goals
          go_ret
          have hik' := hik.out
          have hk2 := HBD.out.1
          first
            | exact ⟨(HON.out.drewN _).setCell (.inl rfl) _, n, i, rfl, hn99, hii0, hle, .inr ⟨HNUM.out.none HEND.out (by omega), (HRA.out.drewN _).wrong⟩⟩
            | exact ⟨HON.out.drewN _, n, i, rfl, hn99, hii0, hle, .inl ⟨(HNUM.out.some HEND.out (by omega) (by omega) (by omega)).trans (by rw [← rest_add, ← hik']), HRA.out.drewN _⟩⟩
end Go.Proofs.YtjhclopdcbnmkaaGreatDoor
