/- The walks of the document's reader's told and one. -/
import Derived.Test.YtjhclopdcbnmkaaGreatDoorQ3
set_option linter.unusedSimpArgs false
set_option linter.unusedVariables false
namespace Go.Proofs.YtjhclopdcbnmkaaGreatDoor
open Go.RowKit PX

/-- What a call of the document's reader tells: something, from a place on, or that something is wrong. -/
def Says {α : Type} (rb : Nat) (S : ByteArray) (i : Nat) (w : World) (o : Option (α × List UInt8)) (V : α → Value) (D : Value → Prop) (e : Ending) (w' : World) : Prop :=
  Only (fun k => k = rb) w w' ∧ ∃ (v : Value) (j : Nat), e = .returned v ∧ i ≤ j ∧ j ≤ S.size ∧ ((∃ x, o = some (x, rest S j) ∧ v = V x ∧ RefAt w' rb S j false) ∨ (o = none ∧ D v ∧ RefAt w' rb S j true))
/-- A byte that is told behind a sign. -/
def toldX (s : List UInt8) : Option (Nat × List UInt8) := one [] (92 :: s)
def meaningB : ByteArray := ⟨#[92, 46, 91, 93, 40, 41, 124, 42, 43, 63, 123, 125, 94, 45]⟩
theorem toldX_nil : toldX [] = none := rfl
theorem toldX_mean {d : UInt8} {r : List UInt8} (h : d ∈ meaningL) : toldX (d :: r) = some (d.toNat, r) := by
  have h120 : d ≠ 120 := by rintro rfl; exact absurd h (by decide)
  simp [toldX, one, h, h120]
theorem toldX_hex {a b : UInt8} {r : List UInt8} : toldX (120 :: a :: b :: r) = match hexv a, hexv b with | some x, some y => some (16 * x + y, r) | _, _ => none := by
  simp only [toldX, one]
  cases hexv a <;> cases hexv b <;> rfl
theorem toldX_short1 : toldX [120] = none := by simp [toldX, one]
theorem toldX_short2 (a : UInt8) : toldX [120, a] = none := by simp [toldX, one]
theorem toldX_no {d : UInt8} {r : List UInt8} (h : d ∉ meaningL) (h120 : d ≠ 120) : toldX (d :: r) = none := by simp [toldX, one, h, h120]
theorem inS_mean (d : UInt8) : inS meaningB d = decide (d ∈ meaningL) := rfl

theorem sixI_bd (c : UInt8) : -1 ≤ sixI c ∧ sixI c ≤ 15 := by
  unfold sixI
  cases h : hexv c with
  | some v => have := hexv_lt h; simp only; omega
  | none => simp only; omega
theorem rin_mean (d : UInt8) (b : Bool) (h : decide (d ∈ meaningL) = b) (w : World) :
    Calls Tryz.prog 90 #[.string ⟨#[92, 46, 91, 93, 40, 41, 124, 42, 43, 63, 123, 125, 94, 45]⟩, .int .u8 d.toNat] w fun e w' => e = .returned (.bool b) ∧ w' = w := by
  have h1 := rin_any meaningB d w (by decide)
  rw [inS_mean, h] at h1
  exact h1

set_option maxRecDepth 100000 in
/-- A byte with a meaning. -/
theorem told_mean (w : World) (rb : Nat) (S : ByteArray) (i : Nat) (d : UInt8) (r : List UInt8) (h : RefAt w rb S i false) (hs : S.size ≤ 1000) (hr : rest S i = d :: r) (hm : d ∈ meaningL) :
    Calls Tryz.prog 116 #[.pointer (some ⟨rb, 0, none⟩)] w fun e w' => e = .returned (.int .i64 d.toNat) ∧ RefAt w' rb S (i + 1) false ∧ Only (fun k => k = rb) w w' := by
  obtain ⟨h0, h1, h2, h3, h4⟩ := h.cells
  have hi := (rest_cons hr).1
  have hd : decide (i < S.size) = true := by simp; omega
  have hx := rest_byte hr
  have H := Lib.hid h
  have hi2 : i ≤ 1000 := by omega
  have HIN := Lib.hid (rin_mean d true (decide_eq_true hm))
  have hd256 : (d.toNat : Int) < 256 := by have := UInt8.toNat_lt d; omega
  clear h hr hi hs hm
  go_enter Tryz.func116, Tryz.ntmps116
  go_wp2_with fail
  go_quiet ((go_at_call 90; exact Calls.quiet_of_same (HIN.out _)))
  go_wp2_with fail
  go_quiet (fail)
  go_wp2_with fail
  go_ret
  refine ⟨ret_int ?_, ?_, ?_⟩
  · rfl
  · exact ((H.out.drewN _).to (i + 1)).drewN _
  · exact (((Only.refl (fun k => k = rb) w).drewN _).setCell (.inl rfl) _).drewN _

/-- What is none. -/
def ToldBad (rb : Nat) (S : ByteArray) (i : Nat) (w : World) (e : Ending) (w' : World) : Prop := e = .returned (.int .i64 0) ∧ RefAt w' rb S i true ∧ Only (fun k => k = rb) w w'

set_option maxRecDepth 100000 in
theorem told_end (w : World) (rb : Nat) (S : ByteArray) (i : Nat) (h : RefAt w rb S i false) (hs : S.size ≤ 1000) (hi : S.size ≤ i) (hi2 : i ≤ 1000) :
    Calls Tryz.prog 116 #[.pointer (some ⟨rb, 0, none⟩)] w fun e w' => ToldBad rb S i w e w' := by
  obtain ⟨h0, h1, h2, h3, h4⟩ := h.cells
  have hd : decide (i < S.size) = false := by simp; omega
  have hd2 : decide ((i : Int) + 2 < (S.size : Int)) = false := by simp; omega
  have H := Lib.hid h
  clear h hs hi
  go_enter Tryz.func116, Tryz.ntmps116
  go_wp2_with fail
  go_quiet (fail)
  go_wp2_with fail
  go_quiet (fail)
  go_wp2_with fail
  go_ret
  exact ⟨rfl, (H.out.drewN _).wrong, ((Only.refl (fun k => k = rb) w).drewN _).setCell (.inl rfl) _⟩

set_option maxRecDepth 100000 in
/-- No byte with a meaning, and none that is told by its number. -/
theorem told_short (w : World) (rb : Nat) (S : ByteArray) (i : Nat) (d : UInt8) (r : List UInt8) (h : RefAt w rb S i false) (hs : S.size ≤ 1000) (hr : rest S i = d :: r) (hm : d ∉ meaningL) (hsh : S.size ≤ i + 2) :
    Calls Tryz.prog 116 #[.pointer (some ⟨rb, 0, none⟩)] w fun e w' => ToldBad rb S i w e w' := by
  obtain ⟨h0, h1, h2, h3, h4⟩ := h.cells
  have hi := (rest_cons hr).1
  have hd : decide (i < S.size) = true := by simp; omega
  have hd2 : decide ((i : Int) + 2 < (S.size : Int)) = false := by simp; omega
  have hx := rest_byte hr
  have H := Lib.hid h
  have hi2 : i ≤ 1000 := by omega
  have HIN := Lib.hid (rin_mean d false (decide_eq_false hm))
  clear h hr hi hs hm hsh
  go_enter Tryz.func116, Tryz.ntmps116
  go_wp2_with fail
  go_quiet ((go_at_call 90; exact Calls.quiet_of_same (HIN.out _)))
  go_wp2_with fail
  go_quiet (fail)
  go_wp2_with fail
  go_ret
  exact ⟨rfl, (H.out.drewN _).wrong, ((Only.refl (fun k => k = rb) w).drewN _).setCell (.inl rfl) _⟩

set_option maxRecDepth 100000 in
theorem told_no (w : World) (rb : Nat) (S : ByteArray) (i : Nat) (d : UInt8) (r : List UInt8) (h : RefAt w rb S i false) (hs : S.size ≤ 1000) (hr : rest S i = d :: r) (hm : d ∉ meaningL) (hsh : i + 2 < S.size) (h120 : d ≠ 120) :
    Calls Tryz.prog 116 #[.pointer (some ⟨rb, 0, none⟩)] w fun e w' => ToldBad rb S i w e w' := by
  obtain ⟨h0, h1, h2, h3, h4⟩ := h.cells
  have hi := (rest_cons hr).1
  have hd : decide (i < S.size) = true := by simp; omega
  have hd2 : decide ((i : Int) + 2 < (S.size : Int)) = true := by simp; omega
  have hx := rest_byte hr
  have he : ((d.toNat : Int) == 120) = false := by
    rw [show (120 : Int) = ((120 : UInt8).toNat : Int) from rfl, byte_eq]; exact decide_eq_false h120
  have H := Lib.hid h
  have hi2 : i ≤ 1000 := by omega
  have HIN := Lib.hid (rin_mean d false (decide_eq_false hm))
  clear h hr hi hs hm hsh h120
  go_enter Tryz.func116, Tryz.ntmps116
  go_wp2_with fail
  go_quiet ((go_at_call 90; exact Calls.quiet_of_same (HIN.out _)))
  go_wp2_with fail
  go_quiet (fail)
  go_wp2_with fail
  go_ret
  exact ⟨rfl, (H.out.drewN _).wrong, ((Only.refl (fun k => k = rb) w).drewN _).setCell (.inl rfl) _⟩

set_option maxRecDepth 100000 in
set_option maxHeartbeats 1000000 in
/-- Two digits of base sixteen, or what is none. -/
theorem told_hex (w : World) (rb : Nat) (S : ByteArray) (i : Nat) (a b : UInt8) (r : List UInt8) (h : RefAt w rb S i false) (hs : S.size ≤ 1000) (hr : rest S i = 120 :: a :: b :: r) :
    Calls Tryz.prog 116 #[.pointer (some ⟨rb, 0, none⟩)] w fun e w' =>
      ((0 ≤ sixI a ∧ 0 ≤ sixI b) ∧ e = .returned (.int .i64 (16 * sixI a + sixI b)) ∧ RefAt w' rb S (i + 3) false ∧ Only (fun k => k = rb) w w') ∨ (¬ (0 ≤ sixI a ∧ 0 ≤ sixI b) ∧ ToldBad rb S i w e w') := by
  obtain ⟨h0, h1, h2, h3, h4⟩ := h.cells
  have hr1 := (rest_cons hr).2
  have hr2 := (rest_cons hr1).2
  have hi := (rest_cons hr2).1
  have hd : decide (i < S.size) = true := by simp; omega
  have hd2 : decide ((i : Int) + 2 < (S.size : Int)) = true := by simp; omega
  have hx := rest_byte hr
  have hx1 := rest_int hr1 ((i : Int) + 1) (by omega)
  have hx2 := rest_int hr2 ((i : Int) + 2) (by omega)
  have H := Lib.hid h
  have hi2 : i ≤ 1000 := by omega
  have HIN := Lib.hid (rin_mean 120 false (by decide))
  have hw1 : IntKind.i64.wrap ((i : Int) + 1) = (i : Int) + 1 := IntWalk.i64_in _ (by omega)
  have hw2 : IntKind.i64.wrap ((i : Int) + 2) = (i : Int) + 2 := IntWalk.i64_in _ (by omega)
  have HW1 := Lib.hid hw1
  have HW2 := Lib.hid hw2
  clear hw1 hw2
  have hsa : -1 ≤ sixI a ∧ sixI a ≤ 15 := sixI_bd a
  have hsb : -1 ≤ sixI b ∧ sixI b ≤ 15 := sixI_bd b
  obtain ⟨hsa1, hsa2⟩ := hsa
  obtain ⟨hsb1, hsb2⟩ := hsb
  clear h hr hr1 hr2 hi hs
  by_cases ha : 0 ≤ sixI a
  · by_cases hb : 0 ≤ sixI b
    · go_enter Tryz.func116, Tryz.ntmps116
      go_wp2_with fail
      go_quiet ((go_at_call 90; exact Calls.quiet_of_same (HIN.out _)))
      go_wp2_with fail
      go_quiet (fail)
      go_wp2_with fail
      have hw1 := HW1.out
      have hw2 := HW2.out
      go_quiet ((go_at_call 135; exact quiet2 (sixteen_any _)))
      clear hw1 hw2
      go_wp2_with fail
      go_ret
      exact .inl ⟨⟨ha, hb⟩, rfl, (H.out.drewN _).to (i + 3), ((Only.refl (fun k => k = rb) w).drewN _).setCell (.inl rfl) _⟩
    · go_enter Tryz.func116, Tryz.ntmps116
      go_wp2_with fail
      go_quiet ((go_at_call 90; exact Calls.quiet_of_same (HIN.out _)))
      go_wp2_with fail
      go_quiet (fail)
      go_wp2_with fail
      have hw1 := HW1.out
      have hw2 := HW2.out
      go_quiet ((go_at_call 135; exact quiet2 (sixteen_any _)))
      clear hw1 hw2
      go_wp2_with fail
      go_ret
      exact .inr ⟨by omega, rfl, (H.out.drewN _).wrong, ((Only.refl (fun k => k = rb) w).drewN _).setCell (.inl rfl) _⟩
  · go_enter Tryz.func116, Tryz.ntmps116
    go_wp2_with fail
    go_quiet ((go_at_call 90; exact Calls.quiet_of_same (HIN.out _)))
    go_wp2_with fail
    go_quiet (fail)
    go_wp2_with fail
    have hw1 := HW1.out
    have hw2 := HW2.out
    go_quiet ((go_at_call 135; exact quiet2 (sixteen_any _)))
    clear hw1 hw2
    go_wp2_with fail
    go_ret
    exact .inr ⟨by omega, rfl, (H.out.drewN _).wrong, ((Only.refl (fun k => k = rb) w).drewN _).setCell (.inl rfl) _⟩

theorem told_any (w : World) (rb : Nat) (S : ByteArray) (i : Nat) (h : RefAt w rb S i false) (hs : S.size ≤ 1000) (hi : i ≤ S.size) :
    Calls Tryz.prog 116 #[.pointer (some ⟨rb, 0, none⟩)] w fun e w' => Says rb S i w (toldX (rest S i)) (fun n => .int .i64 (n : Nat)) (fun v => v = .int .i64 0) e w' := by
  have bad : toldX (rest S i) = none → ∀ e w', ToldBad rb S i w e w' → Says rb S i w (toldX (rest S i)) (fun n => .int .i64 (n : Nat)) (fun v => v = .int .i64 0) e w' := by
    rintro ho e w' ⟨rfl, h1, h2⟩
    exact ⟨h2, _, i, rfl, Nat.le_refl _, hi, .inr ⟨ho, rfl, h1⟩⟩
  cases hr : rest S i with
  | nil =>
    have hsi : S.size ≤ i := by have := rest_length S i; rw [hr] at this; simp at this; omega
    exact (told_end w rb S i h hs hsi (by omega)).mono fun e w' hb => hr ▸ bad (by rw [hr]; rfl) e w' hb
  | cons d r =>
    by_cases hm : d ∈ meaningL
    · refine (told_mean w rb S i d r h hs hr hm).mono ?_
      rintro e w' ⟨rfl, h1, h2⟩
      exact ⟨h2, _, i + 1, rfl, by omega, (rest_cons hr).1, .inl ⟨d.toNat, by rw [toldX_mean hm, (rest_cons hr).2], rfl, h1⟩⟩
    · by_cases hsh : i + 2 < S.size
      · by_cases h120 : d = 120
        · subst h120
          obtain ⟨a, r1, hr1⟩ := rest_ex (S := S) (i := i + 1) (by omega)
          obtain ⟨b, r2, hr2⟩ := rest_ex (S := S) (i := i + 2) (by omega)
          have e1 := (rest_cons hr).2
          have e2 := (rest_cons hr1).2
          have er : rest S i = 120 :: a :: b :: r2 := by rw [hr, ← e1, hr1, ← e2, hr2]
          have e3 : rest S (i + 3) = r2 := (rest_cons hr2).2
          refine (told_hex w rb S i a b r2 h hs er).mono ?_
          rw [← hr, er]
          rintro e w' (⟨⟨ha, hb⟩, rfl, h1, h2⟩ | ⟨hn, hbad⟩)
          · unfold sixI at ha hb
            cases hxa : hexv a with
            | none => rw [hxa] at ha; simp at ha
            | some x =>
              cases hxb : hexv b with
              | none => rw [hxb] at hb; simp at hb
              | some y =>
                refine ⟨h2, _, i + 3, rfl, by omega, (rest_cons hr2).1, .inl ⟨16 * x + y, by rw [toldX_hex, hxa, hxb, e3], ?_, h1⟩⟩
                unfold sixI
                rw [hxa, hxb]
                simp
          · refine er ▸ bad ?_ e w' hbad
            rw [er, toldX_hex]
            cases hxa : hexv a with
            | none => rfl
            | some x =>
              cases hxb : hexv b with
              | none => rfl
              | some y => exact absurd ⟨by unfold sixI; rw [hxa]; simp, by unfold sixI; rw [hxb]; simp⟩ hn
        · exact (told_no w rb S i d r h hs hr hm hsh h120).mono fun e w' hb => hr ▸ bad (by rw [hr]; exact toldX_no hm h120) e w' hb
      · refine (told_short w rb S i d r h hs hr hm (by omega)).mono fun e w' hb => hr ▸ bad ?_ e w' hb
        rw [hr]
        by_cases h120 : d = 120
        · subst h120
          have hl : r.length ≤ 1 := by have := rest_length S i; rw [hr] at this; simp at this; omega
          match r, hl with
          | [], _ => exact toldX_short1
          | [a], _ => exact toldX_short2 a
        · exact toldX_no hm h120
end Go.Proofs.YtjhclopdcbnmkaaGreatDoor
