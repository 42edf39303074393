/- The walks of the document's reader's small functions: in, sixteen, told, one. -/
import Derived.Test.YtjhclopdcbnmkaaGreatDoorQ2
import Derived.Test.YtjhclopdcbnmkaaGreatDoorB1
import Derived.LoopTactic
set_option linter.unusedSimpArgs false
set_option linter.unusedVariables false
namespace Go.Proofs.YtjhclopdcbnmkaaGreatDoor
open Go.RowKit PX

theorem rest_int {S : ByteArray} {i : Nat} {c : UInt8} {r : List UInt8} (h : rest S i = c :: r) (k : Int) (hk : k = i) (w : World) : (Instr.index 9 (.string S) (.int .i64 k)).run Tryz.prog w = .ok (.int .u8 c.toNat) w := by
  subst hk; exact rest_byte h w
theorem byte_eq {c d : UInt8} : ((c.toNat : Int) == (d.toNat : Int)) = decide (c = d) := by
  rw [Bool.eq_iff_iff, beq_iff_eq, decide_eq_true_eq]
  constructor
  · intro h; exact UInt8.toNat_inj.1 (by omega)
  · rintro rfl; rfl
theorem mem_zero {S : ByteArray} {c : UInt8} : (c ∈ S.data.toList) ↔ ∃ k, ∃ r, rest S k = c :: r := by
  constructor
  · intro h
    obtain ⟨k, hk, he⟩ := List.getElem_of_mem h
    exact ⟨k, _, by unfold rest; rw [List.drop_eq_getElem_cons hk, he]⟩
  · rintro ⟨k, r, h⟩
    unfold rest at h
    exact List.mem_of_mem_drop (i := k) (by rw [h]; simp)
theorem rest_drop (S : ByteArray) (i : Nat) : rest S i = S.data.toList.drop i := rfl

/-- Is a byte in a text? -/
def inS (S : ByteArray) (c : UInt8) : Bool := decide (c ∈ S.data.toList)
set_option maxRecDepth 100000 in
theorem rin_any (S : ByteArray) (c : UInt8) (w : World) (hs : S.size ≤ 1000) :
    Calls Tryz.prog 90 #[.string S, .int .u8 c.toNat] w fun e w' => e = .returned (.bool (inS S c)) ∧ w' = w := by
  go_enter Tryz.func90, Tryz.ntmps90
  go_wp2
  go_loop [5] (fun i => ∃ k : Nat, k ≤ S.size ∧ i = .int .i64 k ∧ (c ∈ S.data.toList ↔ c ∈ rest S k)) (fun i => S.size - (intOf i).toNat)
  case atStart => exact ⟨0, Nat.zero_le _, rfl, by rw [rest_drop, List.drop_zero]⟩
  case round =>
    obtain ⟨k, hk, rfl, hmem⟩ := hrel
    have HM := Lib.hid hmem; clear hmem
    by_cases hlt : k < S.size
    · obtain ⟨d, r, hr⟩ := rest_ex hlt
      have hx := rest_byte hr
      have HR := Lib.hid hr; clear hr
      by_cases hdc : d = c
      · have hb : ((d.toNat : Int) == (c.toNat : Int)) = true := by rw [byte_eq]; exact decide_eq_true hdc
        have HD := Lib.hid hdc; clear hdc
        go_wp2
        go_ret
        refine ⟨ret_bool (Eq.symm ?_), rfl⟩
        unfold inS
        rw [decide_eq_true_eq, HM.out, HR.out, HD.out]; simp
      · have hb : ((d.toNat : Int) == (c.toNat : Int)) = false := by rw [byte_eq]; exact decide_eq_false hdc
        have HD := Lib.hid hdc; clear hdc
        go_wp2
        go_round
        case rel =>
          refine ⟨k + 1, by omega, by go_num, ?_⟩
          rw [HM.out, HR.out, (rest_cons HR.out).2]
          constructor
          · intro h
            rcases List.mem_cons.1 h with h | h
            · exact absurd h.symm HD.out
            · exact h
          · intro h; exact List.mem_cons_of_mem _ h
        case measure => simp [intOf]; omega
    · go_wp2
      go_ret
      refine ⟨ret_bool (Eq.symm ?_), rfl⟩
      unfold inS
      rw [decide_eq_false_iff_not, HM.out, rest_nil (by omega)]; simp

theorem hexv_none {c : UInt8} (h : hexv c = none) : c.toNat < 48 ∨ (57 < c.toNat ∧ c.toNat < 65) ∨ (70 < c.toNat ∧ c.toNat < 97) ∨ 102 < c.toNat := by
  unfold hexv at h
  split at h
  · cases h
  · split at h
    · cases h
    · split at h
      · cases h
      · omega
/-- What sixteen tells. -/
def sixI (c : UInt8) : Int := match hexv c with | some v => v | none => -1
theorem sixteen_core (z : Int) (h0 : 0 ≤ z) (h255 : z ≤ 255) (v : Int) (w : World)
    (hv : (48 ≤ z ∧ z ≤ 57 ∧ v = z - 48) ∨ (97 ≤ z ∧ z ≤ 102 ∧ v = z - 87) ∨ (65 ≤ z ∧ z ≤ 70 ∧ v = z - 55) ∨ (v = -1 ∧ z < 48) ∨ (v = -1 ∧ 57 < z ∧ z < 65) ∨ (v = -1 ∧ 70 < z ∧ z < 97) ∨ (v = -1 ∧ 102 < z)) :
    Calls Tryz.prog 135 #[.int .u8 z] w fun e w' => e = .returned (.int .i64 v) ∧ w' = w := by
  rcases hv with ⟨h1, h2, h3⟩ | ⟨h1, h2, h3⟩ | ⟨h1, h2, h3⟩ | ⟨h3, h1⟩ | ⟨h3, h1, h2⟩ | ⟨h3, h1, h2⟩ | ⟨h3, h1⟩
  all_goals
    have HV := Lib.hid h3; clear h3
    go_enter Tryz.func135, Tryz.ntmps135
    go_wp2
    go_ret
    refine ⟨ret_int ?_, rfl⟩
    have := HV.out
    omega
theorem sixteen_any (c : UInt8) (w : World) : Calls Tryz.prog 135 #[.int .u8 c.toNat] w fun e w' => e = .returned (.int .i64 (sixI c)) ∧ w' = w := by
  have hc := UInt8.toNat_lt c
  refine sixteen_core c.toNat (by omega) (by omega) _ w ?_
  unfold sixI
  cases h : hexv c with
  | some v =>
    rcases hex_cases h with ⟨h1, h2, h3⟩ | ⟨h1, h2, h3⟩ | ⟨h1, h2, h3⟩
    · left; simp only; omega
    · right; left; simp only; omega
    · right; right; left; simp only; omega
  | none =>
    rcases hexv_none h with h | ⟨h, h'⟩ | ⟨h, h'⟩ | h
    · exact .inr (.inr (.inr (.inl ⟨rfl, by omega⟩)))
    · exact .inr (.inr (.inr (.inr (.inl ⟨rfl, by omega, by omega⟩))))
    · exact .inr (.inr (.inr (.inr (.inr (.inl ⟨rfl, by omega, by omega⟩)))))
    · exact .inr (.inr (.inr (.inr (.inr (.inr ⟨rfl, by omega⟩)))))
end Go.Proofs.YtjhclopdcbnmkaaGreatDoor
