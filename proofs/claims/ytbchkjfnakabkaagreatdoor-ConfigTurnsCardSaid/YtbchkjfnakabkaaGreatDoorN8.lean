/- Plain: a text with an odd sign, by runes and by bytes. -/
import Derived.Test.YtbchkjfnakabkaaGreatDoorYP
import Derived.Shelf.GgClosure.StringsIndexFunc
set_option linter.unusedSimpArgs false
set_option linter.unusedVariables false
namespace Go.Proofs.YtbchkjfnakabkaaGreatDoor.PC
open PX

def oddR (x : Nat) : Bool := decide (x < 33) || decide (126 < x)
theorem decode_low (s : ByteArray) (i : Nat) (h : (s.get! i).toNat < 128) : Utf8.decode s i = ((s.get! i).toNat, 1) := by
  unfold Utf8.decode
  simp only [Nat.add_zero]
  rw [if_pos (by omega)]
theorem decode_high (s : ByteArray) (i : Nat) (h : ¬ (s.get! i).toNat < 128) : 128 ≤ (Utf8.decode s i).1 := by
  unfold Utf8.decode
  simp only [Nat.add_zero]
  rw [if_neg (by omega)]
  have hr : 128 ≤ Utf8.runeError := by decide
  split
  · split
    · rename_i h1; exact h1
    · exact hr
  · split
    · split
      · rename_i h1
        simp only [ge_iff_le, Bool.and_eq_true, decide_eq_true_eq] at h1
        show 128 ≤ _ * 4096 + _ * 64 + _
        omega
      · exact hr
    · split
      · split
        · rename_i h1
          simp only [ge_iff_le, Bool.and_eq_true, decide_eq_true_eq] at h1
          show 128 ≤ _ * 262144 + _ * 4096 + _ * 64 + _
          omega
        · exact hr
      · exact hr
theorem get_drop (s : ByteArray) (i : Nat) (h : i < s.size) : s.data.toList.drop i = s.get! i :: s.data.toList.drop (i + 1) := by
  have hl : i < s.data.toList.length := by rw [Array.length_toList]; exact h
  rw [List.drop_eq_getElem_cons hl]
  congr 1
  rw [Array.getElem_toList]
  show s.data[i] = s.data[i]!
  rw [getElem!_pos s.data i h]
theorem odd_from (s : ByteArray) : ∀ (f pos : Nat), s.size ≤ pos + f → pos ≤ s.size → decide (0 ≤ Lib.idxFuncFrom oddR true s f pos) = (s.data.toList.drop pos).any fun b => decide (b.toNat < 33) || decide (126 < b.toNat)
  | 0, pos, h, hp => by
    have : pos = s.size := by omega
    subst this
    rw [List.drop_of_length_le (by rw [Array.length_toList]; exact Nat.le_refl _)]
    rfl
  | f + 1, pos, h, hp => by
    unfold Lib.idxFuncFrom
    by_cases hlt : pos < s.size
    · rw [if_pos hlt, get_drop s pos hlt, List.any_cons]
      by_cases hb : (s.get! pos).toNat < 128
      · rw [decode_low s pos hb]
        by_cases ho : oddR (s.get! pos).toNat = true
        · rw [if_pos ho]
          have h1 : (decide ((s.get! pos).toNat < 33) || decide (126 < (s.get! pos).toNat)) = true := ho
          rw [h1]; simp
        · rw [if_neg ho]
          have h1 : (decide ((s.get! pos).toNat < 33) || decide (126 < (s.get! pos).toNat)) = false := by rw [Bool.not_eq_true] at ho; exact ho
          rw [h1, Bool.false_or]
          exact odd_from s f (pos + 1) (by omega) (by omega)
      · have h1 := decode_high s pos hb
        have h2 : oddR (Utf8.decode s pos).1 = true := by unfold oddR; simp; omega
        rw [if_pos h2]
        have h3 : (decide ((s.get! pos).toNat < 33) || decide (126 < (s.get! pos).toNat)) = true := by simp; omega
        rw [h3]; simp
    · rw [if_neg hlt, List.drop_of_length_le (by rw [Array.length_toList]; show s.size ≤ pos; omega)]
      rfl
theorem odd_eq (s : ByteArray) : decide (0 ≤ Lib.idxFunc oddR true s) = oddB s := by
  unfold Lib.idxFunc oddB
  have := odd_from s s.size 0 (by omega) (by omega)
  rw [List.drop_zero] at this
  exact this
end Go.Proofs.YtbchkjfnakabkaaGreatDoor.PC
