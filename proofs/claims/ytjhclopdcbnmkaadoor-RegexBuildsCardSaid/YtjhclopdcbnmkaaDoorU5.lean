/- Plain laws of RegexBuilds: what its eleven patterns say. -/
import Derived.Test.YtjhclopdcbnmkaaDoorU1
set_option linter.unusedSimpArgs false
set_option linter.unusedVariables false
namespace Go.Proofs.YtjhclopdcbnmkaaDoor.PX

theorem form_row2 {x y : Rx} (hx : x.formB = true) (hy : y.formB = true) : (Rx.node 1 0 0 0 0 0 0 [x, y]).formB = true := by
  rw [formB_iff]; exact ⟨.inr (.inl ⟨rfl, ⟨rfl, rfl, rfl, rfl⟩, by simp, rfl, rfl⟩), by simp [formAll, hx, hy]⟩
theorem form_alt {l : List Rx} (h : formAll l = true) (h2 : 2 ≤ l.length) : (Rx.node 2 0 0 0 0 0 0 l).formB = true := by
  rw [formB_iff]; exact ⟨.inr (.inr (.inl ⟨rfl, ⟨rfl, rfl, rfl, rfl⟩, h2, rfl, rfl⟩)), h⟩
theorem form_rep {x : Rx} (hx : x.formB = true) {mn mx : Int} (h : 0 ≤ mn ∧ mn ≤ 15 ∧ mx ≤ 15 ∧ (mx = -1 ∨ mn ≤ mx)) : (Rx.rep mn mx x).formB = true := by
  unfold Rx.rep
  rw [formB_iff]; exact ⟨.inr (.inr (.inr ⟨rfl, ⟨rfl, rfl, rfl, rfl⟩, rfl, h⟩)), by simp [formAll, hx]⟩
theorem sign_star (x : Rx) (r : List UInt8) : sign x ([42] ++ r) = some (.rep 0 (-1) x, r) := rfl
theorem sign_plus (x : Rx) (r : List UInt8) : sign x ([43] ++ r) = some (.rep 1 (-1) x, r) := rfl
theorem sign_may (x : Rx) (r : List UInt8) : sign x ([63] ++ r) = some (.rep 0 1 x, r) := rfl
theorem sign_just {n : Int} (h1 : 0 ≤ n) (h2 : n ≤ 15) (x : Rx) (r : List UInt8) : sign x (123 :: (numT n.toNat ++ [125]) ++ r) = some (.rep n n x, r) := by
  simp only [List.cons_append, List.append_assoc, List.nil_append]
  rw [sign_open, counts_one h1 h2]
theorem sign_from {n : Int} (h1 : 0 ≤ n) (h2 : n ≤ 15) (x : Rx) (r : List UInt8) : sign x (123 :: (numT n.toNat ++ [44, 125]) ++ r) = some (.rep n (-1) x, r) := by
  simp only [List.cons_append, List.append_assoc, List.nil_append]
  rw [sign_open, counts_open h1 h2]
theorem sign_to {n : Int} (h1 : 0 ≤ n) (h2 : n ≤ 15) (x : Rx) (r : List UInt8) : sign x (123 :: (numT n.toNat ++ [44, 49, 53, 125]) ++ r) = some (.rep n 15 x, r) := by
  have h := counts_text (mx := 15) h1 h2 (by omega) h2 r
  simp only [List.cons_append, List.append_assoc, List.nil_append]
  rw [sign_open]
  rw [show numT (15 : Int).toNat = [49, 53] from rfl] at h
  simp only [List.cons_append, List.nil_append] at h
  rw [h]
theorem formAll_rows {a x y : Rx} (ha : a.formB = true) (hx : x.formB = true) (hy : y.formB = true) : formAll (rowsOf a ++ [x] ++ [y]) = true := by
  rw [formAll_iff]
  intro z hz
  simp only [List.append_assoc, List.mem_append, List.mem_cons, List.not_mem_nil, or_false] at hz
  rcases hz with h | rfl | rfl
  · unfold rowsOf at h
    split at h
    · obtain ⟨k, mn, mx, s0, s1, s2, s3, l⟩ := a
      have hl : formAll l = true := by rw [formB_iff] at ha; exact ha.2
      exact formAll_get hl h
    · rw [List.mem_singleton.1 h]; exact ha
  · exact hx
  · exact hy
theorem rows_two {a x y : Rx} : 2 ≤ (rowsOf a ++ [x] ++ [y]).length := by simp only [List.length_append, List.length_cons, List.length_nil]; omega
end Go.Proofs.YtjhclopdcbnmkaaDoor.PX
