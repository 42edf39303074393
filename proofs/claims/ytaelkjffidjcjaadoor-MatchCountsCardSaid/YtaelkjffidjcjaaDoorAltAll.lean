/- alternative, piece and atom together: by induction on what is left. -/
import Derived.Test.YtaelkjffidjcjaaDoorAlt
set_option linter.unusedSimpArgs false
set_option linter.unusedVariables false
namespace Go.Proofs.YtaelkjffidjcjaaDoor
open Go.RowKit PX

theorem atomB_nil (altf : List UInt8 → Option (Rx × List UInt8)) : atomB altf [] = none := by rfl
theorem piece_ok : ∀ (f' : Nat) (w : World) (rb : Nat) (s : List UInt8), ReadAt w rb s → s.length ≤ 128 → 3 * s.length ≤ f' →
    Calls Tryd.prog 60 #[.pointer (some ⟨rb, 0, none⟩)] w fun e w' => ReadsRx rb w (pieceR f' s) e w' := by
  intro f'
  induction f' using Nat.strongRecOn with
  | _ f' ih =>
    intro w rb s h hl hf
    match f', ih, hf with
    | 0, _, hf =>
      obtain rfl : s = [] := List.eq_nil_of_length_eq_zero (by omega)
      have hp := piece_any w rb [] h none (fun x r h => by cases h) (fun w1 h1 => by
        have ha := atom_any w1 rb [] h1 hl (fun _ => none) (fun h => by cases h)
        rw [atomB_nil] at ha
        exact ha)
      exact hp
    | 1, _, hf =>
      obtain rfl : s = [] := List.eq_nil_of_length_eq_zero (by omega)
      have hp := piece_any w rb [] h none (fun x r h => by cases h) (fun w1 h1 => by
        have ha := atom_any w1 rb [] h1 hl (fun _ => none) (fun h => by cases h)
        rw [atomB_nil] at ha
        exact ha)
      exact hp
    | f2 + 2, ih, hf =>
      have hA : atomR (f2 + 1) s = atomB (altR f2 [] []) s := by
        simp only [atomR, atomB]
        rfl
      have hP : pieceR (f2 + 2) s = pieceB (atomB (altR f2 [] []) s) := by
        rw [← hA]
        simp only [pieceR]
        cases atomR (f2 + 1) s with
        | none => rfl
        | some p => rfl
      rw [hP]
      refine piece_any w rb s h _ (fun x r hx => ?_) (fun w1 h1 => ?_)
      · rw [← hA] at hx
        have := (read_le (f2 + 1)).2.2 _ _ _ hx
        omega
      · refine atom_any w1 rb s h1 hl (altR f2 [] []) (fun h40 w2 h2 => ?_)
        have ht := starts_tail h40
        exact alt_any f2 (fun f'' hlt => ih f'' (by omega)) w2 rb s.tail h2 (by omega) (by omega)
/-- alternative, with enough to go by. -/
theorem alt_all (F : Nat) (w : World) (rb : Nat) (s : List UInt8) (h : ReadAt w rb s) (hl : s.length ≤ 128) (hF : 3 * s.length + 1 ≤ F) :
    Calls Tryd.prog 48 #[.pointer (some ⟨rb, 0, none⟩)] w fun e w' => ReadsRx rb w (altR F [] [] s) e w' :=
  alt_any F (fun f' _ => piece_ok f') w rb s h hl hF
end Go.Proofs.YtaelkjffidjcjaaDoor
