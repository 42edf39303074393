/- The walk of AuditChains. -/
import Derived.Test.YtfpbocjmlhcgiaaGreatDoorAU17
set_option linter.unusedSimpArgs false
set_option linter.unusedVariables false
namespace Go.Proofs.YtfpbocjmlhcgiaaGreatDoor
open Go.RowKit PJ Go.Maps

theorem TextsAt.later {w w' : World} {a : Option Addr} {n : Nat} {ss : List ByteArray} (h : TextsAt w a n ss) (hl : LJ w w') : TextsAt w' a n ss := by
  obtain ⟨h1, h2, h3, h4⟩ := h
  refine ⟨h1, h2, h3, h4.imp id ?_⟩
  rintro ⟨b, o, e, hb, hc⟩
  have hs := Below.size hl
  exact ⟨b, o, e, by omega, fun i s hi => hl.cell (hc i s hi)⟩
theorem own_kept {w w' : World} {B : Nat} {T : TypeId} {s n : Nat} {v : Value} {xs : List Value} (h : w.ownsRow B T s v n xs) (hk : ∀ q, v.ownBlock = some q → w'.heap[q]? = w.heap[q]?) : w'.ownsRow B T s v n xs := by
  rcases h with ⟨h0, h | ⟨g, cap, cur, h1, h2, h3, h4⟩⟩
  · exact ⟨h0, .inl h⟩
  · exact ⟨h0, .inr ⟨g, cap, cur, h1, h2, (hk g (by rw [h1]; rfl)).trans h3, h4⟩⟩
theorem twelve (x : Int) : ∃ k : Nat, k < 12 ∧ x % 12 = (k : Int) := ⟨(x % 12).toNat, by omega, by omega⟩
theorem recsC_at {xs : List Rec} {x : Rec} {t : Nat} (ht : t < 5) : (recsC (xs ++ [x]))[xs.length * 5 + t]? = (recC x)[t]? := by
  rw [recsC_snoc, List.getElem?_append_right (by rw [recsC_len]; omega), recsC_len]
  congr 1
  omega
theorem AK.base {w w1 W : World} {K : Nat → Prop} {p b jb : Nat} {J : Jn} {A : Nat} {xs : List Rec} {B : Nat} (h : AK w1 W K p b jb J A xs B) (hl : LJ w w1) : AK w W K p b jb J A xs B := by
  obtain ⟨V, F, h1, h2, h3, h4, h5, h6⟩ := h.ex
  have hs := Below.size hl
  have hA := h.wA
  exact ⟨⟨V, F, h1, h2, h3, h4, fun q hq => Nat.le_trans hs (h5 q hq), h6⟩, by omega, hl.trans h.lj, h.auc, h.whole, h.hB⟩
/-- What the loop of AuditChains carries. -/
structure ChL (w1 wr : World) (p b jb A cells area g cap : Nat) (xs : List Rec) (J : Jn) : Prop where
  row : wr.ownsRow w1.heap.size 9 1 (.slice (some ⟨g, 0, none⟩) xs.length cap) xs.length (strs (xs.map Rec.bytes))
  ak : AK w1 wr (fun q => q = g) p b jb J A xs (3 + xs.length)
  dim : J.n = area + cells ∧ J.area = area
  le : xs.length ≤ cells
  h32 : ∀ x ∈ xs, x.h.size = 32
end Go.Proofs.YtfpbocjmlhcgiaaGreatDoor
