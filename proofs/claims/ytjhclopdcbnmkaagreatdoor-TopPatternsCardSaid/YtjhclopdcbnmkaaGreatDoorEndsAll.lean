/- The document's Ends, of every node. -/
import Derived.Test.YtjhclopdcbnmkaaGreatDoorEndsR
set_option linter.unusedSimpArgs false
set_option linter.unusedVariables false
namespace Go.Proofs.YtjhclopdcbnmkaaGreatDoor
open Go.RowKit PX

theorem kind_of {k mn mx s0 s1 s2 s3 : Int} {l : List Rx} (h : (Rx.node k mn mx s0 s1 s2 s3 l).formB = true) : k = 0 ∨ k = 1 ∨ k = 2 ∨ k = 3 := by
  rw [formB_iff] at h
  obtain ⟨h, -⟩ := h
  unfold Shape at h
  omega
section
variable {S : ByteArray} {p : Nat} {nds : List Nd} {X : Nat → Rx} {nb nc kb kc : Nat} {kk : List Nat}
theorem ends_all (hS : S.size ≤ 256) : ∀ n, n < nds.length → EndsOK S p nds X nb nc kb kc kk n := by
  intro n
  induction n using Nat.strongRecOn with
  | _ n ih =>
    intro hn F w a hT ha
    obtain ⟨nd, hnd⟩ : ∃ nd, nds[n]? = some nd := ⟨_, List.getElem?_eq_getElem hn⟩
    obtain ⟨q, hq⟩ : ∃ q, kk[n]? = some q := ⟨_, List.getElem?_eq_getElem (by rw [hT.len]; exact hn)⟩
    obtain ⟨hX, hkl⟩ := hT.lang n nd hnd
    have hg := (hT.good n nd hnd).1
    rw [hX] at hg
    have hEN : ∀ c ∈ nd.kids, EndsOK S p nds X nb nc kb kc kk c := fun c hc => ih c (hkl c hc) (by have := hkl c hc; omega)
    have hTH : ∀ c ∈ nd.kids, ThroughOK S p nds X nb nc kb kc kk c := fun c hc => through_any hS (hEN c hc)
    obtain ⟨cs, h1, h2, h3⟩ := hT.row n q hq
    rcases h3 a ha with hc | ⟨g, bs, hc, ho, he, hgk, hgF⟩
    · have hc' : w.cell? ⟨q, a, none⟩ = some (.slice none 0 0) := by rw [cell_of_block h1]; exact hc
      rcases kind_of hg with hk | hk | hk | hk
      · exact ends_set hS hT ha hq hnd hc' hk
      · exact ends_seq hS hT ha hq hnd hc' hk hTH hEN
      · exact ends_alt hS hT ha hq hnd hc' hk hTH hEN
      · exact ends_rep hS hT ha hq hnd hc' hk hTH hEN
    · have hc' : w.cell? ⟨q, a, none⟩ = some (.slice (some ⟨g, 0, none⟩) (S.size + 1) (S.size + 1)) := by rw [cell_of_block h1]; exact hc
      refine (ends_known (bs := bs) hS hT ha hq hc').mono ?_
      rintro e w' ⟨rfl, rfl⟩
      exact ⟨g, bs, rfl, ho, he, hT, Only.refl _ _, hgk, hgF⟩
end
end Go.Proofs.YtjhclopdcbnmkaaGreatDoor
