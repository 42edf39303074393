/- Clones: a journal over a clone of its device and disk; the audit's clone. -/
import Derived.Test.YtfpbocjmlhcgiaaGreatDoorCL2
import Derived.Test.YtfpbocjmlhcgiaaGreatDoorJg18
set_option linter.unusedSimpArgs false
set_option linter.unusedVariables false
namespace Go.Proofs.YtfpbocjmlhcgiaaGreatDoor
open Go.RowKit PJ Go.Maps Go.Shelf

theorem JAt.cloned {w w1 w2 W : World} {a : JA} {F : Nat → Prop} {J : Jn} {dt : Bool} {safe : List UInt8} {U : Int → Option (List UInt8)} {cv : Value} {misses : Int} {xs : List Kept}
    (hc : JC w a F J.V J.S dt J.head J.first J.next J.at' J.C) (hd : DevS w a.p a.g a.mb a.b a.n a.cached a.R F J.V J.S dt safe U cv misses xs) (hok : J.OK) (hdt : J.first = J.next → dt = false) (h4 : a.n = J.n) (h5 : a.area = J.area)
    (hl1 : LJ w w1) (hl2 : LJ w1 w2) (hl3 : LJ w2 W) {p' g' mb' cm' : Nat} {v' : Value} (hdk : DiskAt w1 p' g' mb' a.n safe U) (hge : w.heap.size ≤ p' ∧ w.heap.size ≤ g' ∧ w.heap.size ≤ mb') (hlt : p' < w1.heap.size ∧ g' < w1.heap.size ∧ mb' < w1.heap.size)
    (hb : w2.heap[w1.heap.size]? = some (.cells (devCells p' 0 a.n a.cached v' misses) 105 (0, 0))) (hv : w2.ownsRow (w1.heap.size + 1) 126 3 v' xs.length (ksC xs))
    (hj : W.heap[w2.heap.size]? = some (.cells (jCells w1.heap.size a.area J.head J.first J.next J.at' cm') 108 (0, 0))) (hm : CellsAt W cm' (a.n - a.area) J.C) (hcm : w2.heap.size < cm' ∧ cm' < W.heap.size) :
    JAt W p' w1.heap.size w2.heap.size (since w W) J := by
  have s1 := Below.size hl1
  have s2 := Below.size hl2
  have s3 := Below.size hl3
  have lb := lt_blk hb
  have lj := lt_blk hj
  have hvl := hv.lt
  obtain ⟨a', ha'⟩ : ∃ a' : JA, a' = ⟨p', g', mb', w1.heap.size, w2.heap.size, cm', a.n, a.cached, a.area⟩ := ⟨_, rfl⟩
  have hR : ∀ q, a'.R q → since w W q := by
    rw [ha']
    rintro q (rfl | rfl | rfl | rfl | rfl | rfl) <;> exact ⟨by (try simp only); omega, by (try simp only); omega⟩
  refine ⟨a', by rw [ha'], by rw [ha'], by rw [ha'], by rw [ha']; exact h4, by rw [ha']; exact h5, dt, ⟨⟨safe, U, v', misses, xs, ?_⟩, ?_, ?_, ?_⟩, hok, hdt⟩
  · subst ha'
    refine ⟨(hdk.later hl2).later hl3, hl3.block hb, ?_, hd.len, hd.ca, hd.keys, hd.views, hd.clean, hd.kept, hR, fun q hq => hq.2, .inl rfl, .inr (.inl rfl), .inr (.inr (.inl rfl)), .inr (.inr (.inr (.inl rfl))), by simp only; omega, by simp only; omega, by simp only; omega⟩
    refine cache_own (B := w1.heap.size + 1) (b := 0) (own_below hv hl3) (fun q hq e => ?_) (fun q hq => ?_)
    · have := hvl q hq
      rcases e with e | e | e | e | e | e <;> simp only at e <;> omega
    · have := hvl q hq
      exact ⟨by omega, by omega⟩
  · subst ha'; exact hj
  · subst ha'; exact hm
  · subst ha'
    exact ⟨by simp only; omega, by simp only; omega, by simp only; omega, by simp only; omega, by simp only; omega, by simp only; omega, by simp only; omega, by simp only; omega, by simp only; omega⟩
end Go.Proofs.YtfpbocjmlhcgiaaGreatDoor
