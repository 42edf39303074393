/- The walk of the document's Text at a set; words. (Printed by wip/gen_k4.py.) -/
import Derived.Test.YtjhclopdcbnmkaaGreatDoorK3
import Derived.Test.YtjhclopdcbnmkaaGreatDoorS6
import Derived.Deep.RegionHeld3
set_option linter.unusedSimpArgs false
set_option linter.unusedVariables false
namespace Go.Proofs.YtjhclopdcbnmkaaGreatDoor
open Go.RowKit PX

def TextOf (X : RxA) : Prop := ∀ (w : World) (B : Nat), B ≤ w.heap.size → X.In w B → X.bare.formB = true → X.bare.big ≤ 256 →
    Calls Tryz.prog 27 #[X.val] w fun e w' => e = .returned (.string ⟨X.bare.text.toArray⟩) ∧ Later w w'
theorem acc_step {k : Int} {l : List RxA} {j : Nat} (h : j < l.length) (h0 : 0 < j) : accT k (bareAll (l.take (j + 1))) = accT k (bareAll (l.take j)) ++ (barT k ++ elemT k l[j].bare) := by
  rw [List.take_succ_eq_append_getElem h, bareAll_eq, bareAll_eq, List.map_append, List.map_cons, List.map_nil]
  apply accT_snoc
  intro e
  rw [List.map_eq_nil_iff, List.take_eq_nil_iff] at e
  rcases e with e | e
  · omega
  · rw [e] at h; simp at h
theorem acc_first {k : Int} {l : List RxA} (h : 0 < l.length) : accT k (bareAll (l.take 1)) = elemT k l[0].bare := by
  have h1 := List.take_succ_eq_append_getElem (l := l) (i := 0) h
  rw [List.take_zero, List.nil_append] at h1
  rw [show (1 : Nat) = 0 + 1 from rfl, h1, bareAll_eq]
  exact accT_one k _
theorem bareAll_take (l : List RxA) (j : Nat) : bareAll (l.take j) = (bareAll l).take j := by rw [bareAll_eq, bareAll_eq, List.map_take]
theorem ba_len_le {A : ByteArray} {t : List UInt8} (h : A.data.toList = t) {n : Nat} (hn : t.length ≤ n) : A.size ≤ n := by rw [ba_size, h]; exact hn
set_option maxRecDepth 100000 in
set_option maxHeartbeats 1000000 in
theorem rtext_0 (w : World) (mn mx s0 s1 s2 s3 : Int) (a : Option Addr) (cap n : Nat) (h0 : U64 s0 ∧ U64 s1 ∧ U64 s2 ∧ U64 s3) :
    Calls Tryz.prog 27 #[.agg #[.int .i64 0, .int .i64 mn, .int .i64 mx, .int .u64 s0, .int .u64 s1, .int .u64 s2, .int .u64 s3, .slice a n cap]] w fun e w' => e = .returned (.string ⟨(Q4.text ⟨s0, s1, s2, s3⟩).toArray⟩) ∧ Later w w' := by
  have HR := Lib.hid (fun w1 => rset_any w1 ⟨s0, s1, s2, s3⟩ h0)
  simp only at HR
  clear h0
  go_enter Tryz.func27, Tryz.ntmps27
  go_wp2_with (first
    | (go_at_call 47; (with_reducible refine (HR.out _).mono ?_); rintro e w1 ⟨rfl, hl1⟩)
    | fail)
  go_ret
  exact ⟨rfl, (by repeat (first | assumption | exact Later.refl _ | refine Later.alloc ?_ _ | refine Later.drew ?_ | refine Later.drewN ?_ _ | refine Later.trans ?_ (by assumption)))⟩
end Go.Proofs.YtjhclopdcbnmkaaGreatDoor
