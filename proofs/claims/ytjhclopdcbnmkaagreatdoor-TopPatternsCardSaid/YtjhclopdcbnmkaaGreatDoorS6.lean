/- The walk of the printer's pattern. (Printed by wip/gen_s6.py.) -/
import Derived.Test.YtjhclopdcbnmkaaGreatDoorS5
import Derived.Deep.RegionHeld3
set_option linter.unusedSimpArgs false
set_option linter.unusedVariables false
namespace Go.Proofs.YtjhclopdcbnmkaaGreatDoor
open Go.RowKit PX

def PatOf (X : RxA) : Prop := ∀ (w : World) (B : Nat), B ≤ w.heap.size → X.In w B → X.bare.formB = true → X.bare.big ≤ 256 → PowAt w →
    Calls Tryz.prog 26 #[X.val] w fun e w' => e = .returned (.string ⟨X.bare.text.toArray⟩) ∧ Later w w'
theorem own_later {w w' : World} {base : Nat} {e : TypeId} {size : Nat} {v : Value} {n : Nat} {xs : List Value} (h : w.ownsRow base e size v n xs) (hl : Later w w') : w'.ownsRow base e size v n xs := by
  refine ⟨h.1, ?_⟩
  rcases h.2 with h0 | ⟨g, cap, cur, hv, hg, hh, hr⟩
  · exact .inl h0
  · exact .inr ⟨g, cap, cur, hv, hg, hl.block hh, hr⟩
theorem strRow_snoc (k : Int) (l : List RxA) (j : Nat) (h : j < l.length) : strRow ((bareAll (l.take (j + 1))).map (elemT k)) = strRow ((bareAll (l.take j)).map (elemT k)) ++ [.string ⟨(elemT k l[j].bare).toArray⟩] := by
  rw [List.take_succ_eq_append_getElem h, bareAll_eq, bareAll_eq]
  unfold strRow
  rw [List.map_append, List.map_append, List.map_append]
  rfl
theorem bareAll_len (l : List RxA) : (bareAll l).length = l.length := by rw [bareAll_eq, List.length_map]
theorem bigAll_mem {x : RxA} : ∀ {l : List RxA}, x ∈ l → x.bare.big ≤ bigAll (bareAll l)
  | y :: l, h => by
    simp only [bareAll, bigAll]
    have := bigAll_nonneg (bareAll l)
    have := y.bare.big_pos
    rcases List.mem_cons.1 h with rfl | h
    · omega
    · have := bigAll_mem h
      omega
theorem bigAll_len : ∀ l : List RxA, (l.length : Int) ≤ bigAll (bareAll l)
  | [] => by simp [bareAll, bigAll]
  | x :: l => by
    have := bigAll_len l
    have := x.bare.big_pos
    simp only [bareAll, bigAll, List.length_cons]
    omega
theorem par_str (TX : ByteArray) (s : List UInt8) (h : (⟨s.toArray⟩ : ByteArray) = TX) : (⟨#[40]⟩ : ByteArray) ++ TX ++ ⟨#[41]⟩ = ⟨(par s).toArray⟩ := by
  rw [← h]
  apply ByteArray.ext
  simp [par]
set_option maxRecDepth 100000 in
set_option maxHeartbeats 1000000 in
theorem pattern_0 (w : World) (mn mx s0 s1 s2 s3 : Int) (a : Option Addr) (cap n : Nat) (h0 : U64 s0 ∧ U64 s1 ∧ U64 s2 ∧ U64 s3) :
    Calls Tryz.prog 26 #[.agg #[.int .i64 0, .int .i64 mn, .int .i64 mx, .int .u64 s0, .int .u64 s1, .int .u64 s2, .int .u64 s3, .slice a n cap]] w fun e w' => e = .returned (.string ⟨(Q4.text ⟨s0, s1, s2, s3⟩).toArray⟩) ∧ Later w w' := by
  have HR := Lib.hid (fun w1 => rows_any w1 ⟨s0, s1, s2, s3⟩ h0)
  simp only at HR
  clear h0
  go_enter Tryz.func26, Tryz.ntmps26
  go_wp2_with (first
    | (go_at_call 44; (with_reducible refine (HR.out _).mono ?_); rintro e w1 ⟨rfl, hl1⟩)
    | fail)
  go_ret
  exact ⟨rfl, (by repeat (first | assumption | exact Later.refl _ | refine Later.alloc ?_ _ | refine Later.drew ?_ | refine Later.drewN ?_ _ | refine Later.trans ?_ (by assumption)))⟩
end Go.Proofs.YtjhclopdcbnmkaaGreatDoor
