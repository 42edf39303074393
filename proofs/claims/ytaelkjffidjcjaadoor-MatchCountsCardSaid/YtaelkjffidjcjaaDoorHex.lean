/- The walk of ParseUint at two digits of base sixteen. -/
import Derived.Test.YtaelkjffidjcjaaDoorRd
import Derived.Test.YtaelkjffidjcjaaDoorRead
import Derived.Lib.ConvBytes
set_option linter.unusedSimpArgs false
set_option linter.unusedVariables false
namespace Go.Proofs.YtaelkjffidjcjaaDoor
open Go.RowKit PX

theorem hex_cases {c : UInt8} {v : Nat} (h : hexv c = some v) : (48 ≤ c.toNat ∧ c.toNat ≤ 57 ∧ c.toNat = v + 48) ∨ (97 ≤ c.toNat ∧ c.toNat ≤ 102 ∧ c.toNat = v + 87) ∨ (65 ≤ c.toNat ∧ c.toNat ≤ 70 ∧ c.toNat = v + 55) := by
  unfold hexv at h
  split at h
  · cases h; omega
  · split at h
    · cases h; omega
    · split at h
      · cases h; omega
      · cases h
/-- A byte's small letter. -/
theorem lower_any (z : Int) (w : World) : Calls Tryd.prog 122 #[.int .u8 z] w fun e w' => e = .returned (.int .u8 (Go.bits .or .u8 z 32)) ∧ w' = w := by
  go_enter Tryd.func122, Tryd.ntmps122
  go_wp2_with fail
  go_ret
  exact ⟨rfl, rfl⟩
theorem or32 (n : Nat) (hn : n < 256) : Go.bits .or .u8 (n : Int) 32 = (n ||| 32 : Nat) := by
  have key : ∀ n : Nat, n < 256 → Go.bits .or .u8 (n : Int) 32 = (n ||| 32 : Nat) := by decide +kernel
  exact key n hn
theorem or32_low (n : Nat) (h1 : 97 ≤ n) (h2 : n ≤ 102) : n ||| 32 = n := by
  have key : ∀ n, n < 103 → 97 ≤ n → n ||| 32 = n := by decide
  exact key n (by omega) h1
theorem or32_up (n : Nat) (h1 : 65 ≤ n) (h2 : n ≤ 70) : n ||| 32 = n + 32 := by
  have key : ∀ n, n < 71 → 65 ≤ n → n ||| 32 = n + 32 := by decide
  exact key n (by omega) h1

set_option maxRecDepth 100000 in
set_option maxHeartbeats 2000000 in
theorem hexU_any (a b : UInt8) (x y : Nat) (ha : hexv a = some x) (hb : hexv b = some y) (w : World) :
    Calls Tryd.prog 111 #[.string ⟨#[a, b]⟩, .int .i64 16, .int .i64 8] w fun e w' => e = .returned (.tuple #[.int .u64 ((16 * x + y : Nat) : Int), .nilIface]) ∧ Below w.heap.size w w' := by
  obtain ⟨S, HS⟩ : ∃ S : ByteArray, Hid ((⟨#[a, b]⟩ : ByteArray) = S) := ⟨_, Lib.hid rfl⟩
  have hx := hexv_lt ha
  have hy := hexv_lt hb
  have hne : ¬ S.toList = [] := by rw [← HS.out, Lib.toList_data]; simp
  have hem : S.toList.isEmpty = false := by rw [← HS.out, Lib.toList_data]; rfl
  have hsz : S.size = 2 := by rw [← HS.out]; rfl
  have hconv : ∀ W : World, (convert 9 43 (.string S)).run Tryd.prog W = .ok (.slice (some ⟨W.heap.size, 0, none⟩) S.size (grownCap W S.size 0 5)) (Lib.bytesWorld W 5 S) :=
    fun W => Lib.run_convert_string_bytes W _ _ _ S Tryd.underlying9 Tryd.underlying43 Tryd.underlying5
  have hby : ∀ k, k < 2 → ∃ (c : UInt8) (v : Nat), hexv c = some v ∧ (Lib.bytesWorld w 5 S).cell? ⟨w.heap.size, k, none⟩ = some (.int .u8 c.toNat) ∧ (if k = 0 then x else 16 * x + y) = 16 * (if k = 0 then 0 else x) + v := by
    intro k hk
    have h := fun j hj => Lib.bytesWorld_cell w 5 S j hj
    have hk' : k = 0 ∨ k = 1 := by omega
    rcases hk' with rfl | rfl
    · refine ⟨a, x, ha, ?_, by simp⟩
      rw [h 0 (by omega), ← HS.out]; rfl
    · refine ⟨b, y, hb, ?_, by simp⟩
      rw [h 1 (by omega), ← HS.out]; rfl
  have HBY := Lib.hid hby; clear hby
  have hbl : Below w.heap.size w (Lib.bytesWorld w 5 S) :=
    ⟨rfl, rfl, rfl, by rw [Lib.bytesWorld_size]; omega, fun k hk => Lib.bytesWorld_at_old _ _ _ _ hk⟩
  have HBL := Lib.hid hbl; clear hbl
  rw [HS.out]
  go_enter Tryd.func111, Tryd.ntmps111
  go_wp2_with fail
  generalize hW : Lib.bytesWorld w 5 S = W at HBY HBL ⊢
  obtain ⟨K, hKe⟩ : ∃ K : Int, K = 1152921504606846976 := ⟨_, rfl⟩
  have hK : 1000 ≤ K := by omega
  rw [← hKe]
  clear hKe
  go_loopw [12, 13, 101] (fun u n i wr => ∃ k : Nat, k ≤ 2 ∧ i = .int .i64 k ∧ u = .bool false ∧ n = .int .u64 ((if k = 0 then 0 else if k = 1 then x else 16 * x + y : Nat) : Int) ∧ wr = W) (fun _ _ i _ => 2 - (intOf i).toNat)
  case atStart => exact ⟨0, by omega, rfl, rfl, rfl, rfl⟩
  case round =>
    obtain ⟨k, hk, rfl, rfl, rfl, rfl⟩ := hrel
    by_cases hk2 : k = 2
    · subst hk2
      go_wp2_with fail
      go_ret2
      exact ⟨rfl, HBL.out⟩
    · obtain ⟨c, v, hv, hcell, hnext⟩ := HBY.out k (by omega)
      have hv16 := hexv_lt hv
      obtain ⟨z, hz⟩ : ∃ z : Nat, z = c.toNat := ⟨_, rfl⟩
      have hcs := hex_cases hv
      rw [← hz] at hcell hcs
      clear hz hv
      obtain ⟨m, hm⟩ : ∃ m : Nat, m = (if k = 0 then 0 else if k = 1 then x else 16 * x + y) := ⟨_, rfl⟩
      have hm15 : m < 16 := by rw [hm]; split <;> (try split) <;> omega
      have hnx : (if k + 1 = 0 then 0 else if k + 1 = 1 then x else 16 * x + y) = m * 16 + v := by
        rw [hm]
        have : k = 0 ∨ k = 1 := by omega
        rcases this with rfl | rfl
        · simp at hnext ⊢; omega
        · simp at hnext ⊢; omega
      have HNX := Lib.hid hnx; clear hnx hnext
      rw [← hm]
      clear hm
      have hkk : (k : Int) < 2 := by omega
      have hend : ∀ d : Int, d = (m * 16 + v : Nat) → (∃ k_1 : Nat, k_1 ≤ 2 ∧ Value.int IntKind.i64 ((k : Int) + 1) = Value.int IntKind.i64 k_1 ∧ Value.bool false = Value.bool false ∧
          Value.int IntKind.u64 d = Value.int IntKind.u64 ((if k_1 = 0 then 0 else if k_1 = 1 then x else 16 * x + y : Nat) : Int) ∧ True) ∧
          2 - (intOf (Value.int IntKind.i64 ((k : Int) + 1))).toNat < 2 - (intOf (Value.int IntKind.i64 (k : Int))).toNat := by
        rintro d rfl
        refine ⟨⟨k + 1, by omega, by simp, rfl, ?_, trivial⟩, by simp only [intOf]; omega⟩
        rw [HNX.out]
      have HEND := Lib.hid hend; clear hend
      have e5 : ¬ K ≤ (m : Int) := by omega
      rcases hcs with ⟨h1, h2, h3⟩ | hcs
      · have e0 : ((z : Int) == 95) = false := by rw [beq_eq_false_iff_ne]; omega
        have e1 : (48 : Int) ≤ z := by omega
        have e2 : (z : Int) ≤ 57 := by omega
        go_wp2_with fail
        exact HEND.out _ (by omega)
      · obtain ⟨l, hl, hl1⟩ : ∃ l : Nat, z ||| 32 = l ∧ l = v + 87 := by
          rcases hcs with ⟨h1, h2, h3⟩ | ⟨h1, h2, h3⟩
          · exact ⟨_, or32_low z h1 h2, by omega⟩
          · exact ⟨_, or32_up z h1 h2, by omega⟩
        have hlow : ∀ w, Calls Tryd.prog 122 #[.int .u8 z] w fun e w' => e = .returned (.int .u8 l) ∧ w' = w := by
          intro w
          have h := lower_any z w
          rw [or32 z (by omega), hl] at h
          exact h
        have HLOW := Lib.hid hlow; clear hlow
        have e0 : ((z : Int) == 95) = false := by rw [beq_eq_false_iff_ne]; omega
        have e1 : (48 : Int) ≤ z := by omega
        have e2 : ¬ (z : Int) ≤ 57 := by omega
        have e3 : (97 : Int) ≤ l := by omega
        have e4 : (l : Int) ≤ 122 := by omega
        clear hl
        go_wp2_with (go_at_call 122; refine (HLOW.out _).mono ?_; rintro e w1 ⟨rfl, rfl⟩)
        obtain ⟨⟨q, q1, q2, -, q3, -⟩, q5⟩ := HEND.out ((m : Int) * 16 + ((v : Int) + 87 - 97 + 10)) (by omega)
        exact ⟨⟨q, q1, q2, rfl, q3, trivial⟩, q5⟩

set_option maxRecDepth 100000 in
set_option maxHeartbeats 1000000 in
theorem hex_any (a b : UInt8) (x y : Nat) (ha : hexv a = some x) (hb : hexv b = some y) (w : World) :
    Calls Tryd.prog 94 #[.string ⟨#[a, b]⟩, .int .i64 16, .int .i64 8] w fun e w' => e = .returned (.tuple #[.int .u64 ((16 * x + y : Nat) : Int), .nilIface]) ∧ Below w.heap.size w w' := by
  have HX := Lib.hid (hexU_any a b x y ha hb w)
  obtain ⟨S, HS⟩ : ∃ S : ByteArray, Hid ((⟨#[a, b]⟩ : ByteArray) = S) := ⟨_, Lib.hid rfl⟩
  obtain ⟨n, hn⟩ : ∃ n : Int, ((16 * x + y : Nat) : Int) = n := ⟨_, rfl⟩
  rw [HS.out, hn] at HX
  rw [HS.out, hn]
  go_enter Tryd.func94, Tryd.ntmps94
  go_wp2_with (go_at_call 111; refine HX.out.mono ?_; rintro e w1 ⟨rfl, hb1⟩)
  go_ret2
  exact ⟨rfl, hb1⟩
end Go.Proofs.YtaelkjffidjcjaaDoor
