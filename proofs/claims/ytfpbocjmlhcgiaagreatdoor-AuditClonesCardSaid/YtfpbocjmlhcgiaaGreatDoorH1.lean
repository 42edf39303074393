/- The hash's small functions: big, value, the turned words. -/
import Derived.Test.YtfpbocjmlhcgiaaGreatDoorJg10
import Derived.Test.YtfpbocjmlhcgiaaGreatDoorJ82
import Derived.BigQuiet
set_option linter.unusedSimpArgs false
set_option linter.unusedVariables false
namespace Go.Proofs.YtfpbocjmlhcgiaaGreatDoor
open Go.RowKit PJ Go.Maps

set_option maxRecDepth 100000 in
set_option maxHeartbeats 2000000 in
theorem hbig_any (w : World) (B : Nat) (hB : B ≤ w.heap.size) (v : Value) (l : List UInt8) (hv : RowOr w B v l) (n k : Nat) (hn : n < 18446744073709551616) (hk : k ≤ 8) (hk1 : 1 ≤ k) (hl : l.length ≤ 1000) :
    Calls Tryz.prog 134 #[v, .int .u64 n, .int .i64 k] w fun e w' => ∃ v', e = .returned v' ∧ w'.ownsRow B 5 1 v' (l ++ be n k).length (bys (l ++ be n k)) ∧ Below B w w' := by
  have HV := Lib.hid hv
  clear hv
  obtain ⟨iU, hiU, hz0, hz1, hz2⟩ := info_parts info_u8
  have hki : (k : Int) ≤ 8 := by omega
  have hki1 : (1 : Int) ≤ (k : Int) := by omega
  go_enter Tryz.func134, Tryz.ntmps134
  go_wp2_with fail
  go_loopw [0, 7] (fun vb vi wr => ∃ j : Nat, j ≤ k ∧ vi = .int .i64 ((k : Int) - 1 - j) ∧ RowOr wr B vb (l ++ (be n k).take j) ∧ (1 ≤ j → wr.ownsRow B 5 1 vb (l ++ (be n k).take j).length (bys (l ++ (be n k).take j))) ∧ Below B w wr) (fun _ vi _ => (intOf vi + 1).toNat)
  case atStart => exact ⟨0, by omega, by simp, by simpa using HV.out, by omega, Below.refl _ _⟩
  case round =>
    obtain ⟨j, hj, rfl, hrow, hown, hbel⟩ := hrel
    have HROW := Lib.hid hrow
    have HOWN := Lib.hid hown
    clear hrow hown
    by_cases hlt : j < k
    · obtain ⟨i, hi⟩ : ∃ i : Nat, (k : Int) - 1 - j = i := ⟨k - 1 - j, by omega⟩
      rw [hi]
      have hi7 : i ≤ 7 := by omega
      have hik : k - 1 - j = i := by omega
      obtain ⟨u, hu⟩ : ∃ u, UInt8.ofNat (n / 256 ^ (k - 1 - j)) = u := ⟨_, rfl⟩
      have hbe := be_get n k j hlt
      rw [hu] at hbe
      have hLs : l ++ (be n k).take (j + 1) = (l ++ (be n k).take j) ++ [u] := by rw [hbe, List.append_assoc]
      have HLS := Lib.hid hLs
      have hz : (n : Int) / 2 ^ (8 * i) % 256 = (u.toNat : Int) := by
        rw [← hu, hik, UInt8.toNat_ofNat']
        exact byte_div n i
      obtain ⟨z, hzz⟩ : ∃ z : Int, (u.toNat : Int) = z := ⟨_, rfl⟩
      rw [hzz] at hz
      have HZZ := Lib.hid hzz
      have hlen : (l ++ (be n k).take j).length ≤ 1008 := by rw [List.length_append, List.length_take, be_len]; omega
      have HI := Lib.hid hi
      clear hi hik hu hbe hLs hzz
      obtain ⟨L, hL⟩ : ∃ L, l ++ (be n k).take j = L := ⟨_, rfl⟩
      rw [hL] at HROW HLS hlen
      clear hL HOWN
      rcases HROW.out with hown | ⟨g, rfl, hcs⟩
      · have HO := Lib.hid hown
        clear hown
        go_wp2_with (first
          | (at_builtin; refine wpList_append_own _ rfl (.tmp 14) (.tmp 20) 99 rfl B 5 iU (.int .u8 0) 1 1 Tryz.underlying99 hiU hz0 hz1 hz2 rfl (by decide) _ _ _ rfl (HO.out.alloc _) ⟨wr.heap.size, 0, none⟩ 1 1 [.int .u8 z] rfl rfl (cells_newJ wr [.int .u8 z] 5) (by intro u hu; rw [List.mem_singleton.1 hu]; rfl) (by unfold maxLen; omega) (by omega) (by have := hbel.size; simp; omega) ?_; intro v' w1 hown1 hgrow1 _)
          | fail)
        have hown2 : w1.ownsRow B 5 1 v' (L ++ [u]).length (bys (L ++ [u])) := by
          rw [bys_snoc, HZZ.out, List.length_append]
          exact hown1
        refine ⟨⟨j + 1, by omega, ?_, ?_, fun _ => ?_, ?_⟩, ?_⟩
        · show Value.int .i64 _ = Value.int .i64 _
          congr 1
          have := HI.out
          omega
        · rw [HLS.out]; exact .inl hown2
        · rw [HLS.out]; exact hown2
        · exact Below.grown (hbel.alloc (by have := hbel.size; omega) (.cells #[.int .u8 z] 5)) hgrow1 (by have := hbel.size; simp; omega) (fun q hq => ((HO.out.alloc (.cells #[.int .u8 z] 5)).lt q hq).1)
        · simp only [intOf]; omega
      · have HC := Lib.hid (show ∀ (b : Addr), (some ⟨g, 0, none⟩ : Option Addr) = some b → ∀ (j : Nat) (u : Value), (bys L)[j]? = some u → (wr.alloc (.cells #[.int .u8 z] 5)).cell? (b.add j) = some u from by
          rintro b hb j u hu
          obtain rfl : (⟨g, 0, none⟩ : Addr) = b := Option.some.inj hb
          have h1 := hcs j u hu
          rw [addr_none, Nat.zero_add, World.cell?_alloc_past _ _ _ (World.block_lt_of_cell? _ _ h1)]
          exact h1)
        have hLb : (bys L).length = L.length * 1 := by simp [bys]
        have HLb := Lib.hid hLb
        clear hcs hLb
        go_wp2_with (first
          | (at_builtin; refine wpList_append_grows _ rfl (.tmp 14) (.tmp 20) 99 rfl 5 iU (.int .u8 0) 1 1 Tryz.underlying99 hiU hz0 hz1 hz2 rfl (by decide) (some ⟨g, 0, none⟩) L.length L.length (bys L) rfl (by simp) HLb.out HC.out ⟨wr.heap.size, 0, none⟩ 1 1 [.int .u8 z] rfl rfl (cells_newJ wr [.int .u8 z] 5) (by intro u hu; rw [List.mem_singleton.1 hu]; rfl) (by omega) (by unfold maxLen; omega) (by omega) ?_; intro v' w1 hown1 hgrow1)
          | fail)
        have hown2 : w1.ownsRow B 5 1 v' (L ++ [u]).length (bys (L ++ [u])) := by
          rw [bys_snoc, HZZ.out, List.length_append]
          exact own_base hown1 (by have := hbel.size; simp; omega)
        refine ⟨⟨j + 1, by omega, ?_, ?_, fun _ => ?_, ?_⟩, ?_⟩
        · show Value.int .i64 _ = Value.int .i64 _
          congr 1
          have := HI.out
          omega
        · rw [HLS.out]; exact .inl hown2
        · rw [HLS.out]; exact hown2
        · exact Below.grown (hbel.alloc (by have := hbel.size; omega) (.cells #[.int .u8 z] 5)) hgrow1 (by have := hbel.size; simp; omega) (fun q hq => by cases hq)
        · simp only [intOf]; omega
    · obtain rfl : j = k := by omega
      have hneg : (j : Int) - 1 - j = -1 := by omega
      rw [hneg]
      have ho := HOWN.out hk1
      rw [List.take_of_length_le (by rw [be_len]; exact Nat.le_refl _)] at ho
      have HO := Lib.hid ho
      clear ho hneg
      go_wp2_with fail
      go_ret
      exact ⟨_, rfl, HO.out, hbel⟩
set_option maxRecDepth 100000 in
set_option maxHeartbeats 1000000 in
theorem hval_any (s : ByteArray) (w : World) (hs : s.size ≤ 8) :
    Calls Tryz.prog 218 #[.string s] w fun e w' => e = .returned (.int .u64 (ofL s.data.toList)) ∧ w = w' := by
  go_enter Tryz.func218, Tryz.ntmps218
  go_wp2_with fail
  go_loop [3, 7] (fun vn vi => ∃ (n k : Nat), k ≤ s.size ∧ vi = .int .i64 k ∧ vn = .int .u64 n ∧ Hid (n = ofL (s.data.toList.take k))) (fun _ vi => s.size - (intOf vi).toNat)
  case atStart => exact ⟨0, 0, by omega, rfl, rfl, Lib.hid rfl⟩
  case round =>
    obtain ⟨n, k, hk, rfl, rfl, HN⟩ := hrel
    by_cases hlt : k < s.size
    · have HT := Lib.hid (get_take s hlt)
      have hnb : n < 72057594037927936 := by
        have h1 := ofL_lt (s.data.toList.take k)
        rw [← HN.out, List.length_take] at h1
        have h2 : 256 ^ min k s.data.toList.length ≤ 256 ^ 7 := Nat.pow_le_pow_right (by omega) (by omega)
        have h3 : (256 : Nat) ^ 7 = 72057594037927936 := by decide
        omega
      obtain ⟨u, hu⟩ : ∃ u, s.data.toList.getD k 0 = u := ⟨_, rfl⟩
      rw [hu] at HT
      obtain ⟨c, hce⟩ : ∃ c : Int, (u.toNat : Int) = c := ⟨_, rfl⟩
      have hc0 : 0 ≤ c ∧ c ≤ 255 := by have := UInt8.toNat_lt u; omega
      have hix : ∀ W : World, (Instr.index 9 (.string s) (.int .i64 (k : Int))).run Tryz.prog W = .ok (.int .u8 c) W := by
        intro W
        rw [← hce, ← hu]
        exact str_byte s hlt W
      have hst : Go.bits .or .u64 ((n : Int) * 256) c = (n : Int) * 256 + c := of_step (by omega) (by omega) hc0
      have hst2 : Go.bits .or .u64 (256 * (n : Int)) c = (n : Int) * 256 + c := by rw [Int.mul_comm]; exact hst
      have HCE := Lib.hid hce
      clear hu hce
      go_wp2_with fail
      refine ⟨⟨n * 256 + u.toNat, k + 1, by omega, by simp, ?_, Lib.hid ?_⟩, by simp only [intOf]; omega⟩
      · show Value.int .u64 _ = Value.int .u64 _
        congr 1
        have := HCE.out
        omega
      · rw [HT.out, ofL_snoc, ← HN.out]
    · go_wp2_with fail
      go_ret
      refine ⟨ret_int ?_, rfl⟩
      have hks : k = s.size := by omega
      rw [HN.out, hks, take_all]

/-- A word turned right. -/
def rorI (x : Int) (n : Nat) : Int := Go.bits .or .u32 (x * 2 ^ (32 - n) % 4294967296) (x / 2 ^ n)
theorem rorI_bd (x : Int) (n : Nat) : 0 ≤ rorI x n ∧ rorI x n < 4294967296 := bits_u32 _ _ _
theorem and31 (n : Nat) (h1 : 1 ≤ n) (h2 : n ≤ 31) : Go.bits .and .u64 (18446744073709551616 - (n : Int)) 31 = 32 - (n : Int) := by
  have : ∀ n : Fin 32, 1 ≤ n.val → Go.bits .and .u64 (18446744073709551616 - (n.val : Int)) 31 = 32 - (n.val : Int) := by decide
  exact this ⟨n, by omega⟩ h1
set_option maxRecDepth 100000 in
theorem rot_any (w : World) (x : Int) (n : Nat) (h1 : 1 ≤ n) (h2 : n ≤ 31) (hx : 0 ≤ x ∧ x < 4294967296) :
    Calls Tryz.prog 220 #[.int .u32 x, .int .i64 (-(n : Int))] w fun e w' => e = .returned (.int .u32 (rorI x n)) ∧ w = w' := by
  have ha := and31 n h1 h2
  have hw : IntKind.u64.wrap (-(n : Int)) = 18446744073709551616 - (n : Int) := by rw [IntKind.wrap_u64]; omega
  go_enter Tryz.func220, Tryz.ntmps220
  go_wp2_with fail
  go_ret
  refine ⟨ret_int ?_, rfl⟩
  unfold rorI
  rw [show 32 - (32 - n) = n from by omega]
set_option maxRecDepth 100000 in
theorem ror_any (w : World) (x : Int) (n : Nat) (h1 : 1 ≤ n) (h2 : n ≤ 31) (hx : 0 ≤ x ∧ x < 4294967296) :
    Calls Tryz.prog 219 #[.int .u32 x, .int .i64 n] w fun e w' => e = .returned (.int .u32 (rorI x n)) ∧ w = w' := by
  have HR := Lib.hid (rot_any w x n h1 h2 hx)
  go_enter Tryz.func219, Tryz.ntmps219
  go_wp2_with (first
    | (go_at_call 220; (with_reducible refine HR.out.mono ?_); rintro e w1 ⟨rfl, hw1⟩; subst hw1)
    | fail)
  go_ret
  exact ⟨rfl, rfl⟩
end Go.Proofs.YtfpbocjmlhcgiaaGreatDoor
