/- The law's place; the hash's Chain; the walk of AuditBytes. -/
import Derived.Test.YtkkjhdpkakdjmaaGreatDoorAU16
set_option linter.unusedSimpArgs false
set_option linter.unusedVariables false
namespace Go.Proofs.YtkkjhdpkakdjmaaGreatDoor
open Go.RowKit PJ Go.Maps

set_option maxRecDepth 100000 in
theorem lplace_any (w : World) (x : Int) (hx : -9223372036854775808 ≤ x ∧ x ≤ 9223372036854775807) :
    Calls Tryz.prog 26 #[.int .i64 x, .int .i64 12] w fun e w' => e = .returned (.int .i64 (x % 12)) ∧ w = w' := by
  have ht : x.tmod 12 = x % 12 - (if 0 ≤ x ∨ (12 : Int) ∣ x then 0 else 12) := by
    rw [Int.tmod_eq_emod]
    split <;> rfl
  rcases Int.lt_or_le (x.tmod 12) 0 with h | h
  · have e : x.tmod 12 + 12 = x % 12 := by split at ht <;> omega
    have h2 := Int.emod_lt_of_pos x (show (0 : Int) < 12 by omega)
    have h3 := Int.emod_nonneg x (show (12 : Int) ≠ 0 by omega)
    have hwr : IntKind.i64.wrap (x.tmod 12) = x.tmod 12 := by rw [IntKind.wrap_i64]; omega
    have hwr2 : IntKind.i64.wrap (x.tmod 12 + 12) = x.tmod 12 + 12 := by rw [IntKind.wrap_i64]; omega
    clear ht
    go_enter Tryz.func26, Tryz.ntmps26
    go_wp2_with fail
    go_ret
    exact ⟨rfl, rfl⟩
  · have e : x.tmod 12 = x % 12 := by split at ht <;> omega
    have h2 := Int.emod_lt_of_pos x (show (0 : Int) < 12 by omega)
    have hwr : IntKind.i64.wrap (x.tmod 12) = x.tmod 12 := by rw [IntKind.wrap_i64]; omega
    clear ht
    go_enter Tryz.func26, Tryz.ntmps26
    go_wp2_with fail
    go_ret
    exact ⟨rfl, rfl⟩
set_option maxRecDepth 100000 in
set_option maxHeartbeats 2000000 in
theorem hchain_any (w : World) (g cap : Nat) (ps : List (List UInt8)) (hn : ps.length ≤ 1000) (hc : SCells w g ps) (hp : ∀ p ∈ ps, p.length ≤ 10000000) (a : ByteArray) (ha : a.size = 32) :
    Calls Tryz.prog 30 #[.string a, .slice (some ⟨g, 0, none⟩) ps.length cap] w fun e w' => e = .returned (.string ⟨(ps.foldl linkB a.data.toList).toArray⟩) ∧ LJ w w' := by
  obtain ⟨n, hnn⟩ : ∃ n, ps.length = n := ⟨_, rfl⟩
  rw [hnn] at hn ⊢
  have HC := Lib.hid hc
  have HP := Lib.hid hp
  have HN := Lib.hid hnn
  have HA := Lib.hid ha
  clear hc hp hnn ha
  go_enter Tryz.func30, Tryz.ntmps30
  go_wp2_with fail
  go_loopw [0, 9] (fun v0 v9 wr => ∃ (k : Nat) (S : ByteArray), k ≤ n ∧ v9 = .int .i64 (k : Int) ∧ v0 = .string S ∧ Hid (S.data.toList = (ps.take k).foldl linkB a.data.toList ∧ S.size = 32) ∧ Hid (LJ w wr)) (fun _ v9 _ => n - (intOf v9).toNat)
  case atStart => exact ⟨0, a, by omega, rfl, rfl, Lib.hid ⟨by simp, HA.out⟩, Lib.hid (LJ.refl w)⟩
  case round =>
    obtain ⟨k, S, hk, rfl, rfl, HS, HL⟩ := hrel
    by_cases hlt : k < n
    · have hkn : (k : Int) < (n : Int) := by omega
      obtain ⟨p, hpk⟩ : ∃ p, ps[k]? = some p := ⟨_, List.getElem?_eq_getElem (by have := HN.out; omega)⟩
      obtain ⟨P, hP⟩ : ∃ P : ByteArray, (⟨p.toArray⟩ : ByteArray) = P := ⟨_, rfl⟩
      have hPl : P.data.toList = p := by rw [← hP]
      have hPs : P.size = p.length := by rw [← hP]; show p.toArray.size = _; simp
      have ck : wr.cell? ⟨g, k, none⟩ = some (.string P) := by
        rw [← hP]
        exact HL.out.cell (HC.out k p hpk)
      obtain ⟨S2, hS2⟩ : ∃ S2 : ByteArray, (⟨(linkB S.data.toList P.data.toList).toArray⟩ : ByteArray) = S2 := ⟨_, rfl⟩
      have HLK := Lib.hid (hlink_any wr S P (by have := HS.out.2; omega) (by have := HP.out p (List.mem_of_getElem? hpk); omega))
      rw [hS2] at HLK
      have HS2 := Lib.hid (show S2.data.toList = (ps.take (k + 1)).foldl linkB a.data.toList ∧ S2.size = 32 from by
        have e : S2.data.toList = linkB S.data.toList P.data.toList := by rw [← hS2]
        refine ⟨by rw [e, List.take_add_one, hpk, Option.toList_some, List.foldl_append, ← HS.out.1, hPl]; rfl, ?_⟩
        have h1 : S2.data.toList.length = S2.size := by rw [Array.length_toList]; rfl
        rw [e, linkB_len] at h1
        omega)
      clear hpk hP hPl hPs hS2
      go_wp2_with (first
        | (go_at_call 40; (with_reducible refine HLK.out.mono ?_); rintro e w2 ⟨rfl, hl2⟩; have HL2 := Lib.hid hl2; clear hl2)
        | fail)
      go_roundw
      case rel => exact ⟨k + 1, S2, by omega, by simp, rfl, HS2, Lib.hid (HL.out.trans HL2.out)⟩
      case measure => simp [intOf]; omega
    · have hkn : ¬ (k : Int) < (n : Int) := by omega
      have hke : k = n := by omega
      have HE := Lib.hid (show (⟨(ps.foldl linkB a.data.toList).toArray⟩ : ByteArray) = S from by
        have h1 := HS.out.1
        rw [hke, ← HN.out, List.take_length] at h1
        rw [← h1])
      clear hke
      go_wp2_with fail
      go_ret
      exact ⟨ret_str HE.out.symm, HL.out⟩
set_option maxRecDepth 100000 in
set_option maxHeartbeats 2000000 in
theorem lawbytes_any (w : World) (n f t r : Int) (h : ByteArray) : Calls Tryz.prog 3 #[.agg #[.int .i64 n, .int .i64 f, .int .i64 t, .int .i64 r, .string h]] w fun e w' => e = .returned (.bool true) ∧ LJ w w' := by
  have hmain : ∃ (S : ByteArray) (E : Int), (∀ W, Calls Tryz.prog 7 #[.agg #[.int .i64 n, .int .i64 f, .int .i64 t, .int .i64 r, .string h]] W fun e w' => e = .returned (.tuple #[.string S, .int .i64 E]) ∧ LJ W w') ∧ (∀ W, Calls Tryz.prog 8 #[.agg #[.int .i64 n, .int .i64 f, .int .i64 t, .int .i64 r, .string h]] W fun e w' => e = .returned (.tuple #[.string S, .int .i64 E]) ∧ LJ W w') := by
    by_cases hm : Rec.may ⟨n, f, t, r, h⟩ = true
    · exact ⟨_, _, fun W => abytes_yes W n f t r h hm, fun W => lbytes_yes W n f t r h hm⟩
    · have hm' : Rec.may ⟨n, f, t, r, h⟩ = false := by simpa using hm
      exact ⟨_, _, fun W => abytes_no W n f t r h hm', fun W => lbytes_no W n f t r h hm'⟩
  obtain ⟨S, E, h1, h2⟩ := hmain
  have H1 := Lib.hid h1
  have H2 := Lib.hid h2
  have HFX := Lib.hid (fun W => afixed_any W)
  have hss : (S.toList == S.toList) = true := beq_self_eq_true _
  have hee : (E == E) = true := beq_self_eq_true _
  obtain ⟨w1, hw1⟩ : ∃ w1, w.alloc (.cells #[.int .i64 n, .int .i64 f, .int .i64 t, .int .i64 r, .string h] 23) = w1 := ⟨_, rfl⟩
  obtain ⟨q, hq⟩ : ∃ q, w.heap.size = q := ⟨_, rfl⟩
  have HB1 := Lib.hid (show w1.heap[q]? = some (.cells #[.int .i64 n, .int .i64 f, .int .i64 t, .int .i64 r, .string h] 23 (0, 0)) from by rw [← hw1, ← hq]; exact alloc_blk w _)
  have HL1 := Lib.hid (show LJ w w1 from by rw [← hw1]; exact (LJ.refl w).alloc _)
  have HW1 := Lib.hid hw1
  clear h1 h2 hw1
  go_enter Tryz.func3, Tryz.ntmps3
  go_upto_region 1 with fail
  rw [HW1.out]
  clear hq
  go_wp2_with (first
    | (refine wpList_load_row rfl 23 (.tmp 1) rfl q rfl 23 _ (0, 0) _ HB1.out Tryz.underlying23 rfl info_rec ?_)
    | (go_at_call 7; (with_reducible refine (H1.out _).mono ?_); rintro e w2 ⟨rfl, hl2⟩; have HL2 := Lib.hid hl2; have HB2 := Lib.hid (hl2.block HB1.out); clear hl2)
    | (refine wpList_load_row rfl 23 (.tmp 1) rfl q rfl 23 _ (0, 0) _ HB2.out Tryz.underlying23 rfl info_rec ?_)
    | (go_at_call 8; (with_reducible refine (H2.out _).mono ?_); rintro e w3 ⟨rfl, hl3⟩; have HL3 := Lib.hid hl3; clear hl3)
    | (go_at_call 9; (with_reducible refine (HFX.out _).mono ?_); rintro e w4 ⟨rfl, hl4⟩; have HL4 := Lib.hid hl4; clear hl4)
    | fail)
  go_ret
  exact ⟨rfl, HL1.out.trans (HL2.out.trans (HL3.out.trans HL4.out))⟩
end Go.Proofs.YtkkjhdpkakdjmaaGreatDoor
