/- The walk of layer 6's fixed. -/
import Derived.Test.YtaelkjffidjcjaaDoorOf
import Derived.Test.YtaelkjffidjcjaaDoorFx
import Derived.Laws.MakeOwn
import Derived.Laws.OwnMore
import Derived.Laws.IdiomStrings
set_option linter.unusedSimpArgs false
set_option linter.unusedVariables false
namespace Go.Proofs.YtaelkjffidjcjaaDoor
open Go.RowKit PX

theorem check_xf : checkR xf = 0 := by rfl
/-- Of what is there, as fixed calls it. -/
structure MT (w : World) (p : Nat) : Prop where
  m : Machine w p xf
  t : TabAt 0 Lib.deBruijn64tab w
theorem MT.below {w w' : World} {p : Nat} (h : MT w p) (hb : Below w.heap.size w w') : MT w' p := ⟨h.m.below hb, TabAt.below h.t hb⟩
theorem is_yes (w : World) (p : Nat) (h : MT w p) : Calls Tryd.prog 17 #[.pointer (some ⟨p, 0, none⟩), .string ⟨#[97, 98, 99, 98]⟩] w fun e w' => e = .returned (.tuple #[.bool true, .int .i64 0]) ∧ Below w.heap.size w w' := by
  refine (is_any w p xf _ h.m h.t).mono ?_
  rintro e w' ⟨hb, ⟨h1, -⟩ | ⟨-, r, rfl, hr⟩⟩
  · exact absurd h1 (by decide)
  · have : r = true := hr.2 xf_is
    subst this; exact ⟨rfl, hb⟩
theorem is_no (w : World) (p : Nat) (h : MT w p) : Calls Tryd.prog 17 #[.pointer (some ⟨p, 0, none⟩), .string ⟨#[97, 98, 32, 97]⟩] w fun e w' => e = .returned (.tuple #[.bool false, .int .i64 0]) ∧ Below w.heap.size w w' := by
  refine (is_any w p xf _ h.m h.t).mono ?_
  rintro e w' ⟨hb, ⟨h1, -⟩ | ⟨-, r, rfl, hr⟩⟩
  · exact absurd h1 (by decide)
  · have : r = false := by
      cases r with
      | false => rfl
      | true => exact absurd (hr.1 rfl) xf_no
    subst this; exact ⟨rfl, hb⟩
theorem is_long (w : World) (p : Nat) (h : MT w p) (S : ByteArray) (hS : S.size = 257) : Calls Tryd.prog 17 #[.pointer (some ⟨p, 0, none⟩), .string S] w fun e w' => e = .returned (.tuple #[.bool false, .int .i64 60]) ∧ Below w.heap.size w w' := by
  refine (is_any w p xf _ h.m h.t).mono ?_
  rintro e w' ⟨hb, ⟨-, he⟩ | ⟨h1, -⟩⟩
  · exact ⟨he, hb⟩
  · omega
theorem hit_yes (w : World) (p : Nat) (h : MT w p) : Calls Tryd.prog 24 #[.pointer (some ⟨p, 0, none⟩), .string ⟨#[120, 97, 98]⟩, .int .i64 0] w fun e w' => e = .returned (.tuple #[.int .i64 1, .int .i64 3, .bool true]) ∧ Below w.heap.size w w' := by
  refine (hit_any w p xf _ 0 h.m h.t ⟨by omega, by omega⟩).mono ?_
  rintro e w' ⟨hs, hb⟩
  rcases hs with ⟨hn, -⟩ | ⟨-, f, hf, -, ⟨a, b, rfl, hh⟩ | ⟨hn, -⟩⟩
  · exact absurd ⟨by decide, by omega, by decide⟩ hn
  · obtain rfl : f = 0 := by omega
    obtain ⟨rfl, rfl⟩ := isHit_unique hh xf_hit
    exact ⟨rfl, hb⟩
  · obtain rfl : f = 0 := by omega
    exact (isHit_noHit xf_hit hn).elim
theorem hit_no (w : World) (p : Nat) (h : MT w p) : Calls Tryd.prog 24 #[.pointer (some ⟨p, 0, none⟩), .string ⟨#[120, 97, 98]⟩, .int .i64 4] w fun e w' => e = .returned (.tuple #[.int .i64 0, .int .i64 0, .bool false]) ∧ Below w.heap.size w w' := by
  refine (hit_any w p xf _ 4 h.m h.t ⟨by omega, by omega⟩).mono ?_
  rintro e w' ⟨hs, hb⟩
  rcases hs with ⟨-, he⟩ | ⟨-, f, hf, hfl, -⟩
  · exact ⟨he, hb⟩
  · exact absurd hfl (by
      have : f = 4 := by omega
      subst this; decide)
theorem none_no (w : World) (p : Nat) (h : MT w p) : Calls Tryd.prog 18 #[.pointer (some ⟨p, 0, none⟩)] w fun e w' => e = .returned (.bool false) ∧ Below w.heap.size w w' := by
  refine (nothing_any w p xf h.m).mono ?_
  rintro e w' ⟨r, rfl, hr, hb⟩
  have : r = false := by
    cases r with
    | false => rfl
    | true => exact absurd (hr.1 rfl) xf_nothing
  subst this; exact ⟨rfl, hb⟩
theorem hits_yes (w : World) (p : Nat) (h : MT w p) : Calls Tryd.prog 22 #[.pointer (some ⟨p, 0, none⟩), .string ⟨#[97, 98, 32, 97]⟩] w fun e w' => ∃ v, e = .returned v ∧ PairsAt w' v [(0, 2), (3, 4)] ∧ Below w.heap.size w w' := by
  refine (hits_any w p xf _ h.m h.t).mono ?_
  rintro e w' ⟨v, l, rfl, hs, hown, -, hb⟩
  rcases hs with ⟨-, hh⟩ | ⟨h1, -⟩
  · obtain rfl := hitsFrom_unique hh xf_hits
    exact ⟨v, rfl, pairs_of_row hown, hb⟩
  · exact absurd h1 (by decide)
theorem PairsAt.below {w w' : World} {v : Value} {l : List (Nat × Nat)} (h : PairsAt w v l) (hb : Below w.heap.size w w') : PairsAt w' v l := by
  obtain ⟨a, cap, rfl, h⟩ := h
  refine ⟨a, cap, rfl, ?_⟩
  rcases h with h | ⟨b, rfl, h⟩
  · exact .inl h
  · refine .inr ⟨b, rfl, fun i q hq => ?_⟩
    obtain ⟨h1, h2⟩ := h i q hq
    have hlt := World.block_lt_of_cell? _ _ h1
    exact ⟨(hb.cell (p := ⟨b, i * 2, none⟩) hlt).trans h1, (hb.cell (p := ⟨b, i * 2 + 1, none⟩) hlt).trans h2⟩
theorem pairs_lit (w : World) : PairsAt (w.alloc (.cells #[.int .i64 0, .int .i64 2, .int .i64 3, .int .i64 4] 41)) (.slice (some ⟨w.heap.size, 0, none⟩) 2 2) [(0, 2), (3, 4)] := by
  refine ⟨_, 2, rfl, .inr ⟨w.heap.size, rfl, fun i q hq => ?_⟩⟩
  have hb := alloc_block w (.cells #[.int .i64 0, .int .i64 2, .int .i64 3, .int .i64 4] 41)
  match i, hq with
  | 0, hq => cases hq; exact ⟨cell_of_block hb 0, cell_of_block hb 1⟩
  | 1, hq => cases hq; exact ⟨cell_of_block hb 2, cell_of_block hb 3⟩
theorem add_none0 (b k : Nat) : (⟨b, 0, none⟩ : Addr).add k = ⟨b, k, none⟩ := by
  unfold Addr.add
  split
  · rename_i h; subst h; rfl
  · simp
theorem info_u8 : (Tryd.prog.info? 5).map (fun i => (i.zero, i.size, i.bytes)) = some (some (.int .u8 0), 1, 1) := by kernel_rfl
theorem new_zero (w : World) : Calls Tryd.prog 14 #[.agg #[.int .i64 0, .int .i64 0, .int .i64 0, .int .u64 0, .int .u64 0, .int .u64 0, .int .u64 0, .slice none 0 0]] w fun e w' => e = .returned (.tuple #[.pointer none, .int .i64 52]) ∧ Below w.heap.size w w' := by
  refine (new_any (RxA.node 0 0 0 0 0 0 0 none 0 []) w w.heap.size (Nat.le_refl _) ?_).mono ?_
  · simp only [RxA.In]
    exact ⟨⟨⟨by omega, by omega⟩, ⟨by omega, by omega⟩, ⟨by omega, by omega⟩, ⟨by omega, by omega⟩, ⟨by omega, by omega⟩, ⟨by omega, by omega⟩, ⟨by omega, by omega⟩⟩, by simp, by simp, by simp, .inl trivial⟩
  · rintro e w' ⟨hb, ⟨h0, -⟩ | ⟨-, he⟩⟩
    · exact absurd h0 (by decide)
    · exact ⟨he, hb⟩

set_option maxRecDepth 100000 in
set_option maxHeartbeats 2000000 in
theorem fixed_any (w : World) (hT : TabAt 0 Lib.deBruijn64tab w) : Calls Tryd.prog 15 #[] w fun e w' => e = .returned (.bool true) ∧ Below w.heap.size w w' := by
  have HT := Lib.hid hT; clear hT
  have HOF1 := Lib.hid (of_good w ⟨#[97, 40, 98, 124, 99, 41, 42]⟩ xf parse_xf check_xf)
  have HOF2 := Lib.hid (fun w => of_wrong w ⟨#[40]⟩ 50 parse_open)
  have HIS1 := Lib.hid is_yes
  have HIS2 := Lib.hid is_no
  have HIS3 := Lib.hid is_long
  have HH1 := Lib.hid hit_yes
  have HH2 := Lib.hid hit_no
  obtain ⟨ZB, HZB⟩ : ∃ ZB, Hid (madeCells #[.int .u8 0] 257 = ZB) := ⟨_, Lib.hid rfl⟩
  obtain ⟨LS, HLS⟩ : ∃ LS : ByteArray, Hid ((⟨(List.replicate 257 (0 : UInt8)).toArray⟩ : ByteArray) = LS) := ⟨_, Lib.hid rfl⟩
  have hls : LS.size = 257 := by rw [← HLS.out]; simp [ByteArray.size]
  have HLZ := Lib.hid hls; clear hls
  have hmk : ∀ W : World, (Instr.makeSlice 43 (.int .i64 257) (.int .i64 257)).run Tryd.prog W = .ok (.slice (some ⟨W.heap.size, 0, none⟩) 257 257) (W.alloc (.cells ZB 5)) := by
    intro W
    obtain ⟨i0, hi, hz0, hz1, hz2⟩ := info_parts info_u8
    have h := run_makeSlice (P := Tryd.prog) W 43 5 i0 (.int .u8 0) Tryd.underlying43 hi hz0 .i64 .i64 257 257 (by omega) (by omega) (by rw [hz1]; decide) (by rw [hz2]; decide) (by decide)
    rw [hz1] at h
    rw [← HZB.out]
    exact h
  have hcv : ∀ W : World, (convert 43 9 (.slice (some ⟨W.heap.size, 0, none⟩) 257 257)).run Tryd.prog (W.alloc (.cells ZB 5)) = .ok (.string LS) (W.alloc (.cells ZB 5)) := by
    intro W
    have h := run_convert_bytes_back (P := Tryd.prog) (W.alloc (.cells ZB 5)) 43 9 5 ⟨W.heap.size, 0, none⟩ 257 (List.replicate 257 (0 : UInt8)) Tryd.underlying43 Tryd.underlying5 Tryd.underlying9 (fun j hj => by
      rw [add_none0, World.cell?_alloc_at _ _ _ _ rfl, ← HZB.out, ← Array.getElem?_toList, toList_madeCells_one]
      have hj2 := hj
      rw [List.length_replicate] at hj2
      rw [List.getElem?_replicate, if_pos hj2, List.getElem_replicate]
      rfl)
    rw [List.length_replicate, HLS.out] at h
    exact h
  go_enter Tryd.func15, Tryd.ntmps15
  go_wp2_with (first
    | (go_at_call 39; (with_reducible refine HOF1.out.mono ?_); rintro e w1 ⟨p, rfl, hp, hm, hb1⟩; have HM1 := Lib.hid (MT.mk hm (TabAt.below HT.out hb1)); clear hm)
    | (go_at_call 39; (with_reducible refine (HOF2.out _).mono ?_); rintro e w2 ⟨rfl, hb2⟩; have HM2 := Lib.hid (HM1.out.below hb2); have hc2 := hb1.trans (hb2.mono hb1.size))
    | (go_at_call 14; refine (new_zero _).mono ?_; rintro e w3 ⟨rfl, hb3⟩; have HM3 := Lib.hid (HM2.out.below hb3); have hc3 := hc2.trans (hb3.mono hc2.size))
    | (go_at_call 17; (with_reducible refine (HIS1.out _ p HM3.out).mono ?_); rintro e w4 ⟨rfl, hb4⟩; have HM4 := Lib.hid (HM3.out.below hb4); have hc4 := hc3.trans (hb4.mono hc3.size))
    | (go_at_call 17; (with_reducible refine (HIS2.out _ p HM4.out).mono ?_); rintro e w5 ⟨rfl, hb5⟩; have hc5 := hc4.trans (hb5.mono hc4.size); have hba := Below.alloc (Below.refl w5.heap.size w5) (Nat.le_refl _) (.cells ZB 5); have HM5 := Lib.hid ((HM4.out.below hb5).below hba); have hc6 := hc5.alloc hc5.size (.cells ZB 5); clear hba)
    | (go_at_call 17; (with_reducible refine (HIS3.out _ p HM5.out LS HLZ.out).mono ?_); rintro e w7 ⟨rfl, hb7⟩; have HM7 := Lib.hid (HM5.out.below hb7); have hc7 := hc6.trans (hb7.mono hc6.size))
    | (go_at_call 24; (with_reducible refine (HH1.out _ p HM7.out).mono ?_); rintro e w8 ⟨rfl, hb8⟩; have HM8 := Lib.hid (HM7.out.below hb8); have hc8 := hc7.trans (hb8.mono hc7.size))
    | (go_at_call 24; (with_reducible refine (HH2.out _ p HM8.out).mono ?_); rintro e w9 ⟨rfl, hb9⟩; have HM9 := Lib.hid (HM8.out.below hb9); have hc9 := hc8.trans (hb9.mono hc8.size))
    | (go_at_call 18; refine (none_no _ p HM9.out).mono ?_; rintro e wa ⟨rfl, hba⟩; have HMa := Lib.hid (HM9.out.below hba); have hca := hc9.trans (hba.mono hc9.size))
    | (go_at_call 22; refine (hits_yes _ p HMa.out).mono ?_; rintro e wb ⟨vh, rfl, hpv, hbb⟩; have hcb := hca.trans (hbb.mono hca.size); have HPV := Lib.hid (hpv.below (Below.alloc (Below.refl wb.heap.size wb) (Nat.le_refl _) (.cells #[.int .i64 0, .int .i64 2, .int .i64 3, .int .i64 4] 41))); have HPL := Lib.hid (pairs_lit wb); clear hpv)
    | (go_at_call 28; refine (samePairs_any _ _ _ _ _ HPV.out HPL.out (by simp)).mono ?_; rintro e wc ⟨rfl, hbc⟩; have hcc := (hcb.alloc hcb.size (.cells #[.int .i64 0, .int .i64 2, .int .i64 3, .int .i64 4] 41)).trans (hbc.mono (by have := hcb.size; simp; omega))))
  go_ret
  exact ⟨rfl, hcc⟩
end Go.Proofs.YtaelkjffidjcjaaDoor
