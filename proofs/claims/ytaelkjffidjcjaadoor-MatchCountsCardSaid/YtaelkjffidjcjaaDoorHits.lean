/- The walk of Hits. -/
import Derived.Test.YtaelkjffidjcjaaDoorHit
set_option linter.unusedSimpArgs false
set_option linter.unusedVariables false
namespace Go.Proofs.YtaelkjffidjcjaaDoor
open Go.RowKit PX

theorem info_pair : (Tryd.prog.info? 41).map (fun i => (i.zero, i.size, i.bytes)) = some (some (.agg #[.int .i64 0, .int .i64 0]), 2, 16) := by kernel_rfl
/-- Pairs' cells. -/
def pairCells (l : List (Nat × Nat)) : List Value := l.flatMap fun p => [.int .i64 (p.1 : Int), .int .i64 (p.2 : Int)]
/-- What Hits tells. -/
def HitsSays (x : Rx) (s : List UInt8) (l : List (Nat × Nat)) : Prop := (s.length ≤ 256 ∧ HitsFrom x.lang s 0 l) ∨ (256 < s.length ∧ l = [])

set_option maxRecDepth 100000 in
set_option maxHeartbeats 2000000 in
theorem hits_any (w : World) (p : Nat) (x : Rx) (s : ByteArray) (h : Machine w p x) (hT : TabAt 0 Lib.deBruijn64tab w) :
    Calls Tryd.prog 22 #[.pointer (some ⟨p, 0, none⟩), .string s] w fun e w' => ∃ v l, e = .returned v ∧ HitsSays x s.data.toList l ∧ w'.ownsRow w.heap.size 41 2 v l.length (pairCells l) ∧ l.length ≤ 256 ∧ Below w.heap.size w w' := by
  have hslen : s.data.toList.length = s.size := by rw [Array.length_toList]; rfl
  have HM := Lib.hid h
  have HT := Lib.hid hT; clear hT
  obtain ⟨i0, hi, hz0, hz1, hz2⟩ := info_parts info_pair
  go_enter Tryd.func22, Tryd.ntmps22
  go_wp2_with fail
  go_loopw [5, 6] (fun v i wr => ∃ (l : List (Nat × Nat)) (a : Nat), i = .int .i64 a ∧ l.length ≤ a ∧ a ≤ s.size ∧ (256 < s.size → a = 0) ∧ (∀ l', HitsFrom x.lang s.data.toList a l' → HitsFrom x.lang s.data.toList 0 (l ++ l')) ∧
      wr.ownsRow w.heap.size 41 2 v l.length (pairCells l) ∧ Below w.heap.size w wr) (fun _ i _ => s.size - (intOf i).toNat)
  case atStart =>
    refine ⟨[], 0, rfl, Nat.le_refl _, by omega, fun _ => rfl, fun l' h' => h', ?_, Below.refl _ _⟩
    exact ⟨rfl, .inl ⟨rfl, rfl⟩⟩
  case round =>
    obtain ⟨l, a, rfl, hla, has, hbig, hhf, hown, hbl⟩ := hrel
    have HOWN := Lib.hid hown; clear hown
    have HHF := Lib.hid hhf; clear hhf
    have HBL := Lib.hid hbl; clear hbl
    by_cases hs : 256 < s.size
    · obtain rfl := hbig hs
      have hl0 : l = [] := List.eq_nil_of_length_eq_zero (by omega)
      subst hl0
      have hhit : Calls Tryd.prog 24 #[.pointer (some ⟨p, 0, none⟩), .string s, .int .i64 0] wr fun e w' => e = .returned (.tuple #[.int .i64 0, .int .i64 0, .bool false]) ∧ Below wr.heap.size wr w' := by
        refine (hit_any wr p x s 0 (HM.out.below HBL.out) (TabAt.below HT.out HBL.out) (by unfold I64; omega)).mono ?_
        rintro e w' ⟨hh, hb⟩
        rcases hh with ⟨-, rfl⟩ | ⟨hh, -⟩
        · exact ⟨rfl, hb⟩
        · omega
      have HHIT := Lib.hid hhit; clear hhit hbig
      go_wp2_with (go_at_call 24; refine HHIT.out.mono ?_; rintro e w1 ⟨rfl, hb1⟩)
      go_ret
      exact ⟨_, [], rfl, .inr ⟨by omega, rfl⟩, (Only.of_below (r := fun _ => False) hb1).ownsRow HOWN.out (fun _ _ h => h), by simp, HBL.out.trans (hb1.mono HBL.out.size)⟩
    · clear hbig
      by_cases hn : NoHit x.lang s.data.toList a
      · have hhit : Calls Tryd.prog 24 #[.pointer (some ⟨p, 0, none⟩), .string s, .int .i64 a] wr fun e w' => e = .returned (.tuple #[.int .i64 0, .int .i64 0, .bool false]) ∧ Below wr.heap.size wr w' := by
          refine (hit_any wr p x s a (HM.out.below HBL.out) (TabAt.below HT.out HBL.out) (by unfold I64; omega)).mono ?_
          rintro e w' ⟨hh, hb⟩
          rcases hh with ⟨hh, rfl⟩ | ⟨-, f, hf, -, ⟨a', b', -, hih⟩ | ⟨-, rfl⟩⟩
          · exact ⟨rfl, hb⟩
          · obtain rfl : a = f := by omega
            exact (isHit_noHit hih hn).elim
          · exact ⟨rfl, hb⟩
        have HHIT := Lib.hid hhit; clear hhit
        have HN := Lib.hid hn; clear hn
        go_wp2_with (go_at_call 24; refine HHIT.out.mono ?_; rintro e w1 ⟨rfl, hb1⟩)
        go_ret
        have h := HHF.out [] (.nil HN.out)
        rw [List.append_nil] at h
        exact ⟨_, l, rfl, .inl ⟨by omega, h⟩, (Only.of_below (r := fun _ => False) hb1).ownsRow HOWN.out (fun _ _ h => h), by omega, HBL.out.trans (hb1.mono HBL.out.size)⟩
      · have hhit : Calls Tryd.prog 24 #[.pointer (some ⟨p, 0, none⟩), .string s, .int .i64 a] wr fun e w' => ∃ a' b' : Nat, e = .returned (.tuple #[.int .i64 a', .int .i64 b', .bool true]) ∧ IsHit x.lang s.data.toList a a' b' ∧ Below wr.heap.size wr w' := by
          refine (hit_any wr p x s a (HM.out.below HBL.out) (TabAt.below HT.out HBL.out) (by unfold I64; omega)).mono ?_
          rintro e w' ⟨hh, hb⟩
          rcases hh with ⟨hh, rfl⟩ | ⟨-, f, hf, -, ⟨a', b', rfl, hih⟩ | ⟨hn', rfl⟩⟩
          · omega
          · obtain rfl : a = f := by omega
            exact ⟨a', b', rfl, hih, hb⟩
          · obtain rfl : a = f := by omega
            exact (hn hn').elim
        have HHIT := Lib.hid hhit; clear hhit hn
        go_wp2_with (first
          | (go_at_call 24; refine HHIT.out.mono ?_; rintro e w1 ⟨a', b', rfl, hih, hb1⟩
             have HOW1 := Lib.hid ((Only.of_below (r := fun _ => False) hb1).ownsRow HOWN.out (fun _ _ h => h))
             have HIH := Lib.hid hih; clear hih
             have HB1 := Lib.hid hb1; clear hb1)
          | (refine wpList_append_own _ rfl (.tmp 21) (.tmp 25) 39 rfl w.heap.size 41 i0 _ 2 16 Tryd.underlying39 hi hz0 hz1 hz2 rfl (by decide) u5 l.length (pairCells l) rfl (HOW1.out.alloc _) ⟨w1.heap.size, 0, none⟩ 1 1 [.int .i64 (a' : Int), .int .i64 (b' : Int)] rfl rfl (cells_new w1 [.int .i64 (a' : Int), .int .i64 (b' : Int)] 41) (by intro u hu; simp only [List.mem_cons, List.not_mem_nil, or_false] at hu; rcases hu with rfl | rfl <;> rfl) (by unfold maxLen; omega) (by omega) (by have := HBL.out.size; have := HB1.out.size; simp; omega) ?_
             intro v' w2 hown2 hgrow _))
        go_roundw
        case measure => have := HIH.out.1; have := HIH.out.2.1; have := HIH.out.2.2.1; simp only [intOf]; omega
        case rel =>
          have h1 := HIH.out.1
          have h2 := HIH.out.2.1
          have h3 := HIH.out.2.2.1
          refine ⟨l ++ [(a', b')], b', rfl, by simp; omega, by omega, fun h' => by omega, hitsFrom_snoc HHF.out HIH.out, ?_, ?_⟩
          · have e : pairCells (l ++ [(a', b')]) = pairCells l ++ [.int .i64 (a' : Int), .int .i64 (b' : Int)] := by simp [pairCells]
            rw [e, List.length_append]
            exact hown2
          · have hb := HBL.out.trans (HB1.out.mono HBL.out.size)
            refine (hb.alloc hb.size _).grown hgrow (by have := hb.size; simp; omega) ?_
            intro k hk
            rcases HOW1.out.2 with ⟨e0, _⟩ | ⟨g', cap', cur', e0, hb', _⟩
            · rw [e0] at hk; cases hk
            · rw [e0] at hk; simp only [Value.ownBlock, Option.some.injEq] at hk; omega
end Go.Proofs.YtaelkjffidjcjaaDoor
