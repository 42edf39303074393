/- Jg20, merged: J72 J73 J74. -/
import Derived.Test.YtjgkhdanhglgeaaGreatDoorJg19
set_option linter.unusedSimpArgs false
set_option linter.unusedVariables false
/- The law's fixed: the walk. -/
namespace Go.Proofs.YtjgkhdanhglgeaaGreatDoor
open Go.RowKit PJ Go.Maps

theorem laid_fx (w : World) : Calls Tryz.prog 8 #[.int .i64 8, .int .i64 5] w fun e w' => ∃ p b jb, e = .returned (.tuple #[.pointer (some ⟨p, 0, none⟩), .pointer (some ⟨jb, 0, none⟩), .int .i64 0]) ∧ JK w w' (fun _ => False) p b jb FJ0 := by
  refine laid_any w 8 (by omega) (by omega) 5 _ (fun h => absurd ⟨by omega, by omega⟩ h) (fun k hk h4 h8 e w' h => ?_)
  obtain ⟨p, b, jb, rfl, hj, hl⟩ := h
  have hk5 : k = 5 := by omega
  subst hk5
  exact ⟨p, b, jb, rfl, since w w', hj, fun q hq => hq.1, fun q hq => hq.elim, hl⟩
set_option maxRecDepth 100000 in
set_option maxHeartbeats 4000000 in
theorem jfixed_any (w : World) : Calls Tryz.prog 9 #[] w fun e w' => e = .returned (.bool true) ∧ LJ w w' := by
  have HLA := Lib.hid (laid_fx w)
  go_enter Tryz.func9, Tryz.ntmps9
  go_upto_region 2 with (first
    | (go_at_call 8; (with_reducible refine HLA.out.mono ?_); rintro e w1 ⟨p, b, jb, rfl, hk1⟩; have HK1 := Lib.hid hk1; clear hk1)
    | fail)
  have HC1 := Lib.hid (show Calls Tryz.prog 18 #[.pointer (some ⟨jb, 0, none⟩)] w1 fun e w' => e = .returned (.int .i64 3) ∧ JK w w' (fun _ => False) p b jb FJ0 ∧ KeptK (fun _ => False) w1 w' from k_cells HK1.out)
  go_upto_region 4 with (first
    | (go_at_call 18; (with_reducible refine HC1.out.mono ?_); rintro e w2 ⟨rfl, hk2, -⟩
       have HR2 := Lib.hid (show Calls Tryz.prog 14 #[.pointer (some ⟨jb, 0, none⟩)] w2 fun e w' => e = .returned (.int .i64 2) ∧ JK w w' (fun _ => False) p b jb FJ0 ∧ KeptK (fun _ => False) w2 w' from k_room hk2)
       clear hk2)
    | (go_at_call 14; (with_reducible refine HR2.out.mono ?_); rintro e w3 ⟨rfl, hk3, -⟩
       have HN3 := Lib.hid (show Calls Tryz.prog 11 #[.pointer (some ⟨jb, 0, none⟩)] w3 fun e w' => e = .returned (.int .i64 1) ∧ JK w w' (fun _ => False) p b jb FJ0 ∧ KeptK (fun _ => False) w3 w' from k_next hk3)
       clear hk3)
    | (go_at_call 11; (with_reducible refine HN3.out.mono ?_); rintro e w4 ⟨rfl, hk4, -⟩; have HK4 := Lib.hid hk4; clear hk4)
    | fail)
  have HM4 := Lib.hid (k_fc1 HK4.out)
  go_upto_region 6 with (first
    | (go_at_call 12; (with_reducible refine HM4.out.mono ?_); rintro e w5 ⟨rfl, hk5, -⟩
       have HR5 := Lib.hid (show Calls Tryz.prog 14 #[.pointer (some ⟨jb, 0, none⟩)] w5 fun e w' => e = .returned (.int .i64 0) ∧ JK w w' (fun _ => False) p b jb FJ1 ∧ KeptK (fun _ => False) w5 w' from k_room hk5)
       clear hk5)
    | (go_at_call 14; (with_reducible refine HR5.out.mono ?_); rintro e w6 ⟨rfl, hk6, -⟩
       have HN6 := Lib.hid (show Calls Tryz.prog 11 #[.pointer (some ⟨jb, 0, none⟩)] w6 fun e w' => e = .returned (.int .i64 2) ∧ JK w w' (fun _ => False) p b jb FJ1 ∧ KeptK (fun _ => False) w6 w' from k_next hk6)
       clear hk6)
    | (go_at_call 11; (with_reducible refine HN6.out.mono ?_); rintro e w7 ⟨rfl, hk7, -⟩; have HM7 := Lib.hid (k_fc2 hk7); clear hk7)
    | (go_at_call 12; (with_reducible refine HM7.out.mono ?_); rintro e w8 ⟨rfl, hk8, -⟩; have HM8 := Lib.hid (k_fc3 hk8); clear hk8)
    | (go_at_call 12; (with_reducible refine HM8.out.mono ?_); rintro e w9 ⟨rfl, hk9, -⟩; have HK9 := Lib.hid hk9; clear hk9)
    | fail)
  have HCR := Lib.hid (k_crash HK9.out none 0 0 (.inl rfl))
  go_upto_region 9 with (first
    | (go_at_call 21; (with_reducible refine HCR.out.mono ?_); rintro e w10 ⟨rfl, hd10, -, -, -, -, -⟩
       have HRV := Lib.hid (k_revive hd10); clear hd10)
    | (go_at_call 22; (with_reducible refine HRV.out.mono ?_); rintro e w11 ⟨rfl, hr11, ho11⟩
       have HR11 := Lib.hid hr11; clear hr11 ho11)
    | fail)
  have HOP := Lib.hid (show Calls Tryz.prog 23 #[.pointer (some ⟨p, 0, none⟩), .int .i64 8, .int .i64 5, .int .i64 0] w11 fun e w' => ∃ b jb, e = .returned (.tuple #[.pointer (some ⟨jb, 0, none⟩), .int .i64 0]) ∧ JK w w' (fun _ => False) p b jb { FJ2 with S := FJ2.V } ∧ KeptK (fun _ => False) w11 w' from
    k_opened HR11.out (fun q hq => hq.elim) FJ2 FJ2_ok rfl (fun i hi => rfl) rfl (by decide) (by decide) 0 (by omega))
  go_upto_region 12 with (first
    | (go_at_call 23; (with_reducible refine HOP.out.mono ?_); rintro e w12 ⟨b2, j2, rfl, hk12, -⟩; have HK12 := Lib.hid hk12; clear hk12)
    | fail)
  obtain ⟨S0, hS0⟩ : ∃ S0 : ByteArray, (⟨(padT [97] 116).toArray⟩ : ByteArray) = S0 := ⟨_, rfl⟩
  obtain ⟨S2, hS2⟩ : ∃ S2 : ByteArray, (⟨(zs 116).toArray⟩ : ByteArray) = S2 := ⟨_, rfl⟩
  obtain ⟨Z1, hZ1⟩ : ∃ Z1 : ByteArray, (⟨(zs 115).toArray⟩ : ByteArray) = Z1 := ⟨_, rfl⟩
  have hcat : (⟨#[97]⟩ : ByteArray) ++ Z1 = S0 := by
    rw [← hS0, ← hZ1]
    apply ByteArray.ext
    apply Array.toList_inj.1
    simp [pad_zs]
  have hzs : Z1.size = 115 := by rw [← hZ1]; show (zs 115).toArray.size = 115; simp [zs]
  have hbig : ¬ 9223372036854775807 < (⟨#[97]⟩ : ByteArray).size + Z1.size := by rw [hzs]; decide
  have hbig1 : ¬ 9223372036854775807 < 1 + Z1.size := by rw [hzs]; decide
  have HRD0 := Lib.hid (show Calls Tryz.prog 17 #[.pointer (some ⟨j2, 0, none⟩), .int .i64 0] w12 fun e w' => e = .returned (.tuple #[.string S0, .int .i64 0]) ∧ JK w w' (fun _ => False) p b2 j2 { FJ2 with S := FJ2.V } ∧ KeptK (fun _ => False) w12 w' from by
    have h := k_read HK12.out 0 (show 0 < 3 by omega)
    rw [show ({ FJ2 with S := FJ2.V } : Jn).cell 0 = padT [97] 116 from FJ2_cell0, hS0] at h
    exact h)
  have HNO1 := Lib.hid (fun W => show Calls Tryz.prog 37 #[.int .i64 115] W fun e w' => e = .returned (.string Z1) ∧ LJ W w' from by rw [← hZ1]; exact noughts_any W 115 (by omega))
  have HNO2 := Lib.hid (fun W => show Calls Tryz.prog 37 #[.int .i64 116] W fun e w' => e = .returned (.string S2) ∧ LJ W w' from by rw [← hS2]; exact noughts_any W 116 (by omega))
  have HS2 := Lib.hid hS2
  clear hS0 hS2 hZ1 hzs
  go_upto_region 13 with (first
    | (go_at_call 17; (with_reducible refine HRD0.out.mono ?_); rintro e w13 ⟨rfl, hk13, -⟩; have HK13 := Lib.hid hk13; clear hk13)
    | fail)
  have HRD2 := Lib.hid (show Calls Tryz.prog 17 #[.pointer (some ⟨j2, 0, none⟩), .int .i64 2] w13 fun e w' => e = .returned (.tuple #[.string S2, .int .i64 0]) ∧ JK w w' (fun _ => False) p b2 j2 { FJ2 with S := FJ2.V } ∧ KeptK (fun _ => False) w13 w' from by
    have h := k_read HK13.out 2 (show 2 < 3 by omega)
    rw [show ({ FJ2 with S := FJ2.V } : Jn).cell 2 = zs 116 from FJ2_cell2, HS2.out] at h
    exact h)
  go_wp2_with (first
    | (go_at_call 17; (with_reducible refine HRD2.out.mono ?_); rintro e w14 ⟨rfl, hk14, -⟩; have HK14 := Lib.hid hk14; clear hk14)
    | (go_at_call 37; (with_reducible refine (HNO1.out _).mono ?_); rintro e w15 ⟨rfl, hl15⟩; have HL15 := Lib.hid hl15; clear hl15)
    | (go_at_call 37; (with_reducible refine (HNO2.out _).mono ?_); rintro e w16 ⟨rfl, hl16⟩; have HL16 := Lib.hid hl16; clear hl16)
    | fail)
  go_ret
  exact ⟨rfl, HK14.out.lj.trans (HL15.out.trans HL16.out)⟩
end Go.Proofs.YtjgkhdanhglgeaaGreatDoor
/- Plain: what deeds make of a journal. -/
namespace Go.Proofs.YtjgkhdanhglgeaaGreatDoor
open Go.RowKit PJ Go.Maps

theorem may_range (n area : Nat) (l : List Wr) : mayI n area l = 0 ∨ mayI n area l = 161 ∨ mayI n area l = 162 := by
  unfold mayI
  split
  · exact .inr (.inr rfl)
  · split
    · exact .inl rfl
    · exact .inr (.inl rfl)
theorem commit_n (J : Jn) (l : List Wr) : (J.commit l).n = J.n ∧ (J.commit l).area = J.area ∧ (J.commit l).next = J.next + 1 ∧ J.head ≤ (J.commit l).head ∧ (J.commit l).head ≤ J.head + 1 := by
  unfold Jn.commit
  split
  · exact ⟨rfl, rfl, rfl, by show J.head ≤ J.head + 1; omega, Nat.le_refl _⟩
  · exact ⟨rfl, rfl, rfl, Nat.le_refl _, by show J.head ≤ J.head + 1; omega⟩
theorem deed_n (J : Jn) (l : List Wr) : (J.deed l).n = J.n ∧ (J.deed l).area = J.area ∧ (J.deed l).next ≤ J.next + 1 ∧ (J.deed l).head ≤ J.head + 1 := by
  obtain ⟨h1, h2, h3, h4, h5⟩ := commit_n J l
  unfold Jn.deed
  split
  · exact ⟨rfl, rfl, by omega, by omega⟩
  · split
    · exact ⟨h1, h2, by omega, h5⟩
    · exact ⟨rfl, rfl, by omega, by omega⟩
theorem deed_next (J : Jn) (l : List Wr) : (deedE J l ≠ 0 → (J.deed l).next = J.next) ∧ (deedE J l = 0 → l ≠ [] → (J.deed l).next = J.next + 1) := by
  obtain ⟨-, -, h3, -, -⟩ := commit_n J l
  unfold deedE Jn.deed
  by_cases h0 : l = []
  · rw [if_pos h0, if_pos h0]
    exact ⟨fun h => absurd rfl h, fun _ h => absurd h0 h⟩
  · rw [if_neg h0, if_neg h0]
    by_cases hm : mayI (J.n - J.area) J.area l = 0
    · rw [if_pos hm]
      exact ⟨fun h => absurd hm h, fun _ _ => h3⟩
    · rw [if_neg hm]
      exact ⟨fun _ => rfl, fun h _ => absurd h hm⟩
theorem deed_range (J : Jn) (l : List Wr) : deedE J l = 0 ∨ deedE J l = 161 ∨ deedE J l = 162 := by
  unfold deedE
  split
  · exact .inl rfl
  · exact may_range _ _ _
theorem deed_read {J : Jn} (h : J.OK) (hh : J.head < 4611686018427387904) (hn : J.next ≤ 4611686018427387904) (l : List Wr) : (J.deed l).read = if deedE J l = 0 then behindL J.read l else J.read := by
  unfold deedE Jn.deed
  by_cases h0 : l = []
  · rw [if_pos h0, if_pos h0, if_pos rfl, h0]
    rfl
  · rw [if_neg h0, if_neg h0]
    by_cases hm : mayI (J.n - J.area) J.area l = 0
    · rw [if_pos hm, if_pos hm]
      obtain ⟨m1, m2, m3⟩ := may_ok hm
      have ha4 := h.area4
      unfold Jn.commit
      split
      · have hO := Jn.home_ok h hh hn
        rw [Jn.read_put hO (by show 2 + 1 + l.length ≤ J.area; omega) m3, Jn.read_home h]
      · rw [Jn.read_put h (by omega) m3]
    · rw [if_neg hm, if_neg hm]
theorem room_most {J : Jn} (h : J.OK) : J.room ≤ J.most := by
  have := h.at2
  unfold Jn.room Jn.most
  omega
theorem check_n (J : Jn) : J.check.n = J.n ∧ J.check.area = J.area ∧ J.check.next = J.next ∧ J.check.first = J.check.next ∧ J.check.head ≤ J.head + 1 := by
  unfold Jn.check
  split
  · rename_i e
    exact ⟨rfl, rfl, rfl, e, by omega⟩
  · exact ⟨rfl, rfl, rfl, rfl, Nat.le_refl _⟩
theorem check_read {J : Jn} (h : J.OK) : J.check.read = J.read := by
  unfold Jn.check
  split
  · rfl
  · exact Jn.read_home h
theorem check_room {J : Jn} (h : J.check.OK) : J.check.room = min 40 (J.area - 3) := by
  obtain ⟨h1, h2, h3, h4, h5⟩ := check_n J
  have ha := h.clean h4
  unfold Jn.room
  rw [ha.1, h2]
  omega
end Go.Proofs.YtjgkhdanhglgeaaGreatDoor
/- Deeds in memory; what the laws' loops want. -/
namespace Go.Proofs.YtjgkhdanhglgeaaGreatDoor
open Go.RowKit PJ Go.Maps

def DeedsAt (w : World) (a : Option Addr) (n cap : Nat) : Prop :=
  n ≤ cap ∧ n ≤ 140737488355328 ∧ (n = 0 ∨ ∃ g off, a = some ⟨g, off, none⟩ ∧ ∀ i, i < n → ∃ lv l, w.cell? ⟨g, off + i, none⟩ = some lv ∧ DeedAt w lv l ∧ ∀ x ∈ l, x.data.size ≤ 9223372036854775807)
theorem DeedAt.later {w w' : World} {lv : Value} {l : List Wr} (h : DeedAt w lv l) (hl : LJ w w') : DeedAt w' lv l := by
  obtain ⟨a, cap, h1, h2, h3, h4⟩ := h
  refine ⟨a, cap, h1, h2, h3, h4.imp id ?_⟩
  rintro ⟨g, off, e, hg, hc⟩
  exact ⟨g, off, e, by have := Below.size hl; omega, fun j x hx => (hc j x hx).kept (Below.block hl g hg)⟩
theorem DeedsAt.later {w w' : World} {a : Option Addr} {n cap : Nat} (h : DeedsAt w a n cap) (hl : LJ w w') : DeedsAt w' a n cap := by
  obtain ⟨h1, h2, h3⟩ := h
  refine ⟨h1, h2, h3.imp id ?_⟩
  rintro ⟨g, off, e, hc⟩
  exact ⟨g, off, e, fun i hi => by
    obtain ⟨lv, l, c1, c2, c3⟩ := hc i hi
    exact ⟨lv, l, LJ.cell hl c1, c2.later hl, c3⟩⟩
theorem JK.add {w W W' : World} {K : Nat → Prop} {p b jb g : Nat} {J : Jn} (h : JK w W K p b jb J) (hl : LJ W W') (hg : W.heap.size ≤ g) (hg' : g < W'.heap.size) : JK w W' (fun q => K q ∨ q = g) p b jb J := by
  obtain ⟨F, h1, h2, h3, h4⟩ := h
  have hs := Below.size hl
  refine ⟨F, h1.later hl, h2, ?_, h4.trans hl⟩
  rintro q (hq | rfl)
  · exact ⟨(h3 q hq).1, by have := (h3 q hq).2; omega⟩
  · exact ⟨fun e => by have := h1.lt _ e; omega, hg'⟩
theorem SCells.kept {w w' : World} {g : Nat} {l : List (List UInt8)} (h : SCells w g l) (hb : w'.heap[g]? = w.heap[g]?) : SCells w' g l := fun j s hs => (World.cell?_of_block (a := ⟨g, j, none⟩) hb).trans (h j s hs)
theorem SCells.lt {w : World} {g : Nat} {l : List (List UInt8)} (h : SCells w g l) (hl : 1 ≤ l.length) : g < w.heap.size := by
  obtain ⟨s, hs⟩ : ∃ s, l[0]? = some s := ⟨_, List.getElem?_eq_getElem (by omega)⟩
  exact World.block_lt_of_cell? _ _ (h 0 s hs)
theorem read_len {J : Jn} : J.read.length = J.n - J.area := cont_len _ _ _
/-- What the loop over the deeds carries along. -/
structure Carry (n k i : Nat) (J : Jn) : Prop where
  n : J.n = n
  area : J.area = k
  next : J.next ≤ 1 + i
  head : J.head ≤ 2 + i
theorem Carry.deed {n k i : Nat} {J : Jn} (h : Carry n k i J) (l : List Wr) : Carry n k (i + 1) (J.deed l) := by
  obtain ⟨h1, h2, h3, h4⟩ := deed_n J l
  have := h.next
  have := h.head
  exact ⟨h1.trans h.n, h2.trans h.area, by omega, by omega⟩
theorem Carry.small {n k i : Nat} {J : Jn} (h : Carry n k i J) (hi : i ≤ 140737488355328) : J.head < 4611686018427387904 ∧ J.next < 4611686018427387904 := by
  have := h.next
  have := h.head
  omega
/-- behind, where the cells are a journal's. -/
theorem k_behind {w W : World} {K : Nat → Prop} {p b jb : Nat} {J : Jn} (h : JK w W K p b jb J) (now : List (List UInt8)) (g0 c0 n : Nat) (hn : now.length = n) (h1 : 1 ≤ n) (h60 : n ≤ 60) (hc0 : n ≤ c0) (hA : SCells W g0 now) (lv : Value) (l : List Wr) (hl : DeedAt w lv l) :
    Calls Tryz.prog 13 #[.slice (some ⟨g0, 0, none⟩) n c0, lv] W fun e w' => ∃ g cap, e = .returned (.slice (some ⟨g, 0, none⟩) n cap) ∧ w.heap.size ≤ g ∧ n ≤ cap ∧ SCells w' g (behindL now l) ∧ JK w w' (fun q => K q ∨ q = g) p b jb J ∧ KeptK K W w' := by
  refine (behind_any W g0 c0 n now hn h1 h60 hc0 hA lv l (hl.later h.lj)).mono ?_
  rintro e w' ⟨g, cap, rfl, ho, hlj⟩
  obtain ⟨hg, hg'⟩ := ho.lt g rfl
  have hs := Below.size h.lj
  have hcap : n ≤ cap := by
    rcases ho.2 with ⟨e, _⟩ | ⟨_, _, _, e, _, _, hc, _⟩
    · cases e
    · injection e with e1 e2 e3
      omega
  exact ⟨g, cap, rfl, by omega, hcap, own_cells ho, h.add hlj hg hg', KeptK.later h hlj⟩
end Go.Proofs.YtjgkhdanhglgeaaGreatDoor
