/- Jg17, merged: J62 J63 J64. -/
import Derived.Test.YtfpbocjmlhcgiaaGreatDoorJg16
import Derived.Test.YtfpbocjmlhcgiaaGreatDoorJ61
set_option linter.unusedSimpArgs false
set_option linter.unusedVariables false
/- The journal's finds: the head that counts. -/
namespace Go.Proofs.YtfpbocjmlhcgiaaGreatDoor
open Go.RowKit PJ Go.Maps

theorem trim_zeros : ∀ (l : List UInt8), (∀ c ∈ l, c = 0) → Lib.trimB l 0 = [] := by
  intro l h
  have h1 : ∀ l : List UInt8, (∀ c ∈ l, c = 0) → l.dropWhile (· == 0) = [] := by
    intro l h
    induction l with
    | nil => rfl
    | cons x r ih =>
      rw [List.dropWhile_cons, h x (List.mem_cons_self ..), if_pos (by decide)]
      exact ih (fun c hc => h c (List.mem_cons_of_mem _ hc))
  unfold Lib.trimB Lib.trimLeftB Lib.trimRightB
  rw [h1 l.reverse (fun c hc => h c (List.mem_reverse.1 hc))]
  rfl
set_option maxRecDepth 100000 in
theorem blank_any (s : ByteArray) (w : World) (hs : s.size ≤ 200) (hz : ∀ c ∈ s.data.toList, c = 0) :
    Calls Tryz.prog 224 #[.string s] w fun e w' => e = .returned (.bool true) ∧ ∃ n, w' = w.drewN n := by
  have ht : Calls Tryz.prog 130 #[.string s, .string ⟨#[0]⟩] w fun e w' => e = .returned (.string ⟨#[]⟩) ∧ ∃ n, w' = w.drewN n := by
    refine (Any.strings_Trim_one Tryz.lays160 s 0 (by decide) w (by omega)).mono ?_
    rintro e w' ⟨rfl, h⟩
    refine ⟨by rw [trim_zeros _ hz], ?_⟩
    rcases h with rfl | rfl
    · exact ⟨0, rfl⟩
    · exact ⟨1, rfl⟩
  have HT := Lib.hid ht
  clear ht hz
  go_enter Tryz.func224, Tryz.ntmps224
  go_wp2_with (first
    | (go_at_call 130; (with_reducible refine HT.out.mono ?_); rintro e w1 ⟨rfl, nq, rfl⟩)
    | fail)
  go_ret
  exact ⟨rfl, nq, rfl⟩
theorem jread_at (w : World) (a : JA) (F : Nat → Prop) (V S : View) (dt : Bool) (head first next at' : Nat) (C : Cells) (h : JC w a F V S dt head first next at' C) (i : Nat) (hi : i < a.n) (d : List UInt8) (st : Nat) (hv : V i = blk d st) (hd : d.length ≤ 116) (hst : st ≤ 4611686018427387904) :
    Calls Tryz.prog 125 #[.pointer (some ⟨a.b, 0, none⟩), .int .i64 i] w fun e w' => e = .returned (.tuple #[.string ⟨(padT d 116).toArray⟩, .int .i64 st, .int .i64 0]) ∧
      JC w' a (grow F w w') V S dt head first next at' C ∧ OnlyJ a.R w w' := by
  have := parse_block sumN sumN_lt hd hst
  rw [show blockT sumN d st = blk d st from rfl, ← hv] at this
  exact jread_dev w a F V S dt head first next at' C h w (LJ.refl w) i hi _ st this
theorem JC.drewN {w : World} {a : JA} {F : Nat → Prop} {V S : View} {dt : Bool} {head first next at' : Nat} {C : Cells} (h : JC w a F V S dt head first next at' C) (n : Nat) : JC (w.drewN n) a F V S dt head first next at' C := h.later ((LJ.refl w).drewN n)
def HeadsSay (V : View) (G : Nat → Nat × Nat) : Prop :=
  G 0 = (0, 0) ∧ (∀ i, i < 2 → (V i = blk [] 0 ∧ G (i + 1) = G i) ∨ ∃ f st, V i = blk (be f 8) st ∧ 1 ≤ f ∧ f ≤ 4611686018427387904 ∧ 2 ≤ st ∧ st ≤ 4611686018427387904 ∧ st % 2 = i ∧ G (i + 1) = if (G i).1 < st then (st, f) else G i) ∧ 0 < (G 2).1
set_option maxRecDepth 100000 in
set_option maxHeartbeats 2000000 in
theorem finds_any (w : World) (a : JA) (F : Nat → Prop) (V S : View) (dt : Bool) (next at' : Nat) (C : Cells) (h : JC w a F V S dt 0 0 next at' C) (hn2 : 2 ≤ a.n) (G : Nat → Nat × Nat) (hG : HeadsSay V G) :
    Calls Tryz.prog 199 #[.pointer (some ⟨a.jb, 0, none⟩)] w fun e w' => e = .returned (.bool true) ∧ JC w' a (grow F w w') V S dt (G 2).1 (G 2).2 next at' C ∧ OnlyJ a.R w w' := by
  obtain ⟨G0, GS, GP⟩ := hG
  have HH := Lib.hid h
  have HLT := Lib.hid h.dev.lt
  have HGS := Lib.hid GS
  have HG0 := Lib.hid G0
  clear h GS G0
  go_enter Tryz.func199, Tryz.ntmps199
  go_wp2_with fail
  go_loopw [8] (fun v8 wr => ∃ i : Nat, i ≤ 2 ∧ v8 = .int .i64 (i : Int) ∧ Hid (JC wr a (grow F w wr) V S dt (G i).1 (G i).2 next at' C) ∧ Hid (OnlyJ a.R w wr)) (fun v8 _ => 2 - (intOf v8).toNat)
  case atStart =>
    refine ⟨0, by omega, rfl, Lib.hid ?_, Lib.hid (OnlyJ.of_below (LJ.refl w))⟩
    rw [HG0.out]
    exact HH.out.wide grow_sub (grow_lt HLT.out (Nat.le_refl _))
  case round =>
    obtain ⟨i, hi, rfl, HJ, HO⟩ := hrel
    have hsr := HO.out.size
    by_cases hlt : i < 2
    · have c0 : wr.cell? ⟨a.jb, 0, none⟩ = some (.pointer (some ⟨a.b, 0, none⟩)) := cell_blk HJ.out.cells 0
      rcases HGS.out i hlt with ⟨hv, hg⟩ | ⟨f, st, hv, hf1, hf2, hs1, hs2, hs3, hg⟩
      · have HRD := Lib.hid (show Calls Tryz.prog 125 #[.pointer (some ⟨a.b, 0, none⟩), .int .i64 i] wr fun e w' => e = .returned (.tuple #[.string ⟨(padT [] 116).toArray⟩, .int .i64 0, .int .i64 0]) ∧
            JC w' a (grow (grow F w wr) wr w') V S dt (G i).1 (G i).2 next at' C ∧ OnlyJ a.R wr w' from
          jread_at wr a _ V S dt _ _ next at' C HJ.out i (by omega) [] 0 hv (by simp) (by omega))
        obtain ⟨D, hD⟩ : ∃ D : ByteArray, (⟨(padT [] 116).toArray⟩ : ByteArray) = D := ⟨_, rfl⟩
        rw [hD] at HRD
        have HG := Lib.hid hg
        clear hv hg hD
        go_wp2_with (first
          | (go_at_call 125; (with_reducible refine HRD.out.mono ?_); rintro e w5 ⟨rfl, hj5, ho5⟩; have HJ5 := Lib.hid hj5; have HO5 := Lib.hid ho5; clear hj5 ho5)
          | fail)
        go_roundw
        case rel =>
          refine ⟨i + 1, by omega, by simp, Lib.hid ?_, Lib.hid (HO.out.trans HO5.out)⟩
          rw [HG.out]
          exact JC.comp HJ5.out hsr HO5.out.size HLT.out
        case measure => simp [intOf]; omega
      · have HRD := Lib.hid (jread_at wr a _ V S dt _ _ next at' C HJ.out i (by omega) (be f 8) st hv (by rw [be_len]; omega) hs2)
        obtain ⟨D, hD⟩ : ∃ D : ByteArray, (⟨(padT (be f 8) 116).toArray⟩ : ByteArray) = D := ⟨_, rfl⟩
        rw [hD] at HRD
        have hDd : D.data.toList = padT (be f 8) 116 := by rw [← hD]
        have hDs : D.size = 116 := by
          have : D.data.toList.length = 116 := by rw [hDd, pad_len (by rw [be_len]; omega)]
          rw [← this, Array.length_toList]; rfl
        have hDl : D.data.toList = be f 8 ++ List.replicate 108 0 := by rw [hDd, padT, be_len]
        obtain ⟨TL, hTL⟩ : ∃ TL : ByteArray, D.extract 8 116 = TL := ⟨_, rfl⟩
        obtain ⟨HD, hHD⟩ : ∃ HD : ByteArray, D.extract 0 8 = HD := ⟨_, rfl⟩
        have hTd : TL.data.toList = List.replicate 108 0 := by rw [← hTL, ex_list, hDl, List.drop_left' (be_len _ _)]; simp
        have hHd : HD.data.toList = be f 8 := by rw [← hHD, ex_list, hDl, List.drop_zero, List.take_left' (be_len _ _)]
        have hTs : TL.size ≤ 200 := by
          have : TL.data.toList.length = 108 := by rw [hTd]; simp
          rw [Array.length_toList] at this
          have h2 : TL.size = TL.data.size := rfl
          omega
        have hHs : HD.size ≤ 8 := by
          have : HD.data.toList.length = 8 := by rw [hHd, be_len]
          rw [Array.length_toList] at this
          have h2 : HD.size = HD.data.size := rfl
          omega
        have HBL := Lib.hid (fun W => blank_any TL W hTs (by rw [hTd]; intro c hc; exact List.eq_of_mem_replicate hc))
        have hof := fun W => jof_any HD W hHs
        rw [hHd, ofL_be_lt (k := 8) (Nat.lt_of_le_of_lt hf2 (by decide))] at hof
        have HOF := Lib.hid hof
        have hb8 : (8 : Int) ≤ (D.size : Int) := by omega
        have g1 : ¬ (st : Int) < 2 := by omega
        have g1' : decide ((st : Int) < 2) = false := by simp; omega
        have g2 : (st : Int).tmod 2 = (i : Int) := by rw [Int.tmod_eq_emod_of_nonneg (by omega)]; omega
        have g3 : decide ((1 : Int) ≤ (f : Int)) = true := by simp; omega
        have g4 : decide ((f : Int) ≤ 4611686018427387904) = true := by simp; omega
        have hwf : IntKind.i64.wrap (f : Int) = (f : Int) := by rw [IntKind.wrap_i64]; omega
        have HF2 := Lib.hid hf2
        have HS2 := Lib.hid hs2
        have HG := Lib.hid hg
        obtain ⟨hd, hhd⟩ : ∃ hd, (G i).1 = hd := ⟨_, rfl⟩
        obtain ⟨fs, hfs⟩ : ∃ fs, (G i).2 = fs := ⟨_, rfl⟩
        rw [hhd, hfs] at HRD
        have hg2 : G (i + 1) = if hd < st then (st, f) else (hd, fs) := by rw [hg, hhd, ← hfs, ← hhd]
        have HG2 := Lib.hid hg2
        clear hv hg hg2 hD hDd hDl hTd hHd hof hf2 hs2 hhd hfs HG
        by_cases hup : hd < st
        · rw [if_pos hup] at HG2
          have g5 : decide ((hd : Int) < (st : Int)) = true := by simp; omega
          have g5' : decide (hd < st) = true := by simp; omega
          go_wp2_with (first
            | (go_at_call 125; (with_reducible refine HRD.out.mono ?_); rintro e w5 ⟨rfl, hj5, ho5⟩
               have c2 : ∀ n, (w5.drewN n).cell? ⟨a.jb, 2, none⟩ = some (.int .i64 (hd : Int)) := fun n => cell_blk hj5.cells 2
               have c3 : ∀ n, (w5.drewN n).cell? ⟨a.jb, 3, none⟩ = some (.int .i64 (fs : Int)) := fun n => cell_blk hj5.cells 3
               have k2 : ∀ n, (w5.drewN n).frozen? ⟨a.jb, 2, none⟩ = false := fun n => free_blk hj5.cells 2
               have k3 : ∀ n, (w5.drewN n).frozen? ⟨a.jb, 3, none⟩ = false := fun n => free_blk hj5.cells 3
               have HJ5 := Lib.hid hj5; have HO5 := Lib.hid ho5; clear hj5 ho5)
            | (go_at_call 224; (with_reducible refine (HBL.out _).mono ?_); rintro e w1 ⟨rfl, nq, rfl⟩)
            | (go_at_call 225; (with_reducible refine (HOF.out _).mono ?_); rintro e wm ⟨rfl, hwm⟩; subst hwm)
            | fail)
          go_roundw
          case rel =>
            have h2 := JC.two (w0 := w) (w := w5.drewN nq) ((JC.comp HJ5.out hsr HO5.out.size HLT.out).drewN nq) ((HO.out.trans HO5.out).drewN nq) st f
            refine ⟨i + 1, by omega, by simp, Lib.hid ?_, Lib.hid ?_⟩
            · rw [HG2.out]
              exact h2.1
            · exact h2.2
          case measure => simp [intOf]; omega
        · rw [if_neg hup] at HG2
          have g5 : decide ((hd : Int) < (st : Int)) = false := by simp; omega
          have g5' : decide (hd < st) = false := by simp; omega
          go_wp2_with (first
            | (go_at_call 125; (with_reducible refine HRD.out.mono ?_); rintro e w5 ⟨rfl, hj5, ho5⟩
               have c2 : ∀ n, (w5.drewN n).cell? ⟨a.jb, 2, none⟩ = some (.int .i64 (hd : Int)) := fun n => cell_blk hj5.cells 2
               have HJ5 := Lib.hid hj5; have HO5 := Lib.hid ho5; clear hj5 ho5)
            | (go_at_call 224; (with_reducible refine (HBL.out _).mono ?_); rintro e w1 ⟨rfl, nq, rfl⟩)
            | (go_at_call 225; (with_reducible refine (HOF.out _).mono ?_); rintro e wm ⟨rfl, hwm⟩; subst hwm)
            | fail)
          go_roundw
          case rel =>
            refine ⟨i + 1, by omega, by simp, Lib.hid ?_, Lib.hid ?_⟩
            · rw [HG2.out]
              exact (JC.comp HJ5.out hsr HO5.out.size HLT.out).drewN _
            · exact (HO.out.trans HO5.out).drewN _
          case measure => simp [intOf]; omega
    · have hie : i = 2 := by omega
      subst hie
      have c2 : wr.cell? ⟨a.jb, 2, none⟩ = some (.int .i64 ((G 2).1 : Int)) := cell_blk HJ.out.cells 2
      have g : decide (0 < (G 2).1) = true := by simp; omega
      have HJJ := HJ
      obtain ⟨hh, hhe⟩ : ∃ hh : Nat, (G 2).1 = hh := ⟨_, rfl⟩
      rw [hhe] at c2 g HJJ
      go_wp2_with fail
      go_ret
      exact ⟨rfl, HJ.out, HO.out⟩
end Go.Proofs.YtfpbocjmlhcgiaaGreatDoor
/- The journal's Open, where no record counts. -/
namespace Go.Proofs.YtfpbocjmlhcgiaaGreatDoor
open Go.RowKit PJ Go.Maps

theorem heads_ok {J : Jn} (h : J.OK) (hf : J.first ≤ 4611686018427387904) (hh : J.head ≤ 4611686018427387904) : ∃ G, HeadsSay J.V G ∧ G 2 = (J.head, J.first) := by
  have h2 := h.head2
  have hf1 := h.first1
  rcases Nat.mod_two_eq_zero_or_one J.head with e | e
  · have hV := h.headV
    have hO := h.other
    rw [e] at hV
    rw [show (J.head + 1) % 2 = 1 from by omega] at hO
    refine ⟨fun i => if i = 0 then (0, 0) else (J.head, J.first), ⟨rfl, fun i hi => ?_, by show 0 < J.head; omega⟩, rfl⟩
    by_cases h0 : i = 0
    · subst h0
      exact .inr ⟨J.first, J.head, hV, hf1, hf, h2, hh, e, by show (J.head, J.first) = if 0 < J.head then _ else _; rw [if_pos (by omega)]⟩
    · have h1 : i = 1 := by omega
      subst h1
      rcases hO with hO | ⟨f, hO, g1, g2, g3⟩
      · exact .inl ⟨hO, rfl⟩
      · exact .inr ⟨f, J.head - 1, hO, g1, g2, by omega, by omega, by omega, by show (J.head, J.first) = if J.head < J.head - 1 then _ else (J.head, J.first); rw [if_neg (by omega)]⟩
  · have hV := h.headV
    have hO := h.other
    rw [e] at hV
    rw [show (J.head + 1) % 2 = 0 from by omega] at hO
    rcases hO with hO | ⟨f, hO, g1, g2, g3⟩
    · refine ⟨fun i => if i < 2 then (0, 0) else (J.head, J.first), ⟨rfl, fun i hi => ?_, by show 0 < J.head; omega⟩, rfl⟩
      by_cases h0 : i = 0
      · subst h0
        exact .inl ⟨hO, rfl⟩
      · have h1 : i = 1 := by omega
        subst h1
        exact .inr ⟨J.first, J.head, hV, hf1, hf, h2, hh, e, by show (J.head, J.first) = if 0 < J.head then _ else _; rw [if_pos (by omega)]⟩
    · refine ⟨fun i => if i = 0 then (0, 0) else if i = 1 then (J.head - 1, f) else (J.head, J.first), ⟨rfl, fun i hi => ?_, by show 0 < J.head; omega⟩, rfl⟩
      by_cases h0 : i = 0
      · subst h0
        exact .inr ⟨f, J.head - 1, hO, g1, g2, by omega, by omega, by omega, by show (J.head - 1, f) = if 0 < J.head - 1 then _ else _; rw [if_pos (by omega)]⟩
      · have h1 : i = 1 := by omega
        subst h1
        exact .inr ⟨J.first, J.head, hV, hf1, hf, h2, hh, e, by show (J.head, J.first) = if J.head - 1 < J.head then _ else _; rw [if_pos (by omega)]⟩
theorem stampOf_blk {d : List UInt8} (hd : d.length ≤ 116) {st : Nat} (hst : st ≤ 4611686018427387904) : stampOf (blk d st) = st := by
  unfold stampOf
  rw [show blk d st = blockT sumN d st from rfl, block_stamp sumN hd, ofL_be_lt (k := 8) (Nat.lt_of_le_of_lt hst (by decide))]
theorem bstamp_at (w : World) (p g mb b n cached : Nat) (R F : Nat → Prop) (V S : View) (dt : Bool) (h : DevAt w p g mb b n cached R F V S dt) (i : Nat) (hi : i < n) (d : List UInt8) (st : Nat) (hv : V i = blk d st) (hd : d.length ≤ 116) (hst : st ≤ 4611686018427387904) :
    Calls Tryz.prog 198 #[.pointer (some ⟨b, 0, none⟩), .int .i64 i] w fun e w' => e = .returned (.tuple #[.int .i64 (st : Int), .int .i64 0]) ∧ LJ w w' := by
  obtain ⟨safe, U, cv, misses, xs, h⟩ := h
  have hs : secT safe U (0 + i) = blk d st := by rw [Nat.zero_add, (h.views i hi).1, hv]
  have := bstamp_any w p g mb n safe U h.disk b 0 n cached misses cv h.cells (by omega) i hi (by rw [hs]; exact block_len sumN hd st) (by rw [hs, stampOf_blk hd hst]; exact hst)
  rw [hs, stampOf_blk hd hst] at this
  exact this
set_option maxRecDepth 100000 in
set_option maxHeartbeats 2000000 in
theorem open_any (w : World) (p g mb b n cached : Nat) (R F : Nat → Prop) (J : Jn) (h : DevAt w p g mb b n cached R F J.V J.V false) (hok : J.OK) (hn : n = J.n) (hfn : J.first = J.next) (hf2 : J.first ≤ 4611686018427387904) (hh2 : J.head ≤ 4611686018427387904) :
    Calls Tryz.prog 143 #[.pointer (some ⟨b, 0, none⟩), .int .i64 J.area] w fun e w' => ∃ jb, e = .returned (.tuple #[.pointer (some ⟨jb, 0, none⟩), .int .i64 0]) ∧ JAt w' p b jb (grow F w w') { J with S := J.V } ∧ OnlyJ F w w' := by
  subst hn
  have hmm := @run_makeMap Tryz.prog
  have hn12 := hok.n12
  have h4 := hok.area4
  have han := hok.arean
  obtain ⟨G, hG, hG2⟩ := heads_ok hok hf2 hh2
  obtain ⟨d0, st0, hv0, hd0, hs0⟩ := hok.good 0 (by omega)
  have HST0 := Lib.hid (show Calls Tryz.prog 198 #[.pointer (some ⟨b, 0, none⟩), .int .i64 0] w fun e w' => e = .returned (.tuple #[.int .i64 (st0 : Int), .int .i64 0]) ∧ LJ w w' from
    bstamp_at w p g mb b J.n cached R F _ _ _ h 0 (by omega) d0 st0 hv0 hd0 hs0)
  have HH := Lib.hid h
  have HOK := Lib.hid hok
  have HG := Lib.hid hG
  have HG2 := Lib.hid hG2
  have HHF := Lib.hid (And.intro hf2 hh2)
  have HFN := Lib.hid hfn
  clear h hok hG hG2 hf2 hh2 hfn hv0 hd0 hs0
  go_enter Tryz.func143, Tryz.ntmps143
  go_upto_region 4 with (first
    | (go_at_call 198; (with_reducible refine HST0.out.mono ?_); rintro e w1 ⟨rfl, hl1⟩; have HL1 := Lib.hid hl1; clear hl1)
    | fail)
  obtain ⟨area, har⟩ : ∃ area, J.area = area := ⟨_, rfl⟩
  rw [har] at h4 han ⊢
  have HAR := Lib.hid har
  clear har
  obtain ⟨wm, hwm⟩ : ∃ wm, w1.alloc (.map #[] 0) = wm := ⟨_, rfl⟩
  obtain ⟨w3, hw3⟩ : ∃ w3, wm.alloc (.cells (jCells b area 0 0 0 2 w1.heap.size) 108) = w3 := ⟨_, rfl⟩
  obtain ⟨w4, hw4⟩ : ∃ w4, w3.alloc (.cells #[.pointer (some ⟨w1.heap.size + 1, 0, none⟩)] 34) = w4 := ⟨_, rfl⟩
  have hzm : wm.heap.size = w1.heap.size + 1 := by rw [← hwm, World.size_alloc]
  have hz3 : w3.heap.size = w1.heap.size + 1 + 1 := by rw [← hw3, World.size_alloc, hzm]
  have hz4 : w4.heap.size = w1.heap.size + 1 + 1 + 1 := by rw [← hw4, World.size_alloc, hz3]
  have hl13 : LJ w1 w3 := by rw [← hw3, ← hwm]; exact ((LJ.refl w1).alloc _).alloc _
  have hl34 : LJ w3 w4 := by rw [← hw4]; exact (LJ.refl w3).alloc _
  have hl04 : LJ w w4 := HL1.out.trans (hl13.trans hl34)
  have hs01 := Below.size HL1.out
  have hcm : CellsAt w4 w1.heap.size (J.n - area) (fun _ => none) := by
    have h1 := CellsAt.made w1 (J.n - area)
    refine h1.kept ?_
    rw [← hw4, Below.heap_alloc _ _ _ (by omega), ← hw3, hwm, Below.heap_alloc _ _ _ (by omega)]
  have hcj : w4.heap[w1.heap.size + 1]? = some (.cells (jCells b area 0 0 0 2 w1.heap.size) 108 (0, 0)) := by
    have h1 := alloc_blk wm (.cells (jCells b area 0 0 0 2 w1.heap.size) 108)
    rw [hzm, hw3] at h1
    exact hl34.block h1
  have hjc := JC.lay0 HH.out hl04 (w1.heap.size + 1) w1.heap.size area 0 0 0 2 (by omega) (by omega) (by omega) (by omega) (by omega) hcj hcm
  have y8 : w4.cell? ⟨w1.heap.size + 1 + 1, 0, none⟩ = some (.pointer (some ⟨w1.heap.size + 1, 0, none⟩)) := by
    have h1 := alloc_blk w3 (.cells #[.pointer (some ⟨w1.heap.size + 1, 0, none⟩)] 34)
    rw [hz3, hw4] at h1
    exact cell_blk h1 0
  have hlt := HH.out.lt
  obtain ⟨a, ha⟩ : ∃ a : JA, a = ⟨p, g, mb, b, w1.heap.size + 1, w1.heap.size, J.n, cached, area⟩ := ⟨_, rfl⟩
  rw [← ha] at hjc
  have hajb : a.jb = w1.heap.size + 1 := by rw [ha]
  have han' : a.n = J.n := by rw [ha]
  have hF := finds_any w4 a _ _ _ _ 0 2 _ hjc (by omega) G HG.out
  rw [hajb] at hF
  have HF := Lib.hid hF
  have hb' : (decide ((4 : Int) ≤ (area : Int)) && decide ((area : Int) < (J.n : Int))) = true := by
    rw [Bool.and_eq_true, decide_eq_true_eq, decide_eq_true_eq]
    omega
  have hf := fits_any w4 a.p a.g a.mb a.b a.n a.cached a.R _ _ _ _ hjc.dev (area : Int)
  rw [han', hb', show a.b = b from by rw [ha]] at hf
  have HFT := Lib.hid hf
  have HJC := Lib.hid hjc
  have HL04 := Lib.hid hl04
  have hmk := hmm 100 w1
  rw [hwm] at hmk
  have hjs : jCells b area 0 0 0 2 w1.heap.size = #[.pointer (some ⟨b, 0, none⟩), .int .i64 area, .int .i64 0, .int .i64 0, .int .i64 0, .int .i64 2, .map (some w1.heap.size), .bool false] := rfl
  rw [hjs] at hw3
  have HW3 := Lib.hid hw3
  have HW4 := Lib.hid hw4
  have HZM := Lib.hid hzm
  have HZ3 := Lib.hid hz3
  have HZ4 := Lib.hid hz4
  have HY8 := Lib.hid y8
  have HA := Lib.hid ha
  have HAJ := Lib.hid hajb
  have HAN := Lib.hid han'
  have HLT := Lib.hid hlt
  clear hF hf hjc hl04 hw3 hw4 hzm hz3 hz4 y8 ha hajb han' hlt hjs hwm hb' hmm hcm hcj hl13 hl34
  go_upto_region 5 with fail
  rw [HW3.out, HZM.out, HW4.out]
  have y8 := HY8.out
  go_upto_region 7 with (first
    | (go_at_call 53; (with_reducible refine HFT.out.mono ?_); rintro e w2 ⟨rfl, hw2⟩; subst hw2)
    | (go_at_call 199; (with_reducible refine HF.out.mono ?_); rintro e w5 ⟨rfl, hj5, ho5⟩; have HJ5 := Lib.hid hj5; have HO5 := Lib.hid ho5; clear hj5 ho5)
    | fail)
  go_upto_region 8 with fail
  obtain ⟨w6, hw6⟩ : ∃ w6, w5.alloc (.cells #[.int .i64 0] 3) = w6 := ⟨_, rfl⟩
  rw [hw6]
  have hl56 : LJ w5 w6 := by rw [← hw6]; exact (LJ.refl w5).alloc _
  have hb9 : w6.heap[w5.heap.size]? = some (.cells #[.int .i64 0] 3 (0, 0)) := by rw [← hw6]; exact alloc_blk w5 _
  obtain ⟨q9, hq9⟩ : ∃ q9, w5.heap.size = q9 := ⟨_, rfl⟩
  rw [hq9] at hb9 ⊢
  have HB9 := Lib.hid hb9
  have HQ9 := Lib.hid hq9
  have HL56 := Lib.hid hl56
  clear hw6 hl56 hb9 hq9
  go_wp2_with fail
  go_loopw [10] (fun v10 wr => ∃ i m : Nat, 2 ≤ i ∧ i ≤ area ∧ v10 = .int .i64 (i : Int) ∧ Hid (m < J.first) ∧ Hid (wr.heap[q9]? = some (.cells #[.int .i64 m] 3 (0, 0))) ∧ Hid (OnlyJ (fun q => q = q9) w6 wr)) (fun v10 _ => area - (intOf v10).toNat)
  case atStart => exact ⟨2, 0, by omega, by omega, rfl, Lib.hid (by have := HOK.out.first1; omega), HB9, Lib.hid (OnlyJ.of_below (LJ.refl _))⟩
  case round =>
    obtain ⟨i, m, hi2, hia, rfl, HM, HBR, HO⟩ := hrel
    have k9 : wr.cell? ⟨q9, 0, none⟩ = some (.int .i64 (m : Int)) := cell_blk HBR.out 0
    have f9 := free_blk HBR.out 0
    have h5q := HQ9.out
    have hs56 := Below.size HL56.out
    have hs6r := HO.out.size
    have hbr : ∀ k, k < w5.heap.size → wr.heap[k]? = w5.heap[k]? := fun k hk => (HO.out.block k (by omega) (by show k ≠ q9; omega)).trans (Below.block HL56.out k hk)
    have hjr := HJ5.out.kept (w' := wr) (by omega) (fun k hk => hbr k (HJ5.out.dev.lt k hk)) (fun _ h => h) (fun q hq => by have := HJ5.out.dev.lt q hq; omega)
    have HJR := Lib.hid hjr
    have HBRR := Lib.hid hbr
    clear hjr hbr h5q hs56
    by_cases hlt : i < area
    · obtain ⟨d, st, hv, hd, hst, hst2⟩ := HOK.out.stamps i hi2 (by rw [HAR.out]; exact hlt)
      have hs := bstamp_at wr _ _ _ _ _ _ _ _ _ _ _ HJR.out.dev i (by rw [HAN.out]; omega) d st hv hd hst2
      rw [show a.b = b from by rw [HA.out]] at hs
      have HST := Lib.hid hs
      have HS1 := Lib.hid hst
      clear hs hst hst2 hv hd
      go_wp2_with (first
        | (go_at_call 198; (with_reducible refine HST.out.mono ?_); rintro e w7 ⟨rfl, hl7⟩
           have k7 : w7.cell? ⟨q9, 0, none⟩ = some (.int .i64 (m : Int)) := cell_blk (hl7.block HBR.out) 0
           have f7 := free_blk (hl7.block HBR.out) 0
           have HL7 := Lib.hid hl7
           clear hl7)
        | fail)
      go_roundw
      case rel =>
        have e : max (m : Int) (st : Int) = ((max m st : Nat) : Int) := by omega
        rw [e]
        refine ⟨i + 1, max m st, by omega, by omega, by simp, Lib.hid ?_, Lib.hid ?_, Lib.hid ?_⟩
        · have h1 := HM.out
          have h2 := HS1.out
          have h3 := HFN.out
          omega
        · exact heap_setCell_same _ _ 0 _ _ _ (HL7.out.block HBR.out)
        · exact HO.out.trans ((OnlyJ.of_below HL7.out).trans (setCell_only _ _ _ _))
      case measure => simp [intOf]; omega
    · have hie : i = area := by omega
      subst hie
      have hjr := HJR.out
      have e2 : (G 2).1 = J.head := by rw [HG2.out]
      have e3 : (G 2).2 = J.first := by rw [HG2.out]
      rw [e2, e3] at hjr
      have h5w : w1.heap.size + 1 + 1 < w5.heap.size := by have := HO5.out.size; have := HZ4.out; omega
      have h4w : w1.heap.size + 1 + 1 < w4.heap.size := by have := HZ4.out; omega
      have hR : ¬ a.R (w1.heap.size + 1 + 1) := by
        have hs01 := Below.size HL1.out
        obtain ⟨z1, z2, z3, z4⟩ := HH.out.Rs
        have hs := HH.out.sub
        have l1 := HLT.out _ (hs _ z1)
        have l2 := HLT.out _ (hs _ z2)
        have l3 := HLT.out _ (hs _ z3)
        have l4 := HLT.out _ (hs _ z4)
        rw [HA.out]
        rintro (e | e | e | e | e | e) <;> simp only at e <;> omega
      have r8 : wr.cell? ⟨w1.heap.size + 1 + 1, 0, none⟩ = some (.pointer (some ⟨w1.heap.size + 1, 0, none⟩)) :=
        ((World.cell?_of_block (a := ⟨w1.heap.size + 1 + 1, 0, none⟩) (HBRR.out _ h5w)).trans (World.cell?_of_block (a := ⟨w1.heap.size + 1 + 1, 0, none⟩) (HO5.out.block (w1.heap.size + 1 + 1) h4w hR))).trans HY8.out
      have hcl := hjr.cells
      rw [HAJ.out] at hcl
      have r3 : wr.cell? ⟨w1.heap.size + 1, 3, none⟩ = some (.int .i64 (J.first : Int)) := cell_blk hcl 3
      have r4 : wr.cell? ⟨w1.heap.size + 1, 4, none⟩ = some (.int .i64 ((0 : Nat) : Int)) := cell_blk hcl 4
      have t4 := free_blk hcl 4
      have hmlt : decide ((m : Int) < (J.first : Int)) = true := by have := HM.out; simp; omega
      have hmlt2 : (m : Int) < (J.first : Int) := by have := HM.out; omega
      have HJ2 := Lib.hid hjr
      clear hjr hcl
      go_wp2_with fail
      go_region
      all_goals
        go_wp2_with fail
        obtain ⟨w8, hw8⟩ : ∃ w8, wr.setCell ⟨w1.heap.size + 1, 4, none⟩ (.int .i64 (J.first : Int)) = w8 := ⟨_, rfl⟩
        rw [hw8]
        have o8 : OnlyJ (fun q => q = a.jb) wr w8 := by rw [← hw8, HAJ.out]; exact setCell_only _ _ _ _
        have j8 : JC w8 a _ J.V J.V false J.head J.first J.first 2 (fun _ => none) := HJ2.out.turn o8 (by
          rw [← hw8, HAJ.out]
          have h1 := HJ2.out.cells
          rw [HAJ.out] at h1
          exact heap_setCell_same _ _ 4 _ _ _ h1)
        have c8 : w8.drew.cell? ⟨w1.heap.size + 1 + 1, 0, none⟩ = some (.pointer (some ⟨w1.heap.size + 1, 0, none⟩)) := (show w8.cell? ⟨w1.heap.size + 1 + 1, 0, none⟩ = _ from (World.cell?_of_block (a := ⟨w1.heap.size + 1 + 1, 0, none⟩) (o8.block (w1.heap.size + 1 + 1) (World.block_lt_of_cell? _ _ r8) (by show w1.heap.size + 1 + 1 ≠ a.jb; rw [HAJ.out]; omega))).trans r8)
        have c3 : w8.drew.cell? ⟨w1.heap.size + 1, 3, none⟩ = some (.int .i64 (J.first : Int)) := by
          have h1 := j8.cells
          rw [HAJ.out] at h1
          exact (show w8.cell? ⟨w1.heap.size + 1, 3, none⟩ = _ from cell_blk h1 3)
        have c9 : w8.drew.cell? ⟨q9, 0, none⟩ = some (.int .i64 (m : Int)) := (show w8.cell? ⟨q9, 0, none⟩ = _ from (World.cell?_of_block (a := ⟨q9, 0, none⟩) (o8.block q9 (World.block_lt_of_cell? _ _ k9) (by show q9 ≠ a.jb; have := HQ9.out; have := HO5.out.size; have := HZ4.out; rw [HAJ.out]; omega))).trans k9)
        have J8 := Lib.hid j8
        have O8 := Lib.hid o8
        clear hw8 j8 o8
        go_region
        all_goals
          go_wp2_with fail
          go_ret2
          have hs01 := Below.size HL1.out
          have z4 := HZ4.out
          have s5 := HO5.out.size
          have s6 := Below.size HL56.out
          have s8 := O8.out.size
          have ha2 := HA.out
          obtain ⟨hat, hC⟩ := HOK.out.clean HFN.out
          refine ⟨w1.heap.size + 1, rfl, ⟨a, by rw [ha2], by rw [ha2], by rw [ha2], HAN.out, by rw [ha2]; exact HAR.out.symm, false, ?_, ?_, fun _ => rfl⟩, ?_⟩
          · show JC _ a _ J.V J.V false J.head J.first J.next J.at' J.C
            rw [hat, ← HFN.out, show J.C = fun _ => none from funext hC]
            refine (J8.out.drew).drew.wide ?_ (grow_lt HLT.out (by show w.heap.size ≤ w8.heap.size; omega))
            rintro q ((e | e | e) | e)
            · exact .inl e
            · exact .inr ⟨by omega, by show q < w8.heap.size; omega⟩
            · exact .inr ⟨by omega, by show q < w8.heap.size; omega⟩
            · exact .inr ⟨by omega, by show q < w8.heap.size; omega⟩
          · have h := HOK.out
            exact ⟨h.area4, h.arean, h.n12, h.cells, h.at2, h.atA, h.first1, h.fn, h.clean, h.full, h.good, h.stamps, h.head2, h.headV, h.other⟩
          · have o45 := HO5.out
            have o6r := HO.out
            refine ⟨?_, ?_, ?_, by show w.heap.size ≤ w8.heap.size; omega, fun q hq hne => ?_⟩
            · exact O8.out.os.trans (o6r.os.trans (HL56.out.os.trans (o45.os.trans HL04.out.os)))
            · exact O8.out.tape.trans (o6r.tape.trans (HL56.out.tape.trans (o45.tape.trans HL04.out.tape)))
            · exact O8.out.output.trans (o6r.output.trans (HL56.out.output.trans (o45.output.trans HL04.out.output)))
            · have q9' := HQ9.out
              have aj := HAJ.out
              refine (O8.out.block q (by omega) (by show q ≠ a.jb; omega)).trans ((HBRR.out q (by omega)).trans ((o45.block q (by omega) ?_).trans (Below.block HL04.out q hq)))
              rw [ha2]
              obtain ⟨z1, z2, z3, z4⟩ := HH.out.Rs
              have hs := HH.out.sub
              rintro (e | e | e | e | e | e)
              · subst e; exact hne (hs _ z1)
              · subst e; exact hne (hs _ z2)
              · subst e; exact hne (hs _ z3)
              · subst e; exact hne (hs _ z4)
              · simp only at e; omega
              · simp only at e; omega
end Go.Proofs.YtfpbocjmlhcgiaaGreatDoor
/- A journal opened again; Read where there is no cell. -/
namespace Go.Proofs.YtfpbocjmlhcgiaaGreatDoor
open Go.RowKit PJ Go.Maps

/-- Nothing unsafe: both views are one. -/
theorem JAt.same {w : World} {p b jb : Nat} {F : Nat → Prop} {J : Jn} (h : JAt w p b jb F J) (hf : J.first = J.next) : ∀ i, i < J.n → J.S i = J.V i := by
  obtain ⟨a, rfl, rfl, rfl, h4, h5, dt, hc, hok, hdt⟩ := h
  obtain ⟨safe, U, cv, misses, xs, hd⟩ := hc.dev
  intro i hi
  obtain ⟨h1, h2⟩ := hd.views i (by rw [h4]; exact hi)
  rw [← h1, ← h2]
  unfold secT safT
  rw [hd.clean (hdt hf) i]
  rfl
/-- A new device over a disk of which nothing is unsafe. -/
theorem DevAt.fresh {w w1 : World} {p g mb n cached : Nat} {safe : List UInt8} {F : Nat → Prop} {V : View} (h : DiskAt w p g mb n safe (fun _ => none)) (hl : LJ w w1) (hb : w1.heap[w.heap.size]? = some (.cells (devCells p 0 n cached (.slice none 0 0) 0) 105 (0, 0))) (hca : cached ≤ 16)
    (hV : ∀ i, i < n → safT safe i = V i) (hp : F p) (hg : F g) (hm : F mb) (hF : ∀ q, F q → q < w.heap.size) :
    DevAt w1 p g mb w.heap.size n cached (fun q => q = p ∨ q = g ∨ q = mb ∨ q = w.heap.size) (grow F w w1) V V false := by
  have lp := hF _ hp
  have lg := hF _ hg
  have lm := hF _ hm
  have hs := Below.size hl
  have lb := lt_blk hb
  refine ⟨safe, fun _ => none, .slice none 0 0, 0, [], h.later hl, hb, .inl ⟨rfl, rfl⟩, by simp, hca, (fun i s e => by cases e), fun i hi => ⟨?_, hV i hi⟩, fun _ _ => rfl, (fun k hk => by cases hk), ?_, grow_lt hF hs, .inl rfl, .inr (.inl rfl), .inr (.inr (.inl rfl)), .inr (.inr (.inr rfl)), by omega, by omega, by omega⟩
  · rw [← hV i hi]; rfl
  · rintro q (rfl | rfl | rfl | rfl)
    · exact .inl hp
    · exact .inl hg
    · exact .inl hm
    · exact .inr ⟨Nat.le_refl _, lb⟩
end Go.Proofs.YtfpbocjmlhcgiaaGreatDoor
