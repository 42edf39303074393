/- The walk of the document's reader's alternative. -/
import Derived.Test.YtjhclopdcbnmkaaGreatDoorQ11
import Derived.Test.YtjhclopdcbnmkaaGreatDoorR4
import Derived.Deep.AppendLies
set_option linter.unusedSimpArgs false
set_option linter.unusedVariables false
namespace Go.Proofs.YtjhclopdcbnmkaaGreatDoor
open Go.RowKit PX

theorem rpiece_any (w : World) (rb : Nat) (S : ByteArray) (i : Nat) (h : RefAt w rb S i false) (hs : S.size ≤ 1000) (A : Option (Rx × List UInt8))
    (hatom : ∀ w1, RefAt w1 rb S i false → Calls Tryz.prog 81 #[.pointer (some ⟨rb, 0, none⟩)] w1 fun e w2 => SaysRx rb S i w1 A e w2) :
    Calls Tryz.prog 54 #[.pointer (some ⟨rb, 0, none⟩)] w fun e w' => SaysRx rb S i w (pieceB A) e w' := by
  cases A with
  | none => exact rpiece_bad w rb S i h hs (.node 0 0 0 0 0 0 0 []) [] (atomGives_bad _ _ hatom)
  | some p =>
    obtain ⟨x, r⟩ := p
    have ha := atomGives_of hatom
    show Calls _ _ _ _ fun e w' => SaysRx rb S i w (sign x r) e w'
    cases h42 : starts 42 r with
    | true => exact rpiece_star w rb S i h hs x r ha h42
    | false =>
      cases h43 : starts 43 r with
      | true => exact rpiece_plus w rb S i h hs x r ha h42 h43
      | false =>
        cases h63 : starts 63 r with
        | true => exact rpiece_may w rb S i h hs x r ha h42 h43 h63
        | false =>
          cases h123 : starts 123 r with
          | true => exact rpiece_counts w rb S i h hs x r ha h42 h43 h63 h123
          | false => exact rpiece_none w rb S i h hs x r ha h42 h43 h63 h123

/-- What is known of the rows at the outer loop's head. -/
def OuterO (O : Option (Rx × List UInt8)) (F : Nat) (S : ByteArray) (lA : List RxA) (more bad : Bool) (j : Nat) : Prop :=
  (bad = true ∧ O = none) ∨ (bad = false ∧ more = true ∧ ∃ f, 3 * (rest S j).length + 1 ≤ f ∧ f ≤ F ∧ altR f (lA.map RxA.bare) [] (rest S j) = O) ∨ (bad = false ∧ more = false ∧ O = some (Rx.joined 2 (lA.map RxA.bare), rest S j))
/-- What is known of the row that is read. -/
def InnerO (O : Option (Rx × List UInt8)) (F : Nat) (S : ByteArray) (lA rowA : List RxA) (bad : Bool) (j : Nat) : Prop :=
  (bad = true ∧ O = none) ∨ (bad = false ∧ ∃ f, 3 * (rest S j).length + 1 ≤ f ∧ f ≤ F ∧ altR f (lA.map RxA.bare) (rowA.map RxA.bare) (rest S j) = O)
def RPieceOk (F rb : Nat) (S : ByteArray) : Prop := ∀ f', f' < F → ∀ w i, RefAt w rb S i false → i ≤ S.size → 3 * (rest S i).length ≤ f' → Calls Tryz.prog 54 #[.pointer (some ⟨rb, 0, none⟩)] w fun e w' => SaysRx rb S i w (pieceR f' (rest S i)) e w'
def moreOf : Value → Nat
  | .bool true => 1
  | _ => 0

theorem emptyRow {w : World} {g base : Nat} (h : w.heap[g]? = some (.cells #[] 26 (0, 0))) (hb : base ≤ g) : w.ownsRow base 26 8 (.slice (some ⟨g, 0, none⟩) 0 0) 0 [] :=
  ⟨rfl, .inr ⟨g, 0, #[], rfl, hb, h, Nat.le_refl _, by unfold maxLen; omega, rfl, rfl⟩⟩
theorem AltInv.empty {B : Nat} {w : World} {g : Nat} (h : w.heap[g]? = some (.cells #[] 26 (0, 0))) (hb : B ≤ g) : AltInv B w (.slice (some ⟨g, 0, none⟩) 0 0) (.slice none 0 0) [] [] :=
  ⟨emptyRow h hb, ⟨rfl, .inl ⟨rfl, rfl⟩⟩, (fun g _ h => by cases h), (fun X hX => by cases hX), (fun X hX => by cases hX)⟩
theorem AltInv.fresh {B : Nat} {w : World} {v1 : Value} {l1 : List RxA} (h : AltInv B w v1 (.slice none 0 0) l1 []) (hB : B ≤ w.heap.size) : AltInv B (w.alloc (.cells #[] 26)) v1 (.slice (some ⟨w.heap.size, 0, none⟩) 0 0) l1 [] := by
  have ho : Only (fun _ => False) w (w.alloc (.cells #[] 26)) := (Only.refl _ w).alloc _
  refine ⟨ho.ownsRow h.own1 (fun k _ h => h), emptyRow (alloc_block w _) hB, fun g h1 h2 => ?_, fun X hX => ?_, fun X hX => by cases hX⟩
  · have := (h.own1.lt g h1).2
    simp only [Value.ownBlock, Option.some.injEq] at h2
    omega
  · refine (h.kept1 X hX).later ho.size fun b hb hlt h1 h2 => ⟨ho.block b hlt (fun h => h), h1, fun he => ?_⟩
    simp only [Value.ownBlock, Option.some.injEq] at he
    omega
theorem InnerO.stop {O : Option (Rx × List UInt8)} {F : Nat} {S : ByteArray} {lA rowA : List RxA} {j : Nat} (h : InnerO O F S lA rowA false j) (hst : ((rest S j).isEmpty || starts 124 (rest S j) || starts 41 (rest S j)) = true) :
    ∃ f1, 3 * (rest S j).length ≤ f1 ∧ f1 + 1 ≤ F ∧ O = if starts 124 (rest S j) then altR f1 (lA.map RxA.bare ++ [Rx.joined 1 (rowA.map RxA.bare)]) [] (rest S j).tail else some (Rx.joined 2 (lA.map RxA.bare ++ [Rx.joined 1 (rowA.map RxA.bare)]), rest S j) := by
  rcases h with ⟨h, -⟩ | ⟨-, f, h1, h2, h3⟩
  · cases h
  · obtain ⟨f1, rfl⟩ : ∃ f1, f = f1 + 1 := ⟨f - 1, by omega⟩
    refine ⟨f1, by omega, h2, ?_⟩
    rw [← h3]
    cases h124 : starts 124 (rest S j) with
    | true => rw [altR_bar h124]; rfl
    | false => rw [altR_stop hst h124]; rfl
theorem InnerO.go {O : Option (Rx × List UInt8)} {F : Nat} {S : ByteArray} {lA rowA : List RxA} {j : Nat} (h : InnerO O F S lA rowA false j) (hst : ((rest S j).isEmpty || starts 124 (rest S j) || starts 41 (rest S j)) = false) :
    ∃ f1, f1 < F ∧ 3 * (rest S j).length ≤ f1 ∧ O = match pieceR f1 (rest S j) with | none => none | some (x, r) => altR f1 (lA.map RxA.bare) (rowA.map RxA.bare ++ [x]) r := by
  rcases h with ⟨h, -⟩ | ⟨-, f, h1, h2, h3⟩
  · cases h
  · obtain ⟨f1, rfl⟩ : ∃ f1, f = f1 + 1 := ⟨f - 1, by omega⟩
    exact ⟨f1, by omega, by omega, by rw [← h3, altR_go hst]; rfl⟩
/-- Behind a piece. -/
theorem InnerO.next {O : Option (Rx × List UInt8)} {F f1 : Nat} {S : ByteArray} {lA rowA : List RxA} {j j' : Nat} {b : Bool} {X : RxA} (hf : f1 < F) (hl : 3 * (rest S j).length ≤ f1) (hO : O = match pieceR f1 (rest S j) with | none => none | some (x, r) => altR f1 (lA.map RxA.bare) (rowA.map RxA.bare ++ [x]) r)
    (hor : (b = false ∧ pieceR f1 (rest S j) = some (X.bare, rest S j')) ∨ (b = true ∧ pieceR f1 (rest S j) = none)) : InnerO O F S lA (rowA ++ [X]) b j' ∧ (b = false → j < j') := by
  rcases hor with ⟨rfl, h⟩ | ⟨rfl, h⟩
  · have hr := (read_le f1).2.1 _ _ _ h
    have l1 := rest_length S j
    have l2 := rest_length S j'
    rw [h] at hO
    refine ⟨.inr ⟨rfl, f1, by omega, by omega, ?_⟩, fun _ => by omega⟩
    rw [List.map_append, List.map_singleton]
    exact hO.symm
  · rw [h] at hO
    exact ⟨.inl ⟨rfl, hO⟩, fun h => by cases h⟩

set_option maxRecDepth 100000 in
set_option maxHeartbeats 4000000 in
theorem ralt_any (F : Nat) (w : World) (rb : Nat) (S : ByteArray) (i : Nat) (hp : RPieceOk F rb S) (h : RefAt w rb S i false) (hs : S.size ≤ 128) (hi : i ≤ S.size) (hF : 3 * (rest S i).length + 1 ≤ F) :
    Calls Tryz.prog 35 #[.pointer (some ⟨rb, 0, none⟩)] w fun e w' => SaysRx rb S i w (altR F [] [] (rest S i)) e w' := by
  obtain ⟨O, hO⟩ : ∃ O, altR F [] [] (rest S i) = O := ⟨_, rfl⟩
  rw [hO]
  obtain ⟨nb, hnb⟩ : ∃ nb, w.heap.size = nb := ⟨_, rfl⟩
  have hrb := lt_of_block h
  rw [hnb] at hrb
  obtain ⟨i0, hi0, hz0, hz1, hz2⟩ := info_parts info_rx3
  have HSZ := Lib.hid hnb
  have HW := Lib.hid h
  have HP := Lib.hid hp
  have HOO := Lib.hid hO
  have HF := Lib.hid hF
  clear h hp hO hF
  go_enter Tryz.func35, Tryz.ntmps35
  go_wp2_with fail
  have hcn : ((w.alloc (.cells zeroRx 26)).alloc (.cells #[] 26)).heap[nb]? = some (.cells zeroRx 26 (0, 0)) := alloc_old (alloc_block' _ _ _ HSZ.out) _
  have hcg : ((w.alloc (.cells zeroRx 26)).alloc (.cells #[] 26)).heap[nb + 1]? = some (.cells #[] 26 (0, 0)) := alloc_block' _ _ _ (by have := HSZ.out; simp; omega)
  have hcr : RefAt ((w.alloc (.cells zeroRx 26)).alloc (.cells #[] 26)) rb S i false := alloc_old (alloc_old HW.out _) _
  have hco : Only (fun k => k = rb) w ((w.alloc (.cells zeroRx 26)).alloc (.cells #[] 26)) := ((Only.refl _ w).alloc _).alloc _
  have HST := Lib.hid (show _ ∧ _ ∧ _ ∧ _ from ⟨hcn, AltInv.empty (B := nb + 1) hcg (Nat.le_refl _), hcr, hco⟩)
  clear hcn hcg hcr hco
  go_loopw [3, 4] (fun v3 v4 wr => ∃ (lA : List RxA) (more bad : Bool) (j : Nat), v4 = .bool more ∧ RefAt wr rb S j bad ∧ wr.heap[nb]? = some (.cells zeroRx 26 (0, 0)) ∧ Only (fun k => k = rb) w wr ∧ AltInv (nb + 1) wr v3 (.slice none 0 0) lA [] ∧
      i ≤ j ∧ j ≤ S.size ∧ lA.length + (S.size - j) ≤ 128 + (if more then 0 else 1) ∧ OuterO O F S lA more bad j) (fun _ v4 wr => 2 * (S.size - posOf rb wr) + moreOf v4)
  case atStart =>
    obtain ⟨a1, a2, a3, a4⟩ := HST.out
    exact ⟨[], true, false, i, rfl, a3, a1, a4, a2, Nat.le_refl _, hi, by simp; omega, .inr (.inl ⟨rfl, rfl, F, HF.out, Nat.le_refl _, HOO.out⟩)⟩
  case round =>
    obtain ⟨lA, more, bad, j, rfl, hr, hn, hon, hinv, hij, hjs, hlen, hout⟩ := hrel
    clear HST HOO HF HW
    obtain ⟨vl, rfl⟩ : ∃ vl, vl = u3 := ⟨_, rfl⟩
    obtain ⟨c0, c1, c2, z1, z2⟩ := hr.cells
    have HR := Lib.hid hr
    have HN := Lib.hid hn
    have HON := Lib.hid hon
    have HINV := Lib.hid hinv
    have HOUT := Lib.hid hout
    have hnl := lt_of_block hn
    have HLEN := Lib.hid hlen
    clear hr hn hon hinv hout hlen
    by_cases hgo : more = true ∧ bad = false
    · obtain ⟨rfl, rfl⟩ := hgo
      have hfr := HINV.out.fresh (by omega)
      have hr1 : RefAt (wr.alloc (.cells #[] 26)) rb S j false := alloc_old HR.out _
      have hn1 : (wr.alloc (.cells #[] 26)).heap[nb]? = some (.cells zeroRx 26 (0, 0)) := alloc_old HN.out _
      have ho1 : Only (fun k => k = rb) w (wr.alloc (.cells #[] 26)) := HON.out.alloc _
      have hin0 : InnerO O F S lA [] false j := by
        rcases HOUT.out with ⟨h, -⟩ | ⟨-, -, f, h1, h2, h3⟩ | ⟨-, h, -⟩
        · cases h
        · exact .inr ⟨rfl, f, h1, h2, h3⟩
        · cases h
      obtain ⟨W1, hW1⟩ : ∃ W1, wr.alloc (.cells #[] 26) = W1 := ⟨_, rfl⟩
      obtain ⟨gb, hgb⟩ : ∃ gb, wr.heap.size = gb := ⟨_, rfl⟩
      have HW1 := Lib.hid hW1
      have HGB := Lib.hid hgb
      rw [hW1] at hfr hr1 hn1 ho1
      rw [hgb] at hfr
      have HFR := Lib.hid hfr
      have HR1 := Lib.hid hr1
      have HN1 := Lib.hid hn1
      have HO1 := Lib.hid ho1
      have HIN0 := Lib.hid hin0
      clear hfr hr1 hn1 ho1 hin0 hW1 hgb
      go_upto_block 2 with fail
      rw [HW1.out, HGB.out]
      clear c0 c1 c2 z1 z2
      obtain ⟨wo, rfl⟩ : ∃ wo : World, wo = wr := ⟨_, rfl⟩
      have HRB0 := HR
      go_cut [5] from 16 to 61 (fun v5 wx => ∃ (rowA : List RxA) (bx : Bool) (jx : Nat), RefAt wx rb S jx bx ∧ wx.heap[nb]? = some (.cells zeroRx 26 (0, 0)) ∧ Only (fun k => k = rb) w wx ∧ AltInv (nb + 1) wx vl v5 lA rowA ∧ j ≤ jx ∧ jx ≤ S.size ∧ rowA.length + (S.size - jx) ≤ 129 ∧ InnerO O F S lA rowA bx jx ∧ (bx = false → ((rest S jx).isEmpty || starts 124 (rest S jx) || starts 41 (rest S jx)) = true))
      case first =>
        go_wp2_with fail
        go_loopw [5] (fun v5 wx => ∃ (rowA : List RxA) (bx : Bool) (jx : Nat), RefAt wx rb S jx bx ∧ wx.heap[nb]? = some (.cells zeroRx 26 (0, 0)) ∧ Only (fun k => k = rb) w wx ∧ AltInv (nb + 1) wx vl v5 lA rowA ∧ j ≤ jx ∧ jx ≤ S.size ∧ rowA.length + (S.size - jx) ≤ 128 + (if bx then 1 else 0) ∧ InnerO O F S lA rowA bx jx) (fun _ wx => 2 * (S.size - posOf rb wx) + badOf rb wx)
        case atStart => exact ⟨[], false, j, HR1.out, HN1.out, HO1.out, HFR.out, Nat.le_refl _, hjs, by simp; omega, HIN0.out⟩
        case round =>
          obtain ⟨rowA, bx, jx, hr, hn, hon, hinv, hjx, hjxs, hlx, hin⟩ := hrel
          obtain ⟨vr, rfl⟩ : ∃ vr, vr = u5 := ⟨_, rfl⟩
          obtain ⟨c0, c1, c2, z1, z2⟩ := hr.cells
          have HRX := Lib.hid hr
          have HNX := Lib.hid hn
          have HOX := Lib.hid hon
          have HIX := Lib.hid hinv
          have HLX := Lib.hid hlx
          have HIN := Lib.hid hin
          have hnlx := lt_of_block hn
          clear hr hn hon hinv hlx hin
          cases bx with
          | true =>
            go_wp2_with fail
            go_quiet (fail)
            go_wp2_with fail
            go_meet
            case rel =>
              exact ⟨rowA, true, jx, HRX.out.drewN _, HNX.out, HOX.out.drewN _, HIX.out.only ((Only.refl (fun _ => False) wr).drewN _) (fun j hj => hj.elim), hjx, hjxs, by have := HLX.out; simp at this; omega, HIN.out, fun h => by cases h⟩
          | false =>
            have hcase : (rest S jx = []) ∨ (∃ u, rest S jx = 124 :: u) ∨ (∃ u, rest S jx = 41 :: u) ∨ (∃ c u, rest S jx = c :: u ∧ c ≠ 124 ∧ c ≠ 41) := by
              cases rest S jx with
              | nil => exact .inl rfl
              | cons c u =>
                by_cases h1 : c = 124
                · exact .inr (.inl ⟨u, by rw [h1]⟩)
                · by_cases h2 : c = 41
                  · exact .inr (.inr (.inl ⟨u, by rw [h2]⟩))
                  · exact .inr (.inr (.inr ⟨c, u, rfl, h1, h2⟩))
            rcases hcase with hr | ⟨u, hr⟩ | ⟨u, hr⟩ | ⟨c, u, hr, hc1, hc2⟩
            · have HSTOP := Lib.hid (show ((rest S jx).isEmpty || starts 124 (rest S jx) || starts 41 (rest S jx)) = true by rw [hr]; rfl)
              have hd : decide (jx < S.size) = false := by
                have h1 := rest_length S jx
                rw [hr] at h1
                simp at h1 ⊢; omega
              clear hr
              go_wp2_with fail
              go_quiet (fail)
              go_wp2_with fail
              go_meet
              case rel =>
                exact ⟨rowA, false, jx, HRX.out.drewN _, HNX.out, HOX.out.drewN _, HIX.out.only ((Only.refl (fun _ => False) wr).drewN _) (fun j hj => hj.elim), hjx, hjxs, by have := HLX.out; simp at this; omega, HIN.out, fun _ => HSTOP.out⟩
            · have HSTOP := Lib.hid (show ((rest S jx).isEmpty || starts 124 (rest S jx) || starts 41 (rest S jx)) = true by rw [hr]; rfl)
              have hd : decide (jx < S.size) = true := by have := (rest_cons hr).1; simp; omega
              have hx : ∀ w, (Instr.index 9 (.string S) (.int .i64 jx)).run Tryz.prog w = .ok (.int .u8 124) w := rest_byte hr
              clear hr
              go_wp2_with fail
              go_quiet (fail)
              go_wp2_with fail
              go_meet
              case rel =>
                exact ⟨rowA, false, jx, HRX.out.drewN _, HNX.out, HOX.out.drewN _, HIX.out.only ((Only.refl (fun _ => False) wr).drewN _) (fun j hj => hj.elim), hjx, hjxs, by have := HLX.out; simp at this; omega, HIN.out, fun _ => HSTOP.out⟩
            · have HSTOP := Lib.hid (show ((rest S jx).isEmpty || starts 124 (rest S jx) || starts 41 (rest S jx)) = true by rw [hr]; rfl)
              have hd : decide (jx < S.size) = true := by have := (rest_cons hr).1; simp; omega
              have hx : ∀ w, (Instr.index 9 (.string S) (.int .i64 jx)).run Tryz.prog w = .ok (.int .u8 41) w := rest_byte hr
              clear hr
              go_wp2_with fail
              go_quiet (fail)
              go_wp2_with fail
              go_meet
              case rel =>
                exact ⟨rowA, false, jx, HRX.out.drewN _, HNX.out, HOX.out.drewN _, HIX.out.only ((Only.refl (fun _ => False) wr).drewN _) (fun j hj => hj.elim), hjx, hjxs, by have := HLX.out; simp at this; omega, HIN.out, fun _ => HSTOP.out⟩
            · have hst : ((rest S jx).isEmpty || starts 124 (rest S jx) || starts 41 (rest S jx)) = false := by rw [hr]; simp [starts, hc1, hc2]
              obtain ⟨f1, hf1, hf2, hO⟩ := HIN.out.go hst
              have hd : decide (jx < S.size) = true := by have := (rest_cons hr).1; simp; omega
              have hx := rest_byte hr
              have h124 : ((c.toNat : Int) != 124) = true := by
                rw [bne_iff_ne]; intro h; exact hc1 (UInt8.toNat_inj.1 (by show c.toNat = 124; omega))
              have h41 : ((c.toNat : Int) != 41) = true := by
                rw [bne_iff_ne]; intro h; exact hc2 (UInt8.toNat_inj.1 (by show c.toNat = 41; omega))
              have HPC := Lib.hid (fun w1 (h1 : RefAt w1 rb S jx false) => HP.out f1 hf1 w1 jx h1 hjxs hf2)
              have HO := Lib.hid hO
              have HF1 := Lib.hid hf1
              have HF2 := Lib.hid hf2
              have hlr : rowA.length + (S.size - jx) ≤ 128 := by have := HLX.out; simpa using this
              clear hst hr hc1 hc2 hO hf1 hf2
              go_wp2_with fail
              go_quiet (fail)
              have HRN := Lib.hid (HRX.out.drewN nq)
              have HNN := Lib.hid (show (wr.drewN nq).heap[nb]? = _ from HNX.out)
              have HON2 := Lib.hid (HOX.out.drewN nq)
              have HI0 := Lib.hid (HIX.out.only ((Only.refl (fun _ => False) wr).drewN nq) (fun j hj => hj.elim))
              obtain ⟨wq, hwq⟩ : ∃ wq, wr.drewN nq = wq := ⟨_, rfl⟩
              rw [hwq] at HRN HNN HON2 HI0
              rw [hwq]
              have hnlq := lt_of_block HNN.out
              clear hwq c0 c1 c2 z1 z2
              go_wp2_with (first
                | (go_at_call 54
                   (with_reducible refine (HPC.out _ HRN.out).mono ?_)
                   rintro e w1 ⟨o1, X, jy, by', he, hij2, hjs2, h1, hXin, hXb, hor⟩
                   obtain ⟨k, mn, mx, s0, s1, s2, s3, a, cap, l⟩ := X
                   obtain rfl : e = .returned (.agg #[.int .i64 k, .int .i64 mn, .int .i64 mx, .int .u64 s0, .int .u64 s1, .int .u64 s2, .int .u64 s3, .slice a l.length cap]) := he
                   have hs1 := o1.size
                   have hinv1 := HI0.out.only o1 (by intro j hj; omega)
                   have hK : Kept w1 (nb + 1) vl vr (RxA.node k mn mx s0 s1 s2 s3 a cap l) := ⟨hXin, fun b hb => by
                     have h3 := hXb b hb
                     exact ⟨by omega, h3.2, fun he => by have := (HI0.out.own1.lt b he).2; omega, fun he => by have := (HI0.out.own2.lt b he).2; omega⟩⟩
                   have hinv2 := hinv1.only (Only.alloc (r := fun k => k = rb) (Only.refl _ w1) (.cells [.int .i64 k, .int .i64 mn, .int .i64 mx, .int .u64 s0, .int .u64 s1, .int .u64 s2, .int .u64 s3, .slice a l.length cap].toArray 26)) (by intro j hj; omega)
                   have hK2 := hK.only (Only.alloc (r := fun k => k = rb) (Only.refl _ w1) (.cells [.int .i64 k, .int .i64 mn, .int .i64 mx, .int .u64 s0, .int .u64 s1, .int .u64 s2, .int .u64 s3, .slice a l.length cap].toArray 26)) (by intro j hj; omega)
                   have HI2 := Lib.hid hinv2
                   have HK2 := Lib.hid hK2
                   have HH1 := Lib.hid h1
                   have HQ1 := Lib.hid o1
                   have HOR := Lib.hid hor
                   clear hinv1 hK hinv2 hK2 hXin hXb h1 hor o1
                   have hrl2 : rowA.length + 1 ≤ 1000 := (by omega))
                | (refine wpList_append_lies _ rfl (.tmp 57) (.tmp 60) 24 rfl (nb + 1) 26 i0 _ 8 80 Tryz.underlying24 hi0 hz0 hz1 hz2 rfl (by decide) vr rowA.length (rxCells rowA) rfl HI2.out.own2 ⟨w1.heap.size, 0, none⟩ 1 1 [.int .i64 k, .int .i64 mn, .int .i64 mx, .int .u64 s0, .int .u64 s1, .int .u64 s2, .int .u64 s3, .slice a l.length cap] rfl rfl (cells_new w1 [.int .i64 k, .int .i64 mn, .int .i64 mx, .int .u64 s0, .int .u64 s1, .int .u64 s2, .int .u64 s3, .slice a l.length cap] 26) (by intro v hv; exact rx_one (RxA.node k mn mx s0 s1 s2 s3 a cap l) v hv) (by decide) (by unfold maxLen; omega) (by omega) (by simp; omega) _ rfl ?_
                   intro g cap' w3 hown3 hgrow hgat hglt)
                | fail)
              have hpush := HI2.out.push HK2.out hown3 hgrow hgat
              have hO3 : Only (fun k => k = rb) w w3 := ((HON2.out.then HQ1.out).alloc _).grown hgrow (fun b hb => .inr (by have := (HI0.out.own2.lt b hb).1; have := HSZ.out; omega))
              have hvr : ∀ b, b < nb + 1 → some b ≠ vr.ownBlock := fun b hb he => by have := (HI0.out.own2.lt b he.symm).1; omega
              have h3 : RefAt w3 rb S jy by' := (hgrow.block rb (by simp; omega) (hvr rb (by omega))).trans (alloc_old HH1.out _)
              have hn3 : w3.heap[nb]? = some (.cells zeroRx 26 (0, 0)) := (hgrow.block nb (by simp; omega) (hvr nb (by omega))).trans (alloc_old ((HQ1.out.block nb hnlq (by omega)).trans HNN.out) _)
              obtain ⟨hin3, hjj3⟩ := InnerO.next HF1.out HF2.out HO.out HOR.out
              refine ⟨⟨rowA ++ [(RxA.node k mn mx s0 s1 s2 s3 a cap l)], by', jy, h3, hn3, hO3, ?_, by omega, hjs2, ?_, hin3⟩, ?_⟩
              · have e : rowA.length + 1 = (rowA ++ [(RxA.node k mn mx s0 s1 s2 s3 a cap l)]).length := by simp
                exact hpush
              · rw [List.length_append, List.length_singleton]
                cases by' with
                | true => simp; omega
                | false => have := hjj3 rfl; simp; omega
              · rw [posOf_eq h3, badOf_eq h3, posOf_eq HRX.out, badOf_eq HRX.out]
                cases by' with
                | true => simp; omega
                | false => have := hjj3 rfl; simp; omega
      case rest =>
        obtain ⟨rowA, bx, jx, hr, hn, hon, hinv, hjx, hjxs, hlx, hin, hstop⟩ := hcut
        obtain ⟨vr, rfl⟩ : ∃ vr, vr = u5 := ⟨_, rfl⟩
        obtain ⟨wq, rfl⟩ : ∃ wq : World, wq = wc := ⟨_, rfl⟩
        obtain ⟨ar, cr, rfl, hcr1, hcr2, -⟩ := row_value hinv.own2
        have hKJ := hinv.join 1 ⟨by omega, by omega⟩ (by omega)
        have hJB := joinedA_bare 1 ar cr rowA
        have hJC := rjoined_any wq 1 (.slice ar rowA.length cr) (nb + 1) rowA hinv.own2 (by omega)
        obtain ⟨k, mn, mx, s0, s1, s2, s3, a, cap, l, hXJ⟩ : ∃ k mn mx s0 s1 s2 s3 a cap l, joinedA 1 ar cr rowA = (RxA.node k mn mx s0 s1 s2 s3 a cap l) := by
          obtain ⟨k, mn, mx, s0, s1, s2, s3, a, cap, l⟩ := joinedA 1 ar cr rowA
          exact ⟨k, mn, mx, s0, s1, s2, s3, a, cap, l, rfl⟩
        have hJC2 : Calls Tryz.prog 55 #[.int .i64 1, .slice ar rowA.length cr] wq fun e w1 => e = .returned (.agg #[.int .i64 k, .int .i64 mn, .int .i64 mx, .int .u64 s0, .int .u64 s1, .int .u64 s2, .int .u64 s3, .slice a l.length cap]) ∧ Below wq.heap.size wq w1 := by
          refine hJC.mono ?_
          rintro e w1 ⟨a', c', he, hee, hb⟩
          simp only [Value.slice.injEq, true_and] at he
          obtain ⟨rfl, rfl⟩ := he
          rw [hXJ] at hee
          exact ⟨hee, hb⟩
        rw [hXJ] at hKJ hJB
        have HI0 := Lib.hid hinv.drop
        have HOWN1 := Lib.hid hinv.own1
        have HKJ := Lib.hid hKJ
        have HJB := Lib.hid hJB
        have HJC := Lib.hid hJC2
        have HRD := Lib.hid hr
        have HNQ := Lib.hid hn
        have HOQ := Lib.hid hon
        have HIN := Lib.hid hin
        have HSTOP := Lib.hid hstop
        have hwn : nb < wq.heap.size := lt_of_block hn
        have hlen2 : lA.length + (S.size - j) ≤ 128 := by simpa using HLEN.out
        have hlA : lA.length + 1 ≤ 1000 := by omega
        have HAT := Lib.hid (fun w1 (h1 : RefAt w1 rb S jx bx) => at_any w1 rb S jx bx 124 124 h1 (by omega) rfl)
        clear hKJ hJB hJC2 hJC hXJ hr hn hon hin hstop hinv
        obtain ⟨p124, hp124⟩ : ∃ p, starts 124 (rest S jx) = p := ⟨_, rfl⟩
        have hat := HAT.out
        rw [hp124] at hat
        have HAT2 := Lib.hid hat
        have H124 := Lib.hid hp124
        clear hat hp124 HAT
        go_wp2_with (first
          | (go_at_call 55
             (with_reducible refine HJC.out.mono ?_)
             rintro e w1 ⟨rfl, hb1⟩
             have hs1 := hb1.size
             have hO1 : Only (fun k => k = rb) wq w1 := Only.of_below hb1
             have hO2 := hO1.alloc (.cells [.int .i64 k, .int .i64 mn, .int .i64 mx, .int .u64 s0, .int .u64 s1, .int .u64 s2, .int .u64 s3, .slice a l.length cap].toArray 26)
             have hinv2 := HI0.out.only hO2 (by intro j hj; omega)
             have hK2 := HKJ.out.only hO2 (by intro j hj; omega)
             have HI2 := Lib.hid hinv2
             have HK2 := Lib.hid hK2
             have HO2 := Lib.hid hO2
             have hr2 : RefAt (w1.alloc (.cells [.int .i64 k, .int .i64 mn, .int .i64 mx, .int .u64 s0, .int .u64 s1, .int .u64 s2, .int .u64 s3, .slice a l.length cap].toArray 26)) rb S jx bx := alloc_old ((hb1.block rb (by omega)).trans HRD.out) _
             have hn2 : (w1.alloc (.cells [.int .i64 k, .int .i64 mn, .int .i64 mx, .int .u64 s0, .int .u64 s1, .int .u64 s2, .int .u64 s3, .slice a l.length cap].toArray 26)).heap[nb]? = _ := alloc_old ((hb1.block nb hwn).trans HNQ.out) _
             have HR2 := Lib.hid hr2
             have HN2 := Lib.hid hn2
             clear hinv2 hK2 hr2 hn2 hO1 hO2 hb1)
          | (refine wpList_append_lies _ rfl (.tmp 62) (.tmp 65) 24 rfl (nb + 1) 26 i0 _ 8 80 Tryz.underlying24 hi0 hz0 hz1 hz2 rfl (by decide) vl lA.length (rxCells lA) rfl HI2.out.own1 ⟨w1.heap.size, 0, none⟩ 1 1 [.int .i64 k, .int .i64 mn, .int .i64 mx, .int .u64 s0, .int .u64 s1, .int .u64 s2, .int .u64 s3, .slice a l.length cap] rfl rfl (cells_new w1 [.int .i64 k, .int .i64 mn, .int .i64 mx, .int .u64 s0, .int .u64 s1, .int .u64 s2, .int .u64 s3, .slice a l.length cap] 26) (by intro v hv; exact rx_one (RxA.node k mn mx s0 s1 s2 s3 a cap l) v hv) (by decide) (by unfold maxLen; omega) (by omega) (by simp; omega) _ rfl ?_
             intro g cap' w3 hown3 hgrow hgat hglt
             have hpush := (HI2.out.swap.push HK2.out.swap hown3 hgrow hgat).swap
             have hvl : ∀ b, b < nb + 1 → some b ≠ vl.ownBlock := fun b hb he => by
               have := (HOWN1.out.lt b he.symm).1
               omega
             have h3 : RefAt w3 rb S jx bx := (hgrow.block rb (by simp; omega) (hvl rb (by omega))).trans HR2.out
             have hn3 := (hgrow.block nb (by simp; omega) (hvl nb (by omega))).trans HN2.out
             have hO3 : Only (fun k => k = rb) w w3 := (HOQ.out.then HO2.out).grown hgrow (fun b hb => .inr (by have := (HOWN1.out.lt b hb).1; have := HSZ.out; omega))
             have HPU := Lib.hid hpush
             have HR3 := Lib.hid h3
             have HN3 := Lib.hid hn3
             have HO3 := Lib.hid hO3
             have hnl3 := lt_of_block hn3
             clear hpush h3 hn3 hO3 hown3 hgrow hgat hvl)
          | (go_at_call 56
             (with_reducible refine (HAT2.out _ HR3.out).mono ?_)
             rintro e w4 ⟨rfl, h4, o4⟩
             have HN4 := Lib.hid ((o4.block nb hnl3 (by omega)).trans HN3.out)
             have HP4 := Lib.hid (HPU.out.only o4 (by intro j hj; omega))
             have HO4 := Lib.hid (HO3.out.then o4)
             have HR4 := Lib.hid h4
             clear h4 o4)
          | fail)
        have hpos := posOf_eq HRB0.out
        cases p124 with
        | true =>
          have h4 : RefAt w4 rb S (jx + 1) bx := by simpa using HR4.out
          have hjs4 := rest_starts H124.out
          refine ⟨⟨lA ++ [(RxA.node k mn mx s0 s1 s2 s3 a cap l)], true, bx, jx + 1, rfl, h4, HN4.out, HO4.out, ?_, by omega, hjs4, ?_, ?_⟩, ?_⟩
          · exact HP4.out
          · rw [List.length_append, List.length_singleton]; simp; omega
          · cases bx with
            | true =>
              rcases HIN.out with ⟨-, h⟩ | ⟨h, -⟩
              · exact .inl ⟨rfl, h⟩
              · cases h
            | false =>
              obtain ⟨f1, h1, h2, h3⟩ := HIN.out.stop (HSTOP.out rfl)
              refine .inr (.inl ⟨rfl, rfl, f1, ?_, by omega, ?_⟩)
              · have e1 := rest_length S jx
                have e2 := rest_length S (jx + 1)
                omega
              · rw [h3, H124.out, if_pos rfl, rest_tail, List.map_append, List.map_singleton, HJB.out]
          · rw [posOf_eq h4, hpos]
            simp [moreOf]; omega
        | false =>
          have h4 : RefAt w4 rb S jx bx := by simpa using HR4.out
          refine ⟨⟨lA ++ [(RxA.node k mn mx s0 s1 s2 s3 a cap l)], false, bx, jx, rfl, h4, HN4.out, HO4.out, ?_, by omega, hjxs, ?_, ?_⟩, ?_⟩
          · exact HP4.out
          · rw [List.length_append, List.length_singleton]; simp; omega
          · cases bx with
            | true =>
              rcases HIN.out with ⟨-, h⟩ | ⟨h, -⟩
              · exact .inl ⟨rfl, h⟩
              · cases h
            | false =>
              obtain ⟨f1, h1, h2, h3⟩ := HIN.out.stop (HSTOP.out rfl)
              refine .inr (.inr ⟨rfl, rfl, ?_⟩)
              rw [h3, H124.out, List.map_append, List.map_singleton, HJB.out]
              rfl
          · rw [posOf_eq h4, hpos]
            simp [moreOf]; omega
    · have hfin : (bad = true ∧ O = none) ∨ (bad = false ∧ O = some (Rx.joined 2 (lA.map RxA.bare), rest S j)) := by
        rcases HOUT.out with h | ⟨h1, h2, -⟩ | ⟨h1, -, h3⟩
        · exact .inl h
        · exact absurd ⟨h2, h1⟩ hgo
        · exact .inr ⟨h1, h3⟩
      have HFIN := Lib.hid hfin
      have hlen2 : lA.length ≤ 1000 := by have := HLEN.out; split at this <;> omega
      obtain ⟨ar, cr, rfl, hcr1, hcr2, -⟩ := row_value HINV.out.own1
      have hKJ := HINV.out.swap.join 2 ⟨by omega, by omega⟩ hlen2
      have hJB := joinedA_bare 2 ar cr lA
      have hJC := rjoined_any wr 2 (.slice ar lA.length cr) (nb + 1) lA HINV.out.own1 hlen2
      obtain ⟨X, hX⟩ : ∃ X, joinedA 2 ar cr lA = X := ⟨_, rfl⟩
      rw [hX] at hKJ hJB
      have hJC2 : Calls Tryz.prog 55 #[.int .i64 2, .slice ar lA.length cr] wr fun e w1 => e = .returned (.agg (cellsA X)) ∧ Below wr.heap.size wr w1 := by
        refine hJC.mono ?_
        rintro e w1 ⟨a', c', he, hee, hb⟩
        simp only [Value.slice.injEq, true_and] at he
        obtain ⟨rfl, rfl⟩ := he
        rw [hX] at hee
        exact ⟨hee, hb⟩
      have HKJ := Lib.hid hKJ
      have HJB := Lib.hid hJB
      have HJC := Lib.hid hJC2
      have hns : ¬ more = true ∨ bad = true := by
        cases more <;> cases bad <;> simp_all
      clear hKJ hJB hJC2 hJC hX hfin hgo
      have hmm : more = false ∨ (more = true ∧ bad = true) := by
        cases more <;> cases bad <;> simp_all
      clear hns
      rcases hmm with rfl | ⟨rfl, rfl⟩
      all_goals
        go_wp2_with (first
          | (go_at_call 55
             (with_reducible refine HJC.out.mono ?_)
             rintro e w1 ⟨rfl, hb1⟩
             have HB1 := Lib.hid hb1
             have HN1 := Lib.hid ((hb1.block nb hnl).trans HN.out)
             clear hb1)
          | (refine wpList_store_row rfl 26 (.tmp 2) (.tmp 70) ?_ nb (cellsA X) ?_ ?_ 26 zeroRx ?_ (info_rxA _) (by rw [cellsA_size]; rfl) (cellsA_one _) ?_; (with_reducible rfl); rfl; rfl; exact HN1.out)
          | fail)
        refine bodyPost_ret (results_cell_row rfl _ _ nb 26 (cellsA X) (0, 0) _ rfl (setRow_heap _ _ _ _ _ _ HN1.out) Tryz.underlying26 rfl (info_rxA _)) rfl ?_
        have hsz1 := HB1.out.size
        refine saysRx_end HSZ.out hrb (HON.out.trans (Only.of_below HB1.out)) (HR.out.below HB1.out) (HKJ.out.lies.keep fun c hc => ⟨by have := (HKJ.out.far c hc).2.1; omega, fun o => World.cell?_of_block (w := wr) (HB1.out.block c (HKJ.out.far c hc).2.1)⟩) (fun c hc => ⟨by have := (HKJ.out.far c hc).1; omega, by have := (HKJ.out.far c hc).2.1; omega⟩) hij hjs ?_
        rcases HFIN.out with ⟨h1, h2⟩ | ⟨h1, h2⟩
        · first | exact .inr ⟨h1, h2⟩ | exact .inr ⟨rfl, h2⟩
        · first | exact .inl ⟨h1, by rw [h2, HJB.out]⟩ | exact absurd h1 (by simp)
end Go.Proofs.YtjhclopdcbnmkaaGreatDoor
