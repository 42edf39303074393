/- The walk of AuditChains. -/
import Derived.Test.YtkkjhdpkakdjmaaGreatDoorAU17
set_option linter.unusedSimpArgs false
set_option linter.unusedVariables false
namespace Go.Proofs.YtkkjhdpkakdjmaaGreatDoor
open Go.RowKit PJ Go.Maps

theorem TextsAt.later {w w' : World} {a : Option Addr} {n : Nat} {ss : List ByteArray} (h : TextsAt w a n ss) (hl : LJ w w') : TextsAt w' a n ss := by
  obtain ⟨h1, h2, h3, h4⟩ := h
  refine ⟨h1, h2, h3, h4.imp id ?_⟩
  rintro ⟨b, o, e, hb, hc⟩
  have hs := Below.size hl
  exact ⟨b, o, e, by omega, fun i s hi => hl.cell (hc i s hi)⟩
theorem own_kept {w w' : World} {B : Nat} {T : TypeId} {s n : Nat} {v : Value} {xs : List Value} (h : w.ownsRow B T s v n xs) (hk : ∀ q, v.ownBlock = some q → w'.heap[q]? = w.heap[q]?) : w'.ownsRow B T s v n xs := by
  rcases h with ⟨h0, h | ⟨g, cap, cur, h1, h2, h3, h4⟩⟩
  · exact ⟨h0, .inl h⟩
  · exact ⟨h0, .inr ⟨g, cap, cur, h1, h2, (hk g (by rw [h1]; rfl)).trans h3, h4⟩⟩
theorem twelve (x : Int) : ∃ k : Nat, k < 12 ∧ x % 12 = (k : Int) := ⟨(x % 12).toNat, by omega, by omega⟩
theorem recsC_at {xs : List Rec} {x : Rec} {t : Nat} (ht : t < 5) : (recsC (xs ++ [x]))[xs.length * 5 + t]? = (recC x)[t]? := by
  rw [recsC_snoc, List.getElem?_append_right (by rw [recsC_len]; omega), recsC_len]
  congr 1
  omega
theorem AK.base {w w1 W : World} {K : Nat → Prop} {p b jb : Nat} {J : Jn} {A : Nat} {xs : List Rec} {B : Nat} (h : AK w1 W K p b jb J A xs B) (hl : LJ w w1) : AK w W K p b jb J A xs B := by
  obtain ⟨V, F, h1, h2, h3, h4, h5, h6⟩ := h.ex
  have hs := Below.size hl
  have hA := h.wA
  exact ⟨⟨V, F, h1, h2, h3, h4, fun q hq => Nat.le_trans hs (h5 q hq), h6⟩, by omega, hl.trans h.lj, h.auc, h.whole, h.hB⟩
/-- What the loop of AuditChains carries. -/
structure ChL (w1 wr : World) (p b jb A cells area g cap : Nat) (xs : List Rec) (J : Jn) : Prop where
  row : wr.ownsRow w1.heap.size 9 1 (.slice (some ⟨g, 0, none⟩) xs.length cap) xs.length (strs (xs.map Rec.bytes))
  ak : AK w1 wr (fun q => q = g) p b jb J A xs (3 + xs.length)
  dim : J.n = area + cells ∧ J.area = area
  le : xs.length ≤ cells
  h32 : ∀ x ∈ xs, x.h.size = 32
set_option maxRecDepth 100000 in
set_option maxHeartbeats 8000000 in
theorem achains_any (w : World) (sa sb : Int) (hsa : -9223372036854775808 ≤ sa ∧ sa ≤ 9223372036854775807) (hsb : -9223372036854775808 ≤ sb ∧ sb ≤ 9223372036854775807) (ta : Option Addr) (N tcap : Nat) (ss : List ByteArray) (hT : TextsAt w ta N ss) :
    Calls Tryz.prog 5 #[.agg #[.int .i64 sa, .int .i64 sb], .slice ta N tcap] w fun e w' => e = .returned (.bool true) ∧ LJ w w' := by
  obtain ⟨iS, hiS, hzS, hsS, hbS⟩ := info_parts info_str
  obtain ⟨w1, hw1⟩ : ∃ w1, w.alloc (.cells #[.int .i64 sa, .int .i64 sb] 68) = w1 := ⟨_, rfl⟩
  have hl1 : LJ w w1 := by rw [← hw1]; exact (LJ.refl w).alloc _
  have hb1 : w1.heap[w.heap.size]? = some (.cells #[.int .i64 sa, .int .i64 sb] 68 (0, 0)) := by rw [← hw1]; exact alloc_blk w _
  have x0 : w1.cell? ⟨w.heap.size, 0, none⟩ = some (.int .i64 sa) := cell_blk hb1 0
  have x1 : w1.cell? ⟨w.heap.size, 1, none⟩ = some (.int .i64 sb) := cell_blk hb1 1
  have HW1 := Lib.hid hw1
  have HL1 := Lib.hid hl1
  have HT1 := Lib.hid (hT.later hl1)
  obtain ⟨ka, hka, hea⟩ := twelve sa
  obtain ⟨kb, hkb, heb⟩ := twelve sb
  obtain ⟨cells, hcells⟩ : ∃ cells : Nat, 1 + ka = cells := ⟨_, rfl⟩
  obtain ⟨area, harea⟩ : ∃ area : Nat, 4 + kb = area := ⟨_, rfl⟩
  have HPA := Lib.hid (fun W => show Calls Tryz.prog 26 #[.int .i64 sa, .int .i64 12] W fun e w' => e = .returned (.int .i64 (ka : Int)) ∧ w' = W from (lplace_any W sa hsa).mono (by rintro e w' ⟨rfl, rfl⟩; exact ⟨by rw [hea], rfl⟩))
  have HPB := Lib.hid (fun W => show Calls Tryz.prog 26 #[.int .i64 sb, .int .i64 12] W fun e w' => e = .returned (.int .i64 (kb : Int)) ∧ w' = W from (lplace_any W sb hsb).mono (by rintro e w' ⟨rfl, rfl⟩; exact ⟨by rw [heb], rfl⟩))
  have hwa : IntKind.i64.wrap (1 + (ka : Int)) = (cells : Int) := by rw [IntKind.wrap_i64]; omega
  have hwb : IntKind.i64.wrap (4 + (kb : Int)) = (area : Int) := by rw [IntKind.wrap_i64]; omega
  have HLA := Lib.hid (fun W => llaid_any W cells area (by omega) (by omega) (by omega) (by omega))
  have HFX := Lib.hid (fun W => afixed_any W)
  have hc12 : cells ≤ 12 := by omega
  obtain ⟨Z, hZ⟩ : ∃ Z : ByteArray, (⟨(zs 32).toArray⟩ : ByteArray) = Z := ⟨_, rfl⟩
  have HNO := Lib.hid (fun W => show Calls Tryz.prog 11 #[.int .i64 32] W fun e w' => e = .returned (.string Z) ∧ LJ W w' from by rw [← hZ]; exact lnoughts_any W 32 (by omega))
  have HZ := Lib.hid hZ
  clear hw1 hl1 hb1 hT hsa hsb hea heb hZ
  go_enter Tryz.func5, Tryz.ntmps5
  go_upto_region 1 with fail
  rw [HW1.out]
  go_quiet ((go_at_call 26; first | (with_reducible exact Calls.quiet_of_same (HPA.out _)) | (with_reducible exact Calls.quiet_of_same (HPB.out _))))
  clear x0 x1 hwa hwb
  go_upto_region 5 with (first
    | (go_at_call 27; (with_reducible refine (HLA.out _).mono ?_); rintro e w2 ⟨p, b, jb, J0', A, rfl, hk2, hn2, ha2⟩
       have HJN := Lib.hid (And.intro hn2 ha2)
       have HK2 := Lib.hid (hk2.base (w := w1) (LJ.drewN (LJ.refl w1) _))
       clear hk2 hn2 ha2)
    | fail)
  go_wp2_with fail
  obtain ⟨w3, hw3⟩ : ∃ w3, w2.alloc (.cells #[] 9) = w3 := ⟨_, rfl⟩
  obtain ⟨g0, hg0⟩ : ∃ g, w2.heap.size = g := ⟨_, rfl⟩
  have HL23 := Lib.hid (show LJ w2 w3 from by rw [← hw3]; exact (LJ.refl w2).alloc _)
  have HL12 := Lib.hid HK2.out.lj
  have HC0 := Lib.hid (show ChL w1 w3 p b jb A cells area g0 0 [] J0' from by
    have hs := Below.size HL12.out
    refine ⟨⟨rfl, Or.inr ⟨g0, 0, #[], rfl, by omega, by rw [← hw3, ← hg0]; exact alloc_blk w2 _, Nat.le_refl _, by unfold maxLen; omega, rfl, rfl⟩⟩, ?_, HJN.out, Nat.zero_le _, fun x hx => by cases hx⟩
    refine HK2.out.more HL23.out (fun q hq => .inr ?_)
    have h1 : w3.heap.size = w2.heap.size + 1 := by rw [← hw3, World.size_alloc]
    have hq' : q = g0 := hq
    omega)
  rw [hw3, hg0]
  clear hw3 hg0 hcells harea hka hkb HLA HPA HPB
  obtain ⟨hT1, hT2, hT3, hT4⟩ := HT1.out
  have HTN := Lib.hid hT2
  have HTS := Lib.hid hT3
  have HTL := Lib.hid hT1
  have HTC := Lib.hid hT4
  clear hT1 hT2 hT3 hT4 HT1
  go_loopw [9, 10] (fun v9 v10 wr => ∃ (i : Nat) (xs : List Rec) (J : Jn) (g cap : Nat), i ≤ N ∧ v10 = .int .i64 (i : Int) ∧ v9 = .slice (some ⟨g, 0, none⟩) xs.length cap ∧ Hid (ChL w1 wr p b jb A cells area g cap xs J)) (fun _ v10 _ => N - (intOf v10).toNat)
  case atStart => exact ⟨0, [], J0', g0, 0, by omega, rfl, rfl, HC0⟩
  case round =>
    obtain ⟨i, xs, J, g, cap, hi, rfl, rfl, HC⟩ := hrel
    have hiN := HTN.out
    by_cases hlt : i < N
    · have hili : (i : Int) < (N : Int) := by omega
      have hwi : IntKind.i64.wrap ((i : Int) + 1) = (i : Int) + 1 := by rw [IntKind.wrap_i64]; omega
      rcases HTC.out with h0 | ⟨tb, tf, rfl, htb, htc⟩
      · omega
      obtain ⟨s, hs⟩ : ∃ s, ss[i]? = some s := ⟨_, List.getElem?_eq_getElem (by have := HTL.out; omega)⟩
      have ct : wr.cell? ⟨tb, tf + i, none⟩ = some (.string s) := HC.out.ak.lj.cell (htc i s hs)
      have hss : s.size ≤ 140737488355328 := HTS.out s (List.mem_of_getElem? hs)
      obtain ⟨k, hk⟩ : ∃ k, xs.length = k := ⟨_, rfl⟩
      have hk12 : k ≤ 12 := by have := HC.out.le; omega
      have hkw : IntKind.i64.wrap ((k : Int) + 1) = (k : Int) + 1 := by rw [IntKind.wrap_i64]; omega
      obtain ⟨D, hD⟩ : ∃ D, digR s = D := ⟨_, rfl⟩
      have HREC := Lib.hid (show Calls Tryz.prog 28 #[.int .i64 ((k : Int) + 1), .string s] wr fun e w' => e = .returned (.agg #[.int .i64 ((k : Int) + 1), .int .i64 1, .int .i64 0, .int .i64 ((k : Int) + 1), .string D]) ∧ LJ wr w' from by rw [← hD]; exact lrecord_any wr _ (by omega) s hss)
      have hmay : Rec.may ⟨(k : Int) + 1, 1, 0, (k : Int) + 1, D⟩ = true := by
        have := recR_may s (n := (k : Int) + 1) (by omega) (by omega)
        unfold recR at this
        rw [hD] at this
        exact this
      have hD32 : D.size = 32 := by rw [← hD]; exact digR_size s
      have HMAY := Lib.hid hmay
      have HD32 := Lib.hid hD32
      have HK := Lib.hid hk
      rw [hk]
      clear htc hs hss hmay hD hD32 hk hiN htb
      go_upto_region 10 with (first
        | (go_at_call 28; (with_reducible refine HREC.out.mono ?_); rintro e w4 ⟨rfl, hl4⟩; have HL4 := Lib.hid hl4; clear hl4)
        | (refine wpList_store_row rfl 23 (.tmp 11) (.tmp 46) rfl w4.heap.size #[.int .i64 ((k : Int) + 1), .int .i64 1, .int .i64 0, .int .i64 ((k : Int) + 1), .string D] rfl rfl 23 _ (alloc_blk w4 _) info_rec rfl (by simp [Value.oneCell']) ?_)
        | fail)
      obtain ⟨q11, hq11⟩ : ∃ q, w4.heap.size = q := ⟨_, rfl⟩
      obtain ⟨w5, hw5⟩ : ∃ w5, (w4.alloc (.cells #[.int .i64 0, .int .i64 0, .int .i64 0, .int .i64 0, .string ⟨#[]⟩] 23)).setRow w4.heap.size #[.int .i64 ((k : Int) + 1), .int .i64 1, .int .i64 0, .int .i64 ((k : Int) + 1), .string D] = w5 := ⟨_, rfl⟩
      have HB5 := Lib.hid (show w5.heap[q11]? = some (.cells #[.int .i64 ((k : Int) + 1), .int .i64 1, .int .i64 0, .int .i64 ((k : Int) + 1), .string D] 23 (0, 0)) from by rw [← hw5, ← hq11]; exact setRow_heap' _ _ _ _ _ (alloc_blk w4 _))
      have HL45 := Lib.hid (show LJ w4 w5 from by rw [← hw5]; exact lj_only (F := fun q => q = w4.heap.size) ((LJ.refl w4).alloc _) (setRow_only _ _ _) (fun q e => Nat.le_of_eq e.symm))
      have HS5 := Lib.hid (show q11 < w5.heap.size ∧ wr.heap.size ≤ q11 from ⟨lt_blk HB5.out, by have := Below.size HL4.out; omega⟩)
      rw [hw5, hq11]
      clear hw5 hq11 ct
      have HK5 := Lib.hid (show AK w1 w5 (fun q => q = g ∨ q = q11) p b jb J A xs (3 + k) from by
        have h := HC.out.ak
        rw [HK.out] at h
        refine h.more (HL4.out.trans HL45.out) (fun q hq => ?_)
        have h2 := HS5.out
        rcases hq with rfl | rfl
        · exact .inl rfl
        · exact .inr ⟨h2.2, h2.1⟩)
      have HROW5 := Lib.hid (own_below HC.out.row (HL4.out.trans HL45.out))
      rw [HK.out] at HROW5
      by_cases hkc : k < cells
      · have HKC := Lib.hid hkc
        have HAP := Lib.hid (ak_yes HK5.out (by omega) ((k : Int) + 1) 1 0 ((k : Int) + 1) D HMAY.out (by rw [HK.out]; omega) (by rw [HK.out, HC.out.dim.1, HC.out.dim.2]; omega))
        obtain ⟨BY, hBY⟩ : ∃ B : ByteArray, (⟨(Rec.bytes ⟨(k : Int) + 1, 1, 0, (k : Int) + 1, D⟩).toArray⟩ : ByteArray) = B := ⟨_, rfl⟩
        have hBYl : BY.data.toList = Rec.bytes ⟨(k : Int) + 1, 1, 0, (k : Int) + 1, D⟩ := by rw [← hBY]
        have hBYs : BY.size = 43 := by
          have h1 : BY.data.toList.length = BY.size := by rw [Array.length_toList]; rfl
          rw [hBYl, Rec.bytes_len HD32.out] at h1
          exact h1.symm
        have HBYT := Lib.hid (fun W => show Calls Tryz.prog 7 #[.agg #[.int .i64 ((k : Int) + 1), .int .i64 1, .int .i64 0, .int .i64 ((k : Int) + 1), .string D]] W fun e w' => e = .returned (.tuple #[.string BY, .int .i64 0]) ∧ LJ W w' from by rw [← hBY]; exact abytes_yes W _ _ _ _ _ HMAY.out)
        have HBY := Lib.hid hBYl
        have hbn : ((BY.size : Int) != 43) = false := by rw [hBYs]; rfl
        clear hBY hBYl hkc
        go_upto_region 14 with (first
          | (refine wpList_load_row rfl 23 (.tmp 11) rfl q11 rfl 23 _ (0, 0) _ HB5.out Tryz.underlying23 rfl info_rec ?_)
          | (go_at_call 29; (with_reducible refine HAP.out.mono ?_); rintro e w6 ⟨rfl, hk6, hkp6⟩
             have HK6 := Lib.hid hk6
             have HB6 := Lib.hid ((hkp6 q11 (.inr rfl)).trans HB5.out)
             have HROW6 := Lib.hid (own_kept HROW5.out (fun q hq => hkp6 q (.inl (Option.some.inj hq).symm)))
             clear hk6 hkp6)
          | fail)
        go_upto_region 17 with (first
          | (refine wpList_load_row rfl 23 (.tmp 11) rfl q11 rfl 23 _ (0, 0) _ HB6.out Tryz.underlying23 rfl info_rec ?_)
          | (go_at_call 7; (with_reducible refine (HBYT.out _).mono ?_); rintro e w7 ⟨rfl, hl7⟩; have HL7 := Lib.hid hl7; clear hl7)
          | fail)
        have HK7 := Lib.hid (HK6.out.later HL7.out)
        have HB7 := Lib.hid (HL7.out.block HB6.out)
        have HROW7 := Lib.hid (own_below HROW6.out HL7.out)
        have hbs7 : w1.heap.size ≤ w7.heap.size := Below.size HK7.out.lj
        go_upto_region 18 with (first
          | (at_builtin; refine wpList_append_lies _ rfl (.tmp 72) (.tmp 74) 29 rfl w1.heap.size 9 iS (.string ⟨#[]⟩) 1 16 Tryz.underlying29 hiS hzS hsS hbS rfl (by decide) _ _ _ rfl (HROW7.out.alloc _) ⟨w7.heap.size, 0, none⟩ 1 1 [.string BY] rfl rfl (cells_newJ w7 [.string BY] 9) (by intro u hu; simp only [List.mem_cons, List.not_mem_nil, or_false] at hu; rcases hu with rfl; rfl) (by omega) (by unfold maxLen; omega) (by omega) (by simp; omega) _ rfl ?_; intro g8 cap8 w8 hown8 hgrow8 hat8 hlt8)
          | fail)
        obtain ⟨X, hX⟩ : ∃ X : Rec, (⟨(k : Int) + 1, 1, 0, (k : Int) + 1, D⟩ : Rec) = X := ⟨_, rfl⟩
        obtain ⟨ys, hys⟩ : ∃ ys, xs ++ [X] = ys := ⟨_, rfl⟩
        obtain ⟨J8, hJ8⟩ : ∃ J8, J.app xs X = J8 := ⟨_, rfl⟩
        obtain ⟨k1, hk1⟩ : ∃ k1, k + 1 = k1 := ⟨_, rfl⟩
        have HY := Lib.hid (show ys.length = k1 from by rw [← hys, List.length_append, HK.out]; exact hk1)
        have hg := HROW7.out.lt g rfl
        have hgl := HC.out.row.lt g rfl
        have h5 := HS5.out
        have hgsz := hgrow8.size
        simp only [World.size_alloc] at hgsz
        have hrow := fun q (hq : q < w7.heap.size) hne => (hgrow8.block q (by simp; omega) hne).trans (Below.heap_alloc _ _ _ hq)
        have HK8 := Lib.hid (show AK w1 w8 (fun q => q = g8 ∨ q = q11) p b jb J8 A ys (3 + k1) from by
          have h := HK7.out
          rw [hX, hJ8, hys, show 3 + k + 1 = 3 + k1 from by omega] at h
          refine h.beside (r := fun q => q = g) ⟨hgrow8.os, hgrow8.tape, hgrow8.output, by omega, fun q hq hne => hrow q hq (fun e => hne (Option.some.inj e))⟩ (fun q hq _ => ?_) (fun q hq => ?_)
          · subst hq
            exact ⟨.inl rfl, hg.1⟩
          · rcases hq with rfl | rfl
            · rcases hat8 with e | e
              · exact .inl (.inl (Option.some.inj e).symm)
              · simp only [World.size_alloc] at e
                exact .inr ⟨by omega, by omega⟩
            · exact .inl (.inr rfl))
        have HB8 := Lib.hid ((hrow q11 (lt_blk HB7.out) (fun e => by have h9 : q11 = g := Option.some.inj e; omega)).trans HB7.out)
        have HROW8 := Lib.hid (show w8.ownsRow w1.heap.size 9 1 (.slice (some ⟨g8, 0, none⟩) k1 cap8) k1 (strs (ys.map Rec.bytes)) from by
          have h := hown8
          rw [hk1] at h
          rw [← hys, List.map_append, List.map_cons, List.map_nil, strs_snoc, show strV X.bytes = .string BY from by rw [← hX, ← HBY.out]; rfl]
          exact h)
        have HX := Lib.hid hX
        have HYS := Lib.hid hys
        have HK1 := Lib.hid hk1
        have HJ8 := Lib.hid (show J8.n = area + cells ∧ J8.area = area from by rw [← hJ8, (app_n _ _ _).1, (app_n _ _ _).2]; exact HC.out.dim)
        have HRC := Lib.hid (ak_records HK8.out)
        rw [hk1]
        clear hX hys hJ8 hk1 hg hgl h5 hgsz hrow hown8 hgrow8 hat8
        go_upto_region 19 with (first
          | (go_at_call 21; (with_reducible refine HRC.out.mono ?_); rintro e w9 ⟨⟨lv, rfl, hlv, -⟩, hl9⟩; have HL9 := Lib.hid hl9; have HLV := Lib.hid hlv; clear hl9 hlv)
          | fail)
        rcases HLV.out with ⟨-, e⟩ | ⟨g9, cap9, hlv, -, -, hcell⟩
        · exfalso
          have h1 := HY.out
          rw [e] at h1
          have := HK1.out
          simp at h1
          omega
        rw [HY.out] at hlv
        subst hlv
        have hat : ∀ t u, t < 5 → (recC X)[t]? = some u → w9.cell? ⟨g9, k * 5 + t, none⟩ = some u := fun t u ht hu => hcell (k * 5 + t) u (by rw [← HYS.out, ← HK.out, recsC_at ht]; exact hu)
        rw [← HX.out] at hat
        have e0 : w9.cell? ⟨g9, k * 5, none⟩ = some (.int .i64 ((k : Int) + 1)) := hat 0 _ (by omega) rfl
        have e1 : w9.cell? ⟨g9, k * 5 + 1, none⟩ = some (.int .i64 1) := hat 1 _ (by omega) rfl
        have e2 : w9.cell? ⟨g9, k * 5 + 2, none⟩ = some (.int .i64 0) := hat 2 _ (by omega) rfl
        have e3 : w9.cell? ⟨g9, k * 5 + 3, none⟩ = some (.int .i64 ((k : Int) + 1)) := hat 3 _ (by omega) rfl
        have e4 : w9.cell? ⟨g9, k * 5 + 4, none⟩ = some (.string D) := hat 4 _ (by omega) rfl
        have HB9 := HL9.out.block HB8.out
        have d0 : w9.cell? ⟨q11, 0, none⟩ = some (.int .i64 ((k : Int) + 1)) := cell_blk HB9 0
        have d1 : w9.cell? ⟨q11, 1, none⟩ = some (.int .i64 1) := cell_blk HB9 1
        have d2 : w9.cell? ⟨q11, 2, none⟩ = some (.int .i64 0) := cell_blk HB9 2
        have d3 : w9.cell? ⟨q11, 3, none⟩ = some (.int .i64 ((k : Int) + 1)) := cell_blk HB9 3
        have d4 : w9.cell? ⟨q11, 4, none⟩ = some (.string D) := cell_blk HB9 4
        have HK9 := Lib.hid (HK8.out.later HL9.out)
        obtain ⟨m, hm⟩ : ∃ m, cells - k1 = m := ⟨_, rfl⟩
        have hk1k := HK1.out
        have hkc := HKC.out
        have HRM := Lib.hid (fun n => show Calls Tryz.prog 24 #[.pointer (some ⟨A, 0, none⟩)] (w9.drewN n) fun e w' => e = .returned (.int .i64 (m : Int)) ∧ ∃ n', w' = (w9.drewN n).drewN n' from by
          have h := ak_room (HK9.out.later (LJ.drewN (LJ.refl w9) n))
          rw [HJ8.out.1, HJ8.out.2, HY.out, show area + cells - area - k1 = m from by omega] at h
          exact h)
        have hwk : IntKind.i64.wrap ((k1 : Int) - 1) = (k : Int) := by rw [IntKind.wrap_i64]; omega
        have hwm : IntKind.i64.wrap ((cells : Int) - (k1 : Int)) = (m : Int) := by rw [IntKind.wrap_i64]; omega
        have hlt1 : decide (k < k1) = true := by simp; omega
        have hlt2 : (k : Int) < (k1 : Int) := by omega
        have hlt3 : k < k1 := by omega
        have hdd : (D.toList == D.toList) = true := beq_self_eq_true _
        have hmm : ((m : Int) != (m : Int)) = false := bne_self_eq_false _
        clear hcell hat HB9 hm hk1k hkc
        go_quiet ((go_at_call 24; exact Calls.quiet_of (HRM.out _)))
        obtain ⟨w10, hw10⟩ : ∃ w10, w9.drewN nq = w10 := ⟨_, rfl⟩
        have HL10 := Lib.hid (show LJ w9 w10 from by rw [← hw10]; exact LJ.drewN (LJ.refl w9) nq)
        rw [hw10]
        clear hw10 e0 e1 e2 e3 e4 d0 d1 d2 d3 d4 hwk hwm hlt1 hlt2 hlt3 hdd hmm
        obtain ⟨LK, hLK⟩ : ∃ B : ByteArray, (⟨(lastL ys).toArray⟩ : ByteArray) = B := ⟨_, rfl⟩
        have HLN := Lib.hid (show Calls Tryz.prog 23 #[.pointer (some ⟨A, 0, none⟩)] w10 fun e w' => e = .returned (.string LK) ∧ w10 = w' from by rw [← hLK]; exact ak_link (HK9.out.later HL10.out))
        have HCH := Lib.hid (fun W (hl : LJ w8 W) => show Calls Tryz.prog 30 #[.string Z, .slice (some ⟨g8, 0, none⟩) k1 cap8] W fun e w' => e = .returned (.string LK) ∧ LJ W w' from by
          have h32 : ∀ x ∈ ys, x.h.size = 32 := fun x hx => by
            rw [← HYS.out] at hx
            rcases List.mem_append.1 hx with hx | hx
            · exact HC.out.h32 x hx
            · rw [List.mem_singleton.1 hx, ← HX.out]; exact HD32.out
          have h := hchain_any W g8 cap8 (ys.map Rec.bytes) (by rw [List.length_map, HY.out]; have := HK1.out; omega) (own_cells (own_below HROW8.out hl)) (fun q hq => by
            obtain ⟨x, hx, rfl⟩ := List.mem_map.1 hq
            rw [Rec.bytes_len (h32 x hx)]
            omega) Z (by rw [← HZ.out]; show (zs 32).toArray.size = 32; simp [zs])
          rw [List.length_map, HY.out, List.foldl_map, show Z.data.toList = zs 32 from by rw [← HZ.out]] at h
          rw [← hLK]
          exact h)
        have hll : (LK.toList != LK.toList) = false := bne_self_eq_false _
        clear hLK
        go_wp2_with (first
          | (go_at_call 23; (with_reducible refine HLN.out.mono ?_); rintro e wl ⟨rfl, hwl⟩; subst hwl)
          | (go_at_call 11; (with_reducible refine (HNO.out _).mono ?_); rintro e w11 ⟨rfl, hl11⟩; have HL11 := Lib.hid hl11; have HCH11 := Lib.hid (HCH.out w11 (HL9.out.trans (HL10.out.trans hl11))); clear hl11)
          | (go_at_call 30; (with_reducible refine HCH11.out.mono ?_); rintro e w12 ⟨rfl, hl12⟩; have HL12' := Lib.hid hl12; clear hl12)
          | fail)
        go_roundw
        case rel =>
          have HLE := HL10.out.trans (HL11.out.trans HL12'.out)
          refine ⟨i + 1, ys, J8, g8, cap8, by omega, by simp, by rw [HY.out], Lib.hid ⟨?_, ?_, HJ8.out, ?_, ?_⟩⟩
          · rw [HY.out]
            exact own_below HROW8.out (HL9.out.trans HLE)
          · rw [HY.out]
            exact HK9.out.more HLE (fun q hq => .inl (.inl hq))
          · rw [HY.out]
            have := HK1.out
            have := HKC.out
            omega
          · intro x hx
            rw [← HYS.out] at hx
            rcases List.mem_append.1 hx with hx | hx
            · exact HC.out.h32 x hx
            · rw [List.mem_singleton.1 hx, ← HX.out]; exact HD32.out
        case measure => simp [intOf]; omega
      · have hke : k = cells := by have := HC.out.le; have := HK.out; omega
        have HAP := Lib.hid (ak_full HK5.out ((k : Int) + 1) 1 0 ((k : Int) + 1) D HMAY.out (by rw [HK.out]; omega) (by rw [HK.out, HC.out.dim.1, HC.out.dim.2]; omega))
        have hkk : ((k : Int) != (cells : Int)) = false := by rw [hke]; exact bne_self_eq_false _
        clear hke hkc
        go_wp2_with (first
          | (refine wpList_load_row rfl 23 (.tmp 11) rfl q11 rfl 23 _ (0, 0) _ HB5.out Tryz.underlying23 rfl info_rec ?_)
          | (go_at_call 29; (with_reducible refine HAP.out.mono ?_); rintro e w6 ⟨rfl, hl6⟩
             have HL6 := Lib.hid hl6
             clear hl6)
          | fail)
        go_roundw
        case rel =>
          refine ⟨i + 1, xs, J, g, cap, by omega, by simp, by rw [HK.out], Lib.hid ⟨?_, ?_, HC.out.dim, HC.out.le, HC.out.h32⟩⟩
          · rw [HK.out]
            exact own_below HROW5.out HL6.out
          · rw [HK.out]
            exact HK5.out.more HL6.out (fun q hq => .inl (.inl hq))
        case measure => simp [intOf]; omega
    · have hie : i = N := by omega
      have hili : ¬ (i : Int) < (N : Int) := by omega
      have HRL := Lib.hid HC.out.ak.lj
      clear hie
      go_wp2_with (first
        | (go_at_call 9; (with_reducible refine (HFX.out _).mono ?_); rintro e w4 ⟨rfl, hl4⟩; have HL4 := Lib.hid hl4; clear hl4)
        | fail)
      go_ret
      exact ⟨rfl, HL1.out.trans (HRL.out.trans HL4.out)⟩
end Go.Proofs.YtkkjhdpkakdjmaaGreatDoor
