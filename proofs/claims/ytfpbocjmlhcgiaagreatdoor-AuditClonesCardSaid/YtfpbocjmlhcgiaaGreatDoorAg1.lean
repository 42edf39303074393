/- Ag1, merged: AU4 AU5. -/
import Derived.Test.YtfpbocjmlhcgiaaGreatDoorAU3
import Derived.Test.YtfpbocjmlhcgiaaGreatDoorJg19
set_option linter.unusedSimpArgs false
set_option linter.unusedVariables false
/- The audit's Link, Room, Records. -/
namespace Go.Proofs.YtfpbocjmlhcgiaaGreatDoor
open Go.RowKit PJ Go.Maps

/-- A slice of records that nobody writes. -/
def RecSl (w : World) (v : Value) (xs : List Rec) : Prop :=
  (v = .slice none 0 0 ∧ xs = []) ∨ ∃ g cap, v = .slice (some ⟨g, 0, none⟩) xs.length cap ∧ xs.length ≤ cap ∧ g < w.heap.size ∧ ∀ j u, (recsC xs)[j]? = some u → w.cell? ⟨g, j, none⟩ = some u
theorem own_recs {w : World} {B : Nat} {v : Value} {xs : List Rec} (h : w.ownsRow B 49 5 v xs.length (recsC xs)) : RecSl w v xs := by
  have h0 := h
  rcases h.2 with ⟨rfl, e⟩ | ⟨g, cap, cur, rfl, h1, h2, h3, h4⟩
  · exact .inl ⟨rfl, List.length_eq_zero_iff.1 e⟩
  · refine .inr ⟨g, cap, rfl, h3, lt_blk h2, fun j u hu => ?_⟩
    have hj : j < xs.length * 5 := by rw [← recsC_len]; exact (List.getElem?_eq_some_iff.1 hu).1
    rw [h0.cellAt j hj, hu]
theorem recsC_one (xs : List Rec) : ∀ u ∈ recsC xs, u.oneCell' = true := by
  intro u hu
  unfold recsC at hu
  obtain ⟨x, -, hx⟩ := List.mem_flatMap.1 hu
  simp only [recC, List.mem_cons, List.not_mem_nil, or_false] at hx
  rcases hx with rfl | rfl | rfl | rfl | rfl <;> rfl
set_option maxRecDepth 100000 in
theorem rclip_nil (w : World) : Calls Tryz.prog 73 #[.slice none 0 0] w fun e w' => e = .returned (.slice none 0 0) ∧ w = w' := by
  go_enter Tryz.func73, Tryz.ntmps73
  go_wp2_with fail
  go_ret
  exact ⟨rfl, rfl⟩
set_option maxRecDepth 100000 in
theorem rclip_some (w : World) (g n cap : Nat) (hn : n ≤ cap) : Calls Tryz.prog 73 #[.slice (some ⟨g, 0, none⟩) n cap] w fun e w' => e = .returned (.slice (some ⟨g, 0, none⟩) n n) ∧ w = w' := by
  have h1 : (n : Int) ≤ (cap : Int) := by omega
  have h0 : (0 : Int) ≤ (n : Int) := by omega
  go_enter Tryz.func73, Tryz.ntmps73
  go_wp2_with fail
  go_ret
  exact ⟨rfl, rfl⟩
set_option maxRecDepth 100000 in
theorem rclone_nil (w : World) : Calls Tryz.prog 72 #[.slice none 0 0] w fun e w' => e = .returned (.slice none 0 0) ∧ LJ w w' := by
  have heq : (binOp .eql 45 (.slice none 0 0) (.slice none 0 0)).run Tryz.prog w = .ok (.bool true) w := run_eql_slice_nil w _ _ none 0 0 Tryz.underlying45
  go_enter Tryz.func72, Tryz.ntmps72
  go_wp2_with fail
  go_ret
  exact ⟨rfl, LJ.refl w⟩
set_option maxRecDepth 100000 in
theorem rclone_some (w : World) (g cap : Nat) (xs : List Rec) (hn : xs.length ≤ 4096) (hg : g < w.heap.size) (hc : ∀ j u, (recsC xs)[j]? = some u → w.cell? ⟨g, j, none⟩ = some u) :
    Calls Tryz.prog 72 #[.slice (some ⟨g, 0, none⟩) xs.length cap] w fun e w' => ∃ v, e = .returned v ∧ w'.ownsRow w.heap.size 49 5 v xs.length (recsC xs) ∧ LJ w w' := by
  have heq : (binOp .eql 45 (.slice (some ⟨g, 0, none⟩) xs.length cap) (.slice none 0 0)).run Tryz.prog w = .ok (.bool false) w := run_eql_slice_nil w _ _ (some ⟨g, 0, none⟩) xs.length cap Tryz.underlying45
  obtain ⟨iK, hiK, hzK, hsK, hbK⟩ := info_parts info_recA
  have HC := Lib.hid hc
  have HL := Lib.hid (recsC_len xs)
  obtain ⟨n, hnn⟩ : ∃ n, xs.length = n := ⟨_, rfl⟩
  rw [hnn] at HL heq hn ⊢
  clear hc hnn
  go_enter Tryz.func72, Tryz.ntmps72
  go_wp2_with (first
    | (at_builtin; refine wpList_append_own _ rfl (.tmp 5) (.tmp 6) 45 rfl w.heap.size 49 iK (.agg #[.int .i64 0, .int .i64 0, .int .i64 0, .int .i64 0, .string ⟨#[]⟩]) 5 48 Tryz.underlying45 hiK hzK hsK hbK rfl (by decide) _ 0 [] rfl ⟨rfl, Or.inr ⟨w.heap.size, 0, #[], rfl, Nat.le_refl _, alloc_blk w _, Nat.le_refl _, by unfold maxLen; omega, rfl, rfl⟩⟩ ⟨g, 0, none⟩ n cap (recsC xs) rfl HL.out (fun j u hu => by rw [addr_none, Nat.zero_add]; exact ((alloc_below w _).cell (p := ⟨g, j, none⟩) hg).trans (HC.out j u hu)) (recsC_one xs) (by unfold maxLen; omega) (by omega) (by simp) ?_; intro v' w1 hown1 hgrow1 _)
    | fail)
  go_ret
  have h7 : w.heap.size ≤ w1.heap.size := Nat.le_trans (alloc_below w (.cells #[] 49)).size hgrow1.size
  rw [Nat.zero_add, List.nil_append] at hown1
  exact ⟨_, rfl, hown1, ⟨hgrow1.os, hgrow1.tape, hgrow1.output, h7, fun k hk => (hgrow1.block k (Nat.lt_of_lt_of_le hk (alloc_below w (.cells #[] 49)).size) (fun e => absurd (Option.some.inj (show some k = some w.heap.size from e)) (Nat.ne_of_lt hk))).trans (Below.heap_alloc _ _ _ hk)⟩⟩
theorem rclone_any (w : World) (v : Value) (xs : List Rec) (hn : xs.length ≤ 4096) (h : RecSl w v xs) :
    Calls Tryz.prog 72 #[v] w fun e w' => ∃ v', e = .returned v' ∧ w'.ownsRow w.heap.size 49 5 v' xs.length (recsC xs) ∧ LJ w w' := by
  rcases h with ⟨rfl, rfl⟩ | ⟨g, cap, rfl, h1, h2, h3⟩
  · refine (rclone_nil w).mono ?_
    rintro e w' ⟨rfl, hl⟩
    exact ⟨_, rfl, ⟨rfl, .inl ⟨rfl, rfl⟩⟩, hl⟩
  · exact rclone_some w g cap xs hn h2 h3
theorem rclip_any (w : World) (v : Value) (xs : List Rec) (h : RecSl w v xs) :
    Calls Tryz.prog 73 #[v] w fun e w' => (∃ v', e = .returned v' ∧ RecSl w v' xs ∧ (∀ q, v'.ownBlock = some q → v.ownBlock = some q) ∧ (v' = .slice none 0 0 ∨ ∃ g, v' = .slice (some ⟨g, 0, none⟩) xs.length xs.length)) ∧ w = w' := by
  rcases h with ⟨rfl, rfl⟩ | ⟨g, cap, rfl, h1, h2, h3⟩
  · refine (rclip_nil w).mono ?_
    rintro e w' ⟨rfl, hl⟩
    exact ⟨⟨_, rfl, .inl ⟨rfl, rfl⟩, fun _ h => h, .inl rfl⟩, hl⟩
  · refine (rclip_some w g xs.length cap h1).mono ?_
    rintro e w' ⟨rfl, hl⟩
    exact ⟨⟨_, rfl, .inr ⟨g, xs.length, rfl, Nat.le_refl _, h2, h3⟩, fun _ h => h, .inr ⟨g, rfl⟩⟩, hl⟩
set_option maxRecDepth 100000 in
theorem alink_any (w : World) (A jb : Nat) (xs : List Rec) (V : Value) (h : AudB w A jb xs V) : Calls Tryz.prog 22 #[.pointer (some ⟨A, 0, none⟩)] w fun e w' => e = .returned (.string ⟨(lastL xs).toArray⟩) ∧ w = w' := by
  have c2 : w.cell? ⟨A, 2, none⟩ = some (.string ⟨(lastL xs).toArray⟩) := cell_blk h.blk 2
  obtain ⟨L, hL⟩ : ∃ L : ByteArray, (⟨(lastL xs).toArray⟩ : ByteArray) = L := ⟨_, rfl⟩
  rw [hL] at c2 ⊢
  clear h hL
  go_enter Tryz.func22, Tryz.ntmps22
  go_wp2_with fail
  go_ret
  exact ⟨rfl, rfl⟩
set_option maxRecDepth 100000 in
theorem arecords_any (w : World) (A jb : Nat) (xs : List Rec) (V : Value) (hx : xs.length ≤ 4096) (h : AudB w A jb xs V) : Calls Tryz.prog 21 #[.pointer (some ⟨A, 0, none⟩)] w fun e w' => (∃ v', e = .returned v' ∧ RecSl w' v' xs ∧ ∀ q, v'.ownBlock = some q → w.heap.size ≤ q) ∧ LJ w w' := by
  have c1 : w.cell? ⟨A, 1, none⟩ = some V := cell_blk h.blk 1
  have HCL := Lib.hid (rclone_any w V xs hx (own_recs h.row))
  clear h
  go_enter Tryz.func21, Tryz.ntmps21
  go_upto_region 1 with fail
  go_wp2_with (first
    | (go_at_call 72; (with_reducible refine HCL.out.mono ?_); rintro e w1 ⟨v1, rfl, ho1, hl1⟩; have HO1 := Lib.hid ho1; have HL1 := Lib.hid hl1; have HCP := Lib.hid (rclip_any w1 v1 xs (own_recs ho1)); clear ho1 hl1)
    | (go_at_call 73; (with_reducible refine HCP.out.mono ?_); rintro e w2 ⟨⟨v2, rfl, hr2, ho2, hs2⟩, hw2⟩; subst hw2; have HR2 := Lib.hid hr2; have HO2 := Lib.hid ho2; have HS2 := Lib.hid hs2; clear hr2 ho2 hs2)
    | fail)
  go_ret
  exact ⟨⟨_, rfl, HR2.out, fun q hq => (HO1.out.lt q (HO2.out q hq)).1⟩, HL1.out⟩
set_option maxRecDepth 100000 in
theorem aroom_any (w : World) (p b jb : Nat) (F : Nat → Prop) (J : Jn) (hj : JAt w p b jb F J) (A : Nat) (xs : List Rec) (V : Value) (h : AudB w A jb xs V) (hx : xs.length ≤ J.n - J.area) :
    Calls Tryz.prog 25 #[.pointer (some ⟨A, 0, none⟩)] w fun e w' => e = .returned (.int .i64 ((J.n - J.area - xs.length : Nat) : Int)) ∧ ∃ n, w' = w.drewN n := by
  have h12 := hj.ok.n12
  have HC := Lib.hid (fun n => cells_any (w.drewN n) p b jb F J (hj.drewN n))
  have c0 : w.cell? ⟨A, 0, none⟩ = some (.pointer (some ⟨jb, 0, none⟩)) := cell_blk h.blk 0
  have c1 : w.cell? ⟨A, 1, none⟩ = some V := cell_blk h.blk 1
  obtain ⟨m, hm⟩ : ∃ m, J.n - J.area = m := ⟨_, rfl⟩
  obtain ⟨n, hn⟩ : ∃ n, xs.length = n := ⟨_, rfl⟩
  rw [hm] at HC hx ⊢
  rw [hn] at hx ⊢
  have hm2 : m ≤ 4096 := by omega
  obtain ⟨ao, cap, hV⟩ : ∃ ao cap, V = .slice ao n cap := by
    rcases h.row.2 with ⟨e, e2⟩ | ⟨g, cap, cur, e, _⟩
    · exact ⟨none, 0, by rw [e]; rw [← hn, e2]⟩
    · exact ⟨_, cap, by rw [e, hn]⟩
  subst hV
  have hwr : IntKind.i64.wrap ((m : Int) - (n : Int)) = ((m - n : Nat) : Int) := by rw [IntKind.wrap_i64]; omega
  clear h hj h12 hm hn
  go_enter Tryz.func25, Tryz.ntmps25
  go_upto_region 1 with fail
  go_quiet ((go_at_call 62; exact Calls.quiet_of (HC.out _)))
  go_wp2_with fail
  go_ret
  exact ⟨rfl, _, rfl⟩
end Go.Proofs.YtfpbocjmlhcgiaaGreatDoor
/- Plain: a record more in the journal's cells. -/
namespace Go.Proofs.YtfpbocjmlhcgiaaGreatDoor
open Go.RowKit PJ Go.Maps

/-- The write that Append commits. -/
def wrA (xs : List Rec) (x : Rec) : Wr := ⟨(xs.length : Int), ⟨(1 :: (x.bytes ++ lastL (xs ++ [x]))).toArray⟩⟩
theorem wrA_list (xs : List Rec) (x : Rec) : (wrA xs x).data.data.toList = 1 :: (x.bytes ++ lastL (xs ++ [x])) := rfl
theorem wrA_size (xs : List Rec) (x : Rec) (h : x.h.size = 32) : (wrA xs x).data.size = 76 := by
  have h1 : (wrA xs x).data.data.toList.length = (wrA xs x).data.size := by rw [Array.length_toList]; rfl
  rw [wrA_list, List.length_cons, List.length_append, Rec.bytes_len h, lastL_len] at h1
  omega
theorem may_wrA {J : Jn} (h : J.OK) (xs : List Rec) (x : Rec) (hx : x.h.size = 32) (hl : xs.length < J.n - J.area) : mayI (J.n - J.area) J.area [wrA xs x] = 0 := by
  have h4 := h.area4
  have hs := wrA_size xs x hx
  have hg : longB [wrA xs x] = false := by
    unfold longB
    rw [List.any_cons, hs]
    rfl
  have ha : apartW ((J.n - J.area : Nat) : Int) [] [wrA xs x] = true := by
    have h1 : (0 : Int) ≤ (xs.length : Int) := by omega
    have h2 : (xs.length : Int) < ((J.n - J.area : Nat) : Int) := by omega
    simp [apartW, wrA, h1, h2]
    try omega
  unfold mayI
  rw [if_neg (by rw [hg]; simp; omega), if_pos ha]
theorem read_at {J : Jn} {c : Nat} (h : c < J.n - J.area) : J.read[c]? = some (J.cell c) := by
  rw [Jn.read_eq, Jn.firstCells, List.getElem?_map, List.getElem?_range h]; rfl
theorem commit_dim (J : Jn) (l : List Wr) : (J.commit l).n = J.n ∧ (J.commit l).area = J.area ∧ (J.commit l).next = J.next + 1 ∧ (J.commit l).head ≤ J.head + 1 := by
  unfold Jn.commit
  split
  · exact ⟨rfl, rfl, rfl, Nat.le_refl _⟩
  · exact ⟨rfl, rfl, rfl, by show J.head ≤ J.head + 1; omega⟩
theorem commit_reads {J : Jn} (h : J.OK) (hh : J.head < 4611686018427387904) (hn : J.next ≤ 4611686018427387904) (l : List Wr) (hm : mayI (J.n - J.area) J.area l = 0) : (J.commit l).read = behindL J.read l := by
  obtain ⟨m1, m2, m3⟩ := may_ok hm
  have ha4 := h.area4
  unfold Jn.commit
  split
  · have hO := Jn.home_ok h hh hn
    rw [Jn.read_put hO (by show 2 + 1 + l.length ≤ J.area; omega) m3, Jn.read_home h]
  · rw [Jn.read_put h (by omega) m3]
/-- The journal behind an Append. -/
def Jn.app (J : Jn) (xs : List Rec) (x : Rec) : Jn := { J.commit [wrA xs x] with S := (J.commit [wrA xs x]).V }
theorem app_cell {J : Jn} (h : J.OK) (hh : J.head < 4611686018427387904) (hn : J.next ≤ 4611686018427387904) (xs : List Rec) (x : Rec) (hx : x.h.size = 32) (hl : xs.length < J.n - J.area) (c : Nat) (hc : c < J.n - J.area) :
    (J.app xs x).cell c = if c = xs.length then cellB x (lastL (xs ++ [x])) else J.cell c := by
  have hm := may_wrA h xs x hx hl
  obtain ⟨d1, d2, d3, d4⟩ := commit_dim J [wrA xs x]
  have hr := commit_reads h hh hn [wrA xs x] hm
  have e1 : (J.app xs x).cell c = (J.commit [wrA xs x]).cell c := rfl
  have h1 := read_at (J := J.commit [wrA xs x]) (c := c) (by rw [d1, d2]; exact hc)
  have h2 := read_at hc
  have hlen : J.read.length = J.n - J.area := cont_len _ _ _
  have hb : behindL J.read [wrA xs x] = J.read.set xs.length (cellB x (lastL (xs ++ [x]))) := by
    show behindW J.read (wrA xs x) = _
    unfold behindW
    rw [if_pos ⟨by show (0 : Int) ≤ (xs.length : Int); omega, by show (xs.length : Int) < (J.read.length : Int); rw [hlen]; omega, by rw [wrA_size xs x hx]; omega⟩, wrA_list]
    rfl
  rw [hr, hb] at h1
  rw [e1]
  by_cases he : c = xs.length
  · rw [if_pos he]
    subst he
    rw [List.getElem?_set_self (by rw [hlen]; exact hc)] at h1
    exact (Option.some.inj h1).symm
  · rw [if_neg he]
    rw [List.getElem?_set_ne (fun e => he e.symm), h2] at h1
    exact (Option.some.inj h1).symm
theorem AuC.snoc {J : Jn} {xs : List Rec} (hC : AuC J xs) (h : J.OK) (hh : J.head < 4611686018427387904) (hn : J.next ≤ 4611686018427387904) (x : Rec) (hm : x.may = true) (hx : x.n = ((xs.length + 1 : Nat) : Int)) (hl : xs.length < J.n - J.area) : AuC (J.app xs x) (xs ++ [x]) := by
  obtain ⟨n, f, t, r, hb⟩ := x
  have h32 := (may_facts hm).2.2.2.2.2
  obtain ⟨d1, d2, d3, d4⟩ := commit_dim J [wrA xs ⟨n, f, t, r, hb⟩]
  have e1 : (J.app xs ⟨n, f, t, r, hb⟩).n = J.n := d1
  have e2 : (J.app xs ⟨n, f, t, r, hb⟩).area = J.area := d2
  have hcell := app_cell h hh hn xs ⟨n, f, t, r, hb⟩ h32 hl
  refine ⟨by rw [e1, e2, List.length_append]; show xs.length + 1 ≤ _; omega, fun i y hy => ?_, fun i h1 h2 => ?_, fun i y hy => ?_⟩
  · have hi : i < xs.length + 1 := by have := (List.getElem?_eq_some_iff.1 hy).1; simpa using this
    rw [hcell i (by omega)]
    by_cases he : i = xs.length
    · subst he
      rw [if_pos rfl]
      rw [List.getElem?_append_right (Nat.le_refl _), Nat.sub_self] at hy
      have e : (⟨n, f, t, r, hb⟩ : Rec) = y := by simpa using hy
      rw [← e, List.take_of_length_le (by simp)]
    · rw [if_neg he]
      rw [List.getElem?_append_left (by omega)] at hy
      rw [hC.cell i y hy, List.take_append_of_le_length (by omega)]
  · rw [List.length_append] at h1
    have h1' : xs.length + 1 ≤ i := h1
    rw [e1, e2] at h2
    rw [hcell i h2, if_neg (by omega)]
    exact hC.none i (by omega) h2
  · by_cases he : i < xs.length
    · rw [List.getElem?_append_left he] at hy
      exact hC.ok i y hy
    · have hi : i < xs.length + 1 := by have := (List.getElem?_eq_some_iff.1 hy).1; simpa using this
      have he2 : i = xs.length := by omega
      subst he2
      rw [List.getElem?_append_right (Nat.le_refl _), Nat.sub_self] at hy
      have e : (⟨n, f, t, r, hb⟩ : Rec) = y := by simpa using hy
      subst e
      exact ⟨hm, hx⟩
end Go.Proofs.YtfpbocjmlhcgiaaGreatDoor
