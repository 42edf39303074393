/- The journal's may. -/
import Derived.Test.YtfpbocjmlhcgiaaGreatDoorJg13
import Derived.Test.YtfpbocjmlhcgiaaGreatDoorJNX
set_option linter.unusedSimpArgs false
set_option linter.unusedVariables false
namespace Go.Proofs.YtfpbocjmlhcgiaaGreatDoor
open Go.RowKit PJ Go.Maps

theorem apart_iff (n : Int) : ∀ (l : List Wr) (seen : List Int), apartW n seen l = true ↔ ∀ i x, l[i]? = some x → 0 ≤ x.cell ∧ x.cell < n ∧ seen.contains x.cell = false ∧ (l.take i).any (fun o => decide (o.cell = x.cell)) = false
  | [], seen => by simp [apartW]
  | y :: r, seen => by
    unfold apartW
    rw [Bool.and_eq_true, apart_iff n r (y.cell :: seen)]
    constructor
    · rintro ⟨h1, h2⟩ i x hx
      simp only [Bool.and_eq_true, decide_eq_true_eq, Bool.not_eq_true'] at h1
      cases i with
      | zero =>
        obtain rfl : y = x := by simpa using hx
        exact ⟨h1.1.1, h1.1.2, h1.2, by simp⟩
      | succ i =>
        obtain ⟨a, b, c, d⟩ := h2 i x (by simpa using hx)
        simp only [List.contains_cons, Bool.or_eq_false_iff] at c
        refine ⟨a, b, c.2, ?_⟩
        rw [List.take_succ_cons, List.any_cons, d, Bool.or_false, decide_eq_false_iff_not]
        intro e
        rw [e] at c
        simp at c
    · intro h
      obtain ⟨a, b, c, -⟩ := h 0 y rfl
      refine ⟨by simp only [Bool.and_eq_true, decide_eq_true_eq, Bool.not_eq_true']; exact ⟨⟨a, b⟩, c⟩, fun i x hx => ?_⟩
      obtain ⟨a', b', c', d'⟩ := h (i + 1) x (by simpa using hx)
      rw [List.take_succ_cons, List.any_cons, Bool.or_eq_false_iff, decide_eq_false_iff_not] at d'
      refine ⟨a', b', ?_, d'.2⟩
      rw [List.contains_cons, Bool.or_eq_false_iff]
      exact ⟨by simpa using fun e => d'.1 e.symm, c'⟩
set_option maxRecDepth 100000 in
theorem wcont_any (K : Nat) (hK : ∀ args w, (callFunc K args).run Tryz.prog w = .ok (.enter K args) w) (cp : Array Value) (q : Wr → Bool) (w : World) (g off cap : Nat) (xs : List Wr) (hx : xs.length ≤ 140737488355328) (hg : g < w.heap.size) (hc : ∀ j x, xs[j]? = some x → WrCells w g (off + j * 2) x)
    (hq : ∀ w1, LJ w w1 → ∀ x ∈ xs, Calls Tryz.prog K (#[.agg #[.int .i64 x.cell, .string x.data]] ++ cp) w1 fun e w' => e = .returned (.bool (q x)) ∧ LJ w1 w') :
    Calls Tryz.prog 194 #[.slice (some ⟨g, off, none⟩) xs.length cap, .func (.func K) #[] cp] w fun e w' => e = .returned (.bool (xs.any q)) ∧ LJ w w' := by
  have HI := Lib.hid (widx_any K hK cp q w g off cap xs hx hg hc hq)
  have hany := findW_any q xs 0
  have hlo := findW_lo q xs 0
  obtain ⟨r, hr⟩ : ∃ r, findW q xs 0 = r := ⟨_, rfl⟩
  rw [hr] at HI hany hlo
  have HA := Lib.hid hany
  clear hq hc hr hany hlo
  go_enter Tryz.func194, Tryz.ntmps194
  go_wp2_with (first
    | (go_at_call 221; (with_reducible refine HI.out.mono ?_); rintro e w1 ⟨rfl, hb1⟩)
    | fail)
  go_ret
  refine ⟨?_, hb1⟩
  show Ending.returned (.bool (decide ((0 : Int) ≤ r))) = _
  congr 2
  rw [Bool.eq_iff_iff, decide_eq_true_eq]
  exact HA.out
set_option maxRecDepth 100000 in
set_option maxHeartbeats 4000000 in
theorem may_any (w : World) (p b jb : Nat) (F : Nat → Prop) (J : Jn) (h : JAt w p b jb F J) (hn : J.next < 4611686018427387904) (g off cap : Nat) (l : List Wr) (hl1 : 1 ≤ l.length) (hx : l.length ≤ 140737488355328) (hcp : l.length ≤ cap) (hg : g < w.heap.size) (hc : ∀ j x, l[j]? = some x → WrCells w g (off + j * 2) x)
    (hsz : ∀ x ∈ l, x.data.size ≤ 9223372036854775807) :
    Calls Tryz.prog 137 #[.pointer (some ⟨jb, 0, none⟩), .slice (some ⟨g, off, none⟩) l.length cap] w fun e w' => e = .returned (.int .i64 (mayI (J.n - J.area) J.area l)) ∧ LJ w w' := by
  have hJ := h
  obtain ⟨a, rfl, rfl, rfl, h4, h5, dt, hj, hok, hdt⟩ := h
  have hn12 := hok.n12
  have har := hok.arean
  have ha4 := hok.area4
  have c1 : w.cell? ⟨a.jb, 1, none⟩ = some (.int .i64 J.area) := by rw [← h5]; exact cell_blk hj.cells 1
  have c4 : w.cell? ⟨a.jb, 4, none⟩ = some (.int .i64 J.next) := cell_blk hj.cells 4
  have HL := Lib.hid (wcont_any 193 (enters_of Tryz.func193 (by kernel_rfl) rfl) #[] (fun x => decide (116 < x.data.size)) w g off cap l hx hg hc (fun w1 h1 x hxm => long1_any w1 x.cell x.data (hsz x hxm)))
  have hlong : l.any (fun x => decide (116 < x.data.size)) = longB l := rfl
  rw [hlong] at HL
  have hai : (J.area : Int) ≤ 4096 := by omega
  have hai4 : (4 : Int) ≤ J.area := by omega
  obtain ⟨n, hnn⟩ : ∃ n, l.length = n := ⟨_, rfl⟩
  have HN := Lib.hid hnn
  rw [hnn] at HL hl1 hx hcp ⊢
  have HNX := Lib.hid hn
  have HX0 := Lib.hid hx
  clear hn hx
  unfold mayI
  rw [hnn]
  by_cases hA : 40 < n
  · rw [if_pos (.inl hA)]
    have gA : decide ((40 : Int) < (n : Int)) = true := by simp; omega
    have gA2 : decide (40 < n) = true := by simp; omega
    clear hj hok hdt hlong hnn hc hJ hsz HL
    go_enter Tryz.func137, Tryz.ntmps137
    go_wp2_with fail
    go_ret
    exact ⟨rfl, LJ.refl w⟩
  have gA : decide ((40 : Int) < (n : Int)) = false := by simp; omega
  have gA2 : decide (40 < n) = false := by simp; omega
  by_cases hB : J.area - 3 < n
  · rw [if_pos (.inr (.inl hB))]
    have hB2 : (J.area : Int) - 2 - 1 < (n : Int) := by omega
    have gB : decide ((J.area : Int) - 2 - 1 < (n : Int)) = true := by simp; omega
    clear hj hok hdt hlong hnn hc hJ hsz HL
    go_enter Tryz.func137, Tryz.ntmps137
    go_wp2_with fail
    go_ret
    exact ⟨rfl, LJ.refl w⟩
  have hB2 : ¬ (J.area : Int) - 2 - 1 < (n : Int) := by omega
  have hn40 : n ≤ 40 := by omega
  have gB : decide ((J.area : Int) - 2 - 1 < (n : Int)) = false := by simp; omega
  cases hlb : longB l with
  | true =>
    rw [if_pos (.inr (.inr rfl))]
    rw [hlb] at HL
    clear hj hok hdt hlong hnn hc hJ hsz hlb
    go_enter Tryz.func137, Tryz.ntmps137
    go_wp2_with (first
      | (go_at_call 194; (with_reducible refine HL.out.mono ?_); rintro e w1 ⟨rfl, hb1⟩)
      | fail)
    go_ret
    exact ⟨rfl, hb1⟩
  | false =>
    rw [if_neg (by simp; omega)]
    rw [hlb] at HL
    have HAP := Lib.hid (apart_iff ((J.n - J.area : Nat) : Int) l [])
    have HC := Lib.hid hc
    have HJ := Lib.hid hJ
    have HLT := Lib.hid (hJ.lt)
    obtain ⟨m, hm⟩ : ∃ m, J.n - J.area = m := ⟨_, rfl⟩
    rw [hm] at HAP ⊢
    obtain ⟨RR, hRR⟩ : ∃ RR : Int, (if apartW (m : Int) [] l = true then (0 : Int) else 161) = RR := ⟨_, rfl⟩
    rw [hRR]
    have HRR := Lib.hid hRR
    clear hRR
    have HM := Lib.hid hm
    have hmi : (m : Int) ≤ 4096 := by omega
    clear hj hok hdt hlong hnn hc hJ hlb hsz hm
    go_enter Tryz.func137, Tryz.ntmps137
    go_wp2_with (first
      | (go_at_call 194; (with_reducible refine HL.out.mono ?_); rintro e w1 ⟨rfl, hb1⟩; have HB1 := Lib.hid hb1; clear hb1)
      | fail)
    go_loopw [6, 7, 29] (fun v6 v7 v29 wr => ∃ j : Nat, j ≤ n ∧ v29 = .int .i64 (j : Int) ∧ Hid (∀ i x, i < j → l[i]? = some x → 0 ≤ x.cell ∧ x.cell < (m : Int) ∧ ([] : List Int).contains x.cell = false ∧ (l.take i).any (fun o => decide (o.cell = x.cell)) = false) ∧ Hid (LJ w wr)) (fun _ _ v29 _ => n - (intOf v29).toNat)
    case atStart => exact ⟨0, by omega, rfl, Lib.hid (fun i x hi => absurd hi (by omega)), HB1⟩
    case round =>
      obtain ⟨j, hj, rfl, HG, HW⟩ := hrel
      by_cases hjn : j < n
      · obtain ⟨x, hx⟩ : ∃ x, l[j]? = some x := ⟨_, List.getElem?_eq_getElem (by have := HN.out; omega)⟩
        obtain ⟨q1, q2⟩ := HC.out j x hx
        have r1 := LJ.cell HW.out q1
        have r2 := LJ.cell HW.out q2
        obtain ⟨w2, hw2⟩ : ∃ w2, wr.alloc (.cells #[.int .i64 x.cell, .string x.data] 130) = w2 := ⟨_, rfl⟩
        have hl2 : LJ wr w2 := by rw [← hw2]; exact (LJ.refl wr).alloc _
        have hl02 : LJ w w2 := HW.out.trans hl2
        have hb2 : w2.heap[wr.heap.size]? = some (.cells #[.int .i64 x.cell, .string x.data] 130 (0, 0)) := by rw [← hw2]; exact alloc_blk wr _
        have s0 : w2.cell? ⟨wr.heap.size, 0, none⟩ = some (.int .i64 x.cell) := cell_blk hb2 0
        have HX := Lib.hid hx
        have HW2 := Lib.hid hw2
        have HL02 := Lib.hid hl02
        obtain ⟨cc, hcc⟩ : ∃ cc, x.cell = cc := ⟨_, rfl⟩
        rw [hcc] at s0 r1 HW2
        have HCC := Lib.hid hcc
        have HK := Lib.hid (fun W (hW : LJ w2 W) => LJ.cell hW s0)
        clear q1 q2 hx hw2 hl2 hl02 hb2 hcc
        have HCN := Lib.hid (fun W (hW : LJ w2 W) => cells_any W a.p a.b a.jb F J (HJ.out.later (HL02.out.trans hW)))
        rw [HM.out] at HCN
        obtain ⟨bs, hbs⟩ : ∃ bs, (l.take j).any (fun o => decide (o.cell = cc)) = bs := ⟨_, rfl⟩
        have hlj : (l.take j).length = j := by rw [List.length_take]; have := HN.out; omega
        have HCF := Lib.hid (fun W (hW : LJ w2 W) => show Calls Tryz.prog 194 #[.slice (some ⟨g, off, none⟩) j cap, .func (.func 195) #[] #[.pointer (some ⟨wr.heap.size, 0, none⟩)]] W fun e w' => e = .returned (.bool bs) ∧ LJ W w' from by
          have h := wcont_any 195 (enters_of Tryz.func195 (by kernel_rfl) rfl) #[.pointer (some ⟨wr.heap.size, 0, none⟩)] (fun o => decide (o.cell = cc)) W g off cap (l.take j) (by omega) (by have h1 := Below.size HL02.out; have h2 := Below.size hW; omega)
            (fun i y hy => by
              rw [List.getElem?_take] at hy
              split at hy
              · obtain ⟨a1, a2⟩ := HC.out i y hy
                exact ⟨LJ.cell (HL02.out.trans hW) a1, LJ.cell (HL02.out.trans hW) a2⟩
              · cases hy) (fun w1 h1 y _ => same2_any w1 y.cell cc y.data wr.heap.size (HK.out w1 (hW.trans h1)))
          rw [hlj, hbs] at h
          exact h)
        have HBS := Lib.hid hbs
        have hmf : ∀ (fn : Fn) (first cap : Array Value) (w : World), (Instr.makeFunc fn first cap).run Tryz.prog w = .ok (.func fn first cap) w := fun _ _ _ _ => rfl
        have hbad : (cc < 0 ∨ (m : Int) ≤ cc ∨ bs = true) → apartW (m : Int) [] l = false := by
          intro hb
          cases hap : apartW (m : Int) [] l with
          | false => rfl
          | true =>
            obtain ⟨b1, b2, -, b4⟩ := HAP.out.1 hap j x HX.out
            rw [HCC.out] at b1 b2 b4
            rw [HBS.out] at b4
            rcases hb with h | h | h
            · omega
            · omega
            · rw [b4] at h; cases h
        have HBAD := Lib.hid hbad
        have hjc : j ≤ cap := by omega
        clear hbs hlj hbad
        go_upto_region 7 with fail
        rw [HW2.out]
        rcases Int.lt_or_le cc 0 with hc0 | hc0
        · have u1 : decide (cc < 0) = true := decide_eq_true hc0
          have HAF := Lib.hid (HBAD.out (.inl hc0))
          refine wp_region_held_drew (S := fun w' => w'.cell? ⟨wr.heap.size, 0, none⟩ = some (.int .i64 cc)) (by kernel_rfl) (HK.out _ (by repeat (first | assumption | exact LJ.refl _ | refine LJ.drew ?_ | refine LJ.drewN ?_ _ | refine LJ.trans ?_ (by assumption)))) (fun hHeld => ?_)
          refine tkS 0 hHeld ?_
          refine tkS 1 hHeld ?_
          refine tkS 2 hHeld ?_
          refine tkS 3 hHeld ?_
          refine tkV 4 hHeld ?_
          refine tkV 5 hHeld ?_
          refine tkV 6 hHeld ?_
          refine tkV 7 hHeld ?_
          refine tkV 8 hHeld ?_
          refine tkS 9 hHeld ?_
          refine tkS 10 hHeld ?_
          refine tkV 11 hHeld ?_
          refine tkV 12 hHeld ?_
          refine tkV 13 hHeld ?_
          refine tkV 14 hHeld ?_
          refine tkV 15 hHeld ?_
          refine tkS 16 hHeld ?_
          refine wpAnyH_done (by kernel_rfl) ?_ _
          all_goals
            go_wp2_with fail
            go_ret
            exact ⟨ret_int (by rw [← HRR.out, if_neg (by rw [HAF.out]; simp)]), HL02.out.trans (by repeat (first | assumption | exact LJ.refl _ | refine LJ.drew ?_ | refine LJ.drewN ?_ _ | refine LJ.trans ?_ (by assumption)))⟩
        have u1 : decide (cc < 0) = false := by simp; omega
        rcases Int.lt_or_le cc (m : Int) with hcm | hcm
        · have u2 : decide ((m : Int) ≤ cc) = false := by simp; omega
          cases bs with
          | true =>
            have HAF := Lib.hid (HBAD.out (.inr (.inr rfl)))
            refine wp_region_held_drew (S := fun w' => w'.cell? ⟨wr.heap.size, 0, none⟩ = some (.int .i64 cc)) (by kernel_rfl) (HK.out _ (by repeat (first | assumption | exact LJ.refl _ | refine LJ.drew ?_ | refine LJ.drewN ?_ _ | refine LJ.trans ?_ (by assumption)))) (fun hHeld => ?_)
            refine tkS 0 hHeld ?_
            refine tkS 1 hHeld ?_
            refine tkS 2 hHeld ?_
            refine tkS 3 hHeld ?_
            refine tkS 4 hHeld ?_
            refine tkS 5 hHeld ?_
            refine tkS 6 hHeld ?_
            refine wpAnyH_ready (rs := [7]) (by kernel_rfl) (by simp) ?_
            refine AllReadyH.cons rfl (fun K hK => ?_) AllReadyH.nil
            go_simp
            (with_reducible refine (HCN.out _ (by repeat (first | assumption | exact LJ.refl _ | refine LJ.drew ?_ | refine LJ.drewN ?_ _ | refine LJ.trans ?_ (by assumption)))).mono ?_); rintro e w3 ⟨rfl, nq, rfl⟩
            refine hK.out _ _ ?_ (fun hHeld => ?_)
            · exact HK.out _ (by repeat (first | assumption | exact LJ.refl _ | refine LJ.drew ?_ | refine LJ.drewN ?_ _ | refine LJ.trans ?_ (by assumption)))
            clear hK K
            refine tkS 8 hHeld ?_
            refine tkS 9 hHeld ?_
            refine tkS 10 hHeld ?_
            refine tkS 11 hHeld ?_
            refine tkS 12 hHeld ?_
            refine tkS 13 hHeld ?_
            refine tkS 14 hHeld ?_
            refine wpAnyH_ready (rs := [15]) (by kernel_rfl) (by simp) ?_
            refine AllReadyH.cons rfl (fun K hK => ?_) AllReadyH.nil
            go_simp
            (with_reducible refine (HCF.out _ (by repeat (first | assumption | exact LJ.refl _ | refine LJ.drew ?_ | refine LJ.drewN ?_ _ | refine LJ.trans ?_ (by assumption)))).mono ?_); rintro e w4 ⟨rfl, hl4⟩
            refine hK.out _ _ ?_ (fun hHeld => ?_)
            · exact HK.out _ (by repeat (first | assumption | exact LJ.refl _ | refine LJ.drew ?_ | refine LJ.drewN ?_ _ | refine LJ.trans ?_ (by assumption)))
            clear hK K
            refine tkS 16 hHeld ?_
            refine wpAnyH_done (by kernel_rfl) ?_ _
            all_goals
              go_wp2_with fail
              go_ret
              exact ⟨ret_int (by rw [← HRR.out, if_neg (by rw [HAF.out]; simp)]), HL02.out.trans (by repeat (first | assumption | exact LJ.refl _ | refine LJ.drew ?_ | refine LJ.drewN ?_ _ | refine LJ.trans ?_ (by assumption)))⟩
          | false =>
            refine wp_region_held_drew (S := fun w' => w'.cell? ⟨wr.heap.size, 0, none⟩ = some (.int .i64 cc)) (by kernel_rfl) (HK.out _ (by repeat (first | assumption | exact LJ.refl _ | refine LJ.drew ?_ | refine LJ.drewN ?_ _ | refine LJ.trans ?_ (by assumption)))) (fun hHeld => ?_)
            refine tkS 0 hHeld ?_
            refine tkS 1 hHeld ?_
            refine tkS 2 hHeld ?_
            refine tkS 3 hHeld ?_
            refine tkS 4 hHeld ?_
            refine tkS 5 hHeld ?_
            refine tkS 6 hHeld ?_
            refine wpAnyH_ready (rs := [7]) (by kernel_rfl) (by simp) ?_
            refine AllReadyH.cons rfl (fun K hK => ?_) AllReadyH.nil
            go_simp
            (with_reducible refine (HCN.out _ (by repeat (first | assumption | exact LJ.refl _ | refine LJ.drew ?_ | refine LJ.drewN ?_ _ | refine LJ.trans ?_ (by assumption)))).mono ?_); rintro e w3 ⟨rfl, nq, rfl⟩
            refine hK.out _ _ ?_ (fun hHeld => ?_)
            · exact HK.out _ (by repeat (first | assumption | exact LJ.refl _ | refine LJ.drew ?_ | refine LJ.drewN ?_ _ | refine LJ.trans ?_ (by assumption)))
            clear hK K
            refine tkS 8 hHeld ?_
            refine tkS 9 hHeld ?_
            refine tkS 10 hHeld ?_
            refine tkS 11 hHeld ?_
            refine tkS 12 hHeld ?_
            refine tkS 13 hHeld ?_
            refine tkS 14 hHeld ?_
            refine wpAnyH_ready (rs := [15]) (by kernel_rfl) (by simp) ?_
            refine AllReadyH.cons rfl (fun K hK => ?_) AllReadyH.nil
            go_simp
            (with_reducible refine (HCF.out _ (by repeat (first | assumption | exact LJ.refl _ | refine LJ.drew ?_ | refine LJ.drewN ?_ _ | refine LJ.trans ?_ (by assumption)))).mono ?_); rintro e w4 ⟨rfl, hl4⟩
            refine hK.out _ _ ?_ (fun hHeld => ?_)
            · exact HK.out _ (by repeat (first | assumption | exact LJ.refl _ | refine LJ.drew ?_ | refine LJ.drewN ?_ _ | refine LJ.trans ?_ (by assumption)))
            clear hK K
            refine tkS 16 hHeld ?_
            refine wpAnyH_done (by kernel_rfl) ?_ _
            all_goals
              go_wp2_with fail
              go_roundw
              case rel =>
                refine ⟨j + 1, by omega, by simp, Lib.hid (fun i y hi hy => ?_), Lib.hid (HL02.out.trans (by repeat (first | assumption | exact LJ.refl _ | refine LJ.drew ?_ | refine LJ.drewN ?_ _ | refine LJ.trans ?_ (by assumption))))⟩
                by_cases hij : i = j
                · subst hij
                  have := HX.out
                  rw [hy] at this
                  obtain rfl := Option.some.inj this
                  rw [HCC.out]
                  exact ⟨hc0, hcm, rfl, HBS.out⟩
                · exact HG.out i y (by omega) hy
              case measure => simp [intOf]; omega
        · have u2 : decide ((m : Int) ≤ cc) = true := decide_eq_true hcm
          have HAF := Lib.hid (HBAD.out (.inr (.inl hcm)))
          refine wp_region_held_drew (S := fun w' => w'.cell? ⟨wr.heap.size, 0, none⟩ = some (.int .i64 cc)) (by kernel_rfl) (HK.out _ (by repeat (first | assumption | exact LJ.refl _ | refine LJ.drew ?_ | refine LJ.drewN ?_ _ | refine LJ.trans ?_ (by assumption)))) (fun hHeld => ?_)
          refine tkS 0 hHeld ?_
          refine tkS 1 hHeld ?_
          refine tkS 2 hHeld ?_
          refine tkS 3 hHeld ?_
          refine tkS 4 hHeld ?_
          refine tkS 5 hHeld ?_
          refine tkS 6 hHeld ?_
          refine wpAnyH_ready (rs := [7]) (by kernel_rfl) (by simp) ?_
          refine AllReadyH.cons rfl (fun K hK => ?_) AllReadyH.nil
          go_simp
          (with_reducible refine (HCN.out _ (by repeat (first | assumption | exact LJ.refl _ | refine LJ.drew ?_ | refine LJ.drewN ?_ _ | refine LJ.trans ?_ (by assumption)))).mono ?_); rintro e w3 ⟨rfl, nq, rfl⟩
          refine hK.out _ _ ?_ (fun hHeld => ?_)
          · exact HK.out _ (by repeat (first | assumption | exact LJ.refl _ | refine LJ.drew ?_ | refine LJ.drewN ?_ _ | refine LJ.trans ?_ (by assumption)))
          clear hK K
          refine tkS 8 hHeld ?_
          refine tkS 9 hHeld ?_
          refine tkS 10 hHeld ?_
          refine tkV 11 hHeld ?_
          refine tkV 12 hHeld ?_
          refine tkV 13 hHeld ?_
          refine tkV 14 hHeld ?_
          refine tkV 15 hHeld ?_
          refine tkS 16 hHeld ?_
          refine wpAnyH_done (by kernel_rfl) ?_ _
          all_goals
            go_wp2_with fail
            go_ret
            exact ⟨ret_int (by rw [← HRR.out, if_neg (by rw [HAF.out]; simp)]), HL02.out.trans (by repeat (first | assumption | exact LJ.refl _ | refine LJ.drew ?_ | refine LJ.drewN ?_ _ | refine LJ.trans ?_ (by assumption)))⟩
      · have hjn' : j = n := by omega
        subst hjn'
        have HAF := Lib.hid (HAP.out.2 (fun i x hx => HG.out i x (by have := (List.getElem?_eq_some_iff.1 hx).1; have := HN.out; omega) hx))
        have d4 : wr.cell? ⟨a.jb, 4, none⟩ = some (.int .i64 J.next) := LJ.cell HW.out c4
        have g4 : ((4611686018427387904 : Int) ≤ (J.next : Int)) = False := by have := HNX.out; simp; omega
        have g5 : decide ((4611686018427387904 : Int) ≤ (J.next : Int)) = false := by have := HNX.out; simp; omega
        clear c4
        go_wp2_with fail
        go_ret
        exact ⟨ret_int (by rw [← HRR.out, if_pos HAF.out]), HW.out⟩
end Go.Proofs.YtfpbocjmlhcgiaaGreatDoor
