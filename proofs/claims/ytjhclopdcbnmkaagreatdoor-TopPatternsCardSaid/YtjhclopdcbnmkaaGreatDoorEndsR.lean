/- The walk of the document's Ends: a repetition. (Printed by wip/gen_ends.py.) -/
import Derived.Test.YtjhclopdcbnmkaaGreatDoorEndsA
set_option linter.unusedSimpArgs false
set_option linter.unusedVariables false
namespace Go.Proofs.YtjhclopdcbnmkaaGreatDoor
open Go.RowKit PX

section
variable {S : ByteArray} {p : Nat} {nds : List Nd} {X : Nat → Rx} {nb nc kb kc : Nat} {kk : List Nat} {n : Nat}
theorem pow_drop {L : List UInt8 → Prop} : ∀ (n : Nat) {t : List UInt8}, Pow L (n + 1) t → t.length ≤ n → Pow L n t
  | n, t, h, hl => by
    obtain ⟨u, v, rfl, hu, hv⟩ := h
    cases u with
    | nil => exact hv
    | cons c u =>
      cases n with
      | zero => simp at hl
      | succ n =>
        simp only [List.cons_append, List.length_cons, List.length_append] at hl
        exact ⟨c :: u, v, rfl, hu, pow_drop n hv (by omega)⟩
theorem pow_drops {L : List UInt8 → Prop} {t : List UInt8} (m : Nat) (hl : t.length ≤ m) : ∀ d, Pow L (m + d) t → Pow L m t
  | 0, h => h
  | d + 1, h => pow_drops m hl d (pow_drop (m + d) h (by omega))
/-- How many rounds there are. -/
def MostOK (mx : Int) (mn most len : Nat) : Prop := (mx = -1 ∧ most = len + 1) ∨ (mx ≠ -1 ∧ (mx : Int) = (mn : Int) + most)
theorem rep_done {x : Rx} {s : List UInt8} {a mn r most : Nat} {mx : Int} {os : List Bool} (hm : MostOK mx mn most s.length) (hr : r ≤ most) (ho : IsEnds (fun t => ∃ j, j ≤ r ∧ Pow x.lang (mn + j) t) s a os)
    (h : r = most ∨ ∀ k, a ≤ k → k ≤ s.length → Pow x.lang (mn + r) (sub s a k) → ∃ j, j < r ∧ Pow x.lang (mn + j) (sub s a k)) : IsEnds (Rx.node 3 mn mx 0 0 0 0 [x]).lang s a os := by
  refine ⟨ho.1, fun k hk => ?_⟩
  rw [ho.2 k hk, rep_lang]
  refine and_congr_right fun hak => ?_
  constructor
  · rintro ⟨j, hj, hp⟩
    refine ⟨mn + j, by omega, ?_, hp⟩
    rcases hm with ⟨h1, -⟩ | ⟨h1, h2⟩
    · exact .inl h1
    · exact .inr (by omega)
  · rintro ⟨j, h1, h2, hp⟩
    obtain ⟨d, rfl⟩ : ∃ d, j = mn + d := ⟨j - mn, by omega⟩
    by_cases hd : d ≤ r
    · exact ⟨d, hd, hp⟩
    · rcases h with rfl | h
      · rcases hm with ⟨e1, e2⟩ | ⟨e1, e2⟩
        · refine ⟨r, Nat.le_refl _, ?_⟩
          have hl := sub_len s a k hk
          exact pow_drops (mn + r) (by omega) (d - r) (by rw [show mn + r + (d - r) = mn + d by omega]; exact hp)
        · exfalso
          rcases h2 with h2 | h2
          · exact e1 h2
          · omega
      · obtain ⟨j', hj', hp'⟩ := rounds_still h d k hak hk hp
        exact ⟨j', by omega, hp'⟩
theorem shape_rep {mn mx s0 s1 s2 s3 : Int} {l : List Rx} (h : (Rx.node 3 mn mx s0 s1 s2 s3 l).formB = true) : 0 ≤ mn ∧ mn ≤ 15 ∧ mx ≤ 15 ∧ (mx = -1 ∨ mn ≤ mx) ∧ l.length = 1 ∧ s0 = 0 ∧ s1 = 0 ∧ s2 = 0 ∧ s3 = 0 := by
  rw [formB_iff] at h
  obtain ⟨h, -⟩ := h
  unfold Shape at h
  rcases h with h | h | h | h
  · exact absurd h.1 (by decide)
  · exact absurd h.1 (by decide)
  · exact absurd h.1 (by decide)
  · omega
/-- Is something new, up to a place? -/
theorem more_step {bs os : List Bool} {a k : Nat} {mb c d : Bool} (h : mb = true ↔ ∃ j, a ≤ j ∧ j < k ∧ bs[j]? = some true ∧ ¬ os[j]? = some true) (hc : os[k]? = some true ↔ c = true) (hd : bs[k]? = some d) (hak : a ≤ k) :
    (mb || (d && !c)) = true ↔ ∃ j, a ≤ j ∧ j < k + 1 ∧ bs[j]? = some true ∧ ¬ os[j]? = some true := by
  rw [Bool.or_eq_true, Bool.and_eq_true, h]
  constructor
  · rintro (⟨j, h1, h2, h3⟩ | ⟨h1, h2⟩)
    · exact ⟨j, h1, by omega, h3⟩
    · refine ⟨k, hak, by omega, by rw [hd, h1], fun h3 => ?_⟩
      rw [hc.1 h3] at h2; cases h2
  · rintro ⟨j, h1, h2, h3, h4⟩
    by_cases hj : j = k
    · subst hj
      rw [hd] at h3
      refine .inr ⟨Option.some.inj h3, ?_⟩
      cases c with
      | false => rfl
      | true => exact absurd (hc.2 rfl) h4
    · exact .inl ⟨j, h1, by omega, h3, h4⟩

/-- A round more. -/
theorem pow_step {S : ByteArray} {L : List UInt8 → Prop} {a i : Nat} {bs cs : List Bool} (h : IsEnds (Pow L i) S.data.toList a bs) (hl : cs.length = S.size + 1)
    (hc : ∀ k, k ≤ S.size → (cs[k]? = some true ↔ ∃ j, j ≤ k ∧ bs[j]? = some true ∧ L (sub S.data.toList j k))) : IsEnds (Pow L (i + 1)) S.data.toList a cs := by
  have h1 := isEnds_through h (by rw [hl, ba_len]) (fun k hk => hc k (by rw [ba_len] at hk; exact hk))
  refine h1.congr (fun t => ?_)
  constructor
  · rintro ⟨u, v, rfl, hu, hv⟩
    exact Pow.add i hu (m := 1) ⟨v, [], by simp, hv, rfl⟩
  · intro hp
    obtain ⟨u, v, rfl, hu, hv⟩ := Pow.split i (m := 1) hp
    obtain ⟨v1, v2, rfl, hv1, rfl⟩ := hv
    exact ⟨u, v1, by simp, hu, hv1⟩
set_option maxRecDepth 100000 in
set_option maxHeartbeats 4000000 in
theorem ends_rep {F : Nat → Prop} {w : World} {a q : Nat} {nd : Nd} (hS : S.size ≤ 256) (hT : TabS F w p S nds X nb nc kb kc kk) (ha : a ≤ S.size) (hq : kk[n]? = some q) (hnd : nds[n]? = some nd) (hc : w.cell? ⟨q, a, none⟩ = some (.slice none 0 0)) (hk : nd.k = 3)
    (hTH : ∀ c ∈ nd.kids, ThroughOK S p nds X nb nc kb kc kk c) (hEN : ∀ c ∈ nd.kids, EndsOK S p nds X nb nc kb kc kk c) :
    Calls Tryz.prog 42 #[.pointer (some ⟨p, 0, none⟩), .int .i64 n, .int .i64 a] w (EndsPost S p nds X nb nc kb kc kk F n a w) := by
  obtain ⟨c0, c1, c2, c3⟩ := hT.reads hq
  obtain ⟨d0, d1, d2, d3, d4, d5, d6, d7, d8⟩ := hT.nodeAt hnd
  have hn : n < nds.length := by rw [← hT.len]; exact (List.getElem?_eq_some_iff.1 hq).1
  have hcaps := hT.caps
  unfold maxLen at hcaps
  obtain ⟨ZB, hzb⟩ : ∃ ZB : Array Value, ((List.replicate (S.size + 1) false).map Value.bool).toArray = ZB := ⟨_, rfl⟩
  have hEW := endW hT nd ZB hzb
  obtain ⟨k, mn, mx, s0, s1, s2, s3, na, ln, cap, la, kcp, kids⟩ := nd
  simp only at d0 d1 d2 d3 d4 d5 d6 d7 d8 hk hTH hEN
  subst hk
  obtain ⟨W2, hW2⟩ : ∃ W2, (w.alloc (.cells (Nd.mk 3 mn mx s0 s1 s2 s3 na ln cap la kcp kids).cells.toArray 122)).alloc (.cells ZB 4) = W2 := ⟨_, rfl⟩
  rw [hW2] at hEW
  simp only [Nd.cells] at hW2
  obtain ⟨N, hN⟩ : ∃ N, nds.length = N := ⟨_, rfl⟩
  rw [hN] at c1 c2 hn hcaps
  have hnN : (n : Int) < N := by omega
  have haS : (a : Int) < (S.size : Int) + 1 := by omega
  have hmx : N ≤ 9223372036854775807 := by omega
  have hmk := fun W => make_bools W S.size (by omega)
  rw [hzb] at hmk
  have hne := fun W a n c => run_neq_slice_nil_any (P := Tryz.prog) W 90 4 a n c 0 0 Tryz.underlying90
  have HT := Lib.hid hT
  have HEW := Lib.hid hEW
  obtain ⟨m, hm⟩ : ∃ m, kids.length = m := ⟨_, rfl⟩
  rw [hm] at d8
  have HM := Lib.hid hm
  have c0a : (w.alloc (.cells #[.int .i64 3, .int .i64 mn, .int .i64 mx, .int .u64 s0, .int .u64 s1, .int .u64 s2, .int .u64 s3, .slice na ln cap, .slice la m kcp] 122)).cell? ⟨p, 0, none⟩ = some (.string S) := ((Later.refl w).alloc _).cell c0
  rw [hm] at hW2
  have HW2 := Lib.hid hW2
  have HQ := Lib.hid hq
  have HGOOD := Lib.hid (hT.good n _ hnd)
  have HN := Lib.hid hN
  have HLANG := Lib.hid (hT.lang n _ hnd).1
  have HKLT := Lib.hid (hT.lang n _ hnd).2
  have HKID := Lib.hid (hT.kid n _ hnd)
  have HTH := Lib.hid hTH
  have HEN := Lib.hid hEN
  have HZB := Lib.hid hzb
  have HND := Lib.hid hnd
  clear hN hT hcaps hEW hW2 hnd hq hzb hm hTH hEN
  go_enter Tryz.func42, Tryz.ntmps42
  go_upto_region 5 with fail
  rw [HW2.out]
  clear c0a HW2 c0 c1 c2 c3 d0 d1 d2 d3 d4 d5 d6 d7 d8 hc
  obtain ⟨hz, hz1⟩ := HEW.out.size
  obtain ⟨xb, hxb⟩ : ∃ xb, w.heap.size = xb := ⟨_, rfl⟩
  rw [hxb] at HEW ⊢
  have HXB := Lib.hid hxb; clear hxb hz hz1
  have hgF : ¬ F (xb + 1) := fun h => by
    have h1 := (HT.out.fill (xb + 1) h).1
    have h2 := HEW.out.size
    omega
  have HGF := Lib.hid hgF; clear hgF
  have HGK := Lib.hid HEW.out.gk
  have HXK := Lib.hid HEW.out.xk
  have HBOX := Lib.hid HEW.out.box
  have HOW := Lib.hid HEW.out.row
  have HSZ2 : Hid (xb + 1 < W2.heap.size) := Lib.hid HEW.out.row.lt
  have HN2 : Hid (Only (fun q => q ∈ kk) w W2) := Lib.hid (Only.of_below HEW.out.later)
  obtain ⟨hkid1, hkid2, hkid3⟩ := HKID.out
  simp only at hkid1 hkid2 hkid3
  rw [HM.out] at hkid1
  have hmm : m ≤ 9223372036854775807 := by unfold maxLen at hkid2; omega
  clear hkid1 hkid2 hkid3
  have x0 := cell_of_block HBOX.out 0
  simp only [Nd.cells, List.getElem?_toArray, List.getElem?_cons_zero, List.getElem?_cons_succ] at x0
  go_upto_region 6 with fail
  obtain ⟨hmn0, hmn15, hmx15, hmm2, hml, -, -, -, -⟩ := shape_rep (show (Rx.node 3 mn mx s0 s1 s2 s3 (kids.map X)).formB = true by have h := HGOOD.out.1; rw [HLANG.out] at h; exact h)
  rw [List.length_map, HM.out] at hml
  subst hml
  obtain ⟨x, hx⟩ : ∃ x, kids = [x] := List.length_eq_one_iff.1 HM.out
  have HX := Lib.hid hx; clear hx
  obtain ⟨mu, rfl⟩ : ∃ mu : Nat, mn = mu := ⟨mn.toNat, by omega⟩
  have hXl : (X n).lang = (Rx.node 3 mu mx 0 0 0 0 [X x]).lang := by
    rw [HLANG.out, HX.out]; funext t; simp only [Rx.lang, List.map, show ¬ ((3 : Int) = 0) by decide, show ¬ ((3 : Int) = 1) by decide, show ¬ ((3 : Int) = 2) by decide, if_false]
  have HXL := Lib.hid hXl; clear hXl
  have hmu15 : mu ≤ 15 := by omega
  have hmk2 := fun W => make_bools W S.size (by omega)
  rw [HZB.out] at hmk2
  obtain ⟨e0, e1, e2, e3⟩ := HEW.out.tab.reads HQ.out
  obtain ⟨Wa, hWa⟩ : ∃ Wa, W2.alloc (.cells ZB 4) = Wa := ⟨_, rfl⟩
  have hla : Later W2 Wa := by rw [← hWa]; exact (Later.refl W2).alloc _
  have hna : OwnB Wa W2.heap.size (List.replicate (S.size + 1) false) := by rw [← hWa, ← HZB.out]; exact ownB_new W2 _
  have hta := HEW.out.tab.fresh hla W2.heap.size (Nat.le_refl _) hna.lt
  have hgka := (hta.fill W2.heap.size (.inr rfl)).2.1
  have hoa : OwnB Wa (xb + 1) (List.replicate (S.size + 1) false) := HOW.out.later (r := fun _ => False) (Only.of_below hla) (fun h => h)
  have hba := hla.block HBOX.out
  obtain ⟨nw, hnw⟩ : ∃ nw, W2.heap.size = nw := ⟨_, rfl⟩
  have hnx : xb + 1 < nw := by rw [← hnw]; exact HSZ2.out
  have hNa : Only (fun q => q ∈ kk) w Wa := HN2.out.trans ((Only.of_below (r := fun _ => False) hla).mono (fun _ _ h => h.elim))
  have hnF : ¬ F nw := fun h => by
    have h1 := (HEW.out.tab.fill nw (.inl h)).1
    omega
  rw [hnw] at hna hta hgka
  have HNF := Lib.hid hnF
  have HNA := Lib.hid hna
  have HTA := Lib.hid hta
  have HGKA := Lib.hid hgka
  have HOA := Lib.hid hoa
  have HBA := Lib.hid hba
  have HNNA := Lib.hid hNa
  have HWA := Lib.hid hWa
  clear hna hta hgka hoa hba hNa hWa hnF hla
  go_upto_region 7 with fail
  rw [HWA.out]
  clear HWA hmk2 e0 e1 e2 e3 x0
  have hrow : (List.replicate (S.size + 1) false)[a]? = some false := by rw [List.getElem?_replicate, if_pos (by omega)]
  have rc := HNA.out.cell hrow
  have rf := HNA.out.free a
  obtain ⟨w3, hw3⟩ : ∃ w3, Wa.setCell ⟨nw, a, none⟩ (.bool true) = w3 := ⟨_, rfl⟩
  have hon3 : Only (fun q => q = nw) Wa w3 := by rw [← hw3]; exact (Only.refl (fun q => q = nw) Wa).setCell (.inl rfl) _
  have hob3 := HNA.out.set a true
  rw [hw3] at hob3
  have HT3 := Lib.hid (HTA.out.only hon3 (fun q _ hq => .inr hq))
  have HO3 := Lib.hid hob3
  have HOX3 : Hid (OwnB w3 (xb + 1) (List.replicate (S.size + 1) false)) := Lib.hid (HOA.out.later hon3 (fun (h : xb + 1 = nw) => by omega))
  have HBOX3 := Lib.hid ((hon3.block xb (lt_of_block HBA.out) (fun (h : xb = nw) => by omega)).trans HBA.out)
  have HN3 : Hid (Only (fun q => q ∈ kk) w w3) := Lib.hid (HNNA.out.trans (hon3.mono (fun q hq h => .inr (by subst h; have := HXB.out; omega))))
  have HW3 := Lib.hid hw3
  clear hw3 hon3 hob3 hrow hnw
  go_upto_region 8 with fail
  rw [HW3.out]
  clear rc rf HW3
  go_wp2_with fail
  have hie0 : IsEnds (Pow (X x).lang 0) S.data.toList a ((List.replicate (S.size + 1) false).set a true) := by
    refine isEnds_nil S.data.toList a (by rw [ba_len]; exact ha) _ (by simp [ba_len]) (fun k hk => ?_)
    rw [getElem?_set_iff (by simp; omega), List.getElem?_replicate]
    constructor
    · rintro (⟨h, -⟩ | ⟨-, h⟩)
      · exact h
      · split at h <;> cases h
    · rintro rfl; exact .inl ⟨rfl, rfl⟩
  have HIE0 := Lib.hid hie0; clear hie0
  go_loopw [13, 14] (fun v_ i_ wx => ∃ (i g : Nat) (bs : List Bool), i ≤ mu ∧ i_ = .int .i64 i ∧ v_ = .slice (some ⟨g, 0, none⟩) (S.size + 1) (S.size + 1) ∧ OwnB wx g bs ∧ OwnB wx (xb + 1) (List.replicate (S.size + 1) false) ∧ IsEnds (Pow (X x).lang i) S.data.toList a bs ∧
      TabS (fun q => (F q ∨ q = xb + 1) ∨ q = g) wx p S nds X nb nc kb kc kk ∧ Only (fun q => q ∈ kk) w3 wx ∧ g ≠ xb + 1 ∧ g ∉ kk) (fun _ i_ _ => mu - (intOf i_).toNat)
  case atStart => exact ⟨0, nw, _, by omega, rfl, rfl, HO3.out, HOX3.out, HIE0.out, HT3.out, Only.refl _ _, by omega, HGKA.out⟩
  case round =>
    obtain ⟨i, g, bs, hi, rfl, rfl, hob, hox, hie, htab, hon, hgx, hgk⟩ := hrel
    have hbox : wr.heap[xb]? = _ := (hon.block xb (lt_of_block HBOX3.out) HXK.out).trans HBOX3.out
    have x1 := cell_of_block hbox 1
    have x2 := cell_of_block hbox 2
    have x8 := cell_of_block hbox 8
    simp only [Nd.cells, List.getElem?_toArray, List.getElem?_cons_zero, List.getElem?_cons_succ] at x1 x2 x8
    rw [HM.out] at x8
    have HBOXR := Lib.hid hbox; clear hbox
    have HOB := Lib.hid hob; clear hob
    have HOX := Lib.hid hox; clear hox
    have HIE := Lib.hid hie; clear hie
    have HTAB := Lib.hid htab; clear htab
    have HON := Lib.hid hon; clear hon
    have HGK2 := Lib.hid hgk; clear hgk
    have hne2 : kids ≠ [] := by rw [HX.out]; simp
    by_cases him : i = mu
    · have him' := him.symm
      subst him'
      have hmi : ¬ (mu : Int) < mu := by omega
      go_upto_if 91 with fail
      go_cut [15] from 91 to 97 (fun v wx => ∃ most : Nat, v = .int .i64 most ∧ MostOK mx mu most S.size ∧ wx = wr)
      case first =>
        obtain ⟨e0, e1, e2, e3⟩ := HTAB.out.reads HQ.out
        by_cases hm1 : mx = -1
        · subst hm1
          go_wp2_with fail
          go_meet
          case rel => exact ⟨S.size + 1, by simp, .inl ⟨rfl, rfl⟩, rfl⟩
        · have hm2 : (mx == -1) = false := by simpa using hm1
          go_wp2_with fail
          go_meet
          case rel => exact ⟨(mx - mu).toNat, by congr 1; omega, .inr ⟨hm1, by omega⟩, rfl⟩
      case rest =>
        obtain ⟨most, rfl, hmost, rfl⟩ := hcut
        have HMOST := Lib.hid hmost
        have hmost300 : most ≤ 300 := by
          rcases hmost with ⟨-, h⟩ | ⟨-, h⟩ <;> omega
        clear hmost
        go_wp2_with fail
        clear x1 x2 x8
        go_loopw [13, 16] (fun v_ r_ wx => ∃ (r g : Nat) (bs os : List Bool), r ≤ most ∧ r_ = .int .i64 r ∧ v_ = .slice (some ⟨g, 0, none⟩) (S.size + 1) (S.size + 1) ∧ OwnB wx g bs ∧ OwnB wx (xb + 1) os ∧ IsEnds (Pow (X x).lang (mu + r)) S.data.toList a bs ∧ IsEnds (fun t => ∃ j, j < r ∧ Pow (X x).lang (mu + j) t) S.data.toList a os ∧
          TabS (fun q => (F q ∨ q = xb + 1) ∨ q = g) wx p S nds X nb nc kb kc kk ∧ Only (fun q => q ∈ kk ∨ q = xb + 1) w3 wx ∧ g ≠ xb + 1 ∧ g ∉ kk) (fun _ r_ _ => most + 1 - (intOf r_).toNat)
        case atStart =>
          refine ⟨0, g, bs, _, by omega, rfl, rfl, HOB.out, HOX.out, HIE.out, ⟨by simp [ba_len], fun k hk => ?_⟩, HTAB.out, HON.out.mono (fun _ _ h => .inl h), hgx, HGK2.out⟩
          rw [List.getElem?_replicate]
          constructor
          · intro h; split at h <;> cases h
          · rintro ⟨-, j, hj, -⟩; omega
        case round =>
          obtain ⟨r, g, bs, os, hr, rfl, rfl, hob, hox, hie, hos, htab, hon, hgx, hgk⟩ := hrel
          have hbox : wr.heap[xb]? = _ := (hon.block xb (lt_of_block HBOX3.out) (by rintro (h | h); exact HXK.out h; omega)).trans HBOX3.out
          have HBX := Lib.hid hbox; clear hbox
          have HOBr := Lib.hid hob; clear hob
          have HOXr := Lib.hid hox; clear hox
          have HIEr := Lib.hid hie; clear hie
          have HOSr := Lib.hid hos; clear hos
          have HTABr := Lib.hid htab; clear htab
          have HONr := Lib.hid hon; clear hon
          have HGKr := Lib.hid hgk; clear hgk
          obtain ⟨wq, hwq⟩ : ∃ v, v = wr := ⟨_, rfl⟩
          subst hwq
          go_wp2_with fail
          go_loopw [17, 18] (fun m_ k_ wx => ∃ (k : Nat) (mb : Bool) (cs : List Bool), a ≤ k ∧ k ≤ S.size + 1 ∧ k_ = .int .i64 k ∧ m_ = .bool mb ∧ OwnB wx (xb + 1) cs ∧ cs.length = S.size + 1 ∧ (∀ j, j ≤ S.size → (cs[j]? = some true ↔ os[j]? = some true ∨ (a ≤ j ∧ j < k ∧ bs[j]? = some true))) ∧
            (mb = true ↔ ∃ j, a ≤ j ∧ j < k ∧ bs[j]? = some true ∧ ¬ os[j]? = some true) ∧ Only (fun q => q = xb + 1) wq wx) (fun _ k_ _ => S.size + 1 - (intOf k_).toNat)
          case atStart =>
            refine ⟨a, false, os, Nat.le_refl _, by omega, rfl, rfl, HOXr.out, by rw [HOSr.out.1, ba_len], fun j hj => ⟨fun h => .inl h, fun h => by rcases h with h | h; exact h; omega⟩, ?_, Only.refl _ _⟩
            constructor
            · intro h; cases h
            · rintro ⟨j, h1, h2, -⟩; omega
          case round =>
            obtain ⟨k, mb, cs, hak, hks, rfl, rfl, hoc, hcl, hcs, hmb, honk⟩ := hrel
            have HOC := Lib.hid hoc; clear hoc
            have HCS := Lib.hid hcs; clear hcs
            have HMB := Lib.hid hmb; clear hmb
            have HONK := Lib.hid honk; clear honk
            by_cases hke : k = S.size + 1
            · subst hke
              have hosn : IsEnds (fun t => ∃ j, j ≤ r ∧ Pow (X x).lang (mu + j) t) S.data.toList a cs := by
                refine ⟨by rw [hcl, ba_len], fun k hk => ?_⟩
                rw [ba_len] at hk
                have h1 := HOSr.out.2 k (by rw [ba_len]; exact hk)
                have h2 := HIEr.out.2 k (by rw [ba_len]; exact hk)
                rw [HCS.out k hk, h1]
                constructor
                · rintro (⟨h3, j, h4, h5⟩ | ⟨h3, -, h4⟩)
                  · exact ⟨h3, j, by omega, h5⟩
                  · exact ⟨h3, r, Nat.le_refl _, (h2.1 h4).2⟩
                · rintro ⟨h3, j, h4, h5⟩
                  by_cases hjr : j = r
                  · subst hjr; exact .inr ⟨h3, by omega, h2.2 ⟨h3, h5⟩⟩
                  · exact .inl ⟨h3, j, by omega, h5⟩
              have HOSN := Lib.hid hosn; clear hosn
              have HTK := Lib.hid ((HTABr.out.only HONK.out (fun q _ hq => .inl (.inr hq))))
              have HBK := Lib.hid ((HONK.out.block xb (lt_of_block HBX.out) (fun (h : xb = xb + 1) => by omega)).trans HBX.out)
              have HOBK := Lib.hid (HOBr.out.later HONK.out hgx)
              have HONN : Hid (Only (fun q => q ∈ kk ∨ q = xb + 1) w3 wr) := Lib.hid (HONr.out.trans (HONK.out.mono (fun q _ h => .inl (.inr h))))
              have HNNW : Hid (Only (fun q => q ∈ kk) w wr) := Lib.hid (HN3.out.trans (HONN.out.mono (fun q hq h => by
                rcases h with h | h
                · exact .inl h
                · exact .inr (by subst h; have := HXB.out; omega))))
              have HTKF := Lib.hid (HTK.out.weaken (G := fun q => F q ∨ q = xb + 1) (fun q hq => .inl hq))
              by_cases hrm : r = most
              · have hfin : IsEnds (X n).lang S.data.toList a cs := by
                  rw [HXL.out]
                  exact rep_done (by rw [ba_len]; exact HMOST.out) hr HOSN.out (.inl hrm)
                have HFIN := Lib.hid hfin; clear hfin
                have hrm' := hrm.symm
                subst hrm'
                obtain ⟨e0, e1, e2, e3⟩ := HTK.out.reads HQ.out
                rw [HN.out] at e1 e2
                obtain ⟨v, ev, ef⟩ := HTK.out.slot HQ.out ha
                cases mb <;> (
                  go_wp2_with fail
                  go_ret
                  exact ends_fin HTKF.out HNNW.out HOC.out HFIN.out HGF.out HGK.out HQ.out ha)
              · have hrmf : ((r : Int) == (most : Int)) = false := by rw [beq_eq_false_iff_ne]; omega
                have hrmd : decide (r = most) = false := by simpa using hrm
                cases mb with
                | false =>
                  have hfin : IsEnds (X n).lang S.data.toList a cs := by
                    rw [HXL.out]
                    refine rep_done (by rw [ba_len]; exact HMOST.out) hr HOSN.out (.inr fun k hk hk2 hp => ?_)
                    rw [ba_len] at hk2
                    have h1 := HOSr.out.2 k (by rw [ba_len]; exact hk2)
                    have h2 := HIEr.out.2 k (by rw [ba_len]; exact hk2)
                    have h3 := h2.2 ⟨hk, hp⟩
                    by_cases ho : os[k]? = some true
                    · exact (h1.1 ho).2
                    · have := HMB.out.2 ⟨k, hk, by omega, h3, ho⟩
                      cases this
                  have HFIN := Lib.hid hfin; clear hfin
                  obtain ⟨e0, e1, e2, e3⟩ := HTK.out.reads HQ.out
                  rw [HN.out] at e1 e2
                  obtain ⟨v, ev, ef⟩ := HTK.out.slot HQ.out ha
                  go_wp2_with fail
                  go_ret
                  exact ends_fin HTKF.out HNNW.out HOC.out HFIN.out HGF.out HGK.out HQ.out ha
                | true =>
                  have x8 := cell_of_block HBK.out 8
                  simp only [Nd.cells, List.getElem?_toArray, List.getElem?_cons_zero, List.getElem?_cons_succ] at x8
                  rw [HM.out] at x8
                  obtain ⟨lb, hla, hlb⟩ := ((HTK.out.kid n _ HND.out).2.2).resolve_left hne2
                  simp only at hla
                  rw [hla] at x8
                  have hlc := hlb 0 x (by rw [HX.out]; rfl)
                  have HLA := Lib.hid hla
                  clear hlb hla
                  have hth := HTH.out x (by rw [HX.out]; simp) (fun q => (F q ∨ q = xb + 1) ∨ q = g) wr g bs HTK.out HOBK.out (by rw [HIEr.out.1, ba_len]) HGKr.out
                  have HCALL := Lib.hid hth; clear hth
                  go_wp2_with (first
                    | (go_at_call 68; (with_reducible refine HCALL.out.mono ?_); rintro e w4 ⟨g', ds, rfl, hgw, hod, hdl, hds, htab4, hon4, hgk4⟩; have HOD := Lib.hid hod; have HDS := Lib.hid hds; have HT4 := Lib.hid htab4; have HO4 := Lib.hid hon4; have HGK4 := Lib.hid hgk4; clear hod hds htab4 hon4 hgk4)
                    | fail)
                  go_roundw
                  case measure => simp only [intOf]; omega
                  case rel =>
                    refine ⟨r + 1, g', ds, cs, by omega, by simp, rfl, HOD.out, HOC.out.later HO4.out HGK.out, pow_step HIEr.out hdl HDS.out, ?_, HT4.out.weaken (fun q hq => ?_), HONN.out.trans (HO4.out.mono (fun _ _ h => .inl (.inl h))), ?_, HGK4.out⟩
                    · refine ⟨HOSN.out.1, fun k hk => (HOSN.out.2 k hk).trans (and_congr Iff.rfl (exists_congr fun j => and_congr ?_ Iff.rfl))⟩
                      omega
                    · rcases hq with hq | hq
                      · exact .inl (.inl hq)
                      · exact .inr hq
                    · have := HOC.out.lt; omega
            · have hks2 : (k : Int) < (S.size : Int) + 1 := by omega
              have hks3 : k < S.size + 1 := by omega
              obtain ⟨c, hc⟩ : ∃ c, cs[k]? = some c := ⟨_, List.getElem?_eq_getElem (by omega)⟩
              obtain ⟨d, hd⟩ : ∃ d, bs[k]? = some d := ⟨_, List.getElem?_eq_getElem (by rw [HIEr.out.1]; rw [ba_len]; exact hks3)⟩
              have hob := HOBr.out.later HONK.out hgx
              have cc := HOC.out.cell hc
              have cd := hob.cell hd
              have cfz := HOC.out.free k
              have HC := Lib.hid hc; clear hc
              have HD := Lib.hid hd; clear hd hob
              have hco : (os[k]? = some true ↔ c = true) := by
                have h1 := HCS.out k (by omega)
                rw [HC.out] at h1
                constructor
                · intro h
                  have := h1.2 (.inl h)
                  exact Option.some.inj this
                · intro h
                  rcases h1.1 (by rw [h]) with h2 | h2
                  · exact h2
                  · omega
              have HCO := Lib.hid hco; clear hco
              cases mb <;> cases c <;> cases d <;> (
                go_wp2_with fail
                go_roundw
                case measure => simp only [intOf]; omega
                case rel =>
                  refine ⟨k + 1, _, _, by omega, by omega, by simp, rfl, HOC.out.set k _, by rw [List.length_set]; exact hcl, fun j hj => ?_, ?_, HONK.out.setCell (.inl rfl) _⟩
                  · rw [getElem?_set_iff (by omega), HCS.out j hj]
                    by_cases hjk : j = k
                    · subst hjk
                      have h1 := HCS.out j hj
                      rw [HC.out] at h1
                      have h2 := HD.out
                      simp_all <;> omega
                    · have : (j < k + 1) ↔ (j < k) := by omega
                      simp [hjk, this]
                  · exact more_step HMB.out HCO.out HD.out hak)
    · have him2 : (i : Int) < mu := by omega
      have him3 : i < mu := by omega
      obtain ⟨lb, hla, hlb⟩ := ((HTAB.out.kid n _ HND.out).2.2).resolve_left hne2
      simp only at hla
      rw [hla] at x8
      have hlc := hlb 0 x (by rw [HX.out]; rfl)
      have HLA := Lib.hid hla
      clear hlb hla hne2
      have hth := HTH.out x (by rw [HX.out]; simp) (fun q => (F q ∨ q = xb + 1) ∨ q = g) wr g bs HTAB.out HOB.out (by rw [HIE.out.1, ba_len]) HGK2.out
      have HCALL := Lib.hid hth; clear hth
      go_wp2_with (first
        | (go_at_call 68; (with_reducible refine HCALL.out.mono ?_); rintro e w4 ⟨g', cs, rfl, hgw, hoc, hcl, hcs, htab4, hon4, hgk4⟩; have HOC := Lib.hid hoc; have HCS := Lib.hid hcs; have HT4 := Lib.hid htab4; have HO4 := Lib.hid hon4; have HGK4 := Lib.hid hgk4; clear hoc hcs htab4 hon4 hgk4)
        | fail)
      refine ⟨⟨i + 1, g', cs, by omega, by simp, rfl, HOC.out, HOX.out.later HO4.out HGK.out, ?_, HT4.out.weaken (fun x hx => ?_), HON.out.trans (HO4.out.mono (fun _ _ h => .inl h)), ?_, HGK4.out⟩, by simp only [intOf]; omega⟩
      · exact pow_step HIE.out hcl HCS.out
      · rcases hx with hx | hx
        · exact .inl (.inl hx)
        · exact .inr hx
      · have := HOX.out.lt; omega
end
end Go.Proofs.YtjhclopdcbnmkaaGreatDoor
